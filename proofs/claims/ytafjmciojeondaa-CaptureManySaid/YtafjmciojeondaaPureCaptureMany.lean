/- CaptureMany as a plain law: Write of many equal records without data is the document's; 2000 of them are read, and one more is too many. -/
import Derived.Test.YtafjmciojeondaaXDCaptureMany
import Derived.Test.YtafjmciojeondaaX0
import Derived.Laws.Bits128
import Derived.Laws.BitsAllLaws
import Derived.Lib.EndianBits
import Derived.Test.YtafjmciojeondaaX7
import Derived.Test.YtafjmciojeondaaX8
import Derived.Test.YtafjmciojeondaaX9
import Derived.Test.YtafjmciojeondaaX21
import Derived.Test.YtafjmciojeondaaX5
import Derived.Test.YtafjmciojeondaaX3
import Derived.Test.YtafjmciojeondaaX4
import Derived.Test.YtafjmciojeondaaX13
import Derived.Test.YtafjmciojeondaaX12
import Derived.Test.YtafjmciojeondaaX11
import Derived.Test.YtafjmciojeondaaX10
import Derived.Test.YtafjmciojeondaaX6
import Derived.Test.YtafjmciojeondaaX16
import Derived.Test.YtafjmciojeondaaX15
/-! ### Base -/
set_option linter.unusedVariables false
set_option linter.unusedSimpArgs false
namespace Go.Proofs.Ytafjmciojeondaa.Pure
open Go.RowKit Go.Proofs.Ytafjmciojeondaa.X Go.Proofs.YtafjmciojeondaaW.PrintWords Go.Proofs.YtafjmciojeondaaW.PrintLast Go.Proofs.YtafjmciojeondaaW.PrintMore

/-- Told without 'rfl': a simp by it leaves the kernel little to compare. -/
theorem bs {α β : Type} (a : α) (f : α → Option β) : (some a).bind f = f a := by
  cases h : (some a) with
  | none => cases h
  | some b => injection h with h; subst h; rfl
theorem w64 {n : Int} (h : -9223372036854775808 ≤ n) (h' : n < 9223372036854775808) : wrap64 n = n := by unfold wrap64; omega
theorem wraps_i64' (n : Int) (h₀ : 0 ≤ n) (h₁ : n < 2 ^ 63) : IntKind.i64.wrap n = n := by rw [IntKind.wrap_i64]; omega
/-- 'x*256 | b' on int. -/
theorem or8 (x b : Int) (h0 : 0 ≤ x) (h1 : x < 9223372036854775808) (hx : x % 256 = 0) (hb0 : 0 ≤ b) (hb : b < 256) : Go.bits .or .i64 x b = x + b :=
  bits_join .i64 63 (by decide) wraps_i64' 8 x b h0 (by omega) (by omega) hb0 (by omega) (by omega)
theorem bytesOf_append (a b : ByteArray) : bytesOf (a ++ b) = bytesOf a ++ bytesOf b := by
  simp [bytesOf, ByteArray.data_append]
theorem bytesOf_extract (s : ByteArray) (i j : Nat) : bytesOf (s.extract i j) = ((bytesOf s).drop i).take (j - i) := by
  simp [bytesOf, ByteArray.data_extract, List.map_take, List.map_drop]
  try rw [List.extract_eq_take_drop]
theorem bytesOf_range (s : ByteArray) : ∀ x ∈ bytesOf s, 0 ≤ x ∧ x < 256 := by
  intro x hx
  obtain ⟨b, _, rfl⟩ := List.mem_map.mp hx
  have := b.toNat_lt
  omega
theorem bytesOf_inj {a b : ByteArray} (h : bytesOf a = bytesOf b) : a = b := by
  have h2 : a.data.toList = b.data.toList := by
    refine List.map_inj_right (f := fun (b : UInt8) => (b.toNat : Int)) ?_ |>.mp h
    intro x y hxy
    exact UInt8.toNat_inj.mp (by exact_mod_cast hxy)
  cases a; cases b
  simp at h2
  simp [h2]
theorem bytesOf_strOfNums (l : List Int) (h : ∀ x ∈ l, 0 ≤ x ∧ x < 256) : bytesOf (strOfNums l) = l := by
  induction l with
  | nil => rfl
  | cons x l ih =>
    have h1 := h x (by simp)
    have h2 := ih (fun y hy => h y (by simp [hy]))
    simp only [bytesOf, strOfNums_data, List.map_map, List.map_cons] at h2 ⊢
    refine List.cons_eq_cons.mpr ⟨?_, h2⟩
    simp only [UInt8.toNat_ofNat']
    omega
theorem size_append (a b : ByteArray) : (a ++ b).size = a.size + b.size := by simp
theorem strOfNums_append (a b : List Int) : strOfNums (a ++ b) = strOfNums a ++ strOfNums b := by
  apply ByteArray.ext; simp [strOfNums, ByteArray.data_append]
/-! ### Cap -/

theorem lives100 : intrusionlaw09_lives.f 100 = some true := by decide +kernel
theorem lives_is (k : Nat) (hk : 100 ≤ k) : intrusionlaw09_lives.f k = some true := at_rounds intrusionlaw09_lives.mono hk lives100
theorem rd33 (l : List S33) (i : Nat) (h : i < l.length) : rd_T33 l (i : Int) = l[i] := by
  unfold rd_T33
  rw [Int.toNat_natCast, List.getD_eq_getElem?_getD, List.getElem?_eq_getElem h]
  rfl
/-! ### Field -/

/-- The last digits of a number to the base 256, the most significant first. -/
def beN : Nat → Int → List Int
  | 0, _ => []
  | i + 1, n => n / 256 ^ i % 256 :: beN i n
theorem beN_length : ∀ (i : Nat) (n : Int), (beN i n).length = i
  | 0, _ => rfl
  | i + 1, n => by simp [beN, beN_length i n]
theorem beN_range : ∀ (i : Nat) (n : Int), ∀ x ∈ beN i n, 0 ≤ x ∧ x < 256
  | 0, _, x, h => by simp [beN] at h
  | i + 1, n, x, h => by
    simp only [beN, List.mem_cons] at h
    rcases h with rfl | h
    · omega
    · exact beN_range i n x h
/-- The number of digits, the most significant first. -/
def valBE (l : List Int) : Int := l.foldl (fun n c => n * 256 + c) 0
theorem val_from : ∀ (l : List Int) (n : Int), l.foldl (fun n c => n * 256 + c) n = n * 256 ^ l.length + valBE l
  | [], n => by simp [valBE]
  | c :: l, n => by
    have h1 := val_from l (n * 256 + c)
    have h2 := val_from l (0 * 256 + c)
    unfold valBE
    simp only [List.foldl_cons, List.length_cons] at h1 h2 ⊢
    rw [h1, h2, Int.pow_succ]
    generalize (256 : Int) ^ l.length = p
    generalize valBE l = v
    rw [Int.add_mul, Int.zero_mul, Int.zero_add, Int.mul_comm p 256, ← Int.mul_assoc, Int.add_assoc]
theorem valBE_cons (c : Int) (l : List Int) : valBE (c :: l) = c * 256 ^ l.length + valBE l := by
  have h := val_from l (0 * 256 + c)
  unfold valBE
  simp only [List.foldl_cons]
  rw [h, Int.zero_mul, Int.zero_add]
  rfl
theorem valBE_range : ∀ l : List Int, (∀ x ∈ l, 0 ≤ x ∧ x < 256) → 0 ≤ valBE l ∧ valBE l < 256 ^ l.length
  | [], _ => by simp [valBE]
  | c :: l, h => by
    have h1 := valBE_range l (fun x hx => h x (by simp [hx]))
    have h2 := h c (by simp)
    have hp : (0 : Int) < 256 ^ l.length := Int.pow_pos (by decide)
    rw [valBE_cons, List.length_cons, Int.pow_succ]
    generalize (256 : Int) ^ l.length = p at *
    constructor
    · exact Int.add_nonneg (Int.mul_nonneg h2.1 (by omega)) h1.1
    · have : c * p ≤ 255 * p := Int.mul_le_mul_of_nonneg_right (by omega) (by omega)
      omega
theorem valBE_beN : ∀ (i : Nat) (n : Int), 0 ≤ n → valBE (beN i n) = n % 256 ^ i
  | 0, n, _ => by simp [beN, valBE]
  | i + 1, n, h => by
    rw [beN, valBE_cons, beN_length, valBE_beN i n h, Int.pow_succ]
    have hp : (0 : Int) < 256 ^ i := Int.pow_pos (by decide)
    have e1 := Int.emod_def n (256 ^ i * 256)
    have e2 := Int.emod_def n (256 ^ i)
    have e3 := Int.emod_def (n / 256 ^ i) 256
    rw [← Int.ediv_ediv_of_nonneg (by omega)] at e1
    rw [e1, e2, e3]
    generalize (256 : Int) ^ i = p
    generalize n / p / 256 = r
    generalize n / p = q
    grind
theorem shr64 (n : Int) (i : Nat) (h : i ≤ 8) : shr .i64 n (8 * (i : Int)) = n / 256 ^ i := by
  unfold shr
  have e : IntKind.i64.bits = 64 := rfl
  rw [e, show (8 * (i : Int)).toNat = 8 * i by omega, Nat.min_eq_left (by omega), Int.pow_mul]
  rfl
theorem put_loop (n : Int) (size : Nat) (hs : size ≤ 7) : ∀ (m i k : Nat), i + m = size →
    field_Put.l0 (k + m + 1) n size (List.replicate m 0 ++ beN i n) size i = some (strOfNums (beN size n))
  | 0, i, k, h => by
    unfold field_Put.l0
    rw [if_neg (by omega)]
    simp only [List.replicate_zero, List.nil_append]
    rw [show i = size by omega]
  | m + 1, i, k, h => by
    rw [show k + (m + 1) + 1 = (k + m + 1) + 1 by omega]
    unfold field_Put.l0
    have hl : (List.replicate (m + 1) (0 : Int) ++ beN i n).length = size := by simp [beN_length]; omega
    rw [w64 (n := 8 * (i : Int)) (by omega) (by omega), w64 (n := (size : Int) - 1) (by omega) (by omega), w64 (n := (size : Int) - 1 - i) (by omega) (by omega), w64 (n := (i : Int) + 1) (by omega) (by omega), hl]
    rw [if_pos (by omega), if_pos (by omega), if_pos (by omega), if_pos (by omega), shr64 n i (by omega)]
    have e : (List.replicate (m + 1) (0 : Int) ++ beN i n).set ((size : Int) - 1 - i).toNat (n / 256 ^ i % 256) = List.replicate m 0 ++ beN (i + 1) n := by
      rw [show ((size : Int) - 1 - i).toNat = m by omega, List.replicate_succ', List.append_assoc, List.set_append_right _ _ (by simp)]
      simp [beN]
    rw [e, show (i : Int) + 1 = ((i + 1 : Nat) : Int) by omega]
    exact put_loop n size hs m (i + 1) k (by omega)
/-- Put in closed form. -/
def putOf (n size : Int) : ByteArray := if 1 ≤ size ∧ size ≤ 7 ∧ 0 ≤ n ∧ n < 256 ^ size.toNat then strOfNums (beN size.toNat n) else ⟨#[]⟩
theorem put_is (n size : Int) (k : Nat) (hk : 10 ≤ k) : field_Put.f k n size = some (putOf n size) := by
  obtain ⟨k, rfl⟩ : ∃ m, k = m + 1 := ⟨k - 1, by omega⟩
  unfold field_Put.f field_valid.f putOf
  by_cases h1 : 1 ≤ size
  · by_cases h7 : size ≤ 7
    · obtain ⟨z, rfl⟩ := Int.eq_ofNat_of_zero_le (show 0 ≤ size by omega)
      have hp : (0 : Int) < 256 ^ z := Int.pow_pos (by decide)
      simp only [ge_iff_le, h1, h7, if_true, decide_true, Option.bind_some, true_and, Int.toNat_natCast]
      rw [w64 (n := 8 * (z : Int)) (by omega) (by omega), shr64 n z (by omega)]
      by_cases h0 : n < 0
      · rw [if_pos h0, if_neg (show ¬ (0 ≤ n ∧ n < 256 ^ z) by omega)]
        unfold field_Put.j0
        simp
      · rw [if_neg h0, if_pos (show 0 ≤ 8 * (z : Int) by omega)]
        by_cases hb : n < 256 ^ z
        · rw [if_pos ⟨by omega, hb⟩, Int.ediv_eq_zero_of_lt (by omega) hb]
          unfold field_Put.j0
          have hl := put_loop n z (by omega) z 0 (k - z - 1) (by omega)
          rw [show k - z - 1 + z + 1 = k by omega] at hl
          simp only [bne_self_eq_false, Bool.false_eq_true, if_false]
          rw [if_pos (by omega), if_pos (by omega)]
          simpa [beN] using hl
        · have h3 : n / 256 ^ z ≠ 0 := by
            intro hz
            have := Int.lt_ediv_add_one_mul_self n hp
            rw [hz] at this
            omega
          rw [if_neg (fun h => hb h.2)]
          unfold field_Put.j0
          simp [h3]
    · have hn : ¬ (1 ≤ size ∧ size ≤ 7 ∧ 0 ≤ n ∧ n < 256 ^ size.toNat) := fun h => h7 h.2.1
      rw [if_pos (show size ≥ 1 from h1), if_neg hn]
      unfold field_Put.j0
      simp [h7]
  · have hn : ¬ (1 ≤ size ∧ size ≤ 7 ∧ 0 ≤ n ∧ n < 256 ^ size.toNat) := fun h => h1 h.1
    rw [if_neg (show ¬ size ≥ 1 from h1), if_neg hn]
    unfold field_Put.j0
    simp
theorem putOf_size (n size : Int) (h1 : 1 ≤ size) (h7 : size ≤ 7) (h0 : 0 ≤ n) (hb : n < 256 ^ size.toNat) : bytesOf (putOf n size) = beN size.toNat n := by
  unfold putOf
  rw [if_pos ⟨h1, h7, h0, hb⟩, bytesOf_strOfNums _ (beN_range _ _)]
theorem putOf_len (n size : Int) : (putOf n size).size ≤ 7 := by
  unfold putOf
  split
  · rw [strOfNums_size, beN_length]; omega
  · decide
theorem number_loop (l : List Int) (hl : ∀ x ∈ l, 0 ≤ x ∧ x < 256) (h7 : l.length ≤ 7) : ∀ (m i k : Nat), i + m = l.length →
    field_number.l0 (k + m + 1) (valBE (l.take i)) l l.length i = some (valBE l)
  | 0, i, k, h => by
    unfold field_number.l0
    rw [if_neg (by omega), List.take_of_length_le (by omega)]
  | m + 1, i, k, h => by
    rw [show k + (m + 1) + 1 = (k + m + 1) + 1 by omega]
    have hlt : i < l.length := by omega
    have ht : l.take (i + 1) = l.take i ++ [l[i]] := by rw [List.take_add_one]; simp [hlt]
    have e : valBE (l.take (i + 1)) = valBE (l.take i) * 256 + l[i] := by
      rw [ht]; unfold valBE; rw [List.foldl_append]; rfl
    have hr := valBE_range (l.take i) (fun x hx => hl x (List.mem_of_mem_take hx))
    have hc := hl l[i] (List.getElem_mem hlt)
    have hpow : (256 : Int) ^ (l.take i).length ≤ 281474976710656 := by
      have h6 : (l.take i).length ≤ 6 := by simp; omega
      have hn : 256 ^ (l.take i).length ≤ 281474976710656 := Nat.le_trans (Nat.pow_le_pow_right (by decide) h6) (by decide)
      have hc : ((256 ^ (l.take i).length : Nat) : Int) = (256 : Int) ^ (l.take i).length := Int.natCast_pow 256 _
      omega
    have hrd : rd l i = l[i] := by unfold rd; rw [Int.toNat_natCast, List.getD_eq_getElem?_getD, List.getElem?_eq_getElem hlt]; rfl
    unfold field_number.l0
    rw [if_pos (by omega), if_pos (by omega), if_pos (by omega), hrd, w64 (n := l[i]) (by omega) (by omega), w64 (n := valBE (l.take i) * 256) (by omega) (by omega), or8 _ _ (by omega) (by omega) (by omega) (by omega) (by omega), w64 (n := (i : Int) + 1) (by omega) (by omega), ← e,
      show (i : Int) + 1 = ((i + 1 : Nat) : Int) by omega]
    exact number_loop l hl h7 m (i + 1) k (by omega)
theorem number_is (l : List Int) (hl : ∀ x ∈ l, 0 ≤ x ∧ x < 256) (h7 : l.length ≤ 7) (k : Nat) (hk : 8 ≤ k) : field_number.f k l = some (valBE l) := by
  have h := number_loop l hl h7 l.length 0 (k - l.length - 1) (by omega)
  rw [show k - l.length - 1 + l.length + 1 = k by omega] at h
  unfold field_number.f
  simpa [valBE] using h
/-! ### CapR -/

/-- The z bytes at p, in the order that counts. -/
def dig (big : Bool) (s : ByteArray) (p z : Nat) : List Int := if big = true then ((bytesOf s).drop p).take z else (((bytesOf s).drop p).take z).reverse
def numOf (big : Bool) (s : ByteArray) (p z : Nat) : Int := valBE (dig big s p z)
theorem dig_range (big : Bool) (s : ByteArray) (p z : Nat) : ∀ x ∈ dig big s p z, 0 ≤ x ∧ x < 256 := by
  intro x hx
  unfold dig at hx
  split at hx
  · exact bytesOf_range s x (List.mem_of_mem_drop (List.mem_of_mem_take hx))
  · exact bytesOf_range s x (List.mem_of_mem_drop (List.mem_of_mem_take (List.mem_reverse.mp hx)))
theorem dig_length (big : Bool) (s : ByteArray) (p z : Nat) (h : p + z ≤ s.size) : (dig big s p z).length = z := by
  have := bytesOf_length s
  unfold dig
  split
  · rw [List.length_take, List.length_drop]; omega
  · rw [List.length_reverse, List.length_take, List.length_drop]; omega
theorem num_range (big : Bool) (s : ByteArray) (p z : Nat) (h : p + z ≤ s.size) : 0 ≤ numOf big s p z ∧ numOf big s p z < 256 ^ z := by
  have := valBE_range (dig big s p z) (dig_range big s p z)
  rw [dig_length big s p z h] at this
  exact this
theorem num4 (big : Bool) (s : ByteArray) (p : Nat) (h : p + 4 ≤ s.size) : 0 ≤ numOf big s p 4 ∧ numOf big s p 4 < 4294967296 := by
  have := num_range big s p 4 h
  omega
theorem num_rest (big : Bool) (s : ByteArray) (a p z : Nat) (h : a + p + z ≤ s.size) : numOf big (s.extract a s.size) p z = numOf big s (a + p) z := by
  have e : (bytesOf (s.extract a s.size)) = (bytesOf s).drop a := by
    rw [bytesOf_extract]
    exact List.take_of_length_le (by rw [List.length_drop, bytesOf_length]; exact Nat.le_refl _)
  unfold numOf dig
  rw [e, List.drop_drop]
theorem cnum_is (s : ByteArray) (a c l : Int) (b lit o : Bool) (p z : Nat) (h : p + z ≤ s.size) (h1 : 1 ≤ z) (h7 : z ≤ 7) (hs : s.size ≤ 1000000000) (k : Nat) (hk : 8 ≤ k) :
    capture_Reader_number.f k s a b lit c l o (p : Int) (z : Int) = some (numOf (!lit) s p z, s, a, b, lit, c, l, o) := by
  have hd := dig_length (!lit) s p z h
  have hN := number_is (dig (!lit) s p z) (dig_range _ s p z) (by omega) k hk
  have ez : bytesOf (s.extract ((p : Int)).toNat ((p : Int) + (z : Int)).toNat) = ((bytesOf s).drop p).take z := by
    rw [bytesOf_extract, Int.toNat_natCast, show ((p : Int) + (z : Int)).toNat = p + z by omega, show p + z - p = z by omega]
  unfold capture_Reader_number.f
  unfold dig at hN
  cases lit with
  | true =>
    rw [if_neg (by decide)] at hN
    unfold field_GetLittle.f
    rw [if_pos rfl, if_pos (by omega), if_neg (by omega), if_neg (by omega), ez, hN]
    simp only [bs]
    rfl
  | false =>
    rw [if_pos (by decide)] at hN
    unfold field_Get.f
    rw [if_neg (by decide), if_pos (by omega), if_neg (by omega), if_neg (by omega), ez, hN]
    simp only [bs]
    rfl
/-- The time that a record at a tells. -/
def timeOf (big : Bool) (s : ByteArray) (a : Nat) : Int := numOf big s a 4 * 1000 + numOf big s (a + 4) 4 / 1000
/-- One record at a: an error (0: not complete), or the record. -/
def stepG (s : ByteArray) (big : Bool) (a cnt : Nat) (last : Int) : Int ⊕ S33 :=
  if s.size < a + 16 then .inl 0
  else if numOf big s (a + 4) 4 > 999999 then .inl 2
  else if cnt ≥ 2000 ∨ numOf big s (a + 8) 4 > 4096 ∨ numOf big s (a + 8) 4 > numOf big s (a + 12) 4 then .inl 3
  else if 0 < cnt ∧ timeOf big s a < last then .inl 12
  else if (s.size : Int) < a + 16 + numOf big s (a + 8) 4 then .inl 0
  else .inr ⟨timeOf big s a, numOf big s (a + 12) 4, s.extract (a + 16) (a + 16 + (numOf big s (a + 8) 4).toNat)⟩
theorem step_data {s : ByteArray} {big : Bool} {a cnt : Nat} {last : Int} {x : S33} (h : stepG s big a cnt last = .inr x) : a + 16 + x.f2.size ≤ s.size ∧ x.f2.size ≤ 4096 ∧ numOf big s (a + 8) 4 = (x.f2.size : Int) ∧ x.f0 = timeOf big s a ∧ cnt < 2000 ∧ 0 ≤ x.f0 ∧ x.f0 < 5000000000000 := by
  unfold stepG at h
  by_cases h1 : s.size < a + 16
  · rw [if_pos h1] at h; cases h
  rw [if_neg h1] at h
  by_cases h2 : numOf big s (a + 4) 4 > 999999
  · rw [if_pos h2] at h; cases h
  rw [if_neg h2] at h
  by_cases h3 : cnt ≥ 2000 ∨ numOf big s (a + 8) 4 > 4096 ∨ numOf big s (a + 8) 4 > numOf big s (a + 12) 4
  · rw [if_pos h3] at h; cases h
  rw [if_neg h3] at h
  by_cases h4 : 0 < cnt ∧ timeOf big s a < last
  · rw [if_pos h4] at h; cases h
  rw [if_neg h4] at h
  by_cases h5 : (s.size : Int) < a + 16 + numOf big s (a + 8) 4
  · rw [if_pos h5] at h; cases h
  rw [if_neg h5] at h
  obtain rfl := Sum.inr.inj h
  have n8 := num4 big s (a + 8) (by omega)
  have n0 := num4 big s a (by omega)
  have n4 := num4 big s (a + 4) (by omega)
  have e : (s.extract (a + 16) (a + 16 + (numOf big s (a + 8) 4).toNat)).size = (numOf big s (a + 8) 4).toNat := by rw [ByteArray.size_extract]; omega
  dsimp only
  rw [e]
  unfold timeOf
  refine ⟨by omega, by omega, by omega, rfl, by omega, by omega, by omega⟩
/-- All records from a on. -/
def loopG (s : ByteArray) (big : Bool) : Nat → Nat → Nat → Int → List S33 → List S33 × Int × Nat × Nat × Int
  | 0, a, cnt, last, out => (out, 0, a, cnt, last)
  | m + 1, a, cnt, last, out => match stepG s big a cnt last with
    | .inl e => (out, e, a, cnt, last)
    | .inr x => loopG s big m (a + 16 + x.f2.size) (cnt + 1) x.f0 (out ++ [x])
theorem rec_is (s : ByteArray) (lit : Bool) (a cnt : Nat) (last : Int) (ha : a ≤ s.size) (hs : s.size ≤ 1000000000) (hc : cnt ≤ 2000) (k : Nat) (hk : 20 ≤ k) :
    capture_Reader_record.f k (s.extract a s.size) (a : Int) true lit (cnt : Int) last false = match stepG s (!lit) a cnt last with
      | .inl e => some (0, 0, (⟨#[]⟩ : ByteArray), false, e, s.extract a s.size, (a : Int), true, lit, (cnt : Int), last, false)
      | .inr x => some (x.f0, x.f1, x.f2, true, 0, s.extract (a + 16 + x.f2.size) s.size, ((a + 16 + x.f2.size : Nat) : Int), true, lit, ((cnt + 1 : Nat) : Int), x.f0, false) := by
  have hz : (s.extract a s.size).size = s.size - a := by rw [ByteArray.size_extract]; omega
  unfold capture_Reader_record.f stepG
  by_cases h1 : s.size < a + 16
  · rw [if_pos (by rw [hz]; omega), if_pos h1]
  rw [if_neg (by rw [hz]; omega), if_neg h1]
  have c4 := cnum_is (s.extract a s.size) a cnt last true lit false 4 4 (by rw [hz]; omega) (by omega) (by omega) (by rw [hz]; omega) k (by omega)
  have c8 := cnum_is (s.extract a s.size) a cnt last true lit false 8 4 (by rw [hz]; omega) (by omega) (by omega) (by rw [hz]; omega) k (by omega)
  have c12 := cnum_is (s.extract a s.size) a cnt last true lit false 12 4 (by rw [hz]; omega) (by omega) (by omega) (by rw [hz]; omega) k (by omega)
  have c0 := cnum_is (s.extract a s.size) a cnt last true lit false 0 4 (by rw [hz]; omega) (by omega) (by omega) (by rw [hz]; omega) k (by omega)
  rw [num_rest (!lit) s a 4 4 (by omega)] at c4
  rw [num_rest (!lit) s a 8 4 (by omega)] at c8
  rw [num_rest (!lit) s a 12 4 (by omega)] at c12
  rw [num_rest (!lit) s a 0 4 (by omega), Nat.add_zero] at c0
  have n0 := num4 (!lit) s a (by omega)
  have n4 := num4 (!lit) s (a + 4) (by omega)
  have n8 := num4 (!lit) s (a + 8) (by omega)
  have n12 := num4 (!lit) s (a + 12) (by omega)
  have et : wrap64 (wrap64 (numOf (!lit) s a 4 * 1000) + wrap64 (Int.tdiv (numOf (!lit) s (a + 4) 4) 1000)) = timeOf (!lit) s a := by
    rw [Int.tdiv_eq_ediv_of_nonneg n4.1, w64 (n := numOf (!lit) s a 4 * 1000) (by omega) (by omega), w64 (n := numOf (!lit) s (a + 4) 4 / 1000) (by omega) (by omega), w64 (by omega) (by omega)]
    rfl
  rw [show ((4 : Nat) : Int) = 4 from rfl] at c4 c8 c12 c0
  rw [show ((8 : Nat) : Int) = 8 from rfl] at c8
  rw [show ((12 : Nat) : Int) = 12 from rfl] at c12
  rw [show ((0 : Nat) : Int) = 0 from rfl] at c0
  rw [c4]
  simp only [bs]
  rw [c8]
  simp only [bs]
  rw [c12]
  simp only [bs]
  rw [c0]
  simp only [bs]
  by_cases h2 : numOf (!lit) s (a + 4) 4 > 999999
  · rw [if_pos h2, if_pos h2]
  rw [if_neg h2, if_neg h2, et]
  obtain ⟨q, rfl⟩ : ∃ q, k = q + 2 := ⟨k - 2, by omega⟩
  have ej : (if (cnt : Int) ≥ 2000 then capture_Reader_record.j0 (q + 2) (numOf (!lit) s (a + 8) 4) true (s.extract a s.size) (a : Int) true lit (cnt : Int) last false (timeOf (!lit) s a) (numOf (!lit) s (a + 12) 4) (⟨#[]⟩ : ByteArray)
      else if numOf (!lit) s (a + 8) 4 > 4096 then capture_Reader_record.j0 (q + 2) (numOf (!lit) s (a + 8) 4) true (s.extract a s.size) (a : Int) true lit (cnt : Int) last false (timeOf (!lit) s a) (numOf (!lit) s (a + 12) 4) (⟨#[]⟩ : ByteArray)
      else capture_Reader_record.j0 (q + 2) (numOf (!lit) s (a + 8) 4) (decide (numOf (!lit) s (a + 8) 4 > numOf (!lit) s (a + 12) 4)) (s.extract a s.size) (a : Int) true lit (cnt : Int) last false (timeOf (!lit) s a) (numOf (!lit) s (a + 12) 4) (⟨#[]⟩ : ByteArray))
      = capture_Reader_record.j0 (q + 2) (numOf (!lit) s (a + 8) 4) (decide (cnt ≥ 2000 ∨ numOf (!lit) s (a + 8) 4 > 4096 ∨ numOf (!lit) s (a + 8) 4 > numOf (!lit) s (a + 12) 4)) (s.extract a s.size) (a : Int) true lit (cnt : Int) last false (timeOf (!lit) s a) (numOf (!lit) s (a + 12) 4) (⟨#[]⟩ : ByteArray) := by
    by_cases b1 : (cnt : Int) ≥ 2000
    · rw [if_pos b1, decide_eq_true (show cnt ≥ 2000 ∨ _ from .inl (by omega))]
    rw [if_neg b1]
    by_cases b2 : numOf (!lit) s (a + 8) 4 > 4096
    · rw [if_pos b2, decide_eq_true (show cnt ≥ 2000 ∨ _ from .inr (.inl b2))]
    rw [if_neg b2]
    congr 1
    apply decide_eq_decide.mpr
    omega
  rw [ej, capture_Reader_record.j0]
  by_cases h3 : cnt ≥ 2000 ∨ numOf (!lit) s (a + 8) 4 > 4096 ∨ numOf (!lit) s (a + 8) 4 > numOf (!lit) s (a + 12) 4
  · rw [if_pos (decide_eq_true h3), if_pos h3]
  rw [if_neg (by rw [decide_eq_true_iff]; exact h3), if_neg h3]
  have ek : (if (cnt : Int) > 0 then capture_Reader_record.j1 (q + 1) (numOf (!lit) s (a + 8) 4) (decide (timeOf (!lit) s a < last)) (s.extract a s.size) (a : Int) true lit (cnt : Int) last false (timeOf (!lit) s a) (numOf (!lit) s (a + 12) 4) (⟨#[]⟩ : ByteArray)
      else capture_Reader_record.j1 (q + 1) (numOf (!lit) s (a + 8) 4) false (s.extract a s.size) (a : Int) true lit (cnt : Int) last false (timeOf (!lit) s a) (numOf (!lit) s (a + 12) 4) (⟨#[]⟩ : ByteArray))
      = capture_Reader_record.j1 (q + 1) (numOf (!lit) s (a + 8) 4) (decide (0 < cnt ∧ timeOf (!lit) s a < last)) (s.extract a s.size) (a : Int) true lit (cnt : Int) last false (timeOf (!lit) s a) (numOf (!lit) s (a + 12) 4) (⟨#[]⟩ : ByteArray) := by
    by_cases b : (cnt : Int) > 0
    · rw [if_pos b]
      congr 1
      apply decide_eq_decide.mpr
      exact ⟨fun y => ⟨by omega, y⟩, fun y => y.2⟩
    · rw [if_neg b, decide_eq_false (fun y => b (by omega))]
  rw [ek, capture_Reader_record.j1]
  by_cases h4 : 0 < cnt ∧ timeOf (!lit) s a < last
  · rw [if_pos (decide_eq_true h4), if_pos h4]
  rw [if_neg (by rw [decide_eq_true_iff]; exact h4), if_neg h4, w64 (n := 16 + numOf (!lit) s (a + 8) 4) (by omega) (by omega), hz]
  by_cases h5 : (s.size : Int) < a + 16 + numOf (!lit) s (a + 8) 4
  · rw [if_pos (by omega), if_pos h5]
  rw [if_neg (by omega), if_neg h5, if_pos (by omega), if_pos (by omega)]
  unfold capture_Reader_skip.f
  rw [if_pos (by omega), if_pos (by rw [hz]; omega)]
  simp only [bs]
  have e1 : (s.extract a s.size).extract (16 + numOf (!lit) s (a + 8) 4).toNat (s.extract a s.size).size = s.extract (a + 16 + (s.extract (a + 16) (a + 16 + (numOf (!lit) s (a + 8) 4).toNat)).size) s.size := by
    rw [hz, ByteArray.size_extract, ByteArray.extract_extract]
    congr 1 <;> omega
  have e2 : (s.extract a s.size).extract 16 (16 + numOf (!lit) s (a + 8) 4).toNat = s.extract (a + 16) (a + 16 + (numOf (!lit) s (a + 8) 4).toNat) := by
    rw [ByteArray.extract_extract]
    congr 1 <;> omega
  have e3 : wrap64 ((a : Int) + (16 + numOf (!lit) s (a + 8) 4)) = ((a + 16 + (s.extract (a + 16) (a + 16 + (numOf (!lit) s (a + 8) 4).toNat)).size : Nat) : Int) := by
    rw [ByteArray.size_extract, w64 (by omega) (by omega)]
    omega
  rw [e1, e2, e3, w64 (n := (cnt : Int) + 1) (by omega) (by omega)]
  rfl
theorem feed_loop (s : ByteArray) (lit : Bool) (hs : s.size ≤ 1000000000) : ∀ (m a cnt k : Nat) (last : Int) (out : List S33), a ≤ s.size → s.size + 16 ≤ a + 16 * m → cnt ≤ 2000 → out.length ≤ cnt → 30 ≤ k →
    capture_Reader_Feed.l0 (k + m) (s.extract a s.size) (a : Int) true lit (cnt : Int) last false out = some ((loopG s (!lit) m a cnt last out).1, (loopG s (!lit) m a cnt last out).2.1, s.extract (loopG s (!lit) m a cnt last out).2.2.1 s.size, ((loopG s (!lit) m a cnt last out).2.2.1 : Int), true, lit, ((loopG s (!lit) m a cnt last out).2.2.2.1 : Int), (loopG s (!lit) m a cnt last out).2.2.2.2, ((loopG s (!lit) m a cnt last out).2.1 != 0))
  | 0, a, cnt, k, last, out, ha, hm, hc, ho, hk => by omega
  | m + 1, a, cnt, k, last, out, ha, hm, hc, ho, hk => by
    rw [show k + (m + 1) = (k + m) + 1 by omega, capture_Reader_Feed.l0, rec_is s lit a cnt last ha hs hc (k + m) (by omega), loopG]
    cases hg : stepG s (!lit) a cnt last with
    | inl e =>
      simp only [bs]
      rw [if_neg (by decide)]
    | inr x =>
      have hd := step_data hg
      simp only [bs]
      rw [if_pos trivial, if_pos (by omega)]
      exact feed_loop s lit hs m (a + 16 + x.f2.size) (cnt + 1) k x.f0 (out ++ [x]) (by omega) (by omega) (by omega) (by rw [List.length_append, List.length_singleton]; omega) hk
/-! ### CapW -/

/-- The bytes of a number, the least significant first. -/
def leN (z : Nat) (n : Int) : List Int := (beN z n).reverse
theorem leN_length (z : Nat) (n : Int) : (leN z n).length = z := by unfold leN; rw [List.length_reverse, beN_length]
theorem leN_range (z : Nat) (n : Int) : ∀ x ∈ leN z n, 0 ≤ x ∧ x < 256 := fun x hx => beN_range z n x (List.mem_reverse.mp hx)
theorem bytes_leN (z : Nat) (n : Int) : bytesOf (strOfNums (leN z n)) = leN z n := bytesOf_strOfNums _ (leN_range z n)
theorem little_is (n : Int) (z : Nat) (h1 : 1 ≤ z) (h7 : z ≤ 7) (h0 : 0 ≤ n) (hn : n < 256 ^ z) (k : Nat) (hk : 10 ≤ k) : field_PutLittle.f k n (z : Int) = some (strOfNums (leN z n)) := by
  unfold field_PutLittle.f
  rw [put_is n z k hk]
  simp only [bs]
  have := putOf_len n z
  rw [if_pos (by omega), putOf_size n z (by omega) (by omega) h0 (by rw [Int.toNat_natCast]; exact hn), Int.toNat_natCast, leN]
/-- The bytes of a record. -/
def recW (x : S33) : List Int := leN 4 (x.f0 / 1000) ++ leN 4 (x.f0 % 1000 * 1000) ++ leN 4 (x.f2.size : Int) ++ leN 4 x.f1 ++ bytesOf x.f2
theorem recW_length (x : S33) : (recW x).length = 16 + x.f2.size := by
  unfold recW
  simp only [List.length_append, leN_length, bytesOf_length]
theorem recW_range (x : S33) : ∀ y ∈ recW x, 0 ≤ y ∧ y < 256 := by
  intro y hy
  unfold recW at hy
  rcases List.mem_append.mp hy with hy | hy
  · rcases List.mem_append.mp hy with hy | hy
    · rcases List.mem_append.mp hy with hy | hy
      · rcases List.mem_append.mp hy with hy | hy
        · exact leN_range _ _ y hy
        · exact leN_range _ _ y hy
      · exact leN_range _ _ y hy
    · exact leN_range _ _ y hy
  · exact bytesOf_range _ y hy
/-- The bytes of the header. -/
def hdrW : List Int := leN 4 2712847316 ++ leN 2 2 ++ leN 2 4 ++ leN 4 0 ++ leN 4 0 ++ leN 4 4096 ++ leN 4 1
def badRec (x : S33) : Prop := x.f0 < 0 ∨ x.f0 > 1099511627776 ∨ x.f1 < (x.f2.size : Int) ∨ x.f1 > 65535
instance (x : S33) : Decidable (badRec x) := by unfold badRec; infer_instance
/-- What Write answers from record i on, behind the bytes that there are. -/
def wrG (l : List S33) : Nat → Nat → List Int → ByteArray × Int
  | 0, i, L => (strOfNums L, 0)
  | m + 1, i, L => if h : i < l.length then (if (l[i].f2.size : Int) > 4096 then (⟨#[]⟩, 3) else if badRec l[i] then (⟨#[]⟩, 4) else if 0 < i ∧ l[i].f0 < (l[i - 1]'(by omega)).f0 then (⟨#[]⟩, 12) else wrG l m (i + 1) (L ++ recW l[i])) else (strOfNums L, 0)
def wrOf (l : List S33) : ByteArray × Int := if l.length > 2000 then (⟨#[]⟩, 3) else wrG l l.length 0 hdrW
theorem rd50 (l : List S50) (i : Nat) (h : i < l.length) : rd_T50 l (i : Int) = l[i] := by
  unfold rd_T50
  rw [Int.toNat_natCast, List.getD_eq_getElem?_getD, List.getElem?_eq_getElem h]
  rfl
theorem hdr_loop (l : List S33) (ys : List S50) (hy : ∀ y ∈ ys, 0 ≤ y.f0 ∧ ∃ z : Nat, y.f1 = z ∧ 1 ≤ z ∧ z ≤ 7 ∧ y.f0 < 256 ^ z) (hl : ys.length ≤ 100) : ∀ (m i k : Nat) (L : List Int), i + m = ys.length → L.length ≤ 7 * i → 10 ≤ k →
    capture_Write.l0 (k + m + 1) l L ys ys.length (i : Int) = capture_Write.l1 k l (L ++ (ys.drop i).flatMap fun y => leN y.f1.toNat y.f0) l l.length 0
  | 0, i, k, L, h, hL, hk => by
    rw [capture_Write.l0, if_neg (by omega), List.drop_eq_nil_of_le (by omega), List.flatMap_nil, List.append_nil]
  | m + 1, i, k, L, h, hL, hk => by
    have hlt : i < ys.length := by omega
    obtain ⟨h0, z, hz, z1, z7, hb⟩ := hy ys[i] (List.getElem_mem hlt)
    rw [show k + (m + 1) + 1 = (k + m + 1) + 1 by omega, capture_Write.l0, if_pos (by omega), if_pos (by omega), if_pos (by omega), rd50 ys i hlt, hz, little_is _ z z1 z7 h0 hb _ (by omega)]
    simp only [bs]
    rw [if_pos (by rw [strOfNums_size, leN_length]; omega), bytes_leN, w64 (n := (i : Int) + 1) (by omega) (by omega), show (i : Int) + 1 = ((i + 1 : Nat) : Int) by omega,
      hdr_loop l ys hy hl m (i + 1) k _ (by omega) (by rw [List.length_append, leN_length]; omega) hk, List.drop_eq_getElem_cons hlt, List.flatMap_cons, hz, Int.toNat_natCast, List.append_assoc]
theorem rdI (l : List Int) (i : Nat) (h : i < l.length) : rd l (i : Int) = l[i] := by
  unfold rd
  rw [Int.toNat_natCast, List.getD_eq_getElem?_getD, List.getElem?_eq_getElem h]
  rfl
theorem four_loop (l : List S33) (ys : List Int) (hy : ∀ y ∈ ys, 0 ≤ y ∧ y < 256 ^ 4) (hl : ys.length ≤ 100) (x39 a b : Int) (c : ByteArray) : ∀ (m i k : Nat) (L : List Int), i + m = ys.length → L.length + 4 * m < 1000000000 → 10 ≤ k → (L ++ (ys.drop i).flatMap fun y => leN 4 y).length + c.size < 140737488355328 →
    capture_Write.l2 (k + m + 1) l L l l.length x39 ys ys.length (i : Int) a b c = capture_Write.l1 k l ((L ++ (ys.drop i).flatMap fun y => leN 4 y) ++ bytesOf c) l l.length (wrap64 (x39 + 1))
  | 0, i, k, L, h, hL, hk, hc => by
    rw [List.drop_eq_nil_of_le (by omega), List.flatMap_nil, List.append_nil] at hc ⊢
    rw [capture_Write.l2, if_neg (by omega), if_pos hc]
  | m + 1, i, k, L, h, hL, hk, hc => by
    have hlt : i < ys.length := by omega
    obtain ⟨h0, hb⟩ := hy ys[i] (List.getElem_mem hlt)
    have hP := little_is ys[i] 4 (by omega) (by omega) h0 hb (k + m + 1) (by omega)
    rw [show ((4 : Nat) : Int) = 4 from rfl] at hP
    rw [List.drop_eq_getElem_cons hlt, List.flatMap_cons, ← List.append_assoc] at hc ⊢
    rw [show k + (m + 1) + 1 = (k + m + 1) + 1 by omega, capture_Write.l2, if_pos (by omega), if_pos (by omega), if_pos (by omega), rdI ys i hlt, hP]
    simp only [bs]
    rw [if_pos (by rw [strOfNums_size, leN_length]; omega), bytes_leN, w64 (n := (i : Int) + 1) (by omega) (by omega), show (i : Int) + 1 = ((i + 1 : Nat) : Int) by omega,
      four_loop l ys hy hl x39 a b c m (i + 1) k _ (by omega) (by rw [List.length_append, leN_length]; omega) hk hc]
theorem j3_is (l : List S33) (i k : Nat) (L : List Int) (x : S33) (hi : i < l.length) (hl : l.length ≤ 2000) (hL : L.length ≤ 100000000) (hs : ¬ (x.f2.size : Int) > 4096) (hx : ¬ badRec x) (hk : 10 ≤ k) :
    capture_Write.j3 (k + 6) l L l l.length (i : Int) x.f0 x.f1 x.f2 = capture_Write.l1 k l (L ++ recW x) l l.length ((i + 1 : Nat) : Int) := by
  unfold badRec at hx
  have e1 : wrap64 (Int.tdiv x.f0 1000) = x.f0 / 1000 := by rw [Int.tdiv_eq_ediv_of_nonneg (by omega), w64 (by omega) (by omega)]
  have e2 : wrap64 (Int.tmod x.f0 1000 * 1000) = x.f0 % 1000 * 1000 := by rw [Int.tmod_eq_emod_of_nonneg (by omega), w64 (by omega) (by omega)]
  rw [show k + 6 = (k + 4 + 1) + 1 by omega, capture_Write.j3, e1, e2]
  simp only [bs]
  have main := four_loop l [x.f0 / 1000, x.f0 % 1000 * 1000, (x.f2.size : Int), x.f1] (by
    intro y hy
    simp only [List.mem_cons, List.not_mem_nil, or_false] at hy
    rcases hy with rfl | rfl | rfl | rfl <;> omega) (by simp) (i : Int) x.f0 x.f1 x.f2 4 0 k L (by simp) (by omega) hk (by simp [leN_length]; omega)
  rw [show ((0 : Nat) : Int) = 0 from rfl, List.drop_zero] at main
  rw [main, w64 (n := (i : Int) + 1) (by omega) (by omega)]
  unfold recW
  simp only [List.flatMap_cons, List.flatMap_nil, List.append_nil, List.append_assoc]
  rfl
theorem w1_loop (l : List S33) (hl : l.length ≤ 2000) : ∀ (m i k : Nat) (L : List Int), i + m = l.length → L.length ≤ 24 + 5000 * i →
    capture_Write.l1 (k + 8 * m + 20) l L l l.length (i : Int) = some (wrG l m i L)
  | 0, i, k, L, h, hL => by
    rw [show k + 8 * 0 + 20 = (k + 19) + 1 by omega, capture_Write.l1, if_neg (by omega), wrG]
  | m + 1, i, k, L, h, hL => by
    have hlt : i < l.length := by omega
    rw [show k + 8 * (m + 1) + 20 = (k + 8 * m + 20 + 7) + 1 by omega, capture_Write.l1, if_pos (by omega), if_pos (by omega), if_pos (by omega), rd33 l i hlt, wrG, dif_pos hlt]
    by_cases hs : (l[i].f2.size : Int) > 4096
    · rw [if_pos hs, if_pos hs]
    rw [if_neg hs, if_neg hs]
    have hj2 : ∀ b : Bool, capture_Write.j2 (k + 8 * m + 20 + 7) l L (i : Int) l l.length (i : Int) b l[i].f0 l[i].f1 l[i].f2 = if b = true then some ((⟨#[]⟩ : ByteArray), 4) else (if 0 < i ∧ l[i].f0 < (l[i - 1]'(by omega)).f0 then some ((⟨#[]⟩ : ByteArray), 12) else capture_Write.j3 (k + 8 * m + 20 + 6) l L l l.length (i : Int) l[i].f0 l[i].f1 l[i].f2) := by
      intro b
      rw [show k + 8 * m + 20 + 7 = (k + 8 * m + 20 + 6) + 1 by omega, capture_Write.j2]
      cases b with
      | true => rw [if_pos rfl, if_pos rfl]
      | false =>
        rw [if_neg (show ¬ (false = true) by decide), if_neg (show ¬ (false = true) by decide)]
        by_cases c : (i : Int) > 0
        · rw [if_pos c, w64 (n := (i : Int) - 1) (by omega) (by omega), show (i : Int) - 1 = ((i - 1 : Nat) : Int) by omega, if_pos (by omega), if_pos (by omega), rd33 l (i - 1) (by omega)]
          by_cases d : l[i].f0 < (l[i - 1]'(by omega)).f0
          · rw [if_pos d, if_pos ⟨by omega, d⟩]
          · rw [if_neg d, if_neg (fun y => d y.2)]
        · rw [if_neg c, if_neg (fun y => c (by omega))]
    have hb : (if l[i].f0 < 0 then capture_Write.j2 (k + 8 * m + 20 + 7) l L (i : Int) l l.length (i : Int) true l[i].f0 l[i].f1 l[i].f2 else if l[i].f0 > 1099511627776 then capture_Write.j2 (k + 8 * m + 20 + 7) l L (i : Int) l l.length (i : Int) true l[i].f0 l[i].f1 l[i].f2
        else if l[i].f1 < (l[i].f2.size : Int) then capture_Write.j2 (k + 8 * m + 20 + 7) l L (i : Int) l l.length (i : Int) true l[i].f0 l[i].f1 l[i].f2 else capture_Write.j2 (k + 8 * m + 20 + 7) l L (i : Int) l l.length (i : Int) (decide (l[i].f1 > 65535)) l[i].f0 l[i].f1 l[i].f2)
        = capture_Write.j2 (k + 8 * m + 20 + 7) l L (i : Int) l l.length (i : Int) (decide (badRec l[i])) l[i].f0 l[i].f1 l[i].f2 := by
      by_cases a1 : l[i].f0 < 0
      · rw [if_pos a1, decide_eq_true (show badRec l[i] from .inl a1)]
      rw [if_neg a1]
      by_cases a2 : l[i].f0 > 1099511627776
      · rw [if_pos a2, decide_eq_true (show badRec l[i] from .inr (.inl a2))]
      rw [if_neg a2]
      by_cases a3 : l[i].f1 < (l[i].f2.size : Int)
      · rw [if_pos a3, decide_eq_true (show badRec l[i] from .inr (.inr (.inl a3)))]
      rw [if_neg a3]
      congr 1
      apply decide_eq_decide.mpr
      unfold badRec
      omega
    rw [hb, hj2]
    by_cases bad : badRec l[i]
    · rw [if_pos (decide_eq_true bad), if_pos bad]
    rw [if_neg (by rw [decide_eq_true_iff]; exact bad), if_neg bad]
    by_cases t : 0 < i ∧ l[i].f0 < (l[i - 1]'(by omega)).f0
    · rw [if_pos t, if_pos t]
    have hr := recW_length l[i]
    rw [if_neg t, if_neg t, j3_is l i (k + 8 * m + 20) L l[i] hlt hl (by omega) hs bad (by omega), w1_loop l hl m (i + 1) k _ (by omega) (by rw [List.length_append]; omega)]
theorem write_is (l : List S33) (k : Nat) (hk : 8 * l.length + 40 ≤ k) : capture_Write.f k l = some (wrOf l) := by
  unfold capture_Write.f wrOf
  by_cases h : l.length > 2000
  · rw [if_pos (by omega), if_pos h]
  rw [if_neg (by omega), if_neg h]
  simp only [bs]
  have h1 := hdr_loop l [(⟨2712847316, 4⟩ : S50), (⟨2, 2⟩ : S50), (⟨4, 2⟩ : S50), (⟨0, 4⟩ : S50), (⟨0, 4⟩ : S50), (⟨4096, 4⟩ : S50), (⟨1, 4⟩ : S50)] (by
    intro y hy
    simp only [List.mem_cons, List.not_mem_nil, or_false] at hy
    rcases hy with rfl | rfl | rfl | rfl | rfl | rfl | rfl
    · exact ⟨by decide, 4, rfl, by decide, by decide, by decide⟩
    · exact ⟨by decide, 2, rfl, by decide, by decide, by decide⟩
    · exact ⟨by decide, 2, rfl, by decide, by decide, by decide⟩
    · exact ⟨by decide, 4, rfl, by decide, by decide, by decide⟩
    · exact ⟨by decide, 4, rfl, by decide, by decide, by decide⟩
    · exact ⟨by decide, 4, rfl, by decide, by decide, by decide⟩
    · exact ⟨by decide, 4, rfl, by decide, by decide, by decide⟩) (by simp) 7 0 (k - 8) [] (by simp) (by simp) (by omega)
  rw [show k - 8 + 7 + 1 = k by omega, show ((0 : Nat) : Int) = 0 from rfl, List.drop_zero, List.nil_append] at h1
  rw [h1]
  have h2 := w1_loop l (by omega) l.length 0 (k - 8 - 8 * l.length - 20) hdrW (by omega) (by decide)
  rw [show k - 8 - 8 * l.length - 20 + 8 * l.length + 20 = k - 8 by omega, show ((0 : Nat) : Int) = 0 from rfl] at h2
  rw [← h2]
  congr 1
theorem rput_loop (n : Int) (z : Nat) (hz : z ≤ 7) : ∀ (m i k : Nat), i + m = z → intrusionref09_put.l0 (k + m + 1) n z (leN i n) (i : Int) = some (strOfNums (leN z n))
  | 0, i, k, h => by
    rw [intrusionref09_put.l0, if_neg (by omega), show i = z by omega]
  | m + 1, i, k, h => by
    have e : (IntKind.u64.wrap (wrap64 (8 * (i : Int)))) = 8 * (i : Int) := by
      rw [w64 (by omega) (by omega)]
      have e0 : ∀ n : Int, IntKind.u64.wrap n = n % 18446744073709551616 := fun n => by simp [IntKind.wrap, IntKind.bits, IntKind.signed]
      rw [e0]
      omega
    rw [show k + (m + 1) + 1 = (k + m + 1) + 1 by omega, intrusionref09_put.l0, if_pos (by omega), e, if_pos (by omega), if_pos (by rw [leN_length]; omega), shr64 n i (by omega), w64 (n := (i : Int) + 1) (by omega) (by omega), show (i : Int) + 1 = ((i + 1 : Nat) : Int) by omega]
    have e2 : leN i n ++ [n / 256 ^ i % 256] = leN (i + 1) n := by unfold leN; rw [beN, List.reverse_cons]
    rw [e2]
    exact rput_loop n z hz m (i + 1) k (by omega)
theorem rput_is (n : Int) (z : Nat) (hz : z ≤ 7) (k : Nat) (hk : 10 ≤ k) : intrusionref09_put.f k n (z : Int) = some (strOfNums (leN z n)) := by
  have := rput_loop n z hz z 0 (k - z - 1) (by omega)
  rw [show k - z - 1 + z + 1 = k by omega] at this
  exact this
theorem rput4 (n : Int) (k : Nat) (hk : 10 ≤ k) : intrusionref09_put.f k n 4 = some (strOfNums (leN 4 n)) := rput_is n 4 (by omega) k hk
theorem rput2 (n : Int) (k : Nat) (hk : 10 ≤ k) : intrusionref09_put.f k n 2 = some (strOfNums (leN 2 n)) := rput_is n 2 (by omega) k hk
theorem rj2_is (l : List S33) (i k : Nat) (L : List Int) (x : S33) (hi : i < l.length) (hl : l.length ≤ 2000) (hL : L.length ≤ 100000000) (hs : ¬ (x.f2.size : Int) > 4096) (hx : ¬ badRec x) (hk : 10 ≤ k) :
    intrusionref09_Write.j2 (k + 1) l (strOfNums L) (i : Int) x.f0 x.f1 x.f2 = intrusionref09_Write.l0 k l (strOfNums (L ++ recW x)) ((i + 1 : Nat) : Int) := by
  unfold badRec at hx
  have zs : ∀ q : List Int, (strOfNums q).size = q.length := strOfNums_size
  have e1 : wrap64 (Int.tdiv x.f0 1000) = x.f0 / 1000 := by rw [Int.tdiv_eq_ediv_of_nonneg (by omega), w64 (by omega) (by omega)]
  have e2 : wrap64 (Int.tmod x.f0 1000 * 1000) = x.f0 % 1000 * 1000 := by rw [Int.tmod_eq_emod_of_nonneg (by omega), w64 (by omega) (by omega)]
  rw [intrusionref09_Write.j2, e1, e2, rput4 _ k hk, rput4 _ k hk, rput4 _ k hk, rput4 _ k hk]
  simp only [bs]
  rw [if_pos (by simp only [zs, leN_length]; omega), if_pos (by simp only [size_append, zs, leN_length]; omega), if_pos (by simp only [size_append, zs, leN_length]; omega), if_pos (by simp only [size_append, zs, leN_length]; omega), if_pos (by simp only [size_append, zs, leN_length]; omega), w64 (n := (i : Int) + 1) (by omega) (by omega)]
  have e : strOfNums L ++ (strOfNums (leN 4 (x.f0 / 1000)) ++ strOfNums (leN 4 (x.f0 % 1000 * 1000)) ++ strOfNums (leN 4 (x.f2.size : Int)) ++ strOfNums (leN 4 x.f1) ++ x.f2) = strOfNums (L ++ recW x) := by
    unfold recW
    simp only [strOfNums_append]
    rw [show strOfNums (bytesOf x.f2) = x.f2 from bytesOf_inj (bytesOf_strOfNums _ (bytesOf_range _))]
  rw [e]
  rfl
theorem rw_loop (l : List S33) (hl : l.length ≤ 2000) : ∀ (m i k : Nat) (L : List Int), i + m = l.length → L.length ≤ 24 + 5000 * i →
    intrusionref09_Write.l0 (k + 3 * m + 20) l (strOfNums L) (i : Int) = some (wrG l m i L)
  | 0, i, k, L, h, hL => by
    rw [show k + 3 * 0 + 20 = (k + 19) + 1 by omega, intrusionref09_Write.l0, if_neg (by omega), wrG]
  | m + 1, i, k, L, h, hL => by
    have hlt : i < l.length := by omega
    rw [show k + 3 * (m + 1) + 20 = (k + 3 * m + 20 + 2) + 1 by omega, intrusionref09_Write.l0, if_pos (by omega), if_pos (by omega), rd33 l i hlt, wrG, dif_pos hlt]
    by_cases hs : (l[i].f2.size : Int) > 4096
    · rw [if_pos hs, if_pos hs]
    rw [if_neg hs, if_neg hs]
    have hj2 : ∀ b : Bool, intrusionref09_Write.j1 (k + 3 * m + 20 + 2) l (strOfNums L) (i : Int) b l[i].f0 l[i].f1 l[i].f2 = if b = true then some ((⟨#[]⟩ : ByteArray), 4) else (if 0 < i ∧ l[i].f0 < (l[i - 1]'(by omega)).f0 then some ((⟨#[]⟩ : ByteArray), 12) else intrusionref09_Write.j2 (k + 3 * m + 20 + 1) l (strOfNums L) (i : Int) l[i].f0 l[i].f1 l[i].f2) := by
      intro b
      rw [show k + 3 * m + 20 + 2 = (k + 3 * m + 20 + 1) + 1 by omega, intrusionref09_Write.j1]
      cases b with
      | true => rw [if_pos rfl, if_pos rfl]
      | false =>
        rw [if_neg (show ¬ (false = true) by decide), if_neg (show ¬ (false = true) by decide)]
        by_cases c : (i : Int) > 0
        · rw [if_pos c, w64 (n := (i : Int) - 1) (by omega) (by omega), show (i : Int) - 1 = ((i - 1 : Nat) : Int) by omega, if_pos (by omega), if_pos (by omega), rd33 l (i - 1) (by omega)]
          by_cases d : l[i].f0 < (l[i - 1]'(by omega)).f0
          · rw [if_pos d, if_pos ⟨by omega, d⟩]
          · rw [if_neg d, if_neg (fun y => d y.2)]
        · rw [if_neg c, if_neg (fun y => c (by omega))]
    have hb : (if l[i].f0 < 0 then intrusionref09_Write.j1 (k + 3 * m + 20 + 2) l (strOfNums L) (i : Int) true l[i].f0 l[i].f1 l[i].f2 else if l[i].f0 > 1099511627776 then intrusionref09_Write.j1 (k + 3 * m + 20 + 2) l (strOfNums L) (i : Int) true l[i].f0 l[i].f1 l[i].f2
        else if l[i].f1 < (l[i].f2.size : Int) then intrusionref09_Write.j1 (k + 3 * m + 20 + 2) l (strOfNums L) (i : Int) true l[i].f0 l[i].f1 l[i].f2 else intrusionref09_Write.j1 (k + 3 * m + 20 + 2) l (strOfNums L) (i : Int) (decide (l[i].f1 > 65535)) l[i].f0 l[i].f1 l[i].f2)
        = intrusionref09_Write.j1 (k + 3 * m + 20 + 2) l (strOfNums L) (i : Int) (decide (badRec l[i])) l[i].f0 l[i].f1 l[i].f2 := by
      by_cases a1 : l[i].f0 < 0
      · rw [if_pos a1, decide_eq_true (show badRec l[i] from .inl a1)]
      rw [if_neg a1]
      by_cases a2 : l[i].f0 > 1099511627776
      · rw [if_pos a2, decide_eq_true (show badRec l[i] from .inr (.inl a2))]
      rw [if_neg a2]
      by_cases a3 : l[i].f1 < (l[i].f2.size : Int)
      · rw [if_pos a3, decide_eq_true (show badRec l[i] from .inr (.inr (.inl a3)))]
      rw [if_neg a3]
      congr 1
      apply decide_eq_decide.mpr
      unfold badRec
      omega
    rw [hb, hj2]
    by_cases bad : badRec l[i]
    · rw [if_pos (decide_eq_true bad), if_pos bad]
    rw [if_neg (by rw [decide_eq_true_iff]; exact bad), if_neg bad]
    by_cases t : 0 < i ∧ l[i].f0 < (l[i - 1]'(by omega)).f0
    · rw [if_pos t, if_pos t]
    have hr := recW_length l[i]
    rw [if_neg t, if_neg t, rj2_is l i (k + 3 * m + 20) L l[i] hlt hl (by omega) hs bad (by omega), rw_loop l hl m (i + 1) k _ (by omega) (by rw [List.length_append]; omega)]
theorem rwrite_is (l : List S33) (k : Nat) (hk : 8 * l.length + 40 ≤ k) : intrusionref09_Write.f k l = some (wrOf l) := by
  have zs : ∀ q : List Int, (strOfNums q).size = q.length := strOfNums_size
  unfold intrusionref09_Write.f wrOf
  by_cases h : l.length > 2000
  · rw [if_pos (by omega), if_pos h]
  rw [if_neg (by omega), if_neg h, rput4 _ k (by omega), rput2 _ k (by omega), rput2 _ k (by omega), rput4 _ k (by omega), rput4 _ k (by omega), rput4 _ k (by omega)]
  simp only [bs]
  rw [if_pos (by simp only [size_append, zs, leN_length]; omega), if_pos (by simp only [size_append, zs, leN_length]; omega), if_pos (by simp only [size_append, zs, leN_length]; omega), if_pos (by simp only [size_append, zs, leN_length]; omega), if_pos (by simp only [size_append, zs, leN_length]; omega), if_pos (by simp only [size_append, zs, leN_length]; omega)]
  simp only [← strOfNums_append]
  have h2 := rw_loop l (by omega) l.length 0 (k - 3 * l.length - 20) hdrW (by omega) (by decide)
  rw [show k - 3 * l.length - 20 + 3 * l.length + 20 = k by omega, show ((0 : Nat) : Int) = 0 from rfl] at h2
  exact h2
/-! ### CapP -/

theorem num_leN (s : ByteArray) (A B : List Int) (z : Nat) (n : Int) (h0 : 0 ≤ n) (hn : n < 256 ^ z) (h : bytesOf s = A ++ (leN z n ++ B)) : numOf false s A.length z = n := by
  unfold numOf dig
  rw [if_neg (by decide), h, List.drop_left, List.take_left' (leN_length z n)]
  unfold leN
  rw [List.reverse_reverse, valBE_beN z n h0, Int.emod_eq_of_lt h0 hn]
/-- A record that Write writes. -/
def okRec (x : S33) : Prop := ¬ (x.f2.size : Int) > 4096 ∧ ¬ badRec x
theorem rec_nums (s : ByteArray) (x : S33) (hx : okRec x) (A B : List Int) (h : bytesOf s = A ++ (recW x ++ B)) :
    numOf false s A.length 4 = x.f0 / 1000 ∧ numOf false s (A.length + 4) 4 = x.f0 % 1000 * 1000 ∧ numOf false s (A.length + 8) 4 = (x.f2.size : Int) ∧ numOf false s (A.length + 12) 4 = x.f1 := by
  obtain ⟨h1, h2⟩ := hx
  unfold badRec at h2
  have p : (256 : Int) ^ 4 = 4294967296 := by decide
  unfold recW at h
  refine ⟨?_, ?_, ?_, ?_⟩
  · exact num_leN s A (leN 4 (x.f0 % 1000 * 1000) ++ leN 4 (x.f2.size : Int) ++ leN 4 x.f1 ++ bytesOf x.f2 ++ B) 4 _ (by omega) (by omega) (by rw [h]; simp only [List.append_assoc])
  · have := num_leN s (A ++ leN 4 (x.f0 / 1000)) (leN 4 (x.f2.size : Int) ++ leN 4 x.f1 ++ bytesOf x.f2 ++ B) 4 (x.f0 % 1000 * 1000) (by omega) (by omega) (by rw [h]; simp only [List.append_assoc])
    rw [List.length_append, leN_length] at this
    exact this
  · have := num_leN s (A ++ leN 4 (x.f0 / 1000) ++ leN 4 (x.f0 % 1000 * 1000)) (leN 4 x.f1 ++ bytesOf x.f2 ++ B) 4 (x.f2.size : Int) (by omega) (by omega) (by rw [h]; simp only [List.append_assoc])
    rw [List.length_append, List.length_append, leN_length, leN_length, Nat.add_assoc] at this
    exact this
  · have := num_leN s (A ++ leN 4 (x.f0 / 1000) ++ leN 4 (x.f0 % 1000 * 1000) ++ leN 4 (x.f2.size : Int)) (bytesOf x.f2 ++ B) 4 x.f1 (by omega) (by omega) (by rw [h]; simp only [List.append_assoc])
    rw [List.length_append, List.length_append, List.length_append, leN_length, leN_length, leN_length, Nat.add_assoc, Nat.add_assoc] at this
    exact this
theorem rec_step (s : ByteArray) (x : S33) (hx : okRec x) (A B : List Int) (h : bytesOf s = A ++ (recW x ++ B)) (cnt : Nat) (hc : cnt < 2000) (last : Int) (hl : 0 < cnt → last ≤ x.f0) : stepG s false A.length cnt last = .inr x := by
  obtain ⟨n0, n4, n8, n12⟩ := rec_nums s x hx A B h
  have hz := bytesOf_length s
  have hr := recW_length x
  rw [h, List.length_append, List.length_append, hr] at hz
  obtain ⟨h1, h2⟩ := hx
  unfold badRec at h2
  have ht : timeOf false s A.length = x.f0 := by
    unfold timeOf
    rw [n0, n4]
    omega
  have hd : s.extract (A.length + 16) (A.length + 16 + ((x.f2.size : Int)).toNat) = x.f2 := by
    apply bytesOf_inj
    rw [bytesOf_extract, h, Int.toNat_natCast]
    unfold recW
    rw [show A ++ (leN 4 (x.f0 / 1000) ++ leN 4 (x.f0 % 1000 * 1000) ++ leN 4 (x.f2.size : Int) ++ leN 4 x.f1 ++ bytesOf x.f2 ++ B) = (A ++ leN 4 (x.f0 / 1000) ++ leN 4 (x.f0 % 1000 * 1000) ++ leN 4 (x.f2.size : Int) ++ leN 4 x.f1) ++ (bytesOf x.f2 ++ B) by simp only [List.append_assoc]]
    rw [List.drop_left' (by simp only [List.length_append, leN_length]), List.take_left' (by rw [bytesOf_length]; omega)]
  unfold stepG
  rw [n4, n8, n12, ht, if_neg (by omega), if_neg (by omega), if_neg (by omega), if_neg (by omega), if_neg (by omega), hd]
/-- All that is written, and what follows. -/
theorem parse_loop (s : ByteArray) : ∀ (r : List S33) (A T : List Int) (m cnt : Nat) (last : Int) (out : List S33), (∀ x ∈ r, okRec x) → r.Pairwise (fun x y => x.f0 ≤ y.f0) → (0 < cnt → ∀ x ∈ r, last ≤ x.f0) → cnt + r.length ≤ 2000 → bytesOf s = A ++ (r.flatMap recW ++ T) →
    ∃ last', loopG s false (m + r.length) A.length cnt last out = loopG s false m (A ++ r.flatMap recW).length (cnt + r.length) last' (out ++ r) ∧ (∀ y : Int, (0 < cnt → last ≤ y) → (∀ x ∈ r, x.f0 ≤ y) → 0 < cnt + r.length → last' ≤ y)
  | [], A, T, m, cnt, last, out, _, _, _, _, h => ⟨last, by simp, fun y h1 _ h2 => h1 (by simpa using h2)⟩
  | x :: r, A, T, m, cnt, last, out, hok, hp, hl, hc, h => by
    obtain ⟨hp1, hp2⟩ := List.pairwise_cons.mp hp
    rw [List.length_cons] at hc
    rw [List.flatMap_cons, List.append_assoc] at h
    have hs := rec_step s x (hok x List.mem_cons_self) A (r.flatMap recW ++ T) h cnt (by omega) last (fun z => hl z x List.mem_cons_self)
    obtain ⟨last', e, hL⟩ := parse_loop s r (A ++ recW x) T m (cnt + 1) x.f0 (out ++ [x]) (fun y hy => hok y (List.mem_cons_of_mem _ hy)) hp2 (fun _ y hy => hp1 y hy) (by omega) (by rw [h]; simp only [List.append_assoc])
    refine ⟨last', ?_, fun y h1 h2 h3 => hL y (fun _ => h2 x List.mem_cons_self) (fun z hz => h2 z (List.mem_cons_of_mem _ hz)) (by omega)⟩
    rw [List.length_cons, show m + (r.length + 1) = (m + r.length) + 1 by omega, loopG, hs]
    dsimp only
    have ea : A.length + 16 + x.f2.size = (A ++ recW x).length := by rw [List.length_append, recW_length]; omega
    rw [ea, e, List.flatMap_cons, List.append_assoc, List.append_assoc, show cnt + 1 + r.length = cnt + (r.length + 1) by omega]
    rfl
/-- The header that Write writes is one. -/
theorem hdr_good (s : ByteArray) (T : List Int) (h : bytesOf s = hdrW ++ T) : numOf false s 0 4 = 2712847316 ∧ numOf false s 4 2 = 2 ∧ numOf false s 6 2 = 4 ∧ numOf false s 20 4 = 1 ∧ numOf true s 0 4 ≠ 2712847316 := by
  unfold hdrW at h
  refine ⟨?_, ?_, ?_, ?_, ?_⟩
  · exact num_leN s [] (leN 2 2 ++ leN 2 4 ++ leN 4 0 ++ leN 4 0 ++ leN 4 4096 ++ leN 4 1 ++ T) 4 _ (by decide) (by decide) (by rw [h]; simp only [List.append_assoc, List.nil_append])
  · have := num_leN s (leN 4 2712847316) (leN 2 4 ++ leN 4 0 ++ leN 4 0 ++ leN 4 4096 ++ leN 4 1 ++ T) 2 2 (by decide) (by decide) (by rw [h]; simp only [List.append_assoc])
    exact this
  · have := num_leN s (leN 4 2712847316 ++ leN 2 2) (leN 4 0 ++ leN 4 0 ++ leN 4 4096 ++ leN 4 1 ++ T) 2 4 (by decide) (by decide) (by rw [h]; simp only [List.append_assoc])
    exact this
  · have := num_leN s (leN 4 2712847316 ++ leN 2 2 ++ leN 2 4 ++ leN 4 0 ++ leN 4 0 ++ leN 4 4096) T 4 1 (by decide) (by decide) (by rw [h]; simp only [List.append_assoc])
    exact this
  · have e : dig true s 0 4 = leN 4 2712847316 := by
      unfold dig
      rw [if_pos rfl, h, List.drop_zero]
      simp only [List.append_assoc]
      rw [List.take_left' (leN_length _ _)]
    unfold numOf
    rw [e]
    decide +kernel
/-- What was read of a capture whose header is good: s, of at least 24 bytes. -/
theorem chead_little (s : ByteArray) (h24 : 24 ≤ s.size) (hs : s.size ≤ 1000000000) (h : numOf false s 0 4 = 2712847316 ∧ numOf false s 4 2 = 2 ∧ numOf false s 6 2 = 4 ∧ numOf false s 20 4 = 1 ∧ numOf true s 0 4 ≠ 2712847316) (k : Nat) (hk : 30 ≤ k) :
    capture_Reader_header.f k s 0 false false 0 0 false = some (true, 0, s.extract 24 s.size, 24, true, true, 0, 0, false) := by
  obtain ⟨q, rfl⟩ : ∃ q, k = q + 1 := ⟨k - 1, by omega⟩
  obtain ⟨h0, h4, h6, h20, hne⟩ := h
  have t0 := cnum_is s 0 0 0 false false false 0 4 (by omega) (by omega) (by omega) hs (q + 1) (by omega)
  have c0 := cnum_is s 0 0 0 false true false 0 4 (by omega) (by omega) (by omega) hs q (by omega)
  have c4 := cnum_is s 0 0 0 false true false 4 2 (by omega) (by omega) (by omega) hs q (by omega)
  have c6 := cnum_is s 0 0 0 false true false 6 2 (by omega) (by omega) (by omega) hs q (by omega)
  have c20 := cnum_is s 0 0 0 false true false 20 4 (by omega) (by omega) (by omega) hs q (by omega)
  rw [show ((4 : Nat) : Int) = 4 from rfl] at t0 c0 c4 c20
  rw [show ((0 : Nat) : Int) = 0 from rfl] at t0 c0
  rw [show ((2 : Nat) : Int) = 2 from rfl] at c4 c6
  rw [show ((6 : Nat) : Int) = 6 from rfl] at c6
  rw [show ((20 : Nat) : Int) = 20 from rfl] at c20
  rw [Bool.not_true] at c0 c4 c6 c20
  rw [h0] at c0
  rw [h4] at c4
  rw [h6] at c6
  rw [h20] at c20
  unfold capture_Reader_header.f
  rw [if_neg (by omega), t0]
  simp only [bs]
  rw [if_neg (show ¬ numOf (!false) s 0 4 = 2712847316 from hne), capture_Reader_header.j0, c0]
  simp only [bs]
  rw [if_pos trivial, c4]
  simp only [bs]
  rw [if_pos trivial, c6]
  simp only [bs]
  rw [if_pos trivial, c20]
  simp only [bs]
  rw [if_pos trivial]
  unfold capture_Reader_skip.f
  rw [if_pos (by omega), if_pos (by omega)]
  simp only [bs]
  rw [show wrap64 ((0 : Int) + 24) = 24 by decide +kernel]
  rfl
/-- Read of a capture with a good header, by all its records. -/
theorem read_little (s : ByteArray) (h24 : 24 ≤ s.size) (hs : s.size ≤ 100000000) (h : numOf false s 0 4 = 2712847316 ∧ numOf false s 4 2 = 2 ∧ numOf false s 6 2 = 4 ∧ numOf false s 20 4 = 1 ∧ numOf true s 0 4 ≠ 2712847316) (m : Nat) (hm : s.size + 16 ≤ 24 + 16 * m) (k : Nat) (hk : m + 100 ≤ k) (o : List S33) (e : Int) (a c : Nat) (la : Int) (hL : loopG s false m 24 0 0 [] = (o, e, a, c, la)) (ha : a ≤ s.size) :
    capture_Read.f k s = if e = 0 then (if a = s.size then some (o, 0, 0) else some ([], 1, (a : Int))) else some ([], e, (a : Int)) := by
  obtain ⟨q, rfl⟩ : ∃ q, k = q + 1 := ⟨k - 1, by omega⟩
  have hl := feed_loop s true (by omega) m 24 0 (q - m) 0 [] (by omega) hm (by omega) (by simp) (by omega)
  rw [show q - m + m = q by omega, Bool.not_true, hL] at hl
  dsimp only at hl
  have hf : capture_Reader_Feed.f (q + 1) (⟨#[]⟩ : ByteArray) 0 false false 0 0 false s = some (o, e, s.extract a s.size, (a : Int), true, true, (c : Int), la, (e != 0)) := by
    have e0 : (⟨#[]⟩ : ByteArray) ++ s = s := by apply bytesOf_inj; rw [bytesOf_append]; rfl
    unfold capture_Reader_Feed.f
    rw [if_neg (show ¬ (false = true) by decide), if_pos (show (⟨#[]⟩ : ByteArray).size + s.size ≤ 9223372036854775807 by show 0 + s.size ≤ _; omega), if_neg (show ¬ (false = true) by decide), e0, chead_little s h24 (by omega) h (q + 1) (by omega)]
    simp only [bs]
    rw [if_pos trivial, capture_Reader_Feed.j0]
    exact hl
  have hz : (s.extract a s.size).size = s.size - a := by rw [ByteArray.size_extract]; omega
  unfold capture_Read.f capture_NewReader.f
  simp only [bs]
  rw [hf]
  simp only [bs]
  by_cases z : e = 0
  · rw [if_pos z, if_pos z, show (e != 0) = false by simp [z]]
    unfold capture_Reader_Close.f
    rw [if_neg (show ¬ (false = true) by decide), if_pos rfl]
    by_cases w : a = s.size
    · have e0 : s.extract a s.size = ⟨#[]⟩ := by apply bytesOf_inj; apply List.eq_nil_of_length_eq_zero; rw [bytesOf_length, hz]; omega
      rw [if_pos (by rw [e0]; unfold ByteArray.toList ByteArray.toList.loop; rfl), if_pos w]
      simp only [bs]
      rw [if_pos trivial]
    · have e1 : ¬ (s.extract a s.size).toList = ([] : List UInt8) := by
        intro y
        rw [ByteArray.toList_eq] at y
        have h0 : (s.extract a s.size).data.toList.length = 0 := by rw [y]; rfl
        have h1 : (s.extract a s.size).data.toList.length = (s.extract a s.size).size := by rw [Array.length_toList]; rfl
        omega
      rw [if_neg e1, if_neg w]
      simp only [bs]
      rw [if_neg (by decide)]
  · rw [if_neg z, if_neg z]
/-! ### CapQ -/

theorem wrG_ok (l : List S33) : ∀ (m i : Nat) (L : List Int), i + m = l.length → (wrG l m i L).2 = 0 → (∀ j, i ≤ j → (h : j < l.length) → okRec l[j]) ∧ (∀ j, i ≤ j → 0 < j → (h : j < l.length) → (l[j - 1]'(by omega)).f0 ≤ l[j].f0) ∧ (wrG l m i L).1 = strOfNums (L ++ (l.drop i).flatMap recW)
  | 0, i, L, hi, _ => by
    refine ⟨fun j h1 h2 => by omega, fun j h1 _ h2 => by omega, ?_⟩
    rw [wrG, List.drop_eq_nil_of_le (by omega), List.flatMap_nil, List.append_nil]
  | m + 1, i, L, hi, h => by
    have hlt : i < l.length := by omega
    rw [wrG, dif_pos hlt] at h ⊢
    by_cases h1 : (l[i].f2.size : Int) > 4096
    · rw [if_pos h1] at h; cases h
    rw [if_neg h1] at h ⊢
    by_cases h2 : badRec l[i]
    · rw [if_pos h2] at h; cases h
    rw [if_neg h2] at h ⊢
    by_cases h3 : 0 < i ∧ l[i].f0 < (l[i - 1]'(by omega)).f0
    · rw [if_pos h3] at h; cases h
    rw [if_neg h3] at h ⊢
    obtain ⟨a1, a2, a3⟩ := wrG_ok l m (i + 1) (L ++ recW l[i]) (by omega) h
    refine ⟨fun j hj hl => ?_, fun j hj h0 hl => ?_, ?_⟩
    · by_cases e : j = i
      · subst e; exact ⟨h1, h2⟩
      · exact a1 j (by omega) hl
    · by_cases e : j = i
      · subst e
        have : ¬ l[j].f0 < (l[j - 1]'(by omega)).f0 := fun y => h3 ⟨h0, y⟩
        omega
      · exact a2 j (by omega) h0 hl
    · rw [a3, List.drop_eq_getElem_cons hlt, List.flatMap_cons, List.append_assoc]
theorem adj_pair (l : List S33) (h : ∀ j, 0 < j → (h : j < l.length) → (l[j - 1]'(by omega)).f0 ≤ l[j].f0) : l.Pairwise (fun x y => x.f0 ≤ y.f0) := by
  refine List.pairwise_iff_getElem.mpr ?_
  intro i j hi hj hij
  obtain ⟨d, rfl⟩ : ∃ d, j = i + 1 + d := ⟨j - i - 1, by omega⟩
  induction d with
  | zero => have := h (i + 1) (by omega) hj; simpa using this
  | succ d ih =>
    have h1 := ih (by omega) (by omega)
    have h2 := h (i + 1 + (d + 1)) (by omega) hj
    have e : i + 1 + (d + 1) - 1 = i + 1 + d := by omega
    simp only [e] at h2
    exact Int.le_trans h1 h2
theorem flat_range (l : List S33) : ∀ y ∈ l.flatMap recW, 0 ≤ y ∧ y < 256 := by
  intro y hy
  obtain ⟨x, _, hx⟩ := List.mem_flatMap.mp hy
  exact recW_range x y hx
theorem hdr_range : ∀ y ∈ hdrW, 0 ≤ y ∧ y < 256 := by decide +kernel
theorem loop_stop {s : ByteArray} {big : Bool} {a c : Nat} {la : Int} {out : List S33} {e : Int} (m : Nat) (h : stepG s big a c la = .inl e) : loopG s big (m + 1) a c la out = (out, e, a, c, la) := by rw [loopG, h]
/-! ### PureCaptureMany -/

theorem many_loop (n : Nat) (hn : n ≤ 3000) (t : Int) : ∀ (m i k : Nat), i + m = n →
    intrusionlaw09_CaptureMany.l0 (k + m + 1) (n : Int) t (List.replicate i (⟨t, 0, (⟨#[]⟩ : ByteArray)⟩ : S33)) (i : Int) = intrusionlaw09_CaptureMany.l0 (k + 1) (n : Int) t (List.replicate n (⟨t, 0, (⟨#[]⟩ : ByteArray)⟩ : S33)) (n : Int)
  | 0, i, k, h => by rw [show i = n by omega]
  | m + 1, i, k, h => by
    rw [show k + (m + 1) + 1 = (k + m + 1) + 1 by omega, intrusionlaw09_CaptureMany.l0, if_pos (by omega), if_pos (by rw [List.length_replicate]; omega), ← List.replicate_succ', w64 (n := (i : Int) + 1) (by omega) (by omega), show (i : Int) + 1 = ((i + 1 : Nat) : Int) by omega]
    exact many_loop n hn t m (i + 1) k (by omega)
theorem rep_flat (x : S33) (h0 : x.f2.size = 0) : ∀ n : Nat, ((List.replicate n x).flatMap recW).length = 16 * n
  | 0 => rfl
  | n + 1 => by
    rw [List.replicate_succ, List.flatMap_cons, List.length_append, rep_flat x h0 n, recW_length, h0]
    omega
theorem CaptureMany : intrusionlaw09_CaptureMany.Pure := by
  intro n t _ _
  obtain ⟨K, hK⟩ : ∃ K, 100000 = K := ⟨_, rfl⟩
  refine ⟨K + 3000, ?_⟩
  have no : intrusionlaw09_CaptureMany.j0 (K + 3000) n t true = some true := by
    rw [show K + 3000 = (K + 2999) + 1 by omega, intrusionlaw09_CaptureMany.j0, if_pos rfl, lives_is _ (by omega)]
    simp only [bs]
  unfold intrusionlaw09_CaptureMany.f
  by_cases h1 : n < 1990
  · rw [if_pos h1, no]
  rw [if_neg h1]
  by_cases h2 : n > 2001
  · rw [decide_eq_true h2, no]
  obtain ⟨N, rfl⟩ : ∃ N : Nat, n = N := ⟨n.toNat, by omega⟩
  rw [decide_eq_false h2, show K + 3000 = (K + 2999) + 1 by omega, intrusionlaw09_CaptureMany.j0, if_neg (by decide)]
  have hm := many_loop N (by omega) t N 0 (K + 2999 - N - 1) (by omega)
  rw [show K + 2999 - N - 1 + N + 1 = K + 2999 by omega, show ((0 : Nat) : Int) = 0 from rfl, List.replicate_zero] at hm
  rw [hm]
  clear hm
  obtain ⟨q, hq⟩ : ∃ q, K + 2999 - N - 1 = q + 3 := ⟨K + 2999 - N - 4, by omega⟩
  have hx0 : (⟨t, 0, (⟨#[]⟩ : ByteArray)⟩ : S33).f2.size = 0 := rfl
  have hX : ∀ z ∈ List.replicate N (⟨t, 0, (⟨#[]⟩ : ByteArray)⟩ : S33), z = (⟨t, 0, (⟨#[]⟩ : ByteArray)⟩ : S33) := fun z hz => List.eq_of_mem_replicate hz
  generalize (⟨t, 0, (⟨#[]⟩ : ByteArray)⟩ : S33) = x at hx0 hX ⊢
  have hlen : (List.replicate N x).length = N := List.length_replicate
  rw [hq, show q + 3 + 1 = (q + 3) + 1 by omega, intrusionlaw09_CaptureMany.l0, if_neg (by omega), write_is _ (q + 3) (by omega), rwrite_is _ (q + 3) (by omega)]
  simp only [bs]
  rw [if_pos trivial, show ((wrOf (List.replicate N x)).2 != (wrOf (List.replicate N x)).2) = false by simp, intrusionlaw09_CaptureMany.j2, if_neg (by decide)]
  have fin : ∀ s : ByteArray, intrusionlaw09_CaptureMany.j3 (q + 2) (N : Int) s false = some true := by
    intro s
    rw [intrusionlaw09_CaptureMany.j3, if_neg (by decide), lives_is (q + 1) (by omega)]
    simp only [bs]
  by_cases h : (wrOf (List.replicate N x)).2 = 0
  case neg => rw [if_neg h, fin]
  rw [if_pos h]
  by_cases hN : N = 2000
  case neg => rw [show ((N : Int) == 2000) = false by simp; omega, fin]
  subst hN
  rw [show (((2000 : Nat) : Int) == 2000) = true by decide]
  have e0 : wrOf (List.replicate 2000 x) = wrG (List.replicate 2000 x) (List.replicate 2000 x).length 0 hdrW := by unfold wrOf; rw [if_neg (by omega)]
  rw [e0] at h ⊢
  obtain ⟨a1, a2, a3⟩ := wrG_ok (List.replicate 2000 x) _ 0 hdrW (by omega) h
  rw [List.drop_zero] at a3
  have hok : ∀ z ∈ List.replicate 2000 x, okRec z := fun z hz => by obtain ⟨j, hj, rfl⟩ := List.getElem_of_mem hz; exact a1 j (by omega) hj
  have hx : okRec x := hok x (List.mem_replicate.mpr ⟨by decide, rfl⟩)
  have hpw := adj_pair (List.replicate 2000 x) (fun j h0 hj => a2 j (by omega) h0 hj)
  have hfl := rep_flat x hx0 2000
  have hfr := flat_range (List.replicate 2000 x)
  generalize hlq : List.replicate 2000 x = l at *
  have hH : hdrW.length = 24 := by decide
  generalize hs : (wrG l l.length 0 hdrW).1 = s at a3 ⊢
  have hb : bytesOf s = hdrW ++ (l.flatMap recW ++ []) := by
    rw [a3, bytesOf_strOfNums _ (fun y hy => (List.mem_append.mp hy).elim (hdr_range y) (hfr y)), List.append_nil]
  have hz : s.size = 32024 := by rw [← bytesOf_length, hb, List.length_append, List.length_append, hH, hfl]; rfl
  rw [intrusionlaw09_CaptureMany.j3, if_pos rfl, hz, w64 (n := ((32024 : Nat) : Int) - 16) (by omega) (by omega), if_pos (by omega), if_pos (by omega), show (((32024 : Nat) : Int) - 16).toNat = 32008 by omega]
  have hcl : (s.extract 32008 32024).size = 16 := by rw [ByteArray.size_extract, hz]; decide +kernel
  rw [if_pos (by omega)]
  have hlast : bytesOf (s.extract 32008 32024) = recW x := by
    have e1 : l = List.replicate 1999 x ++ [x] := by rw [← hlq, show (2000 : Nat) = 1999 + 1 from rfl, List.replicate_succ']
    have h16 := recW_length x
    rw [bytesOf_extract, hb, List.append_nil, e1, List.flatMap_append, List.flatMap_cons, List.flatMap_nil, List.append_nil, ← List.append_assoc, List.drop_left' (by rw [List.length_append, hH, rep_flat x hx0 1999]), List.take_of_length_le (by omega)]
  have hb2 : bytesOf (s ++ s.extract 32008 32024) = hdrW ++ (l.flatMap recW ++ recW x) := by rw [bytesOf_append, hlast, hb, List.append_nil, List.append_assoc]
  have hz2 : (s ++ s.extract 32008 32024).size = 32040 := by rw [size_append, hz, hcl]
  obtain ⟨la, p1, -⟩ := parse_loop s l hdrW [] 18000 0 0 [] hok hpw (fun z => absurd z (by omega)) (by omega) hb
  obtain ⟨lb, p2, -⟩ := parse_loop (s ++ s.extract 32008 32024) l hdrW (recW x) 18000 0 0 [] hok hpw (fun z => absurd z (by omega)) (by omega) hb2
  have hA : (hdrW ++ l.flatMap recW).length = 32024 := by rw [List.length_append, hH, hfl]
  rw [hlen, hH, hA] at p1 p2
  have s1 : stepG s false 32024 (0 + 2000) la = .inl 0 := by unfold stepG; rw [if_pos (by omega)]
  have s2 : stepG (s ++ s.extract 32008 32024) false 32024 (0 + 2000) lb = .inl 3 := by
    obtain ⟨n0, n4, n8, n12⟩ := rec_nums (s ++ s.extract 32008 32024) x hx (hdrW ++ l.flatMap recW) [] (by rw [hb2, List.append_nil, List.append_assoc])
    rw [hA] at n4
    unfold stepG
    rw [if_neg (by omega), n4, if_neg (by omega), if_pos (.inl (by omega))]
  rw [show (18000 : Nat) = 17999 + 1 from rfl, loop_stop 17999 s1] at p1
  rw [show (18000 : Nat) = 17999 + 1 from rfl, loop_stop 17999 s2] at p2
  rw [show 17999 + 1 + 2000 = 20000 from rfl] at p1 p2
  have r1 := read_little s (by omega) (by omega) (hdr_good s _ hb) 20000 (by omega) (q + 1) (by omega) _ _ _ _ _ p1 (by omega)
  have r2 := read_little (s ++ s.extract 32008 32024) (by omega) (by omega) (hdr_good _ _ hb2) 20000 (by omega) (q + 1) (by omega) _ _ _ _ _ p2 (by omega)
  rw [if_pos rfl, if_pos (by omega), List.nil_append] at r1
  rw [if_neg (by decide)] at r2
  rw [r2, r1]
  simp only [bs]
  rw [if_pos trivial, if_pos trivial, if_pos (by omega), if_pos trivial, lives_is (q + 1) (by omega)]
  simp only [bs]
end Go.Proofs.Ytafjmciojeondaa.Pure

