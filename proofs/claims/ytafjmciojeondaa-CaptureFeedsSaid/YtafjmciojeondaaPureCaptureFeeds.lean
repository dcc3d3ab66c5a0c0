/- CaptureFeeds as a plain law: each Feed and the Close of a reader return what the document's do, under the law's own bounds, and the examples hold. -/
import Derived.Test.YtafjmciojeondaaXDCaptureFeeds
import Derived.Test.YtafjmciojeondaaX0
import Derived.Laws.Bits128
import Derived.Laws.BitsAllLaws
import Derived.Lib.EndianBits
import Derived.Test.YtafjmciojeondaaX7
import Derived.Test.YtafjmciojeondaaX8
import Derived.Test.YtafjmciojeondaaX9
import Derived.Test.YtafjmciojeondaaX21
import Derived.Test.YtafjmciojeondaaX5
import Derived.Test.YtafjmciojeondaaX3
import Derived.Test.YtafjmciojeondaaX4
import Derived.Test.YtafjmciojeondaaX13
import Derived.Test.YtafjmciojeondaaX12
import Derived.Test.YtafjmciojeondaaX11
import Derived.Test.YtafjmciojeondaaX10
import Derived.Test.YtafjmciojeondaaX14
import Derived.Test.YtafjmciojeondaaX18
import Derived.Test.YtafjmciojeondaaX17
/-! ### Base -/
set_option linter.unusedVariables false
set_option linter.unusedSimpArgs false
namespace Go.Proofs.Ytafjmciojeondaa.Pure
open Go.RowKit Go.Proofs.Ytafjmciojeondaa.X Go.Proofs.YtafjmciojeondaaW.PrintWords Go.Proofs.YtafjmciojeondaaW.PrintLast Go.Proofs.YtafjmciojeondaaW.PrintMore

/-- Told without 'rfl': a simp by it leaves the kernel little to compare. -/
theorem bs {α β : Type} (a : α) (f : α → Option β) : (some a).bind f = f a := by
  cases h : (some a) with
  | none => cases h
  | some b => injection h with h; subst h; rfl
theorem w64 {n : Int} (h : -9223372036854775808 ≤ n) (h' : n < 9223372036854775808) : wrap64 n = n := by unfold wrap64; omega
theorem wraps_i64' (n : Int) (h₀ : 0 ≤ n) (h₁ : n < 2 ^ 63) : IntKind.i64.wrap n = n := by rw [IntKind.wrap_i64]; omega
/-- 'x*256 | b' on int. -/
theorem or8 (x b : Int) (h0 : 0 ≤ x) (h1 : x < 9223372036854775808) (hx : x % 256 = 0) (hb0 : 0 ≤ b) (hb : b < 256) : Go.bits .or .i64 x b = x + b :=
  bits_join .i64 63 (by decide) wraps_i64' 8 x b h0 (by omega) (by omega) hb0 (by omega) (by omega)
theorem bytesOf_append (a b : ByteArray) : bytesOf (a ++ b) = bytesOf a ++ bytesOf b := by
  simp [bytesOf, ByteArray.data_append]
theorem bytesOf_extract (s : ByteArray) (i j : Nat) : bytesOf (s.extract i j) = ((bytesOf s).drop i).take (j - i) := by
  simp [bytesOf, ByteArray.data_extract, List.map_take, List.map_drop]
  try rw [List.extract_eq_take_drop]
theorem bytesOf_range (s : ByteArray) : ∀ x ∈ bytesOf s, 0 ≤ x ∧ x < 256 := by
  intro x hx
  obtain ⟨b, _, rfl⟩ := List.mem_map.mp hx
  have := b.toNat_lt
  omega
theorem bytesOf_inj {a b : ByteArray} (h : bytesOf a = bytesOf b) : a = b := by
  have h2 : a.data.toList = b.data.toList := by
    refine List.map_inj_right (f := fun (b : UInt8) => (b.toNat : Int)) ?_ |>.mp h
    intro x y hxy
    exact UInt8.toNat_inj.mp (by exact_mod_cast hxy)
  cases a; cases b
  simp at h2
  simp [h2]
theorem bt_eq (s : ByteArray) (i : Nat) : bt s (i : Int) = (bytesOf s).getD i 0 := by
  unfold bt bytesOf
  rw [Int.toNat_natCast]
  by_cases h : i < s.size
  · have h' : i < s.data.toList.length := by rw [Array.length_toList]; exact h
    rw [dif_pos h]
    simp [List.getD_eq_getElem?_getD, List.getElem?_eq_getElem h']
    rfl
  · have h' : s.data.toList.length ≤ i := by rw [Array.length_toList]; exact Nat.not_lt.1 h
    rw [dif_neg h]
    simp [List.getD_eq_getElem?_getD, List.getElem?_eq_none h']
theorem bt_range (s : ByteArray) (i : Int) : 0 ≤ bt s i ∧ bt s i ≤ 255 := by
  unfold bt
  split
  · rename_i h
    have := (s[i.toNat]'h).toNat_lt
    omega
  · omega
theorem size_append (a b : ByteArray) : (a ++ b).size = a.size + b.size := by simp
/-! ### Cap -/

theorem lives100 : intrusionlaw09_lives.f 100 = some true := by decide +kernel
theorem lives_is (k : Nat) (hk : 100 ≤ k) : intrusionlaw09_lives.f k = some true := at_rounds intrusionlaw09_lives.mono hk lives100
theorem same_loop (l : List S33) (hl : l.length ≤ 4611686018427387904) : ∀ (m i k : Nat), i + m = l.length → intrusionref09_Same.l0 (k + m + 1) l l (i : Int) = some true
  | 0, i, k, h => by rw [intrusionref09_Same.l0, if_neg (by omega)]
  | m + 1, i, k, h => by
    rw [show k + (m + 1) + 1 = (k + m + 1) + 1 by omega, intrusionref09_Same.l0, if_pos (by omega), if_pos (by omega), if_pos (by omega), if_neg (by simp), w64 (n := (i : Int) + 1) (by omega) (by omega), show (i : Int) + 1 = ((i + 1 : Nat) : Int) by omega, same_loop l hl m (i + 1) k (by omega)]
theorem same_is (l : List S33) (hl : l.length ≤ 4611686018427387904) (k : Nat) (hk : l.length + 1 ≤ k) : intrusionref09_Same.f k l l = some true := by
  have := same_loop l hl l.length 0 (k - l.length - 1) (by omega)
  rw [show k - l.length - 1 + l.length + 1 = k by omega] at this
  unfold intrusionref09_Same.f
  rw [if_pos rfl]
  exact this
/-! ### Field -/

/-- The last digits of a number to the base 256, the most significant first. -/
def beN : Nat → Int → List Int
  | 0, _ => []
  | i + 1, n => n / 256 ^ i % 256 :: beN i n
/-- The number of digits, the most significant first. -/
def valBE (l : List Int) : Int := l.foldl (fun n c => n * 256 + c) 0
theorem val_from : ∀ (l : List Int) (n : Int), l.foldl (fun n c => n * 256 + c) n = n * 256 ^ l.length + valBE l
  | [], n => by simp [valBE]
  | c :: l, n => by
    have h1 := val_from l (n * 256 + c)
    have h2 := val_from l (0 * 256 + c)
    unfold valBE
    simp only [List.foldl_cons, List.length_cons] at h1 h2 ⊢
    rw [h1, h2, Int.pow_succ]
    generalize (256 : Int) ^ l.length = p
    generalize valBE l = v
    rw [Int.add_mul, Int.zero_mul, Int.zero_add, Int.mul_comm p 256, ← Int.mul_assoc, Int.add_assoc]
theorem valBE_cons (c : Int) (l : List Int) : valBE (c :: l) = c * 256 ^ l.length + valBE l := by
  have h := val_from l (0 * 256 + c)
  unfold valBE
  simp only [List.foldl_cons]
  rw [h, Int.zero_mul, Int.zero_add]
  rfl
theorem valBE_range : ∀ l : List Int, (∀ x ∈ l, 0 ≤ x ∧ x < 256) → 0 ≤ valBE l ∧ valBE l < 256 ^ l.length
  | [], _ => by simp [valBE]
  | c :: l, h => by
    have h1 := valBE_range l (fun x hx => h x (by simp [hx]))
    have h2 := h c (by simp)
    have hp : (0 : Int) < 256 ^ l.length := Int.pow_pos (by decide)
    rw [valBE_cons, List.length_cons, Int.pow_succ]
    generalize (256 : Int) ^ l.length = p at *
    constructor
    · exact Int.add_nonneg (Int.mul_nonneg h2.1 (by omega)) h1.1
    · have : c * p ≤ 255 * p := Int.mul_le_mul_of_nonneg_right (by omega) (by omega)
      omega
theorem beN_add (i : Nat) (n c : Int) : beN i (c * 256 ^ i + n) = beN i n := by
  suffices H : ∀ (i m : Nat) (c n : Int), i ≤ m → beN i (c * 256 ^ m + n) = beN i n from H i i c n (Nat.le_refl _)
  intro i
  induction i with
  | zero => intros; rfl
  | succ i ih =>
    intro m c n hm
    rw [beN, beN, ih m c n (by omega)]
    congr 1
    obtain ⟨d, rfl⟩ : ∃ d, m = i + (1 + d) := ⟨m - i - 1, by omega⟩
    have hp : (256 : Int) ^ i ≠ 0 := Int.ne_of_gt (Int.pow_pos (by decide))
    rw [Int.pow_add, ← Int.mul_assoc, Int.mul_right_comm, Int.mul_comm _ ((256 : Int) ^ i), Int.add_comm, Int.add_mul_ediv_left _ _ hp, Int.pow_add, Int.pow_one, ← Int.mul_assoc, Int.mul_right_comm]
    rw [Int.mul_comm _ 256]
    omega
theorem beN_valBE : ∀ l : List Int, (∀ x ∈ l, 0 ≤ x ∧ x < 256) → beN l.length (valBE l) = l
  | [], _ => rfl
  | c :: l, h => by
    have h1 := valBE_range l (fun x hx => h x (by simp [hx]))
    have h2 := h c (by simp)
    have hp : (0 : Int) < 256 ^ l.length := Int.pow_pos (by decide)
    rw [List.length_cons, beN, valBE_cons, beN_add, beN_valBE l (fun x hx => h x (by simp [hx]))]
    congr 1
    rw [Int.add_comm, Int.add_mul_ediv_right _ _ (by omega), Int.ediv_eq_zero_of_lt h1.1 h1.2]
    omega
/-- Put in closed form. -/
def putOf (n size : Int) : ByteArray := if 1 ≤ size ∧ size ≤ 7 ∧ 0 ≤ n ∧ n < 256 ^ size.toNat then strOfNums (beN size.toNat n) else ⟨#[]⟩
theorem number_loop (l : List Int) (hl : ∀ x ∈ l, 0 ≤ x ∧ x < 256) (h7 : l.length ≤ 7) : ∀ (m i k : Nat), i + m = l.length →
    field_number.l0 (k + m + 1) (valBE (l.take i)) l l.length i = some (valBE l)
  | 0, i, k, h => by
    unfold field_number.l0
    rw [if_neg (by omega), List.take_of_length_le (by omega)]
  | m + 1, i, k, h => by
    rw [show k + (m + 1) + 1 = (k + m + 1) + 1 by omega]
    have hlt : i < l.length := by omega
    have ht : l.take (i + 1) = l.take i ++ [l[i]] := by rw [List.take_add_one]; simp [hlt]
    have e : valBE (l.take (i + 1)) = valBE (l.take i) * 256 + l[i] := by
      rw [ht]; unfold valBE; rw [List.foldl_append]; rfl
    have hr := valBE_range (l.take i) (fun x hx => hl x (List.mem_of_mem_take hx))
    have hc := hl l[i] (List.getElem_mem hlt)
    have hpow : (256 : Int) ^ (l.take i).length ≤ 281474976710656 := by
      have h6 : (l.take i).length ≤ 6 := by simp; omega
      have hn : 256 ^ (l.take i).length ≤ 281474976710656 := Nat.le_trans (Nat.pow_le_pow_right (by decide) h6) (by decide)
      have hc : ((256 ^ (l.take i).length : Nat) : Int) = (256 : Int) ^ (l.take i).length := Int.natCast_pow 256 _
      omega
    have hrd : rd l i = l[i] := by unfold rd; rw [Int.toNat_natCast, List.getD_eq_getElem?_getD, List.getElem?_eq_getElem hlt]; rfl
    unfold field_number.l0
    rw [if_pos (by omega), if_pos (by omega), if_pos (by omega), hrd, w64 (n := l[i]) (by omega) (by omega), w64 (n := valBE (l.take i) * 256) (by omega) (by omega), or8 _ _ (by omega) (by omega) (by omega) (by omega) (by omega), w64 (n := (i : Int) + 1) (by omega) (by omega), ← e,
      show (i : Int) + 1 = ((i + 1 : Nat) : Int) by omega]
    exact number_loop l hl h7 m (i + 1) k (by omega)
theorem number_is (l : List Int) (hl : ∀ x ∈ l, 0 ≤ x ∧ x < 256) (h7 : l.length ≤ 7) (k : Nat) (hk : 8 ≤ k) : field_number.f k l = some (valBE l) := by
  have h := number_loop l hl h7 l.length 0 (k - l.length - 1) (by omega)
  rw [show k - l.length - 1 + l.length + 1 = k by omega] at h
  unfold field_number.f
  simpa [valBE] using h
/-! ### CapR -/

/-- The z bytes at p, in the order that counts. -/
def dig (big : Bool) (s : ByteArray) (p z : Nat) : List Int := if big = true then ((bytesOf s).drop p).take z else (((bytesOf s).drop p).take z).reverse
def numOf (big : Bool) (s : ByteArray) (p z : Nat) : Int := valBE (dig big s p z)
theorem dig_range (big : Bool) (s : ByteArray) (p z : Nat) : ∀ x ∈ dig big s p z, 0 ≤ x ∧ x < 256 := by
  intro x hx
  unfold dig at hx
  split at hx
  · exact bytesOf_range s x (List.mem_of_mem_drop (List.mem_of_mem_take hx))
  · exact bytesOf_range s x (List.mem_of_mem_drop (List.mem_of_mem_take (List.mem_reverse.mp hx)))
theorem dig_length (big : Bool) (s : ByteArray) (p z : Nat) (h : p + z ≤ s.size) : (dig big s p z).length = z := by
  have := bytesOf_length s
  unfold dig
  split
  · rw [List.length_take, List.length_drop]; omega
  · rw [List.length_reverse, List.length_take, List.length_drop]; omega
theorem num_range (big : Bool) (s : ByteArray) (p z : Nat) (h : p + z ≤ s.size) : 0 ≤ numOf big s p z ∧ numOf big s p z < 256 ^ z := by
  have := valBE_range (dig big s p z) (dig_range big s p z)
  rw [dig_length big s p z h] at this
  exact this
theorem num4 (big : Bool) (s : ByteArray) (p : Nat) (h : p + 4 ≤ s.size) : 0 ≤ numOf big s p 4 ∧ numOf big s p 4 < 4294967296 := by
  have := num_range big s p 4 h
  omega
theorem num_rest (big : Bool) (s : ByteArray) (a p z : Nat) (h : a + p + z ≤ s.size) : numOf big (s.extract a s.size) p z = numOf big s (a + p) z := by
  have e : (bytesOf (s.extract a s.size)) = (bytesOf s).drop a := by
    rw [bytesOf_extract]
    exact List.take_of_length_le (by rw [List.length_drop, bytesOf_length]; exact Nat.le_refl _)
  unfold numOf dig
  rw [e, List.drop_drop]
theorem cnum_is (s : ByteArray) (a c l : Int) (b lit o : Bool) (p z : Nat) (h : p + z ≤ s.size) (h1 : 1 ≤ z) (h7 : z ≤ 7) (hs : s.size ≤ 1000000000) (k : Nat) (hk : 8 ≤ k) :
    capture_Reader_number.f k s a b lit c l o (p : Int) (z : Int) = some (numOf (!lit) s p z, s, a, b, lit, c, l, o) := by
  have hd := dig_length (!lit) s p z h
  have hN := number_is (dig (!lit) s p z) (dig_range _ s p z) (by omega) k hk
  have ez : bytesOf (s.extract ((p : Int)).toNat ((p : Int) + (z : Int)).toNat) = ((bytesOf s).drop p).take z := by
    rw [bytesOf_extract, Int.toNat_natCast, show ((p : Int) + (z : Int)).toNat = p + z by omega, show p + z - p = z by omega]
  unfold capture_Reader_number.f
  unfold dig at hN
  cases lit with
  | true =>
    rw [if_neg (by decide)] at hN
    unfold field_GetLittle.f
    rw [if_pos rfl, if_pos (by omega), if_neg (by omega), if_neg (by omega), ez, hN]
    simp only [bs]
    rfl
  | false =>
    rw [if_pos (by decide)] at hN
    unfold field_Get.f
    rw [if_neg (by decide), if_pos (by omega), if_neg (by omega), if_neg (by omega), ez, hN]
    simp only [bs]
    rfl
/-- The time that a record at a tells. -/
def timeOf (big : Bool) (s : ByteArray) (a : Nat) : Int := numOf big s a 4 * 1000 + numOf big s (a + 4) 4 / 1000
/-- One record at a: an error (0: not complete), or the record. -/
def stepG (s : ByteArray) (big : Bool) (a cnt : Nat) (last : Int) : Int ⊕ S33 :=
  if s.size < a + 16 then .inl 0
  else if numOf big s (a + 4) 4 > 999999 then .inl 2
  else if cnt ≥ 2000 ∨ numOf big s (a + 8) 4 > 4096 ∨ numOf big s (a + 8) 4 > numOf big s (a + 12) 4 then .inl 3
  else if 0 < cnt ∧ timeOf big s a < last then .inl 12
  else if (s.size : Int) < a + 16 + numOf big s (a + 8) 4 then .inl 0
  else .inr ⟨timeOf big s a, numOf big s (a + 12) 4, s.extract (a + 16) (a + 16 + (numOf big s (a + 8) 4).toNat)⟩
theorem step_data {s : ByteArray} {big : Bool} {a cnt : Nat} {last : Int} {x : S33} (h : stepG s big a cnt last = .inr x) : a + 16 + x.f2.size ≤ s.size ∧ x.f2.size ≤ 4096 ∧ numOf big s (a + 8) 4 = (x.f2.size : Int) ∧ x.f0 = timeOf big s a ∧ cnt < 2000 ∧ 0 ≤ x.f0 ∧ x.f0 < 5000000000000 := by
  unfold stepG at h
  by_cases h1 : s.size < a + 16
  · rw [if_pos h1] at h; cases h
  rw [if_neg h1] at h
  by_cases h2 : numOf big s (a + 4) 4 > 999999
  · rw [if_pos h2] at h; cases h
  rw [if_neg h2] at h
  by_cases h3 : cnt ≥ 2000 ∨ numOf big s (a + 8) 4 > 4096 ∨ numOf big s (a + 8) 4 > numOf big s (a + 12) 4
  · rw [if_pos h3] at h; cases h
  rw [if_neg h3] at h
  by_cases h4 : 0 < cnt ∧ timeOf big s a < last
  · rw [if_pos h4] at h; cases h
  rw [if_neg h4] at h
  by_cases h5 : (s.size : Int) < a + 16 + numOf big s (a + 8) 4
  · rw [if_pos h5] at h; cases h
  rw [if_neg h5] at h
  obtain rfl := Sum.inr.inj h
  have n8 := num4 big s (a + 8) (by omega)
  have n0 := num4 big s a (by omega)
  have n4 := num4 big s (a + 4) (by omega)
  have e : (s.extract (a + 16) (a + 16 + (numOf big s (a + 8) 4).toNat)).size = (numOf big s (a + 8) 4).toNat := by rw [ByteArray.size_extract]; omega
  dsimp only
  rw [e]
  unfold timeOf
  refine ⟨by omega, by omega, by omega, rfl, by omega, by omega, by omega⟩
/-- All records from a on. -/
def loopG (s : ByteArray) (big : Bool) : Nat → Nat → Nat → Int → List S33 → List S33 × Int × Nat × Nat × Int
  | 0, a, cnt, last, out => (out, 0, a, cnt, last)
  | m + 1, a, cnt, last, out => match stepG s big a cnt last with
    | .inl e => (out, e, a, cnt, last)
    | .inr x => loopG s big m (a + 16 + x.f2.size) (cnt + 1) x.f0 (out ++ [x])
theorem rec_is (s : ByteArray) (lit : Bool) (a cnt : Nat) (last : Int) (ha : a ≤ s.size) (hs : s.size ≤ 1000000000) (hc : cnt ≤ 2000) (k : Nat) (hk : 20 ≤ k) :
    capture_Reader_record.f k (s.extract a s.size) (a : Int) true lit (cnt : Int) last false = match stepG s (!lit) a cnt last with
      | .inl e => some (0, 0, (⟨#[]⟩ : ByteArray), false, e, s.extract a s.size, (a : Int), true, lit, (cnt : Int), last, false)
      | .inr x => some (x.f0, x.f1, x.f2, true, 0, s.extract (a + 16 + x.f2.size) s.size, ((a + 16 + x.f2.size : Nat) : Int), true, lit, ((cnt + 1 : Nat) : Int), x.f0, false) := by
  have hz : (s.extract a s.size).size = s.size - a := by rw [ByteArray.size_extract]; omega
  unfold capture_Reader_record.f stepG
  by_cases h1 : s.size < a + 16
  · rw [if_pos (by rw [hz]; omega), if_pos h1]
  rw [if_neg (by rw [hz]; omega), if_neg h1]
  have c4 := cnum_is (s.extract a s.size) a cnt last true lit false 4 4 (by rw [hz]; omega) (by omega) (by omega) (by rw [hz]; omega) k (by omega)
  have c8 := cnum_is (s.extract a s.size) a cnt last true lit false 8 4 (by rw [hz]; omega) (by omega) (by omega) (by rw [hz]; omega) k (by omega)
  have c12 := cnum_is (s.extract a s.size) a cnt last true lit false 12 4 (by rw [hz]; omega) (by omega) (by omega) (by rw [hz]; omega) k (by omega)
  have c0 := cnum_is (s.extract a s.size) a cnt last true lit false 0 4 (by rw [hz]; omega) (by omega) (by omega) (by rw [hz]; omega) k (by omega)
  rw [num_rest (!lit) s a 4 4 (by omega)] at c4
  rw [num_rest (!lit) s a 8 4 (by omega)] at c8
  rw [num_rest (!lit) s a 12 4 (by omega)] at c12
  rw [num_rest (!lit) s a 0 4 (by omega), Nat.add_zero] at c0
  have n0 := num4 (!lit) s a (by omega)
  have n4 := num4 (!lit) s (a + 4) (by omega)
  have n8 := num4 (!lit) s (a + 8) (by omega)
  have n12 := num4 (!lit) s (a + 12) (by omega)
  have et : wrap64 (wrap64 (numOf (!lit) s a 4 * 1000) + wrap64 (Int.tdiv (numOf (!lit) s (a + 4) 4) 1000)) = timeOf (!lit) s a := by
    rw [Int.tdiv_eq_ediv_of_nonneg n4.1, w64 (n := numOf (!lit) s a 4 * 1000) (by omega) (by omega), w64 (n := numOf (!lit) s (a + 4) 4 / 1000) (by omega) (by omega), w64 (by omega) (by omega)]
    rfl
  rw [show ((4 : Nat) : Int) = 4 from rfl] at c4 c8 c12 c0
  rw [show ((8 : Nat) : Int) = 8 from rfl] at c8
  rw [show ((12 : Nat) : Int) = 12 from rfl] at c12
  rw [show ((0 : Nat) : Int) = 0 from rfl] at c0
  rw [c4]
  simp only [bs]
  rw [c8]
  simp only [bs]
  rw [c12]
  simp only [bs]
  rw [c0]
  simp only [bs]
  by_cases h2 : numOf (!lit) s (a + 4) 4 > 999999
  · rw [if_pos h2, if_pos h2]
  rw [if_neg h2, if_neg h2, et]
  obtain ⟨q, rfl⟩ : ∃ q, k = q + 2 := ⟨k - 2, by omega⟩
  have ej : (if (cnt : Int) ≥ 2000 then capture_Reader_record.j0 (q + 2) (numOf (!lit) s (a + 8) 4) true (s.extract a s.size) (a : Int) true lit (cnt : Int) last false (timeOf (!lit) s a) (numOf (!lit) s (a + 12) 4) (⟨#[]⟩ : ByteArray)
      else if numOf (!lit) s (a + 8) 4 > 4096 then capture_Reader_record.j0 (q + 2) (numOf (!lit) s (a + 8) 4) true (s.extract a s.size) (a : Int) true lit (cnt : Int) last false (timeOf (!lit) s a) (numOf (!lit) s (a + 12) 4) (⟨#[]⟩ : ByteArray)
      else capture_Reader_record.j0 (q + 2) (numOf (!lit) s (a + 8) 4) (decide (numOf (!lit) s (a + 8) 4 > numOf (!lit) s (a + 12) 4)) (s.extract a s.size) (a : Int) true lit (cnt : Int) last false (timeOf (!lit) s a) (numOf (!lit) s (a + 12) 4) (⟨#[]⟩ : ByteArray))
      = capture_Reader_record.j0 (q + 2) (numOf (!lit) s (a + 8) 4) (decide (cnt ≥ 2000 ∨ numOf (!lit) s (a + 8) 4 > 4096 ∨ numOf (!lit) s (a + 8) 4 > numOf (!lit) s (a + 12) 4)) (s.extract a s.size) (a : Int) true lit (cnt : Int) last false (timeOf (!lit) s a) (numOf (!lit) s (a + 12) 4) (⟨#[]⟩ : ByteArray) := by
    by_cases b1 : (cnt : Int) ≥ 2000
    · rw [if_pos b1, decide_eq_true (show cnt ≥ 2000 ∨ _ from .inl (by omega))]
    rw [if_neg b1]
    by_cases b2 : numOf (!lit) s (a + 8) 4 > 4096
    · rw [if_pos b2, decide_eq_true (show cnt ≥ 2000 ∨ _ from .inr (.inl b2))]
    rw [if_neg b2]
    congr 1
    apply decide_eq_decide.mpr
    omega
  rw [ej, capture_Reader_record.j0]
  by_cases h3 : cnt ≥ 2000 ∨ numOf (!lit) s (a + 8) 4 > 4096 ∨ numOf (!lit) s (a + 8) 4 > numOf (!lit) s (a + 12) 4
  · rw [if_pos (decide_eq_true h3), if_pos h3]
  rw [if_neg (by rw [decide_eq_true_iff]; exact h3), if_neg h3]
  have ek : (if (cnt : Int) > 0 then capture_Reader_record.j1 (q + 1) (numOf (!lit) s (a + 8) 4) (decide (timeOf (!lit) s a < last)) (s.extract a s.size) (a : Int) true lit (cnt : Int) last false (timeOf (!lit) s a) (numOf (!lit) s (a + 12) 4) (⟨#[]⟩ : ByteArray)
      else capture_Reader_record.j1 (q + 1) (numOf (!lit) s (a + 8) 4) false (s.extract a s.size) (a : Int) true lit (cnt : Int) last false (timeOf (!lit) s a) (numOf (!lit) s (a + 12) 4) (⟨#[]⟩ : ByteArray))
      = capture_Reader_record.j1 (q + 1) (numOf (!lit) s (a + 8) 4) (decide (0 < cnt ∧ timeOf (!lit) s a < last)) (s.extract a s.size) (a : Int) true lit (cnt : Int) last false (timeOf (!lit) s a) (numOf (!lit) s (a + 12) 4) (⟨#[]⟩ : ByteArray) := by
    by_cases b : (cnt : Int) > 0
    · rw [if_pos b]
      congr 1
      apply decide_eq_decide.mpr
      exact ⟨fun y => ⟨by omega, y⟩, fun y => y.2⟩
    · rw [if_neg b, decide_eq_false (fun y => b (by omega))]
  rw [ek, capture_Reader_record.j1]
  by_cases h4 : 0 < cnt ∧ timeOf (!lit) s a < last
  · rw [if_pos (decide_eq_true h4), if_pos h4]
  rw [if_neg (by rw [decide_eq_true_iff]; exact h4), if_neg h4, w64 (n := 16 + numOf (!lit) s (a + 8) 4) (by omega) (by omega), hz]
  by_cases h5 : (s.size : Int) < a + 16 + numOf (!lit) s (a + 8) 4
  · rw [if_pos (by omega), if_pos h5]
  rw [if_neg (by omega), if_neg h5, if_pos (by omega), if_pos (by omega)]
  unfold capture_Reader_skip.f
  rw [if_pos (by omega), if_pos (by rw [hz]; omega)]
  simp only [bs]
  have e1 : (s.extract a s.size).extract (16 + numOf (!lit) s (a + 8) 4).toNat (s.extract a s.size).size = s.extract (a + 16 + (s.extract (a + 16) (a + 16 + (numOf (!lit) s (a + 8) 4).toNat)).size) s.size := by
    rw [hz, ByteArray.size_extract, ByteArray.extract_extract]
    congr 1 <;> omega
  have e2 : (s.extract a s.size).extract 16 (16 + numOf (!lit) s (a + 8) 4).toNat = s.extract (a + 16) (a + 16 + (numOf (!lit) s (a + 8) 4).toNat) := by
    rw [ByteArray.extract_extract]
    congr 1 <;> omega
  have e3 : wrap64 ((a : Int) + (16 + numOf (!lit) s (a + 8) 4)) = ((a + 16 + (s.extract (a + 16) (a + 16 + (numOf (!lit) s (a + 8) 4).toNat)).size : Nat) : Int) := by
    rw [ByteArray.size_extract, w64 (by omega) (by omega)]
    omega
  rw [e1, e2, e3, w64 (n := (cnt : Int) + 1) (by omega) (by omega)]
  rfl
theorem feed_loop (s : ByteArray) (lit : Bool) (hs : s.size ≤ 1000000000) : ∀ (m a cnt k : Nat) (last : Int) (out : List S33), a ≤ s.size → s.size + 16 ≤ a + 16 * m → cnt ≤ 2000 → out.length ≤ cnt → 30 ≤ k →
    capture_Reader_Feed.l0 (k + m) (s.extract a s.size) (a : Int) true lit (cnt : Int) last false out = some ((loopG s (!lit) m a cnt last out).1, (loopG s (!lit) m a cnt last out).2.1, s.extract (loopG s (!lit) m a cnt last out).2.2.1 s.size, ((loopG s (!lit) m a cnt last out).2.2.1 : Int), true, lit, ((loopG s (!lit) m a cnt last out).2.2.2.1 : Int), (loopG s (!lit) m a cnt last out).2.2.2.2, ((loopG s (!lit) m a cnt last out).2.1 != 0))
  | 0, a, cnt, k, last, out, ha, hm, hc, ho, hk => by omega
  | m + 1, a, cnt, k, last, out, ha, hm, hc, ho, hk => by
    rw [show k + (m + 1) = (k + m) + 1 by omega, capture_Reader_Feed.l0, rec_is s lit a cnt last ha hs hc (k + m) (by omega), loopG]
    cases hg : stepG s (!lit) a cnt last with
    | inl e =>
      simp only [bs]
      rw [if_neg (by decide)]
    | inr x =>
      have hd := step_data hg
      simp only [bs]
      rw [if_pos trivial, if_pos (by omega)]
      exact feed_loop s lit hs m (a + 16 + x.f2.size) (cnt + 1) k x.f0 (out ++ [x]) (by omega) (by omega) (by omega) (by rw [List.length_append, List.length_singleton]; omega) hk
theorem valBE_take (l : List Int) (i : Nat) (h : i < l.length) : valBE (l.take (i + 1)) = valBE (l.take i) * 256 + l[i] := by
  rw [List.take_succ_eq_append_getElem h]
  unfold valBE
  rw [List.foldl_append]
  rfl
theorem dig_at (big : Bool) (s : ByteArray) (p z i : Nat) (h : p + z ≤ s.size) (hi : i < z) : (dig big s p z)[i]'(by rw [dig_length big s p z h]; exact hi) = bt s ((if big = true then p + i else p + (z - 1 - i) : Nat) : Int) := by
  have hb := bytesOf_length s
  cases big with
  | true =>
    rw [bt_eq, if_pos rfl, List.getD_eq_getElem?_getD, List.getElem?_eq_getElem (by omega)]
    unfold dig
    simp [List.getElem_take, List.getElem_drop]
  | false =>
    rw [bt_eq, if_neg (by decide), List.getD_eq_getElem?_getD, List.getElem?_eq_getElem (by omega)]
    unfold dig
    simp only [Bool.false_eq_true, if_false]
    rw [List.getElem_reverse]
    simp only [List.getElem_take, List.getElem_drop, List.length_take, List.length_drop, hb, Option.getD_some]
    congr 1
    omega
theorem rnum_loop (big : Bool) (s : ByteArray) (p z : Nat) (h : p + z ≤ s.size) (h4 : z ≤ 4) (hs : s.size ≤ 1000000000) : ∀ (m i k : Nat), i + m = z →
    intrusionref09_number.l0 (k + m + 1) s (p : Int) (z : Int) big (valBE ((dig big s p z).take i)) (i : Int) = some (numOf big s p z)
  | 0, i, k, hi => by
    rw [intrusionref09_number.l0, if_neg (by omega), List.take_of_length_le (by rw [dig_length big s p z h]; omega)]
    rfl
  | m + 1, i, k, hi => by
    have hl := dig_length big s p z h
    have hd := dig_at big s p z i h (by omega)
    have ht := valBE_take (dig big s p z) i (by omega)
    have hr := valBE_range ((dig big s p z).take i) (fun x hx => dig_range big s p z x (List.mem_of_mem_take hx))
    rw [List.length_take, hl, Nat.min_eq_left (by omega)] at hr
    have hp : ∀ j : Nat, j ≤ 3 → (256 : Int) ^ j ≤ 16777216 := by
      intro j hj
      rcases (show j = 0 ∨ j = 1 ∨ j = 2 ∨ j = 3 by omega) with rfl | rfl | rfl | rfl <;> decide
    have hp := hp i (by omega)
    have ih := rnum_loop big s p z h h4 hs m (i + 1) k (by omega)
    rw [ht, hd] at ih
    rw [show k + (m + 1) + 1 = (k + m + 1) + 1 by omega, intrusionref09_number.l0, if_pos (by omega)]
    have key : ∀ q : Nat, (dig big s p z)[i]'(by omega) = bt s (q : Int) → Go.bits .or .i64 (wrap64 (valBE ((dig big s p z).take i) * 256)) (wrap64 (bt s (q : Int))) = valBE ((dig big s p z).take i) * 256 + bt s (q : Int) := by
      intro q hq
      have hb := bt_range s (q : Int)
      rw [w64 (n := valBE ((dig big s p z).take i) * 256) (by omega) (by omega), w64 (n := bt s (q : Int)) (by omega) (by omega)]
      exact or8 _ _ (by omega) (by omega) (by omega) (by omega) (by omega)
    cases big with
    | true =>
      rw [if_pos rfl] at hd ih
      rw [if_pos rfl, w64 (n := (p : Int) + (i : Int)) (by omega) (by omega), show (p : Int) + (i : Int) = ((p + i : Nat) : Int) by omega, if_pos (by omega), if_pos (by omega), key _ hd, w64 (n := (i : Int) + 1) (by omega) (by omega), show (i : Int) + 1 = ((i + 1 : Nat) : Int) by omega]
      exact ih
    | false =>
      rw [if_neg (by decide)] at hd ih
      rw [if_neg (by decide), w64 (n := (p : Int) + (z : Int)) (by omega) (by omega), w64 (n := (p : Int) + (z : Int) - 1) (by omega) (by omega), w64 (n := (p : Int) + (z : Int) - 1 - (i : Int)) (by omega) (by omega), show (p : Int) + (z : Int) - 1 - (i : Int) = ((p + (z - 1 - i) : Nat) : Int) by omega, if_pos (by omega), if_pos (by omega), key _ hd, w64 (n := (i : Int) + 1) (by omega) (by omega), show (i : Int) + 1 = ((i + 1 : Nat) : Int) by omega]
      exact ih
theorem rnum_is (big : Bool) (s : ByteArray) (p z : Nat) (h : p + z ≤ s.size) (h4 : z ≤ 4) (hs : s.size ≤ 1000000000) (k : Nat) (hk : 8 ≤ k) : intrusionref09_number.f k s (p : Int) (z : Int) big = some (numOf big s p z) := by
  have := rnum_loop big s p z h h4 hs z 0 (k - z - 1) (by omega)
  rw [show k - z - 1 + z + 1 = k by omega] at this
  exact this
theorem check_is (s : ByteArray) (big : Bool) (a cnt : Nat) (last : Int) (ha : a + 16 ≤ s.size) (hs : s.size ≤ 1000000000) (hc : cnt ≤ 2000) (k : Nat) (hk : 20 ≤ k) :
    intrusionref09_Reader_check.f k s (a : Int) true big (cnt : Int) last false =
      if numOf big s (a + 4) 4 > 999999 then some ([], 2, s, (a : Int), true, big, (cnt : Int), last, false)
      else if cnt ≥ 2000 ∨ numOf big s (a + 8) 4 > 4096 ∨ numOf big s (a + 8) 4 > numOf big s (a + 12) 4 then some ([], 3, s, (a : Int), true, big, (cnt : Int), last, false)
      else if 0 < cnt ∧ timeOf big s a < last then some ([], 12, s, (a : Int), true, big, (cnt : Int), last, false)
      else some ([timeOf big s a, numOf big s (a + 8) 4, numOf big s (a + 12) 4], 0, s, (a : Int), true, big, (cnt : Int), last, false) := by
  have n0 := num4 big s a (by omega)
  have n4 := num4 big s (a + 4) (by omega)
  have n8 := num4 big s (a + 8) (by omega)
  have n12 := num4 big s (a + 12) (by omega)
  have c0 := rnum_is big s a 4 (by omega) (by omega) hs k (by omega)
  have c4 := rnum_is big s (a + 4) 4 (by omega) (by omega) hs k (by omega)
  have c8 := rnum_is big s (a + 8) 4 (by omega) (by omega) hs k (by omega)
  have c12 := rnum_is big s (a + 12) 4 (by omega) (by omega) hs k (by omega)
  rw [show ((4 : Nat) : Int) = 4 from rfl] at c0 c4 c8 c12
  have et : wrap64 (wrap64 (numOf big s a 4 * 1000) + wrap64 (Int.tdiv (numOf big s (a + 4) 4) 1000)) = timeOf big s a := by
    rw [Int.tdiv_eq_ediv_of_nonneg n4.1, w64 (n := numOf big s a 4 * 1000) (by omega) (by omega), w64 (n := numOf big s (a + 4) 4 / 1000) (by omega) (by omega), w64 (by omega) (by omega)]
    rfl
  unfold intrusionref09_Reader_check.f
  rw [w64 (n := (a : Int) + 4) (by omega) (by omega), w64 (n := (a : Int) + 8) (by omega) (by omega), w64 (n := (a : Int) + 12) (by omega) (by omega), show (a : Int) + 4 = ((a + 4 : Nat) : Int) by omega, show (a : Int) + 8 = ((a + 8 : Nat) : Int) by omega, show (a : Int) + 12 = ((a + 12 : Nat) : Int) by omega, c0]
  simp only [bs]
  rw [c4]
  simp only [bs]
  rw [c8]
  simp only [bs]
  rw [c12]
  simp only [bs]
  by_cases h2 : numOf big s (a + 4) 4 > 999999
  · rw [if_pos h2, if_pos h2]
  rw [if_neg h2, if_neg h2, et]
  obtain ⟨q, rfl⟩ : ∃ q, k = q + 1 := ⟨k - 1, by omega⟩
  have ej : (if (cnt : Int) = 2000 then intrusionref09_Reader_check.j0 (q + 1) (numOf big s (a + 8) 4) (numOf big s (a + 12) 4) (timeOf big s a) true s (a : Int) true big (cnt : Int) last false
      else if numOf big s (a + 8) 4 > 4096 then intrusionref09_Reader_check.j0 (q + 1) (numOf big s (a + 8) 4) (numOf big s (a + 12) 4) (timeOf big s a) true s (a : Int) true big (cnt : Int) last false
      else intrusionref09_Reader_check.j0 (q + 1) (numOf big s (a + 8) 4) (numOf big s (a + 12) 4) (timeOf big s a) (decide (numOf big s (a + 8) 4 > numOf big s (a + 12) 4)) s (a : Int) true big (cnt : Int) last false)
      = intrusionref09_Reader_check.j0 (q + 1) (numOf big s (a + 8) 4) (numOf big s (a + 12) 4) (timeOf big s a) (decide (cnt ≥ 2000 ∨ numOf big s (a + 8) 4 > 4096 ∨ numOf big s (a + 8) 4 > numOf big s (a + 12) 4)) s (a : Int) true big (cnt : Int) last false := by
    by_cases b1 : (cnt : Int) = 2000
    · rw [if_pos b1, decide_eq_true (show cnt ≥ 2000 ∨ _ from .inl (by omega))]
    rw [if_neg b1]
    by_cases b2 : numOf big s (a + 8) 4 > 4096
    · rw [if_pos b2, decide_eq_true (show cnt ≥ 2000 ∨ _ from .inr (.inl b2))]
    rw [if_neg b2]
    congr 1
    apply decide_eq_decide.mpr
    omega
  rw [ej, intrusionref09_Reader_check.j0]
  by_cases h3 : cnt ≥ 2000 ∨ numOf big s (a + 8) 4 > 4096 ∨ numOf big s (a + 8) 4 > numOf big s (a + 12) 4
  · rw [if_pos (decide_eq_true h3), if_pos h3]
  rw [if_neg (by rw [decide_eq_true_iff]; exact h3), if_neg h3]
  by_cases b : (cnt : Int) > 0
  · rw [if_pos b]
    by_cases d : timeOf big s a < last
    · rw [if_pos d, if_pos ⟨by omega, d⟩]
    · rw [if_neg d, if_neg (fun y => d y.2)]
  · rw [if_neg b, if_neg (fun y => b (by omega))]
theorem rfeed_loop (s : ByteArray) (big : Bool) (hs : s.size ≤ 1000000000) : ∀ (m a cnt k : Nat) (last : Int) (out : List S33), a ≤ s.size → s.size + 16 ≤ a + 16 * m → cnt ≤ 2000 → out.length ≤ cnt → 30 ≤ k →
    intrusionref09_Reader_Feed.l0 (k + m) out s (a : Int) true big (cnt : Int) last false = some ((loopG s big m a cnt last out).1, (loopG s big m a cnt last out).2.1, s, ((loopG s big m a cnt last out).2.2.1 : Int), true, big, ((loopG s big m a cnt last out).2.2.2.1 : Int), (loopG s big m a cnt last out).2.2.2.2, ((loopG s big m a cnt last out).2.1 != 0))
  | 0, a, cnt, k, last, out, ha, hm, hc, ho, hk => by omega
  | m + 1, a, cnt, k, last, out, ha, hm, hc, ho, hk => by
    rw [show k + (m + 1) = (k + m) + 1 by omega, intrusionref09_Reader_Feed.l0, w64 (n := (s.size : Int) - (a : Int)) (by omega) (by omega), loopG]
    by_cases h1 : s.size < a + 16
    · have e : stepG s big a cnt last = .inl 0 := by unfold stepG; rw [if_pos h1]
      rw [if_neg (by omega), e]
      rfl
    rw [if_pos (by omega), check_is s big a cnt last (by omega) hs hc (k + m) (by omega)]
    by_cases h2 : numOf big s (a + 4) 4 > 999999
    · have e : stepG s big a cnt last = .inl 2 := by unfold stepG; rw [if_neg h1, if_pos h2]
      rw [if_pos h2, e]
      simp only [bs]
      rw [if_neg (by decide)]
      rfl
    rw [if_neg h2]
    by_cases h3 : cnt ≥ 2000 ∨ numOf big s (a + 8) 4 > 4096 ∨ numOf big s (a + 8) 4 > numOf big s (a + 12) 4
    · have e : stepG s big a cnt last = .inl 3 := by unfold stepG; rw [if_neg h1, if_neg h2, if_pos h3]
      rw [if_pos h3, e]
      simp only [bs]
      rw [if_neg (by decide)]
      rfl
    rw [if_neg h3]
    by_cases h4 : 0 < cnt ∧ timeOf big s a < last
    · have e : stepG s big a cnt last = .inl 12 := by unfold stepG; rw [if_neg h1, if_neg h2, if_neg h3, if_pos h4]
      rw [if_pos h4, e]
      simp only [bs]
      rw [if_neg (by decide)]
      rfl
    rw [if_neg h4]
    have n8 := num4 big s (a + 8) (by omega)
    have r0 : ∀ x y z : Int, rd [x, y, z] 0 = x := fun _ _ _ => rfl
    have r1 : ∀ x y z : Int, rd [x, y, z] 1 = y := fun _ _ _ => rfl
    have r2 : ∀ x y z : Int, rd [x, y, z] 2 = z := fun _ _ _ => rfl
    simp only [bs]
    rw [if_pos trivial, if_pos (by simp), r1, r0, r2, w64 (n := (a : Int) + 16) (by omega) (by omega), w64 (n := (a : Int) + 16 + numOf big s (a + 8) 4) (by omega) (by omega)]
    by_cases h5 : (s.size : Int) < a + 16 + numOf big s (a + 8) 4
    · have e : stepG s big a cnt last = .inl 0 := by unfold stepG; rw [if_neg h1, if_neg h2, if_neg h3, if_neg h4, if_pos h5]
      rw [if_pos (by omega), e]
      rfl
    have e : stepG s big a cnt last = .inr ⟨timeOf big s a, numOf big s (a + 12) 4, s.extract (a + 16) (a + 16 + (numOf big s (a + 8) 4).toNat)⟩ := by unfold stepG; rw [if_neg h1, if_neg h2, if_neg h3, if_neg h4, if_neg h5]
    have hd := step_data e
    dsimp only at hd
    rw [if_neg (by omega), if_pos (by simp), if_pos (by simp), if_pos (by omega), if_pos (by omega), if_pos (by omega), if_pos (by omega), e]
    have x1 : ((a : Int) + 16).toNat = a + 16 := by omega
    have x2 : ((a : Int) + 16 + numOf big s (a + 8) 4).toNat = a + 16 + (numOf big s (a + 8) 4).toNat := by omega
    have x3 : (a : Int) + 16 + numOf big s (a + 8) 4 = ((a + 16 + (s.extract (a + 16) (a + 16 + (numOf big s (a + 8) 4).toNat)).size : Nat) : Int) := by omega
    rw [x1, x2, x3, w64 (n := (cnt : Int) + 1) (by omega) (by omega), show (cnt : Int) + 1 = ((cnt + 1 : Nat) : Int) by omega]
    exact rfeed_loop s big hs m _ (cnt + 1) k (timeOf big s a) _ (by omega) (by omega) (by omega) (by rw [List.length_append, List.length_singleton]; omega) hk
/-! ### CapF -/

theorem dig_true (s : ByteArray) (h : 4 ≤ s.size) (v : Int) (hv : numOf true s 0 4 = v) : dig true s 0 4 = beN 4 v := by
  have e := beN_valBE (dig true s 0 4) (dig_range true s 0 4)
  rw [dig_length true s 0 4 (by omega)] at e
  rw [← hv]
  exact e.symm
theorem dig_rev (s : ByteArray) : dig false s 0 4 = (dig true s 0 4).reverse := by
  unfold dig
  rw [if_neg (by decide), if_pos rfl]
theorem magic_iff (s : ByteArray) (h : 4 ≤ s.size) : numOf true s 0 4 = 3569595041 ↔ numOf false s 0 4 = 2712847316 := by
  constructor
  · intro hv
    have e := dig_true s h _ hv
    unfold numOf
    rw [dig_rev, e]
    decide +kernel
  · intro hv
    have e := beN_valBE (dig false s 0 4) (dig_range false s 0 4)
    rw [dig_length false s 0 4 (by omega)] at e
    have hv2 : valBE (dig false s 0 4) = 2712847316 := hv
    rw [hv2] at e
    have e2 : dig true s 0 4 = (beN 4 2712847316).reverse := by rw [e, dig_rev, List.reverse_reverse]
    unfold numOf
    rw [e2]
    decide +kernel
def goodH (big : Bool) (s : ByteArray) : Prop := numOf big s 4 2 = 2 ∧ numOf big s 6 2 = 4 ∧ numOf big s 20 4 = 1
instance (big : Bool) (s : ByteArray) : Decidable (goodH big s) := by unfold goodH; infer_instance
/-- The order of the bytes that a header tells, if it is one. -/
def headG (s : ByteArray) : Option Bool := if numOf true s 0 4 = 2712847316 then (if goodH true s then some true else none) else if numOf false s 0 4 = 2712847316 then (if goodH false s then some false else none) else none
theorem chj_is (s : ByteArray) (lit : Bool) (h : 24 ≤ s.size) (hs : s.size ≤ 1000000000) (k : Nat) (hk : 20 ≤ k) :
    capture_Reader_header.j0 (k + 1) s 0 false lit 0 0 false = if numOf (!lit) s 0 4 = 2712847316 ∧ goodH (!lit) s then some (true, 0, s.extract 24 s.size, 24, true, lit, 0, 0, false) else some (false, 2, s, 0, false, lit, 0, 0, false) := by
  have c0 := cnum_is s 0 0 0 false lit false 0 4 (by omega) (by omega) (by omega) hs k (by omega)
  have c4 := cnum_is s 0 0 0 false lit false 4 2 (by omega) (by omega) (by omega) hs k (by omega)
  have c6 := cnum_is s 0 0 0 false lit false 6 2 (by omega) (by omega) (by omega) hs k (by omega)
  have c20 := cnum_is s 0 0 0 false lit false 20 4 (by omega) (by omega) (by omega) hs k (by omega)
  rw [show ((4 : Nat) : Int) = 4 from rfl] at c0 c4 c20
  rw [show ((0 : Nat) : Int) = 0 from rfl] at c0
  rw [show ((2 : Nat) : Int) = 2 from rfl] at c4 c6
  rw [show ((6 : Nat) : Int) = 6 from rfl] at c6
  rw [show ((20 : Nat) : Int) = 20 from rfl] at c20
  rw [capture_Reader_header.j0, c0]
  simp only [bs]
  by_cases h0 : numOf (!lit) s 0 4 = 2712847316
  case neg => rw [if_neg h0, if_neg (fun y => h0 y.1)]
  rw [if_pos h0, c4]
  simp only [bs]
  by_cases h4 : numOf (!lit) s 4 2 = 2
  case neg => rw [if_neg h4, if_neg (fun y => h4 (show numOf (!lit) s 4 2 = 2 from y.2.1))]
  rw [if_pos h4, c6]
  simp only [bs]
  by_cases h6 : numOf (!lit) s 6 2 = 4
  case neg => rw [if_neg h6, if_neg (fun y => h6 (show numOf (!lit) s 6 2 = 4 from y.2.2.1))]
  rw [if_pos h6, c20]
  simp only [bs]
  by_cases h20 : numOf (!lit) s 20 4 = 1
  case neg => rw [if_neg h20, if_neg (fun y => h20 (show numOf (!lit) s 20 4 = 1 from y.2.2.2))]
  rw [if_pos h20, if_pos ⟨h0, h4, h6, h20⟩]
  unfold capture_Reader_skip.f
  rw [if_pos (by omega), if_pos (by omega)]
  simp only [bs]
  rw [show wrap64 ((0 : Int) + 24) = 24 by decide +kernel]
  rfl
theorem header_is (s : ByteArray) (h : 24 ≤ s.size) (hs : s.size ≤ 1000000000) (k : Nat) (hk : 30 ≤ k) :
    ∃ lit, capture_Reader_header.f k s 0 false false 0 0 false = match headG s with
      | some big => some (true, 0, s.extract 24 s.size, 24, true, !big, 0, 0, false)
      | none => some (false, 2, s, 0, false, lit, 0, 0, false) := by
  obtain ⟨q, rfl⟩ : ∃ q, k = q + 1 := ⟨k - 1, by omega⟩
  have c0 := cnum_is s 0 0 0 false false false 0 4 (by omega) (by omega) (by omega) hs (q + 1) (by omega)
  rw [show ((4 : Nat) : Int) = 4 from rfl, show ((0 : Nat) : Int) = 0 from rfl] at c0
  unfold capture_Reader_header.f headG
  rw [if_neg (by omega), c0]
  simp only [bs]
  by_cases h0 : numOf true s 0 4 = 2712847316
  · refine ⟨false, ?_⟩
    rw [if_pos h0, if_pos (show numOf (!false) s 0 4 = 2712847316 from h0), chj_is s false h hs q (by omega)]
    by_cases g : goodH true s
    · rw [if_pos g, if_pos ⟨h0, g⟩]; rfl
    · rw [if_neg g, if_neg (fun y => g y.2)]
  · refine ⟨true, ?_⟩
    rw [if_neg h0, if_neg (show ¬ numOf (!false) s 0 4 = 2712847316 from h0), chj_is s true h hs q (by omega)]
    by_cases h1 : numOf false s 0 4 = 2712847316
    · rw [if_pos h1]
      by_cases g : goodH false s
      · rw [if_pos g, if_pos ⟨h1, g⟩]; rfl
      · rw [if_neg g, if_neg (fun y => g y.2)]
    · rw [if_neg h1, if_neg (fun y => h1 y.1)]
theorem rhj_is (s : ByteArray) (big : Bool) (h : 24 ≤ s.size) (hs : s.size ≤ 1000000000) (k : Nat) (hk : 20 ≤ k) :
    intrusionref09_Reader_head.j0 (k + 1) s 0 false big 0 0 false = if goodH big s then some (0, s, 24, true, big, 0, 0, false) else some (2, s, 0, false, big, 0, 0, false) := by
  have c4 := rnum_is big s 4 2 (by omega) (by omega) hs k (by omega)
  have c6 := rnum_is big s 6 2 (by omega) (by omega) hs k (by omega)
  have c20 := rnum_is big s 20 4 (by omega) (by omega) hs k (by omega)
  rw [show ((4 : Nat) : Int) = 4 from rfl] at c4 c20
  rw [show ((2 : Nat) : Int) = 2 from rfl] at c4 c6
  rw [show ((6 : Nat) : Int) = 6 from rfl] at c6
  rw [show ((20 : Nat) : Int) = 20 from rfl] at c20
  rw [intrusionref09_Reader_head.j0, c4]
  simp only [bs]
  by_cases h4 : numOf big s 4 2 = 2
  case neg => rw [if_neg h4, if_neg (fun y : goodH big s => h4 y.1)]
  rw [if_pos h4, c6]
  simp only [bs]
  by_cases h6 : numOf big s 6 2 = 4
  case neg => rw [if_neg h6, if_neg (fun y : goodH big s => h6 y.2.1)]
  rw [if_pos h6, c20]
  simp only [bs]
  by_cases h20 : numOf big s 20 4 = 1
  case neg => rw [if_neg h20, if_neg (fun y : goodH big s => h20 y.2.2)]
  rw [if_pos h20, if_pos (show goodH big s from ⟨h4, h6, h20⟩)]
theorem head_is (s : ByteArray) (h : 24 ≤ s.size) (hs : s.size ≤ 1000000000) (k : Nat) (hk : 30 ≤ k) :
    ∃ big', intrusionref09_Reader_head.f k s 0 false false 0 0 false = match headG s with
      | some big => some (0, s, 24, true, big, 0, 0, false)
      | none => some (2, s, 0, false, big', 0, 0, false) := by
  obtain ⟨q, rfl⟩ : ∃ q, k = q + 1 := ⟨k - 1, by omega⟩
  have c0 := rnum_is true s 0 4 (by omega) (by omega) hs (q + 1) (by omega)
  rw [show ((4 : Nat) : Int) = 4 from rfl, show ((0 : Nat) : Int) = 0 from rfl] at c0
  unfold intrusionref09_Reader_head.f headG
  rw [c0]
  simp only [bs]
  by_cases h0 : numOf true s 0 4 = 2712847316
  · refine ⟨true, ?_⟩
    rw [if_pos h0, if_pos h0, rhj_is s true h hs q (by omega)]
    by_cases g : goodH true s
    · rw [if_pos g, if_pos g]
    · rw [if_neg g, if_neg g]
  · refine ⟨false, ?_⟩
    rw [if_neg h0, if_neg h0]
    by_cases h1 : numOf false s 0 4 = 2712847316
    · rw [if_pos ((magic_iff s (by omega)).mpr h1), if_pos h1, rhj_is s false h hs q (by omega)]
      by_cases g : goodH false s
      · rw [if_pos g, if_pos g]
      · rw [if_neg g, if_neg g]
    · rw [if_neg (fun y => h1 ((magic_iff s (by omega)).mp y)), if_neg h1]
/-- The program's reader (left) and the document's. -/
inductive RS : ByteArray → Int → Bool → Bool → Int → Int → Bool → ByteArray → Int → Bool → Bool → Int → Int → Bool → Prop
  | new (S : ByteArray) : RS S 0 false false 0 0 false S 0 false false 0 0 false
  | run (S : ByteArray) (big : Bool) (a cnt : Nat) (last : Int) (ha : a ≤ S.size) (hc : cnt ≤ 2000) : RS (S.extract a S.size) a true (!big) cnt last false S a true big cnt last false
  | over (S T : ByteArray) (a : Int) (b1 b2 b3 b4 : Bool) (i1 i2 i3 i4 : Int) : RS S a b1 b2 i1 i2 true T a b3 b4 i3 i4 true
theorem loop_inv (s : ByteArray) (big : Bool) : ∀ (m a cnt : Nat) (last : Int) (out : List S33), a ≤ s.size → cnt ≤ 2000 → (loopG s big m a cnt last out).2.2.1 ≤ s.size ∧ (loopG s big m a cnt last out).2.2.2.1 ≤ 2000 ∧ (loopG s big m a cnt last out).1.length ≤ out.length + (2000 - cnt)
  | 0, a, cnt, last, out, ha, hc => ⟨ha, hc, by show out.length ≤ _; omega⟩
  | m + 1, a, cnt, last, out, ha, hc => by
    rw [loopG]
    cases hg : stepG s big a cnt last with
    | inl e => exact ⟨ha, hc, by show out.length ≤ _; omega⟩
    | inr x =>
      have hd := step_data hg
      have := loop_inv s big m (a + 16 + x.f2.size) (cnt + 1) x.f0 (out ++ [x]) (by omega) (by omega)
      rw [List.length_append, List.length_singleton] at this
      exact ⟨this.1, this.2.1, Nat.le_trans this.2.2 (by omega)⟩
theorem rest_app (S t : ByteArray) (a : Nat) (h : a ≤ S.size) : S.extract a S.size ++ t = (S ++ t).extract a (S ++ t).size := by
  have hb := bytesOf_length S
  have hc := bytesOf_length t
  apply bytesOf_inj
  rw [bytesOf_append, bytesOf_extract, bytesOf_extract, bytesOf_append, List.take_of_length_le (by rw [List.length_drop]; omega), List.take_of_length_le (by rw [List.length_drop, List.length_append, size_append]; omega), List.drop_append_of_le_length (by omega)]
theorem run_feed (s : ByteArray) (big : Bool) (a cnt : Nat) (last : Int) (ha : a ≤ s.size) (hs : s.size ≤ 100000) (hc : cnt ≤ 2000) (k : Nat) (hk : 10000 ≤ k) :
    ∃ out e x0 x1 x3 x4 x5 x6 y0 y1 y3 y4 y5 y6, capture_Reader_Feed.l0 k (s.extract a s.size) (a : Int) true (!big) (cnt : Int) last false [] = some (out, e, x0, x1, true, x3, x4, x5, x6) ∧ intrusionref09_Reader_Feed.l0 k [] s (a : Int) true big (cnt : Int) last false = some (out, e, y0, y1, true, y3, y4, y5, y6) ∧
      RS x0 x1 true x3 x4 x5 x6 y0 y1 true y3 y4 y5 y6 ∧ y0.size ≤ s.size ∧ (e = 0 → x6 = false) ∧ (e ≠ 0 → x6 = true) ∧ out.length ≤ 2000 := by
  have h1 := feed_loop s (!big) (by omega) 7000 a cnt (k - 7000) last [] ha (by omega) hc (by simp) (by omega)
  have h2 := rfeed_loop s big (by omega) 7000 a cnt (k - 7000) last [] ha (by omega) hc (by simp) (by omega)
  rw [show k - 7000 + 7000 = k by omega] at h1 h2
  rw [Bool.not_not] at h1
  obtain ⟨v1, v2, v3⟩ := loop_inv s big 7000 a cnt last [] ha hc
  generalize loopG s big 7000 a cnt last [] = q at h1 h2 v1 v2 v3
  obtain ⟨out, e, a', cnt', last'⟩ := q
  dsimp only at h1 h2 v1 v2 v3
  refine ⟨out, e, _, _, _, _, _, _, _, _, _, _, _, _, h1, h2, ?_, Nat.le_refl _, ?_, ?_, by simp at v3; omega⟩
  · by_cases z : e = 0
    · rw [show (e != 0) = false by simp [z]]
      exact RS.run s big a' cnt' last' v1 v2
    · rw [show (e != 0) = true by simp [z]]
      exact RS.over _ _ _ _ _ _ _ _ _ _ _
  · intro z; simp [z]
  · intro z; simp [z]
theorem feed_both {x0 : ByteArray} {x1 : Int} {x2 x3 : Bool} {x4 x5 : Int} {x6 : Bool} {y0 : ByteArray} {y1 : Int} {y2 y3 : Bool} {y4 y5 : Int} {y6 : Bool} (h : RS x0 x1 x2 x3 x4 x5 x6 y0 y1 y2 y3 y4 y5 y6) (t : ByteArray) (hs : y0.size + t.size ≤ 100000) (k : Nat) (hk : 20000 ≤ k) :
    ∃ out e u0 u1 u2 u3 u4 u5 u6 v0 v1 v2 v3 v4 v5 v6, capture_Reader_Feed.f k x0 x1 x2 x3 x4 x5 x6 t = some (out, e, u0, u1, u2, u3, u4, u5, u6) ∧ intrusionref09_Reader_Feed.f k y0 y1 y2 y3 y4 y5 y6 t = some (out, e, v0, v1, v2, v3, v4, v5, v6) ∧
      RS u0 u1 u2 u3 u4 u5 u6 v0 v1 v2 v3 v4 v5 v6 ∧ v0.size ≤ y0.size + t.size ∧ (e = 0 → u6 = false) ∧ (e ≠ 0 → u6 = true) ∧ out.length ≤ 2000 ∧ (x6 = true → out = [] ∧ e = 10) := by
  obtain ⟨q, rfl⟩ : ∃ q, k = q + 1 := ⟨k - 1, by omega⟩
  have hsz : ∀ S : ByteArray, (S ++ t).size = S.size + t.size := fun S => size_append S t
  cases h with
  | over S T a b1 b2 b3 b4 i1 i2 i3 i4 =>
    refine ⟨[], 10, x0, x1, x2, x3, x4, x5, true, y0, x1, y2, y3, y4, y5, true, ?_, ?_, RS.over _ _ _ _ _ _ _ _ _ _ _, by omega, by decide, by decide, by simp, by simp⟩
    · unfold capture_Reader_Feed.f; rw [if_pos rfl]
    · unfold intrusionref09_Reader_Feed.f; rw [if_pos rfl]
  | new S =>
    unfold capture_Reader_Feed.f intrusionref09_Reader_Feed.f
    rw [if_neg (show ¬ (false = true) by decide), if_neg (show ¬ (false = true) by decide), if_pos (show x0.size + t.size ≤ 9223372036854775807 by omega), if_pos (show x0.size + t.size ≤ 9223372036854775807 by omega), if_neg (show ¬ (false = true) by decide), if_neg (show ¬ (false = true) by decide)]
    by_cases c : (x0 ++ t).size < 24
    · rw [if_pos (by omega)]
      unfold capture_Reader_header.f
      rw [if_pos (by omega)]
      simp only [bs]
      rw [if_neg (by decide)]
      exact ⟨[], 0, _, _, _, _, _, _, _, _, _, _, _, _, _, _, rfl, rfl, RS.new _, by rw [hsz]; omega, by decide, by decide, by simp, by simp⟩
    · rw [if_neg (by omega)]
      obtain ⟨lit, h1⟩ := header_is (x0 ++ t) (by omega) (by rw [hsz]; omega) (q + 1) (by omega)
      obtain ⟨big', h2⟩ := head_is (x0 ++ t) (by omega) (by rw [hsz]; omega) (q + 1) (by omega)
      rw [h1, h2]
      cases hg : headG (x0 ++ t) with
      | none =>
        simp only [bs]
        rw [if_neg (by decide), if_neg (by decide)]
        exact ⟨[], 2, _, _, _, _, _, _, _, _, _, _, _, _, _, _, rfl, rfl, RS.over _ _ _ _ _ _ _ _ _ _ _, by rw [hsz]; omega, by decide, by decide, by simp, by simp⟩
      | some big =>
        simp only [bs]
        rw [if_pos trivial, if_pos trivial, capture_Reader_Feed.j0, intrusionref09_Reader_Feed.j0]
        obtain ⟨out, e, u0, u1, u3, u4, u5, u6, v0, v1, v3, v4, v5, v6, g1, g2, g3, g4, g5, g6, g7⟩ := run_feed (x0 ++ t) big 24 0 0 (by omega) (by rw [hsz]; omega) (by omega) q (by omega)
        exact ⟨out, e, u0, u1, true, u3, u4, u5, u6, v0, v1, true, v3, v4, v5, v6, g1, g2, g3, by rw [hsz] at g4; omega, g5, g6, g7, by simp⟩
  | run S big a cnt last ha hc =>
    unfold capture_Reader_Feed.f intrusionref09_Reader_Feed.f
    rw [if_neg (show ¬ (false = true) by decide), if_neg (show ¬ (false = true) by decide), if_pos (show (y0.extract a y0.size).size + t.size ≤ 9223372036854775807 by rw [ByteArray.size_extract]; omega), if_pos (show y0.size + t.size ≤ 9223372036854775807 by omega), if_pos rfl, if_pos rfl, capture_Reader_Feed.j0, intrusionref09_Reader_Feed.j0, rest_app y0 t a ha]
    obtain ⟨out, e, u0, u1, u3, u4, u5, u6, v0, v1, v3, v4, v5, v6, g1, g2, g3, g4, g5, g6, g7⟩ := run_feed (y0 ++ t) y3 a cnt x5 (by rw [hsz]; omega) (by rw [hsz]; omega) hc q (by omega)
    exact ⟨out, e, u0, u1, true, u3, u4, u5, u6, v0, v1, true, v3, v4, v5, v6, g1, g2, g3, by rw [hsz] at g4; omega, g5, g6, g7, by simp⟩
theorem close_both {x0 : ByteArray} {x1 : Int} {x2 x3 : Bool} {x4 x5 : Int} {x6 : Bool} {y0 : ByteArray} {y1 : Int} {y2 y3 : Bool} {y4 y5 : Int} {y6 : Bool} (h : RS x0 x1 x2 x3 x4 x5 x6 y0 y1 y2 y3 y4 y5 y6) (hy : y0.size ≤ 1000000) :
    ∃ e, capture_Reader_Close.f x0 x1 x2 x3 x4 x5 x6 = some (e, x0, x1, x2, x3, x4, x5, true) ∧ intrusionref09_Reader_Close.f y0 y1 y2 y3 y4 y5 y6 = some (e, y0, y1, y2, y3, y4, y5, true) ∧ y1 = x1 := by
  cases h with
  | over S T a b1 b2 b3 b4 i1 i2 i3 i4 =>
    refine ⟨10, ?_, ?_, rfl⟩
    · unfold capture_Reader_Close.f; rw [if_pos rfl]
    · unfold intrusionref09_Reader_Close.f; rw [if_pos rfl]
  | new S =>
    refine ⟨1, ?_, ?_, rfl⟩
    · unfold capture_Reader_Close.f; rw [if_neg (by decide), if_neg (by decide)]
    · unfold intrusionref09_Reader_Close.f; rw [if_neg (by decide)]; first | rw [if_neg (by decide)] | simp
  | run S big a cnt last ha hc =>
    have hz : (y0.extract a y0.size).size = y0.size - a := by rw [ByteArray.size_extract]; omega
    unfold capture_Reader_Close.f intrusionref09_Reader_Close.f
    rw [if_neg (show ¬ (false = true) by decide), if_neg (show ¬ (false = true) by decide), if_pos rfl]
    by_cases c : a = y0.size
    · have e0 : y0.extract a y0.size = ⟨#[]⟩ := by apply bytesOf_inj; apply List.eq_nil_of_length_eq_zero; rw [bytesOf_length, hz]; omega
      refine ⟨0, ?_, ?_, rfl⟩
      · rw [if_pos (by rw [e0]; unfold ByteArray.toList ByteArray.toList.loop; rfl)]
      · first | rw [if_pos rfl, if_neg (by omega)] | (simp; omega)
    · have e1 : ¬ (y0.extract a y0.size).toList = ([] : List UInt8) := by
        intro y
        rw [ByteArray.toList_eq] at y
        have h0 : (y0.extract a y0.size).data.toList.length = 0 := by rw [y]; rfl
        have h1 : (y0.extract a y0.size).data.toList.length = (y0.extract a y0.size).size := by rw [Array.length_toList]; rfl
        omega
      refine ⟨1, ?_, ?_, rfl⟩
      · rw [if_neg e1]
      · first | rw [if_pos rfl, if_pos (by omega)] | (simp; omega)
/-! ### CapS -/

def total : List ByteArray → Nat
  | [] => 0
  | s :: r => s.size + total r
theorem total_drop (l : List ByteArray) (i : Nat) (h : i < l.length) : total (l.drop i) = l[i].size + total (l.drop (i + 1)) := by rw [List.drop_eq_getElem_cons h]; rfl
theorem rdS (l : List ByteArray) (i : Nat) (h : i < l.length) : rdOf ByteArray.empty l (i : Int) = l[i] := by
  unfold rdOf
  rw [Int.toNat_natCast, List.getD_eq_getElem?_getD, List.getElem?_eq_getElem h]
  rfl
theorem longS_loop (l : List ByteArray) : ∀ (m i k n : Nat), i + m = 41 → i ≤ l.length → n + total (l.drop i) = total l → n ≤ 9000 * i →
    ∃ b, intrusionlaw09_long.l0 (k + 2 * m + 2) l (n : Int) (i : Int) = some b ∧ (b = false → l.length ≤ 40 ∧ total l ≤ 9000)
  | 0, i, k, n, h, hil, ht, hn => by
    rw [show k + 2 * 0 + 2 = (k + 1) + 1 by omega, intrusionlaw09_long.l0]
    by_cases c : (i : Int) < (l.length : Int)
    · rw [if_pos c, decide_eq_false (by omega), intrusionlaw09_long.j1, if_neg (by decide), if_pos (by omega)]
      exact ⟨true, rfl, fun hb => by cases hb⟩
    · rw [if_neg c, intrusionlaw09_long.j1, if_neg (by decide), if_pos (by omega)]
      exact ⟨true, rfl, fun hb => by cases hb⟩
  | m + 1, i, k, n, h, hil, ht, hn => by
    rw [show k + 2 * (m + 1) + 2 = (k + 2 * m + 2 + 1) + 1 by omega, intrusionlaw09_long.l0]
    by_cases c : (i : Int) < (l.length : Int)
    · have hlt : i < l.length := by omega
      have hd := total_drop l i hlt
      rw [if_pos c, decide_eq_true (by omega), intrusionlaw09_long.j1, if_pos rfl, if_pos (by omega), if_pos c, rdS l i hlt]
      by_cases d : (l[i].size : Int) > 9000
      · rw [if_pos d]
        exact ⟨true, rfl, fun hb => by cases hb⟩
      · rw [if_neg d, w64 (n := (n : Int) + (l[i].size : Int)) (by omega) (by omega), w64 (n := (i : Int) + 1) (by omega) (by omega), show (i : Int) + 1 = ((i + 1 : Nat) : Int) by omega, show (n : Int) + (l[i].size : Int) = ((n + l[i].size : Nat) : Int) by omega]
        exact longS_loop l m (i + 1) k (n + l[i].size) (by omega) (by omega) (by omega) (by omega)
    · have e0 : total (l.drop i) = 0 := by rw [List.drop_eq_nil_of_le (by omega)]; rfl
      rw [if_neg c, intrusionlaw09_long.j1, if_neg (by decide)]
      by_cases g : (l.length : Int) > 40
      · rw [if_pos g]
        exact ⟨true, rfl, fun hb => by cases hb⟩
      · rw [if_neg g]
        exact ⟨_, rfl, fun hb => by have := of_decide_eq_false hb; omega⟩
theorem longS_is (l : List ByteArray) (k : Nat) (hk : 90 ≤ k) : ∃ b, intrusionlaw09_long.f k l = some b ∧ (b = false → l.length ≤ 40 ∧ total l ≤ 9000) := by
  have := longS_loop l 41 0 (k - 84) 0 (by omega) (by omega) (by simp) (by omega)
  rw [show k - 84 + 2 * 41 + 2 = k by omega] at this
  exact this
/-! ### PureCaptureFeeds -/

theorem feeds_loop (l : List ByteArray) (hl : l.length ≤ 40) : ∀ (m i k : Nat) (x0 : ByteArray) (x1 : Int) (x2 x3 : Bool) (x4 x5 : Int) (x6 : Bool) (y0 : ByteArray) (y1 : Int) (y2 y3 : Bool) (y4 y5 : Int) (y6 : Bool), RS x0 x1 x2 x3 x4 x5 x6 y0 y1 y2 y3 y4 y5 y6 → i + m = l.length → y0.size + total (l.drop i) ≤ 9000 → 30000 ≤ k →
    intrusionlaw09_CaptureFeeds.l0 (k + m + 1) l (i : Int) x0 x1 x2 x3 x4 x5 x6 y0 y1 y2 y3 y4 y5 y6 = some true
  | 0, i, k, x0, x1, x2, x3, x4, x5, x6, y0, y1, y2, y3, y4, y5, y6, h, hi, hs, hk => by
    obtain ⟨e, c1, c2, c3⟩ := close_both h (by omega)
    have f1 : capture_Reader_Feed.f k x0 x1 x2 x3 x4 x5 true (⟨#[]⟩ : ByteArray) = some ([], 10, x0, x1, x2, x3, x4, x5, true) := by unfold capture_Reader_Feed.f; rw [if_pos rfl]
    have f2 : capture_Reader_Close.f x0 x1 x2 x3 x4 x5 true = some (10, x0, x1, x2, x3, x4, x5, true) := by unfold capture_Reader_Close.f; rw [if_pos rfl]
    rw [intrusionlaw09_CaptureFeeds.l0, if_neg (by omega), c1, c2]
    simp only [bs]
    rw [if_pos trivial, f1]
    simp only [bs]
    rw [if_pos (by rfl), if_pos trivial, f2]
    simp only [bs]
    rw [if_pos trivial, lives_is k (by omega)]
    simp only [bs]
  | m + 1, i, k, x0, x1, x2, x3, x4, x5, x6, y0, y1, y2, y3, y4, y5, y6, h, hi, hs, hk => by
    have hlt : i < l.length := by omega
    have hd := total_drop l i hlt
    obtain ⟨out, e, u0, u1, u2, u3, u4, u5, u6, v0, v1, v2, v3, v4, v5, v6, g1, g2, g3, g4, g5, g6, g7, g8⟩ := feed_both h l[i] (by omega) (k + m + 1) (by omega)
    rw [show k + (m + 1) + 1 = (k + m + 1) + 1 by omega, intrusionlaw09_CaptureFeeds.l0, if_pos (by omega), if_pos (by omega), rdS l i hlt, g1, g2]
    simp only [bs]
    rw [same_is out (by omega) (k + m + 1) (by omega)]
    simp only [bs]
    rw [if_pos trivial, if_pos trivial, w64 (n := (i : Int) + 1) (by omega) (by omega), show (i : Int) + 1 = ((i + 1 : Nat) : Int) by omega]
    exact feeds_loop l hl m (i + 1) k u0 u1 u2 u3 u4 u5 u6 v0 v1 v2 v3 v4 v5 v6 g3 (by omega) (by omega) hk
theorem CaptureFeeds : intrusionlaw09_CaptureFeeds.Pure := by
  intro l _ _
  obtain ⟨K, hK⟩ : ∃ K, 31000 = K := ⟨_, rfl⟩
  refine ⟨K + 1, ?_⟩
  unfold intrusionlaw09_CaptureFeeds.f capture_NewReader.f
  obtain ⟨b, h1, h2⟩ := longS_is l (K + 1) (by omega)
  simp only [bs]
  rw [h1]
  simp only [bs]
  cases b with
  | true =>
    rw [if_pos rfl, intrusionlaw09_CaptureFeeds.j0, if_pos rfl, lives_is K (by omega)]
    simp only [bs]
  | false =>
    obtain ⟨hl, ht⟩ := h2 rfl
    rw [if_neg (by decide), intrusionlaw09_CaptureFeeds.j0, if_neg (by decide)]
    have main := feeds_loop l hl l.length 0 (K - l.length - 1) _ _ _ _ _ _ _ _ _ _ _ _ _ _ (RS.new ⟨#[]⟩) (by omega) (by show 0 + _ ≤ _; rw [List.drop_zero]; omega) (by omega)
    rw [show K - l.length - 1 + l.length + 1 = K by omega] at main
    exact main
end Go.Proofs.Ytafjmciojeondaa.Pure

