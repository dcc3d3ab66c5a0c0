/- CaptureStreams as a plain law: a capture in pieces gives the records and the error of Read of the whole, under the law's own bounds. -/
import Derived.Test.YtafjmciojeondaaXDCaptureStreams
import Derived.Test.YtafjmciojeondaaX0
import Derived.Laws.Bits128
import Derived.Laws.BitsAllLaws
import Derived.Lib.EndianBits
import Derived.Test.YtafjmciojeondaaX7
import Derived.Test.YtafjmciojeondaaX8
import Derived.Test.YtafjmciojeondaaX9
import Derived.Test.YtafjmciojeondaaX21
import Derived.Test.YtafjmciojeondaaX5
import Derived.Test.YtafjmciojeondaaX3
import Derived.Test.YtafjmciojeondaaX4
import Derived.Test.YtafjmciojeondaaX13
import Derived.Test.YtafjmciojeondaaX12
import Derived.Test.YtafjmciojeondaaX11
import Derived.Test.YtafjmciojeondaaX10
import Derived.Test.YtafjmciojeondaaX14
import Derived.Test.YtafjmciojeondaaX18
import Derived.Test.YtafjmciojeondaaX17
/-! ### Base -/
set_option linter.unusedVariables false
set_option linter.unusedSimpArgs false
namespace Go.Proofs.Ytafjmciojeondaa.Pure
open Go.RowKit Go.Proofs.Ytafjmciojeondaa.X Go.Proofs.YtafjmciojeondaaW.PrintWords Go.Proofs.YtafjmciojeondaaW.PrintLast Go.Proofs.YtafjmciojeondaaW.PrintMore

/-- Told without 'rfl': a simp by it leaves the kernel little to compare. -/
theorem bs {α β : Type} (a : α) (f : α → Option β) : (some a).bind f = f a := by
  cases h : (some a) with
  | none => cases h
  | some b => injection h with h; subst h; rfl
theorem w64 {n : Int} (h : -9223372036854775808 ≤ n) (h' : n < 9223372036854775808) : wrap64 n = n := by unfold wrap64; omega
theorem wraps_i64' (n : Int) (h₀ : 0 ≤ n) (h₁ : n < 2 ^ 63) : IntKind.i64.wrap n = n := by rw [IntKind.wrap_i64]; omega
/-- 'x*256 | b' on int. -/
theorem or8 (x b : Int) (h0 : 0 ≤ x) (h1 : x < 9223372036854775808) (hx : x % 256 = 0) (hb0 : 0 ≤ b) (hb : b < 256) : Go.bits .or .i64 x b = x + b :=
  bits_join .i64 63 (by decide) wraps_i64' 8 x b h0 (by omega) (by omega) hb0 (by omega) (by omega)
theorem bytesOf_append (a b : ByteArray) : bytesOf (a ++ b) = bytesOf a ++ bytesOf b := by
  simp [bytesOf, ByteArray.data_append]
theorem bytesOf_extract (s : ByteArray) (i j : Nat) : bytesOf (s.extract i j) = ((bytesOf s).drop i).take (j - i) := by
  simp [bytesOf, ByteArray.data_extract, List.map_take, List.map_drop]
  try rw [List.extract_eq_take_drop]
theorem bytesOf_range (s : ByteArray) : ∀ x ∈ bytesOf s, 0 ≤ x ∧ x < 256 := by
  intro x hx
  obtain ⟨b, _, rfl⟩ := List.mem_map.mp hx
  have := b.toNat_lt
  omega
theorem bytesOf_inj {a b : ByteArray} (h : bytesOf a = bytesOf b) : a = b := by
  have h2 : a.data.toList = b.data.toList := by
    refine List.map_inj_right (f := fun (b : UInt8) => (b.toNat : Int)) ?_ |>.mp h
    intro x y hxy
    exact UInt8.toNat_inj.mp (by exact_mod_cast hxy)
  cases a; cases b
  simp at h2
  simp [h2]
theorem size_append (a b : ByteArray) : (a ++ b).size = a.size + b.size := by simp
/-! ### Cap -/

theorem lives100 : intrusionlaw09_lives.f 100 = some true := by decide +kernel
theorem lives_is (k : Nat) (hk : 100 ≤ k) : intrusionlaw09_lives.f k = some true := at_rounds intrusionlaw09_lives.mono hk lives100
theorem same_loop (l : List S33) (hl : l.length ≤ 4611686018427387904) : ∀ (m i k : Nat), i + m = l.length → intrusionref09_Same.l0 (k + m + 1) l l (i : Int) = some true
  | 0, i, k, h => by rw [intrusionref09_Same.l0, if_neg (by omega)]
  | m + 1, i, k, h => by
    rw [show k + (m + 1) + 1 = (k + m + 1) + 1 by omega, intrusionref09_Same.l0, if_pos (by omega), if_pos (by omega), if_pos (by omega), if_neg (by simp), w64 (n := (i : Int) + 1) (by omega) (by omega), show (i : Int) + 1 = ((i + 1 : Nat) : Int) by omega, same_loop l hl m (i + 1) k (by omega)]
theorem same_is (l : List S33) (hl : l.length ≤ 4611686018427387904) (k : Nat) (hk : l.length + 1 ≤ k) : intrusionref09_Same.f k l l = some true := by
  have := same_loop l hl l.length 0 (k - l.length - 1) (by omega)
  rw [show k - l.length - 1 + l.length + 1 = k by omega] at this
  unfold intrusionref09_Same.f
  rw [if_pos rfl]
  exact this
/-! ### Field -/

/-- The last digits of a number to the base 256, the most significant first. -/
def beN : Nat → Int → List Int
  | 0, _ => []
  | i + 1, n => n / 256 ^ i % 256 :: beN i n
/-- The number of digits, the most significant first. -/
def valBE (l : List Int) : Int := l.foldl (fun n c => n * 256 + c) 0
theorem val_from : ∀ (l : List Int) (n : Int), l.foldl (fun n c => n * 256 + c) n = n * 256 ^ l.length + valBE l
  | [], n => by simp [valBE]
  | c :: l, n => by
    have h1 := val_from l (n * 256 + c)
    have h2 := val_from l (0 * 256 + c)
    unfold valBE
    simp only [List.foldl_cons, List.length_cons] at h1 h2 ⊢
    rw [h1, h2, Int.pow_succ]
    generalize (256 : Int) ^ l.length = p
    generalize valBE l = v
    rw [Int.add_mul, Int.zero_mul, Int.zero_add, Int.mul_comm p 256, ← Int.mul_assoc, Int.add_assoc]
theorem valBE_cons (c : Int) (l : List Int) : valBE (c :: l) = c * 256 ^ l.length + valBE l := by
  have h := val_from l (0 * 256 + c)
  unfold valBE
  simp only [List.foldl_cons]
  rw [h, Int.zero_mul, Int.zero_add]
  rfl
theorem valBE_range : ∀ l : List Int, (∀ x ∈ l, 0 ≤ x ∧ x < 256) → 0 ≤ valBE l ∧ valBE l < 256 ^ l.length
  | [], _ => by simp [valBE]
  | c :: l, h => by
    have h1 := valBE_range l (fun x hx => h x (by simp [hx]))
    have h2 := h c (by simp)
    have hp : (0 : Int) < 256 ^ l.length := Int.pow_pos (by decide)
    rw [valBE_cons, List.length_cons, Int.pow_succ]
    generalize (256 : Int) ^ l.length = p at *
    constructor
    · exact Int.add_nonneg (Int.mul_nonneg h2.1 (by omega)) h1.1
    · have : c * p ≤ 255 * p := Int.mul_le_mul_of_nonneg_right (by omega) (by omega)
      omega
/-- Put in closed form. -/
def putOf (n size : Int) : ByteArray := if 1 ≤ size ∧ size ≤ 7 ∧ 0 ≤ n ∧ n < 256 ^ size.toNat then strOfNums (beN size.toNat n) else ⟨#[]⟩
theorem number_loop (l : List Int) (hl : ∀ x ∈ l, 0 ≤ x ∧ x < 256) (h7 : l.length ≤ 7) : ∀ (m i k : Nat), i + m = l.length →
    field_number.l0 (k + m + 1) (valBE (l.take i)) l l.length i = some (valBE l)
  | 0, i, k, h => by
    unfold field_number.l0
    rw [if_neg (by omega), List.take_of_length_le (by omega)]
  | m + 1, i, k, h => by
    rw [show k + (m + 1) + 1 = (k + m + 1) + 1 by omega]
    have hlt : i < l.length := by omega
    have ht : l.take (i + 1) = l.take i ++ [l[i]] := by rw [List.take_add_one]; simp [hlt]
    have e : valBE (l.take (i + 1)) = valBE (l.take i) * 256 + l[i] := by
      rw [ht]; unfold valBE; rw [List.foldl_append]; rfl
    have hr := valBE_range (l.take i) (fun x hx => hl x (List.mem_of_mem_take hx))
    have hc := hl l[i] (List.getElem_mem hlt)
    have hpow : (256 : Int) ^ (l.take i).length ≤ 281474976710656 := by
      have h6 : (l.take i).length ≤ 6 := by simp; omega
      have hn : 256 ^ (l.take i).length ≤ 281474976710656 := Nat.le_trans (Nat.pow_le_pow_right (by decide) h6) (by decide)
      have hc : ((256 ^ (l.take i).length : Nat) : Int) = (256 : Int) ^ (l.take i).length := Int.natCast_pow 256 _
      omega
    have hrd : rd l i = l[i] := by unfold rd; rw [Int.toNat_natCast, List.getD_eq_getElem?_getD, List.getElem?_eq_getElem hlt]; rfl
    unfold field_number.l0
    rw [if_pos (by omega), if_pos (by omega), if_pos (by omega), hrd, w64 (n := l[i]) (by omega) (by omega), w64 (n := valBE (l.take i) * 256) (by omega) (by omega), or8 _ _ (by omega) (by omega) (by omega) (by omega) (by omega), w64 (n := (i : Int) + 1) (by omega) (by omega), ← e,
      show (i : Int) + 1 = ((i + 1 : Nat) : Int) by omega]
    exact number_loop l hl h7 m (i + 1) k (by omega)
theorem number_is (l : List Int) (hl : ∀ x ∈ l, 0 ≤ x ∧ x < 256) (h7 : l.length ≤ 7) (k : Nat) (hk : 8 ≤ k) : field_number.f k l = some (valBE l) := by
  have h := number_loop l hl h7 l.length 0 (k - l.length - 1) (by omega)
  rw [show k - l.length - 1 + l.length + 1 = k by omega] at h
  unfold field_number.f
  simpa [valBE] using h
/-! ### CapR -/

/-- The z bytes at p, in the order that counts. -/
def dig (big : Bool) (s : ByteArray) (p z : Nat) : List Int := if big = true then ((bytesOf s).drop p).take z else (((bytesOf s).drop p).take z).reverse
def numOf (big : Bool) (s : ByteArray) (p z : Nat) : Int := valBE (dig big s p z)
theorem dig_range (big : Bool) (s : ByteArray) (p z : Nat) : ∀ x ∈ dig big s p z, 0 ≤ x ∧ x < 256 := by
  intro x hx
  unfold dig at hx
  split at hx
  · exact bytesOf_range s x (List.mem_of_mem_drop (List.mem_of_mem_take hx))
  · exact bytesOf_range s x (List.mem_of_mem_drop (List.mem_of_mem_take (List.mem_reverse.mp hx)))
theorem dig_length (big : Bool) (s : ByteArray) (p z : Nat) (h : p + z ≤ s.size) : (dig big s p z).length = z := by
  have := bytesOf_length s
  unfold dig
  split
  · rw [List.length_take, List.length_drop]; omega
  · rw [List.length_reverse, List.length_take, List.length_drop]; omega
theorem num_range (big : Bool) (s : ByteArray) (p z : Nat) (h : p + z ≤ s.size) : 0 ≤ numOf big s p z ∧ numOf big s p z < 256 ^ z := by
  have := valBE_range (dig big s p z) (dig_range big s p z)
  rw [dig_length big s p z h] at this
  exact this
theorem num4 (big : Bool) (s : ByteArray) (p : Nat) (h : p + 4 ≤ s.size) : 0 ≤ numOf big s p 4 ∧ numOf big s p 4 < 4294967296 := by
  have := num_range big s p 4 h
  omega
theorem num_rest (big : Bool) (s : ByteArray) (a p z : Nat) (h : a + p + z ≤ s.size) : numOf big (s.extract a s.size) p z = numOf big s (a + p) z := by
  have e : (bytesOf (s.extract a s.size)) = (bytesOf s).drop a := by
    rw [bytesOf_extract]
    exact List.take_of_length_le (by rw [List.length_drop, bytesOf_length]; exact Nat.le_refl _)
  unfold numOf dig
  rw [e, List.drop_drop]
theorem cnum_is (s : ByteArray) (a c l : Int) (b lit o : Bool) (p z : Nat) (h : p + z ≤ s.size) (h1 : 1 ≤ z) (h7 : z ≤ 7) (hs : s.size ≤ 1000000000) (k : Nat) (hk : 8 ≤ k) :
    capture_Reader_number.f k s a b lit c l o (p : Int) (z : Int) = some (numOf (!lit) s p z, s, a, b, lit, c, l, o) := by
  have hd := dig_length (!lit) s p z h
  have hN := number_is (dig (!lit) s p z) (dig_range _ s p z) (by omega) k hk
  have ez : bytesOf (s.extract ((p : Int)).toNat ((p : Int) + (z : Int)).toNat) = ((bytesOf s).drop p).take z := by
    rw [bytesOf_extract, Int.toNat_natCast, show ((p : Int) + (z : Int)).toNat = p + z by omega, show p + z - p = z by omega]
  unfold capture_Reader_number.f
  unfold dig at hN
  cases lit with
  | true =>
    rw [if_neg (by decide)] at hN
    unfold field_GetLittle.f
    rw [if_pos rfl, if_pos (by omega), if_neg (by omega), if_neg (by omega), ez, hN]
    simp only [bs]
    rfl
  | false =>
    rw [if_pos (by decide)] at hN
    unfold field_Get.f
    rw [if_neg (by decide), if_pos (by omega), if_neg (by omega), if_neg (by omega), ez, hN]
    simp only [bs]
    rfl
/-- The time that a record at a tells. -/
def timeOf (big : Bool) (s : ByteArray) (a : Nat) : Int := numOf big s a 4 * 1000 + numOf big s (a + 4) 4 / 1000
/-- One record at a: an error (0: not complete), or the record. -/
def stepG (s : ByteArray) (big : Bool) (a cnt : Nat) (last : Int) : Int ⊕ S33 :=
  if s.size < a + 16 then .inl 0
  else if numOf big s (a + 4) 4 > 999999 then .inl 2
  else if cnt ≥ 2000 ∨ numOf big s (a + 8) 4 > 4096 ∨ numOf big s (a + 8) 4 > numOf big s (a + 12) 4 then .inl 3
  else if 0 < cnt ∧ timeOf big s a < last then .inl 12
  else if (s.size : Int) < a + 16 + numOf big s (a + 8) 4 then .inl 0
  else .inr ⟨timeOf big s a, numOf big s (a + 12) 4, s.extract (a + 16) (a + 16 + (numOf big s (a + 8) 4).toNat)⟩
theorem step_data {s : ByteArray} {big : Bool} {a cnt : Nat} {last : Int} {x : S33} (h : stepG s big a cnt last = .inr x) : a + 16 + x.f2.size ≤ s.size ∧ x.f2.size ≤ 4096 ∧ numOf big s (a + 8) 4 = (x.f2.size : Int) ∧ x.f0 = timeOf big s a ∧ cnt < 2000 ∧ 0 ≤ x.f0 ∧ x.f0 < 5000000000000 := by
  unfold stepG at h
  by_cases h1 : s.size < a + 16
  · rw [if_pos h1] at h; cases h
  rw [if_neg h1] at h
  by_cases h2 : numOf big s (a + 4) 4 > 999999
  · rw [if_pos h2] at h; cases h
  rw [if_neg h2] at h
  by_cases h3 : cnt ≥ 2000 ∨ numOf big s (a + 8) 4 > 4096 ∨ numOf big s (a + 8) 4 > numOf big s (a + 12) 4
  · rw [if_pos h3] at h; cases h
  rw [if_neg h3] at h
  by_cases h4 : 0 < cnt ∧ timeOf big s a < last
  · rw [if_pos h4] at h; cases h
  rw [if_neg h4] at h
  by_cases h5 : (s.size : Int) < a + 16 + numOf big s (a + 8) 4
  · rw [if_pos h5] at h; cases h
  rw [if_neg h5] at h
  obtain rfl := Sum.inr.inj h
  have n8 := num4 big s (a + 8) (by omega)
  have n0 := num4 big s a (by omega)
  have n4 := num4 big s (a + 4) (by omega)
  have e : (s.extract (a + 16) (a + 16 + (numOf big s (a + 8) 4).toNat)).size = (numOf big s (a + 8) 4).toNat := by rw [ByteArray.size_extract]; omega
  dsimp only
  rw [e]
  unfold timeOf
  refine ⟨by omega, by omega, by omega, rfl, by omega, by omega, by omega⟩
/-- All records from a on. -/
def loopG (s : ByteArray) (big : Bool) : Nat → Nat → Nat → Int → List S33 → List S33 × Int × Nat × Nat × Int
  | 0, a, cnt, last, out => (out, 0, a, cnt, last)
  | m + 1, a, cnt, last, out => match stepG s big a cnt last with
    | .inl e => (out, e, a, cnt, last)
    | .inr x => loopG s big m (a + 16 + x.f2.size) (cnt + 1) x.f0 (out ++ [x])
theorem rec_is (s : ByteArray) (lit : Bool) (a cnt : Nat) (last : Int) (ha : a ≤ s.size) (hs : s.size ≤ 1000000000) (hc : cnt ≤ 2000) (k : Nat) (hk : 20 ≤ k) :
    capture_Reader_record.f k (s.extract a s.size) (a : Int) true lit (cnt : Int) last false = match stepG s (!lit) a cnt last with
      | .inl e => some (0, 0, (⟨#[]⟩ : ByteArray), false, e, s.extract a s.size, (a : Int), true, lit, (cnt : Int), last, false)
      | .inr x => some (x.f0, x.f1, x.f2, true, 0, s.extract (a + 16 + x.f2.size) s.size, ((a + 16 + x.f2.size : Nat) : Int), true, lit, ((cnt + 1 : Nat) : Int), x.f0, false) := by
  have hz : (s.extract a s.size).size = s.size - a := by rw [ByteArray.size_extract]; omega
  unfold capture_Reader_record.f stepG
  by_cases h1 : s.size < a + 16
  · rw [if_pos (by rw [hz]; omega), if_pos h1]
  rw [if_neg (by rw [hz]; omega), if_neg h1]
  have c4 := cnum_is (s.extract a s.size) a cnt last true lit false 4 4 (by rw [hz]; omega) (by omega) (by omega) (by rw [hz]; omega) k (by omega)
  have c8 := cnum_is (s.extract a s.size) a cnt last true lit false 8 4 (by rw [hz]; omega) (by omega) (by omega) (by rw [hz]; omega) k (by omega)
  have c12 := cnum_is (s.extract a s.size) a cnt last true lit false 12 4 (by rw [hz]; omega) (by omega) (by omega) (by rw [hz]; omega) k (by omega)
  have c0 := cnum_is (s.extract a s.size) a cnt last true lit false 0 4 (by rw [hz]; omega) (by omega) (by omega) (by rw [hz]; omega) k (by omega)
  rw [num_rest (!lit) s a 4 4 (by omega)] at c4
  rw [num_rest (!lit) s a 8 4 (by omega)] at c8
  rw [num_rest (!lit) s a 12 4 (by omega)] at c12
  rw [num_rest (!lit) s a 0 4 (by omega), Nat.add_zero] at c0
  have n0 := num4 (!lit) s a (by omega)
  have n4 := num4 (!lit) s (a + 4) (by omega)
  have n8 := num4 (!lit) s (a + 8) (by omega)
  have n12 := num4 (!lit) s (a + 12) (by omega)
  have et : wrap64 (wrap64 (numOf (!lit) s a 4 * 1000) + wrap64 (Int.tdiv (numOf (!lit) s (a + 4) 4) 1000)) = timeOf (!lit) s a := by
    rw [Int.tdiv_eq_ediv_of_nonneg n4.1, w64 (n := numOf (!lit) s a 4 * 1000) (by omega) (by omega), w64 (n := numOf (!lit) s (a + 4) 4 / 1000) (by omega) (by omega), w64 (by omega) (by omega)]
    rfl
  rw [show ((4 : Nat) : Int) = 4 from rfl] at c4 c8 c12 c0
  rw [show ((8 : Nat) : Int) = 8 from rfl] at c8
  rw [show ((12 : Nat) : Int) = 12 from rfl] at c12
  rw [show ((0 : Nat) : Int) = 0 from rfl] at c0
  rw [c4]
  simp only [bs]
  rw [c8]
  simp only [bs]
  rw [c12]
  simp only [bs]
  rw [c0]
  simp only [bs]
  by_cases h2 : numOf (!lit) s (a + 4) 4 > 999999
  · rw [if_pos h2, if_pos h2]
  rw [if_neg h2, if_neg h2, et]
  obtain ⟨q, rfl⟩ : ∃ q, k = q + 2 := ⟨k - 2, by omega⟩
  have ej : (if (cnt : Int) ≥ 2000 then capture_Reader_record.j0 (q + 2) (numOf (!lit) s (a + 8) 4) true (s.extract a s.size) (a : Int) true lit (cnt : Int) last false (timeOf (!lit) s a) (numOf (!lit) s (a + 12) 4) (⟨#[]⟩ : ByteArray)
      else if numOf (!lit) s (a + 8) 4 > 4096 then capture_Reader_record.j0 (q + 2) (numOf (!lit) s (a + 8) 4) true (s.extract a s.size) (a : Int) true lit (cnt : Int) last false (timeOf (!lit) s a) (numOf (!lit) s (a + 12) 4) (⟨#[]⟩ : ByteArray)
      else capture_Reader_record.j0 (q + 2) (numOf (!lit) s (a + 8) 4) (decide (numOf (!lit) s (a + 8) 4 > numOf (!lit) s (a + 12) 4)) (s.extract a s.size) (a : Int) true lit (cnt : Int) last false (timeOf (!lit) s a) (numOf (!lit) s (a + 12) 4) (⟨#[]⟩ : ByteArray))
      = capture_Reader_record.j0 (q + 2) (numOf (!lit) s (a + 8) 4) (decide (cnt ≥ 2000 ∨ numOf (!lit) s (a + 8) 4 > 4096 ∨ numOf (!lit) s (a + 8) 4 > numOf (!lit) s (a + 12) 4)) (s.extract a s.size) (a : Int) true lit (cnt : Int) last false (timeOf (!lit) s a) (numOf (!lit) s (a + 12) 4) (⟨#[]⟩ : ByteArray) := by
    by_cases b1 : (cnt : Int) ≥ 2000
    · rw [if_pos b1, decide_eq_true (show cnt ≥ 2000 ∨ _ from .inl (by omega))]
    rw [if_neg b1]
    by_cases b2 : numOf (!lit) s (a + 8) 4 > 4096
    · rw [if_pos b2, decide_eq_true (show cnt ≥ 2000 ∨ _ from .inr (.inl b2))]
    rw [if_neg b2]
    congr 1
    apply decide_eq_decide.mpr
    omega
  rw [ej, capture_Reader_record.j0]
  by_cases h3 : cnt ≥ 2000 ∨ numOf (!lit) s (a + 8) 4 > 4096 ∨ numOf (!lit) s (a + 8) 4 > numOf (!lit) s (a + 12) 4
  · rw [if_pos (decide_eq_true h3), if_pos h3]
  rw [if_neg (by rw [decide_eq_true_iff]; exact h3), if_neg h3]
  have ek : (if (cnt : Int) > 0 then capture_Reader_record.j1 (q + 1) (numOf (!lit) s (a + 8) 4) (decide (timeOf (!lit) s a < last)) (s.extract a s.size) (a : Int) true lit (cnt : Int) last false (timeOf (!lit) s a) (numOf (!lit) s (a + 12) 4) (⟨#[]⟩ : ByteArray)
      else capture_Reader_record.j1 (q + 1) (numOf (!lit) s (a + 8) 4) false (s.extract a s.size) (a : Int) true lit (cnt : Int) last false (timeOf (!lit) s a) (numOf (!lit) s (a + 12) 4) (⟨#[]⟩ : ByteArray))
      = capture_Reader_record.j1 (q + 1) (numOf (!lit) s (a + 8) 4) (decide (0 < cnt ∧ timeOf (!lit) s a < last)) (s.extract a s.size) (a : Int) true lit (cnt : Int) last false (timeOf (!lit) s a) (numOf (!lit) s (a + 12) 4) (⟨#[]⟩ : ByteArray) := by
    by_cases b : (cnt : Int) > 0
    · rw [if_pos b]
      congr 1
      apply decide_eq_decide.mpr
      exact ⟨fun y => ⟨by omega, y⟩, fun y => y.2⟩
    · rw [if_neg b, decide_eq_false (fun y => b (by omega))]
  rw [ek, capture_Reader_record.j1]
  by_cases h4 : 0 < cnt ∧ timeOf (!lit) s a < last
  · rw [if_pos (decide_eq_true h4), if_pos h4]
  rw [if_neg (by rw [decide_eq_true_iff]; exact h4), if_neg h4, w64 (n := 16 + numOf (!lit) s (a + 8) 4) (by omega) (by omega), hz]
  by_cases h5 : (s.size : Int) < a + 16 + numOf (!lit) s (a + 8) 4
  · rw [if_pos (by omega), if_pos h5]
  rw [if_neg (by omega), if_neg h5, if_pos (by omega), if_pos (by omega)]
  unfold capture_Reader_skip.f
  rw [if_pos (by omega), if_pos (by rw [hz]; omega)]
  simp only [bs]
  have e1 : (s.extract a s.size).extract (16 + numOf (!lit) s (a + 8) 4).toNat (s.extract a s.size).size = s.extract (a + 16 + (s.extract (a + 16) (a + 16 + (numOf (!lit) s (a + 8) 4).toNat)).size) s.size := by
    rw [hz, ByteArray.size_extract, ByteArray.extract_extract]
    congr 1 <;> omega
  have e2 : (s.extract a s.size).extract 16 (16 + numOf (!lit) s (a + 8) 4).toNat = s.extract (a + 16) (a + 16 + (numOf (!lit) s (a + 8) 4).toNat) := by
    rw [ByteArray.extract_extract]
    congr 1 <;> omega
  have e3 : wrap64 ((a : Int) + (16 + numOf (!lit) s (a + 8) 4)) = ((a + 16 + (s.extract (a + 16) (a + 16 + (numOf (!lit) s (a + 8) 4).toNat)).size : Nat) : Int) := by
    rw [ByteArray.size_extract, w64 (by omega) (by omega)]
    omega
  rw [e1, e2, e3, w64 (n := (cnt : Int) + 1) (by omega) (by omega)]
  rfl
theorem feed_loop (s : ByteArray) (lit : Bool) (hs : s.size ≤ 1000000000) : ∀ (m a cnt k : Nat) (last : Int) (out : List S33), a ≤ s.size → s.size + 16 ≤ a + 16 * m → cnt ≤ 2000 → out.length ≤ cnt → 30 ≤ k →
    capture_Reader_Feed.l0 (k + m) (s.extract a s.size) (a : Int) true lit (cnt : Int) last false out = some ((loopG s (!lit) m a cnt last out).1, (loopG s (!lit) m a cnt last out).2.1, s.extract (loopG s (!lit) m a cnt last out).2.2.1 s.size, ((loopG s (!lit) m a cnt last out).2.2.1 : Int), true, lit, ((loopG s (!lit) m a cnt last out).2.2.2.1 : Int), (loopG s (!lit) m a cnt last out).2.2.2.2, ((loopG s (!lit) m a cnt last out).2.1 != 0))
  | 0, a, cnt, k, last, out, ha, hm, hc, ho, hk => by omega
  | m + 1, a, cnt, k, last, out, ha, hm, hc, ho, hk => by
    rw [show k + (m + 1) = (k + m) + 1 by omega, capture_Reader_Feed.l0, rec_is s lit a cnt last ha hs hc (k + m) (by omega), loopG]
    cases hg : stepG s (!lit) a cnt last with
    | inl e =>
      simp only [bs]
      rw [if_neg (by decide)]
    | inr x =>
      have hd := step_data hg
      simp only [bs]
      rw [if_pos trivial, if_pos (by omega)]
      exact feed_loop s lit hs m (a + 16 + x.f2.size) (cnt + 1) k x.f0 (out ++ [x]) (by omega) (by omega) (by omega) (by rw [List.length_append, List.length_singleton]; omega) hk
/-! ### CapF -/

def goodH (big : Bool) (s : ByteArray) : Prop := numOf big s 4 2 = 2 ∧ numOf big s 6 2 = 4 ∧ numOf big s 20 4 = 1
instance (big : Bool) (s : ByteArray) : Decidable (goodH big s) := by unfold goodH; infer_instance
/-- The order of the bytes that a header tells, if it is one. -/
def headG (s : ByteArray) : Option Bool := if numOf true s 0 4 = 2712847316 then (if goodH true s then some true else none) else if numOf false s 0 4 = 2712847316 then (if goodH false s then some false else none) else none
theorem chj_is (s : ByteArray) (lit : Bool) (h : 24 ≤ s.size) (hs : s.size ≤ 1000000000) (k : Nat) (hk : 20 ≤ k) :
    capture_Reader_header.j0 (k + 1) s 0 false lit 0 0 false = if numOf (!lit) s 0 4 = 2712847316 ∧ goodH (!lit) s then some (true, 0, s.extract 24 s.size, 24, true, lit, 0, 0, false) else some (false, 2, s, 0, false, lit, 0, 0, false) := by
  have c0 := cnum_is s 0 0 0 false lit false 0 4 (by omega) (by omega) (by omega) hs k (by omega)
  have c4 := cnum_is s 0 0 0 false lit false 4 2 (by omega) (by omega) (by omega) hs k (by omega)
  have c6 := cnum_is s 0 0 0 false lit false 6 2 (by omega) (by omega) (by omega) hs k (by omega)
  have c20 := cnum_is s 0 0 0 false lit false 20 4 (by omega) (by omega) (by omega) hs k (by omega)
  rw [show ((4 : Nat) : Int) = 4 from rfl] at c0 c4 c20
  rw [show ((0 : Nat) : Int) = 0 from rfl] at c0
  rw [show ((2 : Nat) : Int) = 2 from rfl] at c4 c6
  rw [show ((6 : Nat) : Int) = 6 from rfl] at c6
  rw [show ((20 : Nat) : Int) = 20 from rfl] at c20
  rw [capture_Reader_header.j0, c0]
  simp only [bs]
  by_cases h0 : numOf (!lit) s 0 4 = 2712847316
  case neg => rw [if_neg h0, if_neg (fun y => h0 y.1)]
  rw [if_pos h0, c4]
  simp only [bs]
  by_cases h4 : numOf (!lit) s 4 2 = 2
  case neg => rw [if_neg h4, if_neg (fun y => h4 (show numOf (!lit) s 4 2 = 2 from y.2.1))]
  rw [if_pos h4, c6]
  simp only [bs]
  by_cases h6 : numOf (!lit) s 6 2 = 4
  case neg => rw [if_neg h6, if_neg (fun y => h6 (show numOf (!lit) s 6 2 = 4 from y.2.2.1))]
  rw [if_pos h6, c20]
  simp only [bs]
  by_cases h20 : numOf (!lit) s 20 4 = 1
  case neg => rw [if_neg h20, if_neg (fun y => h20 (show numOf (!lit) s 20 4 = 1 from y.2.2.2))]
  rw [if_pos h20, if_pos ⟨h0, h4, h6, h20⟩]
  unfold capture_Reader_skip.f
  rw [if_pos (by omega), if_pos (by omega)]
  simp only [bs]
  rw [show wrap64 ((0 : Int) + 24) = 24 by decide +kernel]
  rfl
theorem header_is (s : ByteArray) (h : 24 ≤ s.size) (hs : s.size ≤ 1000000000) (k : Nat) (hk : 30 ≤ k) :
    ∃ lit, capture_Reader_header.f k s 0 false false 0 0 false = match headG s with
      | some big => some (true, 0, s.extract 24 s.size, 24, true, !big, 0, 0, false)
      | none => some (false, 2, s, 0, false, lit, 0, 0, false) := by
  obtain ⟨q, rfl⟩ : ∃ q, k = q + 1 := ⟨k - 1, by omega⟩
  have c0 := cnum_is s 0 0 0 false false false 0 4 (by omega) (by omega) (by omega) hs (q + 1) (by omega)
  rw [show ((4 : Nat) : Int) = 4 from rfl, show ((0 : Nat) : Int) = 0 from rfl] at c0
  unfold capture_Reader_header.f headG
  rw [if_neg (by omega), c0]
  simp only [bs]
  by_cases h0 : numOf true s 0 4 = 2712847316
  · refine ⟨false, ?_⟩
    rw [if_pos h0, if_pos (show numOf (!false) s 0 4 = 2712847316 from h0), chj_is s false h hs q (by omega)]
    by_cases g : goodH true s
    · rw [if_pos g, if_pos ⟨h0, g⟩]; rfl
    · rw [if_neg g, if_neg (fun y => g y.2)]
  · refine ⟨true, ?_⟩
    rw [if_neg h0, if_neg (show ¬ numOf (!false) s 0 4 = 2712847316 from h0), chj_is s true h hs q (by omega)]
    by_cases h1 : numOf false s 0 4 = 2712847316
    · rw [if_pos h1]
      by_cases g : goodH false s
      · rw [if_pos g, if_pos ⟨h1, g⟩]; rfl
      · rw [if_neg g, if_neg (fun y => g y.2)]
    · rw [if_neg h1, if_neg (fun y => h1 y.1)]
/-- The program's reader (left) and the document's. -/
inductive RS : ByteArray → Int → Bool → Bool → Int → Int → Bool → ByteArray → Int → Bool → Bool → Int → Int → Bool → Prop
  | new (S : ByteArray) : RS S 0 false false 0 0 false S 0 false false 0 0 false
  | run (S : ByteArray) (big : Bool) (a cnt : Nat) (last : Int) (ha : a ≤ S.size) (hc : cnt ≤ 2000) : RS (S.extract a S.size) a true (!big) cnt last false S a true big cnt last false
  | over (S T : ByteArray) (a : Int) (b1 b2 b3 b4 : Bool) (i1 i2 i3 i4 : Int) : RS S a b1 b2 i1 i2 true T a b3 b4 i3 i4 true
theorem loop_inv (s : ByteArray) (big : Bool) : ∀ (m a cnt : Nat) (last : Int) (out : List S33), a ≤ s.size → cnt ≤ 2000 → (loopG s big m a cnt last out).2.2.1 ≤ s.size ∧ (loopG s big m a cnt last out).2.2.2.1 ≤ 2000 ∧ (loopG s big m a cnt last out).1.length ≤ out.length + (2000 - cnt)
  | 0, a, cnt, last, out, ha, hc => ⟨ha, hc, by show out.length ≤ _; omega⟩
  | m + 1, a, cnt, last, out, ha, hc => by
    rw [loopG]
    cases hg : stepG s big a cnt last with
    | inl e => exact ⟨ha, hc, by show out.length ≤ _; omega⟩
    | inr x =>
      have hd := step_data hg
      have := loop_inv s big m (a + 16 + x.f2.size) (cnt + 1) x.f0 (out ++ [x]) (by omega) (by omega)
      rw [List.length_append, List.length_singleton] at this
      exact ⟨this.1, this.2.1, Nat.le_trans this.2.2 (by omega)⟩
theorem rest_app (S t : ByteArray) (a : Nat) (h : a ≤ S.size) : S.extract a S.size ++ t = (S ++ t).extract a (S ++ t).size := by
  have hb := bytesOf_length S
  have hc := bytesOf_length t
  apply bytesOf_inj
  rw [bytesOf_append, bytesOf_extract, bytesOf_extract, bytesOf_append, List.take_of_length_le (by rw [List.length_drop]; omega), List.take_of_length_le (by rw [List.length_drop, List.length_append, size_append]; omega), List.drop_append_of_le_length (by omega)]
/-! ### CapT -/

theorem num_app (big : Bool) (s t : ByteArray) (p z : Nat) (h : p + z ≤ s.size) : numOf big (s ++ t) p z = numOf big s p z := by
  have hb := bytesOf_length s
  have e : ((bytesOf (s ++ t)).drop p).take z = ((bytesOf s).drop p).take z := by
    rw [bytesOf_append, List.drop_append_of_le_length (by omega), List.take_append_of_le_length (by rw [List.length_drop]; omega)]
  unfold numOf dig
  rw [e]
theorem time_app (big : Bool) (s t : ByteArray) (a : Nat) (h : a + 8 ≤ s.size) : timeOf big (s ++ t) a = timeOf big s a := by
  unfold timeOf
  rw [num_app big s t a 4 (by omega), num_app big s t (a + 4) 4 (by omega)]
theorem ext_app (s t : ByteArray) (i j : Nat) (h : j ≤ s.size) (hi : i ≤ s.size) : (s ++ t).extract i j = s.extract i j := by
  have hb := bytesOf_length s
  apply bytesOf_inj
  rw [bytesOf_extract, bytesOf_extract, bytesOf_append, List.drop_append_of_le_length (by omega), List.take_append_of_le_length (by rw [List.length_drop]; omega)]
/-- What a record's step has decided stays so when more bytes follow. -/
theorem step_app {s : ByteArray} {big : Bool} {a c : Nat} {l : Int} {x : Int ⊕ S33} (t : ByteArray) (h : stepG s big a c l = x) (hx : x ≠ .inl 0) : stepG (s ++ t) big a c l = x := by
  have hz := size_append s t
  unfold stepG at h
  by_cases h1 : s.size < a + 16
  · rw [if_pos h1] at h; exact absurd h.symm hx
  rw [if_neg h1] at h
  have n8 := num4 big s (a + 8) (by omega)
  unfold stepG
  rw [if_neg (show ¬ (s ++ t).size < a + 16 by omega), num_app big s t (a + 4) 4 (by omega), num_app big s t (a + 8) 4 (by omega), num_app big s t (a + 12) 4 (by omega), time_app big s t a (by omega)]
  by_cases h2 : numOf big s (a + 4) 4 > 999999
  · rw [if_pos h2] at h ⊢; exact h
  rw [if_neg h2] at h ⊢
  by_cases h3 : c ≥ 2000 ∨ numOf big s (a + 8) 4 > 4096 ∨ numOf big s (a + 8) 4 > numOf big s (a + 12) 4
  · rw [if_pos h3] at h ⊢; exact h
  rw [if_neg h3] at h ⊢
  by_cases h4 : 0 < c ∧ timeOf big s a < l
  · rw [if_pos h4] at h ⊢; exact h
  rw [if_neg h4] at h ⊢
  by_cases h5 : (s.size : Int) < a + 16 + numOf big s (a + 8) 4
  · rw [if_pos h5] at h; exact absurd h.symm hx
  rw [if_neg h5] at h
  rw [if_neg (show ¬ ((s ++ t).size : Int) < a + 16 + numOf big s (a + 8) 4 by omega), ext_app s t _ _ (by omega) (by omega)]
  exact h
theorem good_app (b : Bool) (s t : ByteArray) (h : 24 ≤ s.size) : goodH b (s ++ t) ↔ goodH b s := by
  unfold goodH
  rw [num_app b s t 4 2 (by omega), num_app b s t 6 2 (by omega), num_app b s t 20 4 (by omega)]
theorem head_app (s t : ByteArray) (h : 24 ≤ s.size) : headG (s ++ t) = headG s := by
  unfold headG
  simp only [num_app true s t 0 4 (by omega), num_app false s t 0 4 (by omega), good_app true s t h, good_app false s t h]
/-- Some records, one after the other. -/
inductive Run (s : ByteArray) (big : Bool) : Nat → Nat → Int → List S33 → Nat → Nat → Int → List S33 → Prop
  | nil (a c : Nat) (l : Int) (o : List S33) : Run s big a c l o a c l o
  | cons {a c : Nat} {l : Int} {o : List S33} {x : S33} {a' c' : Nat} {l' : Int} {o' : List S33} (h : stepG s big a c l = .inr x) (r : Run s big (a + 16 + x.f2.size) (c + 1) x.f0 (o ++ [x]) a' c' l' o') : Run s big a c l o a' c' l' o'
theorem run_app {s : ByteArray} {big : Bool} {a c : Nat} {l : Int} {o : List S33} {a' c' : Nat} {l' : Int} {o' : List S33} (t : ByteArray) (h : Run s big a c l o a' c' l' o') : Run (s ++ t) big a c l o a' c' l' o' := by
  induction h with
  | nil => exact .nil _ _ _ _
  | cons h _ ih => exact .cons (step_app t h (by intro y; cases y)) ih
theorem run_trans {s : ByteArray} {big : Bool} {a c : Nat} {l : Int} {o : List S33} {a' c' : Nat} {l' : Int} {o' : List S33} {a2 c2 : Nat} {l2 : Int} {o2 : List S33} (h : Run s big a c l o a' c' l' o') (g : Run s big a' c' l' o' a2 c2 l2 o2) : Run s big a c l o a2 c2 l2 o2 := by
  induction h with
  | nil => exact g
  | cons h _ ih => exact .cons h (ih g)
theorem run_pre {s : ByteArray} {big : Bool} {a c : Nat} {l : Int} {o : List S33} {a' c' : Nat} {l' : Int} {o' : List S33} (p : List S33) (h : Run s big a c l o a' c' l' o') : Run s big a c l (p ++ o) a' c' l' (p ++ o') := by
  induction h with
  | nil => exact .nil _ _ _ _
  | cons h _ ih =>
    rw [← List.append_assoc] at ih
    exact .cons h ih
theorem step_wait {s : ByteArray} {big : Bool} {a c : Nat} {l : Int} (h : s.size < a + 16) : stepG s big a c l = .inl 0 := by
  unfold stepG
  rw [if_pos h]
theorem loop_run (s : ByteArray) (big : Bool) : ∀ (m a c : Nat) (l : Int) (o : List S33), s.size + 16 ≤ a + 16 * m →
    Run s big a c l o (loopG s big m a c l o).2.2.1 (loopG s big m a c l o).2.2.2.1 (loopG s big m a c l o).2.2.2.2 (loopG s big m a c l o).1 ∧ stepG s big (loopG s big m a c l o).2.2.1 (loopG s big m a c l o).2.2.2.1 (loopG s big m a c l o).2.2.2.2 = .inl (loopG s big m a c l o).2.1
  | 0, a, c, l, o, h => ⟨.nil _ _ _ _, step_wait (by show s.size < a + 16; omega)⟩
  | m + 1, a, c, l, o, h => by
    rw [loopG]
    cases hg : stepG s big a c l with
    | inl e => exact ⟨.nil _ _ _ _, hg⟩
    | inr x =>
      obtain ⟨h1, h2⟩ := loop_run s big m (a + 16 + x.f2.size) (c + 1) x.f0 (o ++ [x]) (by omega)
      exact ⟨.cons hg h1, h2⟩
theorem run_loop {s : ByteArray} {big : Bool} {a c : Nat} {l : Int} {o : List S33} {a' c' : Nat} {l' : Int} {o' : List S33} (h : Run s big a c l o a' c' l' o') {e : Int} (he : stepG s big a' c' l' = .inl e) : ∀ m : Nat, s.size + 16 ≤ a + 16 * m → loopG s big m a c l o = (o', e, a', c', l') := by
  induction h with
  | nil a c l o =>
    intro m hm
    cases m with
    | zero =>
      rw [step_wait (by omega)] at he
      obtain rfl := Sum.inl.inj he
      rfl
    | succ m => rw [loopG, he]
  | cons h _ ih =>
    intro m hm
    have hd := step_data h
    cases m with
    | zero => omega
    | succ m =>
      rw [loopG, h]
      exact ih he m (by omega)
/-- A capture that is found wrong, whatever follows. -/
def Bad (S : ByteArray) (e : Int) : Prop := 24 ≤ S.size ∧ e ≠ 0 ∧ ((headG S = none ∧ e = 2) ∨ ∃ big, headG S = some big ∧ ∃ a c l o, loopG S big 7000 24 0 0 [] = (o, e, a, c, l))
theorem bad_app {S : ByteArray} {e : Int} (t : ByteArray) (h : Bad S e) (hs : S.size + t.size ≤ 100000) : Bad (S ++ t) e := by
  obtain ⟨h24, he, h⟩ := h
  have hz := size_append S t
  refine ⟨by omega, he, ?_⟩
  rw [head_app S t h24]
  rcases h with h | ⟨big, hg, a, c, l, o, hl⟩
  · exact .inl h
  · obtain ⟨h1, h2⟩ := loop_run S big 7000 24 0 0 [] (by omega)
    rw [hl] at h1 h2
    exact .inr ⟨big, hg, a, c, l, o, run_loop (run_app t h1) (step_app t h2 (fun y => he (Sum.inl.inj y))) 7000 (by omega)⟩
/-- The reader's state when the bytes S went in, the records l came out, and the error e was found. -/
inductive SS : ByteArray → List S33 → Int → ByteArray → Int → Bool → Bool → Int → Int → Bool → Prop
  | new (S : ByteArray) (h : S.size < 24) : SS S [] 0 S 0 false false 0 0 false
  | run (S : ByteArray) (big : Bool) (l : List S33) (a cnt : Nat) (last : Int) (h : 24 ≤ S.size) (hg : headG S = some big) (hl : loopG S big 7000 24 0 0 [] = (l, 0, a, cnt, last)) : SS S l 0 (S.extract a S.size) a true (!big) cnt last false
  | over (S : ByteArray) (l : List S33) (e : Int) (x0 : ByteArray) (x1 : Int) (x2 x3 : Bool) (x4 x5 : Int) (h : Bad S e) : SS S l e x0 x1 x2 x3 x4 x5 true
theorem ss_run (S : ByteArray) (big : Bool) (l : List S33) (a cnt : Nat) (last : Int) (hs : S.size ≤ 100000) (h24 : 24 ≤ S.size) (hg : headG S = some big) (hr : Run S big 24 0 0 [] a cnt last l) (ha : a ≤ S.size) (hc : cnt ≤ 2000) (h24a : 24 ≤ a) (k : Nat) (hk : 10000 ≤ k) :
    ∃ out e u0 u1 u2 u3 u4 u5 u6, capture_Reader_Feed.l0 k (S.extract a S.size) (a : Int) true (!big) (cnt : Int) last false [] = some (out, e, u0, u1, u2, u3, u4, u5, u6) ∧ SS S (l ++ out) e u0 u1 u2 u3 u4 u5 u6 ∧ out.length ≤ 2000 := by
  have h1 := feed_loop S (!big) (by omega) 7000 a cnt (k - 7000) last [] ha (by omega) hc (by simp) (by omega)
  rw [show k - 7000 + 7000 = k by omega, Bool.not_not] at h1
  obtain ⟨v1, v2, v3⟩ := loop_inv S big 7000 a cnt last [] ha hc
  obtain ⟨w1, w2⟩ := loop_run S big 7000 a cnt last [] (by omega)
  generalize loopG S big 7000 a cnt last [] = q at h1 v1 v2 v3 w1 w2
  obtain ⟨out, e, a', cnt', last'⟩ := q
  dsimp only at h1 v1 v2 v3 w1 w2
  have w3 := run_pre l w1
  rw [List.append_nil] at w3
  have hL := run_loop (run_trans hr w3) w2 7000 (by omega)
  refine ⟨out, e, _, _, _, _, _, _, _, h1, ?_, by simp at v3; omega⟩
  by_cases z : e = 0
  · rw [show (e != 0) = false by simp [z]]
    subst z
    exact SS.run S big _ a' cnt' last' h24 hg hL
  · rw [show (e != 0) = true by simp [z]]
    exact SS.over _ _ _ _ _ _ _ _ _ ⟨h24, z, .inr ⟨big, hg, a', cnt', last', _, hL⟩⟩
theorem run_ge {s : ByteArray} {big : Bool} {a c : Nat} {l : Int} {o : List S33} {a' c' : Nat} {l' : Int} {o' : List S33} (h : Run s big a c l o a' c' l' o') : a ≤ a' := by
  induction h with
  | nil => exact Nat.le_refl _
  | cons _ _ ih => omega
theorem ss_feed {S : ByteArray} {l : List S33} {found : Int} {x0 : ByteArray} {x1 : Int} {x2 x3 : Bool} {x4 x5 : Int} {x6 : Bool} (h : SS S l found x0 x1 x2 x3 x4 x5 x6) (t : ByteArray) (hs : S.size + t.size ≤ 100000) (k : Nat) (hk : 20000 ≤ k) :
    ∃ out e u0 u1 u2 u3 u4 u5 u6, capture_Reader_Feed.f k x0 x1 x2 x3 x4 x5 x6 t = some (out, e, u0, u1, u2, u3, u4, u5, u6) ∧ ((found = 0 ∧ SS (S ++ t) (l ++ out) e u0 u1 u2 u3 u4 u5 u6 ∧ out.length ≤ 2000 ∧ l.length ≤ 2000) ∨ (found ≠ 0 ∧ out = [] ∧ e = 10 ∧ SS (S ++ t) l found u0 u1 u2 u3 u4 u5 u6)) := by
  obtain ⟨q, rfl⟩ : ∃ q, k = q + 1 := ⟨k - 1, by omega⟩
  have hz := size_append S t
  cases h with
  | over _ _ _ _ _ _ _ _ hb =>
    refine ⟨[], 10, x0, x1, x2, x3, x4, x5, true, ?_, .inr ⟨hb.2.1, rfl, rfl, SS.over _ _ _ _ _ _ _ _ _ (bad_app t hb hs)⟩⟩
    unfold capture_Reader_Feed.f
    rw [if_pos rfl]
  | new hn =>
    unfold capture_Reader_Feed.f
    rw [if_neg (show ¬ (false = true) by decide), if_pos (show S.size + t.size ≤ 9223372036854775807 by omega), if_neg (show ¬ (false = true) by decide)]
    by_cases c : (S ++ t).size < 24
    · unfold capture_Reader_header.f
      rw [if_pos (by omega)]
      simp only [bs]
      rw [if_neg (by decide)]
      exact ⟨[], 0, _, _, _, _, _, _, _, rfl, .inl ⟨by trivial, SS.new _ c, by simp, by simp⟩⟩
    · obtain ⟨lit, h1⟩ := header_is (S ++ t) (by omega) (by omega) (q + 1) (by omega)
      rw [h1]
      cases hg : headG (S ++ t) with
      | none =>
        simp only [bs]
        rw [if_neg (by decide)]
        exact ⟨[], 2, _, _, _, _, _, _, _, rfl, .inl ⟨by trivial, SS.over _ _ _ _ _ _ _ _ _ ⟨by omega, by decide, .inl ⟨hg, rfl⟩⟩, by simp, by simp⟩⟩
      | some big =>
        simp only [bs]
        rw [if_pos trivial, capture_Reader_Feed.j0]
        obtain ⟨out, e, u0, u1, u2, u3, u4, u5, u6, g1, g2, g3⟩ := ss_run (S ++ t) big [] 24 0 0 (by omega) (by omega) hg (.nil _ _ _ _) (by omega) (by omega) (by omega) q (by omega)
        exact ⟨out, e, u0, u1, u2, u3, u4, u5, u6, g1, .inl ⟨by trivial, g2, g3, by simp⟩⟩
  | run big _ a cnt _ h24 hg hl =>
    obtain ⟨v1, v2, v3⟩ := loop_inv S big 7000 24 0 0 [] (by omega) (by omega)
    obtain ⟨w1, w2⟩ := loop_run S big 7000 24 0 0 [] (by omega)
    rw [hl] at v1 v2 v3 w1
    dsimp only at v1 v2 v3 w1
    have hge := run_ge w1
    unfold capture_Reader_Feed.f
    rw [if_neg (show ¬ (false = true) by decide), if_pos (show (S.extract a S.size).size + t.size ≤ 9223372036854775807 by rw [ByteArray.size_extract]; omega), if_pos rfl, capture_Reader_Feed.j0, rest_app S t a v1]
    obtain ⟨out, e, u0, u1, u2, u3, u4, u5, u6, g1, g2, g3⟩ := ss_run (S ++ t) big l a cnt x5 (by omega) (by omega) (by rw [head_app S t h24]; exact hg) (run_app t w1) (by omega) v2 hge q (by omega)
    exact ⟨out, e, u0, u1, u2, u3, u4, u5, u6, g1, .inl ⟨by trivial, g2, g3, by simp at v3; omega⟩⟩
theorem close_run (s : ByteArray) (a : Nat) (ha : a ≤ s.size) (x1 : Int) (b : Bool) (x4 x5 : Int) :
    capture_Reader_Close.f (s.extract a s.size) x1 true b x4 x5 false = some ((if a = s.size then 0 else 1), s.extract a s.size, x1, true, b, x4, x5, true) := by
  have hz : (s.extract a s.size).size = s.size - a := by rw [ByteArray.size_extract]; omega
  unfold capture_Reader_Close.f
  rw [if_neg (show ¬ (false = true) by decide), if_pos rfl]
  by_cases w : a = s.size
  · have e0 : s.extract a s.size = ⟨#[]⟩ := by apply bytesOf_inj; apply List.eq_nil_of_length_eq_zero; rw [bytesOf_length, hz]; omega
    rw [if_pos (by rw [e0]; unfold ByteArray.toList ByteArray.toList.loop; rfl), if_pos w]
  · have e1 : ¬ (s.extract a s.size).toList = ([] : List UInt8) := by
      intro y
      rw [ByteArray.toList_eq] at y
      have h0 : (s.extract a s.size).data.toList.length = 0 := by rw [y]; rfl
      have h1 : (s.extract a s.size).data.toList.length = (s.extract a s.size).size := by rw [Array.length_toList]; rfl
      omega
    rw [if_neg e1, if_neg w]
/-- Closing, and Read of the whole. -/
theorem ss_close {S : ByteArray} {l : List S33} {x0 : ByteArray} {x1 : Int} {x2 x3 : Bool} {x4 x5 : Int} {x6 : Bool} (h : SS S l 0 x0 x1 x2 x3 x4 x5 x6) (hs : S.size ≤ 100000) : ∃ e, capture_Reader_Close.f x0 x1 x2 x3 x4 x5 x6 = some (e, x0, x1, x2, x3, x4, x5, true) ∧ l.length ≤ 2000 ∧ ((S.size < 24 ∧ e = 1) ∨ (24 ≤ S.size ∧ ∃ big, headG S = some big ∧ ∃ a c la, loopG S big 7000 24 0 0 [] = (l, 0, a, c, la) ∧ a ≤ S.size ∧ e = if a = S.size then 0 else 1)) := by
  cases h with
  | over _ _ _ _ _ _ _ _ hb => exact absurd rfl hb.2.1
  | new hn =>
    refine ⟨1, ?_, by simp, .inl ⟨hn, rfl⟩⟩
    unfold capture_Reader_Close.f
    rw [if_neg (by decide), if_neg (by decide)]
  | run big _ a cnt _ h24 hg hl =>
    obtain ⟨v1, v2, v3⟩ := loop_inv S big 7000 24 0 0 [] (by omega) (by omega)
    rw [hl] at v1 v2 v3
    dsimp only at v1 v2 v3
    exact ⟨_, close_run S a v1 _ _ _ _, by simp at v3; omega, .inr ⟨h24, big, hg, a, cnt, x5, hl, v1, rfl⟩⟩
/-- Read of the whole: an error that the pieces have found, or what closing says. -/
theorem ss_read {S : ByteArray} {l : List S33} {found : Int} {x0 : ByteArray} {x1 : Int} {x2 x3 : Bool} {x4 x5 : Int} {x6 : Bool} (h : SS S l found x0 x1 x2 x3 x4 x5 x6) (hs : S.size ≤ 100000) (k : Nat) (hk : 20000 ≤ k) :
    (found ≠ 0 → ∃ r i, capture_Read.f k S = some (r, found, i)) ∧ (found = 0 → l.length ≤ 2000 ∧ ∃ e r i, capture_Reader_Close.f x0 x1 x2 x3 x4 x5 x6 = some (e, x0, x1, x2, x3, x4, x5, true) ∧ capture_Read.f k S = some (r, e, i) ∧ (e = 0 → r = l)) := by
  obtain ⟨out, e, u0, u1, u2, u3, u4, u5, u6, g1, g2⟩ := ss_feed (SS.new ⟨#[]⟩ (by decide)) S (by show 0 + S.size ≤ _; omega) k hk
  have e0 : (⟨#[]⟩ : ByteArray) ++ S = S := by apply bytesOf_inj; rw [bytesOf_append]; rfl
  rw [e0, List.nil_append] at g2
  obtain ⟨-, g2, -⟩ := g2.resolve_right (fun y => y.1 rfl)
  have hR : capture_Read.f k S = if e = 0 then (capture_Reader_Close.f u0 u1 u2 u3 u4 u5 u6).bind fun b => (if b.1 = 0 then (some (out, 0, 0)) else (some (([] : List S33), b.1, b.2.2.1))) else some ([], e, u1) := by
    unfold capture_Read.f capture_NewReader.f
    simp only [bs]
    rw [g1]
    simp only [bs]
  rw [hR]
  have key : ∀ {L : List S33} {f : Int} {y0 : ByteArray} {y1 : Int} {y2 y3 : Bool} {y4 y5 : Int} {y6 : Bool}, SS S L f y0 y1 y2 y3 y4 y5 y6 → (f = 0 ∨ Bad S f) := by
    intro L f y0 y1 y2 y3 y4 y5 y6 y
    cases y with
    | over _ _ _ _ _ _ _ _ hb => exact .inr hb
    | new => exact .inl rfl
    | run => exact .inl rfl
  constructor
  · intro hf
    obtain ⟨b24, -, hb⟩ := (key h).resolve_left hf
    by_cases z : e = 0
    · subst z
      obtain ⟨e', c1, -, c2⟩ := ss_close g2 hs
      exfalso
      rcases c2 with c2 | ⟨-, big, hg, a, c, la, hl, -⟩
      · omega
      · rcases hb with hb | ⟨big', hg', a', c', l', o', hl'⟩
        · rw [hb.1] at hg; cases hg
        · rw [hg] at hg'
          obtain rfl := Option.some.inj hg'
          rw [hl] at hl'
          exact hf (congrArg (fun p => p.2.1) hl').symm
    · rw [if_neg z]
      obtain ⟨-, -, hb'⟩ := (key g2).resolve_left z
      refine ⟨[], u1, ?_⟩
      have : e = found := by
        rcases hb with hb | ⟨big, hg, a, c, la, o, hl⟩ <;> rcases hb' with hb' | ⟨big', hg', a', c', l', o', hl'⟩
        · rw [hb.2, hb'.2]
        · rw [hb.1] at hg'; cases hg'
        · rw [hb'.1] at hg; cases hg
        · rw [hg] at hg'
          obtain rfl := Option.some.inj hg'
          rw [hl] at hl'
          exact (congrArg (fun p => p.2.1) hl').symm
      rw [this]
  · intro hf
    subst hf
    obtain ⟨e1, c1, cl, c2⟩ := ss_close h hs
    refine ⟨cl, ?_⟩
    by_cases z : e = 0
    · subst z
      obtain ⟨e', d1, -, d2⟩ := ss_close g2 hs
      rw [if_pos rfl, d1]
      simp only [bs]
      have hee : e' = e1 ∧ (e1 = 0 → out = l) := by
        rcases c2 with c2 | ⟨s24, big, hg, a, c, la, hl, -, ha⟩ <;> rcases d2 with d2 | ⟨s24', big', hg', a', c', la', hl', -, ha'⟩
        · exact ⟨by rw [c2.2, d2.2], fun y => by rw [c2.2] at y; cases y⟩
        · omega
        · omega
        · rw [hg] at hg'
          obtain rfl := Option.some.inj hg'
          rw [hl] at hl'
          obtain ⟨rfl, rfl, -⟩ := (by simpa using hl' : l = out ∧ _)
          exact ⟨by rw [ha, ha'], fun _ => rfl⟩
      obtain ⟨rfl, ho⟩ := hee
      by_cases w : e' = 0
      · subst w
        rw [if_pos rfl]
        exact ⟨_, _, _, c1, rfl, ho⟩
      · rw [if_neg w]
        exact ⟨_, _, _, c1, rfl, fun y => absurd y w⟩
    · exfalso
      obtain ⟨b24, -, hb⟩ := (key g2).resolve_left z
      rcases c2 with c2 | ⟨-, big, hg, a, c, la, hl, -⟩
      · omega
      · rcases hb with hb | ⟨big', hg', a', c', l', o', hl'⟩
        · rw [hb.1] at hg; cases hg
        · rw [hg] at hg'
          obtain rfl := Option.some.inj hg'
          rw [hl] at hl'
          exact z (congrArg (fun p => p.2.1) hl').symm
/-! ### CapS -/

def total : List ByteArray → Nat
  | [] => 0
  | s :: r => s.size + total r
theorem total_drop (l : List ByteArray) (i : Nat) (h : i < l.length) : total (l.drop i) = l[i].size + total (l.drop (i + 1)) := by rw [List.drop_eq_getElem_cons h]; rfl
theorem rdS (l : List ByteArray) (i : Nat) (h : i < l.length) : rdOf ByteArray.empty l (i : Int) = l[i] := by
  unfold rdOf
  rw [Int.toNat_natCast, List.getD_eq_getElem?_getD, List.getElem?_eq_getElem h]
  rfl
theorem longS_loop (l : List ByteArray) : ∀ (m i k n : Nat), i + m = 41 → i ≤ l.length → n + total (l.drop i) = total l → n ≤ 9000 * i →
    ∃ b, intrusionlaw09_long.l0 (k + 2 * m + 2) l (n : Int) (i : Int) = some b ∧ (b = false → l.length ≤ 40 ∧ total l ≤ 9000)
  | 0, i, k, n, h, hil, ht, hn => by
    rw [show k + 2 * 0 + 2 = (k + 1) + 1 by omega, intrusionlaw09_long.l0]
    by_cases c : (i : Int) < (l.length : Int)
    · rw [if_pos c, decide_eq_false (by omega), intrusionlaw09_long.j1, if_neg (by decide), if_pos (by omega)]
      exact ⟨true, rfl, fun hb => by cases hb⟩
    · rw [if_neg c, intrusionlaw09_long.j1, if_neg (by decide), if_pos (by omega)]
      exact ⟨true, rfl, fun hb => by cases hb⟩
  | m + 1, i, k, n, h, hil, ht, hn => by
    rw [show k + 2 * (m + 1) + 2 = (k + 2 * m + 2 + 1) + 1 by omega, intrusionlaw09_long.l0]
    by_cases c : (i : Int) < (l.length : Int)
    · have hlt : i < l.length := by omega
      have hd := total_drop l i hlt
      rw [if_pos c, decide_eq_true (by omega), intrusionlaw09_long.j1, if_pos rfl, if_pos (by omega), if_pos c, rdS l i hlt]
      by_cases d : (l[i].size : Int) > 9000
      · rw [if_pos d]
        exact ⟨true, rfl, fun hb => by cases hb⟩
      · rw [if_neg d, w64 (n := (n : Int) + (l[i].size : Int)) (by omega) (by omega), w64 (n := (i : Int) + 1) (by omega) (by omega), show (i : Int) + 1 = ((i + 1 : Nat) : Int) by omega, show (n : Int) + (l[i].size : Int) = ((n + l[i].size : Nat) : Int) by omega]
        exact longS_loop l m (i + 1) k (n + l[i].size) (by omega) (by omega) (by omega) (by omega)
    · have e0 : total (l.drop i) = 0 := by rw [List.drop_eq_nil_of_le (by omega)]; rfl
      rw [if_neg c, intrusionlaw09_long.j1, if_neg (by decide)]
      by_cases g : (l.length : Int) > 40
      · rw [if_pos g]
        exact ⟨true, rfl, fun hb => by cases hb⟩
      · rw [if_neg g]
        exact ⟨_, rfl, fun hb => by have := of_decide_eq_false hb; omega⟩
theorem longS_is (l : List ByteArray) (k : Nat) (hk : 90 ≤ k) : ∃ b, intrusionlaw09_long.f k l = some b ∧ (b = false → l.length ≤ 40 ∧ total l ≤ 9000) := by
  have := longS_loop l 41 0 (k - 84) 0 (by omega) (by omega) (by simp) (by omega)
  rw [show k - 84 + 2 * 41 + 2 = k by omega] at this
  exact this
/-! ### PureCaptureStreams -/

theorem streams_loop (l : List ByteArray) (hl : l.length ≤ 40) : ∀ (m i k : Nat) (S : ByteArray) (L : List S33) (f : Int) (x0 : ByteArray) (x1 : Int) (x2 x3 : Bool) (x4 x5 : Int) (x6 : Bool), SS S L f x0 x1 x2 x3 x4 x5 x6 → i + m = l.length → S.size + total (l.drop i) ≤ 9000 → 30000 ≤ k →
    intrusionlaw09_CaptureStreams.l0 (k + m + 1) l S L f (i : Int) x0 x1 x2 x3 x4 x5 x6 = some true
  | 0, i, k, S, L, f, x0, x1, x2, x3, x4, x5, x6, h, hi, hs, hk => by
    obtain ⟨r1, r2⟩ := ss_read h (by omega) k (by omega)
    rw [show k + 0 + 1 = k + 1 by omega, intrusionlaw09_CaptureStreams.l0, if_neg (by omega)]
    by_cases z : f = 0
    · obtain ⟨hL, e, r, j, c1, c2, c3⟩ := r2 z
      rw [if_pos z, c1]
      simp only [bs]
      rw [c2]
      simp only [bs]
      rw [if_pos trivial]
      by_cases w : e = 0
      · rw [if_pos w, c3 w, same_is L (by omega) k (by omega)]
        simp only [bs]
      · rw [if_neg w]
    · obtain ⟨r, j, c2⟩ := r1 z
      rw [if_neg z, c2]
      simp only [bs]
      rw [if_pos trivial, if_neg z]
  | m + 1, i, k, S, L, f, x0, x1, x2, x3, x4, x5, x6, h, hi, hs, hk => by
    have hlt : i < l.length := by omega
    have hd := total_drop l i hlt
    have hz := size_append S l[i]
    obtain ⟨out, e, u0, u1, u2, u3, u4, u5, u6, g1, g2⟩ := ss_feed h l[i] (by omega) (k + m + 1) (by omega)
    rw [show k + (m + 1) + 1 = (k + m + 1) + 1 by omega, intrusionlaw09_CaptureStreams.l0, if_pos (by omega), if_pos (by omega), rdS l i hlt, if_pos (by omega), g1]
    simp only [bs]
    rw [w64 (n := (i : Int) + 1) (by omega) (by omega), show (i : Int) + 1 = ((i + 1 : Nat) : Int) by omega]
    rcases g2 with ⟨z, g2, g3, g4⟩ | ⟨z, rfl, rfl, g2⟩
    · rw [if_pos z, if_pos (by omega)]
      exact streams_loop l hl m (i + 1) k (S ++ l[i]) (L ++ out) e u0 u1 u2 u3 u4 u5 u6 g2 (by omega) (by omega) hk
    · rw [if_neg z, if_neg (by simp), if_pos rfl]
      exact streams_loop l hl m (i + 1) k (S ++ l[i]) L f u0 u1 u2 u3 u4 u5 u6 g2 (by omega) (by omega) hk
theorem CaptureStreams : intrusionlaw09_CaptureStreams.Pure := by
  intro l _ _
  obtain ⟨K, hK⟩ : ∃ K, 31000 = K := ⟨_, rfl⟩
  refine ⟨K + 1, ?_⟩
  unfold intrusionlaw09_CaptureStreams.f capture_NewReader.f
  obtain ⟨b, h1, h2⟩ := longS_is l (K + 1) (by omega)
  rw [lives_is (K + 1) (by omega)]
  simp only [bs]
  rw [if_pos trivial, h1]
  simp only [bs]
  cases b with
  | true => rw [if_pos rfl, intrusionlaw09_CaptureStreams.j0, if_pos rfl]
  | false =>
    obtain ⟨hl, ht⟩ := h2 rfl
    rw [if_neg (by decide), intrusionlaw09_CaptureStreams.j0, if_neg (by decide)]
    have main := streams_loop l hl l.length 0 (K - l.length - 1) ⟨#[]⟩ [] 0 _ _ _ _ _ _ _ (SS.new ⟨#[]⟩ (by decide)) (by omega) (by show 0 + _ ≤ _; rw [List.drop_zero]; omega) (by omega)
    rw [show K - l.length - 1 + l.length + 1 = K by omega] at main
    exact main
end Go.Proofs.Ytafjmciojeondaa.Pure

