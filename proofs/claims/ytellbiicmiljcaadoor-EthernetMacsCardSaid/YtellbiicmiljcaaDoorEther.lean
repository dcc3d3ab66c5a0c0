/- What the program's and the document's Decode of layer 10 compute, in one closed form, and that the awake examples hold; for strings of at most 2^62 bytes. -/
import Derived.Test.YtellbiicmiljcaaDoorReader
import Derived.Test.YtellbiicmiljcaaDoorX4
import Derived.Test.YtellbiicmiljcaaDoorX2
import Derived.Test.YtellbiicmiljcaaDoorX3
namespace Go.Proofs.YtellbiicmiljcaaDoor.Pure
open Go.RowKit Go.Proofs.YtellbiicmiljcaaDoor.X Go.Proofs.YtellbiicmiljcaaDoorW.PrintWords Go.Proofs.YtellbiicmiljcaaDoorW.PrintLast Go.Proofs.YtellbiicmiljcaaDoorW.PrintMore

theorem awake60 : intrusionlaw10_awake.f 60 = some true := by decide +kernel
theorem awake_is (k : Nat) (hk : 60 ≤ k) : intrusionlaw10_awake.f k = some true := at_rounds intrusionlaw10_awake.mono hk awake60
theorem and12 (n : Int) : Go.bits .and .i64 n 4095 = n % 4096 := by
  have h127 : (BitVec.ofInt 64 4095).toNat = 2 ^ 12 - 1 := by decide
  have key : (BitVec.ofInt 64 n &&& BitVec.ofInt 64 4095).toNat = (n % ((2 ^ 64 : Nat) : Int)).toNat % 2 ^ 12 := by
    rw [BitVec.toNat_and, BitVec.toNat_ofInt, h127, Nat.and_two_pow_sub_one_eq_mod]
  show IntKind.i64.wrap ((BitVec.ofInt 64 n &&& BitVec.ofInt 64 4095).toNat : Nat) = n % 4096
  rw [key, IntKind.wrap_i64]
  omega
/-- The 16-bit word at a place. -/
def W (s : ByteArray) (i : Nat) : Int := valBE (bytesOf (s.extract i (i + 2)))
abbrev Frame := Int × Int × List Int × Int × ByteArray × Int
def failed (e : Int) : Frame := (0, 0, [], 0, ⟨#[]⟩, e)
/-- Whether a type is that of a tag. -/
def isTag (t : Int) : Prop := t = 33024 ∨ t = 34984
instance (t : Int) : Decidable (isTag t) := by unfold isTag; infer_instance
/-- What follows a type t, read up to i. -/
def decL (s : ByteArray) (d c : Int) : Nat → Nat → Int → List Int → Frame
  | 0, i, t, vl => if isTag t then failed 9 else if t < 1536 then failed 2 else (d, c, vl, t, s.extract i s.size, 0)
  | n + 1, i, t, vl => if isTag t then (if s.size < i + 4 then failed 1 else decL s d c n (i + 4) (W s (i + 2)) (vl ++ [W s i % 4096])) else if t < 1536 then failed 2 else (d, c, vl, t, s.extract i s.size, 0)
/-- Decode in closed form. -/
def decOf (s : ByteArray) : Frame :=
  if s.size < 14 then failed 1 else decL s (valBE (bytesOf (s.extract 0 6))) (valBE (bytesOf (s.extract 6 12))) 2 14 (W s 12) []
theorem tagged_is (t : Int) : ethernet_tagged.f t = some (decide (isTag t)) := by
  unfold ethernet_tagged.f isTag
  have e0 : rd TAB0 0 = 33024 := by decide
  have e1 : rd TAB0 1 = 34984 := by decide
  rw [e0, e1, if_pos (by decide)]
  by_cases h : t = 33024
  · rw [if_pos h]; simp [h]
  · rw [if_neg h, if_pos (by decide)]; simp only [h, false_or]; by_cases h2 : t = 34984 <;> simp [h2]
theorem dec_err (s : ByteArray) (i e : Int) (he : e ≠ 0) (d c : Int) (vl : List Int) (t : Int) (p : ByteArray) (k : Nat) (hk : 2 ≤ k) : ethernet_Decode.l0 k s i e d c vl t p = some (failed e) := by
  obtain ⟨k, rfl⟩ : ∃ m, k = m + 2 := ⟨k - 2, by omega⟩
  rw [ethernet_Decode.l0, field_Reader_Err.f]
  simp only [bs]
  rw [if_neg he, ethernet_Decode.j1, field_Reader_Err.f]
  simp only [bs, Bool.false_eq_true, if_false]
  rw [if_neg he]
  rfl
theorem dec_plain (s : ByteArray) (i : Nat) (d c : Int) (vl : List Int) (t : Int) (hs : s.size ≤ 4611686018427387904) (hi : i ≤ s.size) (ht : ¬ isTag t) (k : Nat) (p : ByteArray) :
    ethernet_Decode.l0 (k + 2) s i 0 d c vl t p = some (if t < 1536 then failed 2 else (d, c, vl, t, s.extract i s.size, 0)) := by
  rw [ethernet_Decode.l0, field_Reader_Err.f]
  simp only [bs]
  rw [if_pos trivial, tagged_is, decide_eq_false ht]
  simp only [bs]
  rw [ethernet_Decode.j1, field_Reader_Err.f]
  simp only [bs, Bool.false_eq_true, if_false, if_true]
  split
  · rfl
  · unfold field_Reader_Rest.f
    rw [left_is s i 0 hs hi]
    simp only [bs]
    rw [next_is s i 0 _ hs hi (by omega) (by omega), if_pos rfl, if_neg (by omega)]
    simp only [bs]
    rw [show i + ((s.size : Int) - i).toNat = s.size by omega]
theorem W_range (s : ByteArray) (i : Nat) (h : i + 2 ≤ s.size) : 0 ≤ W s i ∧ W s i < 65536 := by
  have hr := valBE_range _ (bytesOf_range (s.extract i (i + 2)))
  have hb := bytesOf_length (s.extract i (i + 2))
  have hz : (s.extract i (i + 2)).size = 2 := by simp; omega
  rw [hb, hz] at hr
  exact hr
theorem dec_loop (s : ByteArray) (d c : Int) (hs : s.size ≤ 4611686018427387904) : ∀ (n i : Nat) (t : Int) (vl : List Int) (k : Nat), i ≤ s.size → vl.length + n = 2 → 2 * n + 12 ≤ k →
    ethernet_Decode.l0 k s i 0 d c vl t (⟨#[]⟩ : ByteArray) = some (decL s d c n i t vl)
  | 0, i, t, vl, k, hi, hl, hk => by
    obtain ⟨k, rfl⟩ : ∃ m, k = m + 2 := ⟨k - 2, by omega⟩
    by_cases ht : isTag t
    · rw [decL, if_pos ht, ethernet_Decode.l0, field_Reader_Err.f]
      simp only [bs]
      rw [if_pos trivial, tagged_is, decide_eq_true ht]
      simp only [bs]
      rw [ethernet_Decode.j1, if_pos rfl, if_pos (by omega)]
      rfl
    · rw [decL, if_neg ht, dec_plain s i d c vl t hs hi ht]
  | n + 1, i, t, vl, k, hi, hl, hk => by
    obtain ⟨k, rfl⟩ : ∃ m, k = m + 2 := ⟨k - 2, by omega⟩
    by_cases ht : isTag t
    · rw [decL, if_pos ht, ethernet_Decode.l0, field_Reader_Err.f]
      simp only [bs]
      rw [if_pos trivial, tagged_is, decide_eq_true ht]
      simp only [bs]
      rw [ethernet_Decode.j1, if_pos rfl, if_neg (by omega)]
      have i2 := fun (j : Nat) (e : Int) (hj : j ≤ s.size) => int_is s j 2 e k hs hj (by omega) (by omega) (by omega)
      simp only [show (((2 : Nat)) : Int) = 2 from rfl] at i2
      rw [i2 i 0 hi, if_pos rfl]
      by_cases c1 : s.size < i + 2
      · rw [if_pos c1, if_pos (show s.size < i + 4 by omega)]
        simp only [bs]
        rw [if_pos (by omega), i2 i 1 hi, if_neg (by decide)]
        simp only [bs]
        rw [dec_err _ _ _ (by decide) _ _ _ _ _ _ (by omega)]
      · rw [if_neg c1]
        simp only [bs]
        rw [if_pos (by omega), i2 (i + 2) 0 (by omega), if_pos rfl]
        by_cases c2 : s.size < i + 2 + 2
        · rw [if_pos c2, if_pos (show s.size < i + 4 by omega)]
          simp only [bs]
          rw [dec_err _ _ _ (by decide) _ _ _ _ _ _ (by omega)]
        · rw [if_neg c2, if_neg (show ¬ s.size < i + 4 by omega)]
          simp only [bs]
          rw [and12]
          exact dec_loop s d c hs n (i + 4) _ _ k (by omega) (by simp; omega) (by omega)
    · rw [decL, if_neg ht, dec_plain s i d c vl t hs hi ht]
theorem val6 (s : ByteArray) (i : Nat) : 0 ≤ valBE (bytesOf (s.extract i (i + 6))) ∧ valBE (bytesOf (s.extract i (i + 6))) < 281474976710656 := by
  have hr := valBE_range _ (bytesOf_range (s.extract i (i + 6)))
  have hb := bytesOf_length (s.extract i (i + 6))
  have hz : (s.extract i (i + 6)).size ≤ 6 := by simp; omega
  refine ⟨hr.1, Int.lt_of_lt_of_le hr.2 ?_⟩
  have hn : 256 ^ (bytesOf (s.extract i (i + 6))).length ≤ 281474976710656 := Nat.le_trans (Nat.pow_le_pow_right (by decide) (by omega : _ ≤ 6)) (by decide)
  have hc : ((256 ^ (bytesOf (s.extract i (i + 6))).length : Nat) : Int) = (256 : Int) ^ (bytesOf (s.extract i (i + 6))).length := Int.natCast_pow 256 _
  omega
theorem decode_is (s : ByteArray) (hs : s.size ≤ 4611686018427387904) (k : Nat) (hk : 20 ≤ k) : ethernet_Decode.f k s = some (decOf s) := by
  unfold ethernet_Decode.f field_NewReader.f decOf
  simp only [bs]
  have i6 := fun (j : Nat) (e : Int) (hj : j ≤ s.size) => int_is s j 6 e k hs hj (by omega) (by omega) (by omega)
  have i2 := fun (j : Nat) (e : Int) (hj : j ≤ s.size) => int_is s j 2 e k hs hj (by omega) (by omega) (by omega)
  simp only [show (((6 : Nat)) : Int) = 6 from rfl] at i6
  simp only [show (((2 : Nat)) : Int) = 2 from rfl] at i2
  have z : ((0 : Nat) : Int) = 0 := rfl
  have i60 := i6 0 0 (by omega)
  rw [z] at i60
  rw [i60, if_pos rfl]
  by_cases c1 : s.size < 0 + 6
  · rw [if_pos c1, if_pos (by omega)]
    simp only [bs]
    have i61 := i6 0 1 (by omega)
    have i21 := i2 0 1 (by omega)
    rw [z] at i61 i21
    rw [i61, if_neg (by decide)]
    simp only [bs]
    rw [i21, if_neg (by decide)]
    simp only [bs]
    rw [dec_err _ _ _ (by decide) _ _ _ _ _ _ (by omega)]
  · rw [if_neg c1]
    simp only [bs]
    rw [i6 (0 + 6) 0 (by omega), if_pos rfl]
    by_cases c2 : s.size < 0 + 6 + 6
    · rw [if_pos c2, if_pos (by omega)]
      simp only [bs]
      rw [i2 (0 + 6) 1 (by omega), if_neg (by decide)]
      simp only [bs]
      rw [dec_err _ _ _ (by decide) _ _ _ _ _ _ (by omega)]
    · rw [if_neg c2]
      simp only [bs]
      rw [i2 (0 + 6 + 6) 0 (by omega), if_pos rfl]
      by_cases c3 : s.size < 0 + 6 + 6 + 2
      · rw [if_pos c3, if_pos (by omega)]
        simp only [bs]
        rw [dec_err _ _ _ (by decide) _ _ _ _ _ _ (by omega)]
      · rw [if_neg c3, if_neg (by omega)]
        simp only [bs]
        have v0 := val6 s 0
        have v6 := val6 s 6
        simp only [Nat.zero_add, Nat.reduceAdd] at v0 v6 ⊢
        rw [u64_wrap_id _ v0.1 (by omega), u64_wrap_id _ v6.1 (by omega)]
        have hW : valBE (bytesOf (s.extract 12 14)) = W s 12 := rfl
        rw [hW, dec_loop s _ _ hs 2 14 _ [] k (by omega) rfl (by omega)]
theorem rd_of (l : List Int) (i : Nat) (h : i < l.length) : rd l (i : Int) = l[i] := by
  unfold rd; rw [Int.toNat_natCast, List.getD_eq_getElem?_getD, List.getElem?_eq_getElem h]; rfl
theorem same_loop (d c : Int) (l : List Int) (t : Int) (p : ByteArray) (hl : l.length ≤ 100) : ∀ (m i k : Nat), i + m = l.length → intrusionref10_Same.l0 (k + m + 1) i d c l t p d c l t p = some true
  | 0, i, k, h => by rw [intrusionref10_Same.l0, if_neg (by omega)]
  | m + 1, i, k, h => by
    rw [show k + (m + 1) + 1 = (k + m + 1) + 1 by omega, intrusionref10_Same.l0, if_pos (by omega), if_pos (by omega), if_pos (by omega), if_pos rfl, w64 (by omega) (by omega), show (i : Int) + 1 = ((i + 1 : Nat) : Int) by omega]
    exact same_loop d c l t p hl m (i + 1) k (by omega)
theorem same_is (d c : Int) (l : List Int) (t : Int) (p : ByteArray) (hl : l.length ≤ 100) (k : Nat) (hk : l.length + 2 ≤ k) : intrusionref10_Same.f k d c l t p d c l t p = some true := by
  obtain ⟨k, rfl⟩ : ∃ m, k = m + 1 := ⟨k - 1, by omega⟩
  unfold intrusionref10_Same.f
  rw [if_pos rfl, if_pos rfl, if_pos rfl, if_pos rfl, bne_self_eq_false, intrusionref10_Same.j0, if_neg (by simp)]
  have := same_loop d c l t p hl l.length 0 (k - l.length - 1) (by omega)
  rw [show k - l.length - 1 + l.length + 1 = k by omega] at this
  exact this
theorem decL_vlans (s : ByteArray) (d c : Int) : ∀ (n i : Nat) (t : Int) (vl : List Int), vl.length + n = 2 → (decL s d c n i t vl).2.2.1.length ≤ 2
  | 0, i, t, vl, h => by
    unfold decL
    split
    · simp [failed]
    · split
      · simp [failed]
      · simp; omega
  | n + 1, i, t, vl, h => by
    unfold decL
    split
    · split
      · simp [failed]
      · exact decL_vlans s d c n _ _ _ (by simp; omega)
    · split
      · simp [failed]
      · simp; omega
theorem decOf_vlans (s : ByteArray) : (decOf s).2.2.1.length ≤ 2 := by
  unfold decOf
  split
  · simp [failed]
  · exact decL_vlans s _ _ 2 14 _ [] rfl
end Go.Proofs.YtellbiicmiljcaaDoor.Pure
