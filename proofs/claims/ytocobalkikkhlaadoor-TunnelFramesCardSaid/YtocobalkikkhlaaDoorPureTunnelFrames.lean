/- TunnelFrames as a plain law: Frame of any string of at most 70000 bytes is the document's, and the examples hold; no condition but that a machine holds the bytes. -/
import Derived.Test.YtocobalkikkhlaaDoorXDTunnelFrames
import Derived.Test.YtocobalkikkhlaaDoorReaderLeft
import Derived.Test.YtocobalkikkhlaaDoorRefVal
import Derived.Test.YtocobalkikkhlaaDoorX10
import Derived.Test.YtocobalkikkhlaaDoorX11
import Derived.Test.YtocobalkikkhlaaDoorX4
import Derived.Test.YtocobalkikkhlaaDoorX12
set_option linter.unusedVariables false
set_option linter.unusedSimpArgs false
namespace Go.Proofs.YtocobalkikkhlaaDoor.Pure
open Go.RowKit Go.Proofs.YtocobalkikkhlaaDoor.X Go.Proofs.YtocobalkikkhlaaDoorW.PrintWords Go.Proofs.YtocobalkikkhlaaDoorW.PrintLast Go.Proofs.YtocobalkikkhlaaDoorW.PrintMore

theorem awake200 : intrusionlaw17_awake.f 200 = some true := by decide +kernel
theorem awake17_is (k : Nat) (hk : 200 ≤ k) : intrusionlaw17_awake.f k = some true := at_rounds intrusionlaw17_awake.mono hk awake200
def kdOf (n : Int) : Int := if n = 2048 then 1 else if n = 34525 then 2 else if n = 25944 then 3 else 0
theorem kind_is (n : Int) : tunnel_kindOf.f n = some (kdOf n) := by
  unfold tunnel_kindOf.f kdOf
  split
  · rfl
  · split
    · rfl
    · split <;> rfl
theorem rkind_is (n : Int) : intrusionref17_kindOf.f n = some (kdOf n) := by
  unfold intrusionref17_kindOf.f kdOf
  split
  · rfl
  · split
    · rfl
    · split <;> rfl
theorem and12 (n : Int) : Go.bits .and .i64 n 4095 = n % 4096 := by
  have h127 : (BitVec.ofInt 64 4095).toNat = 2 ^ 12 - 1 := by decide
  have key : (BitVec.ofInt 64 n &&& BitVec.ofInt 64 4095).toNat = (n % ((2 ^ 64 : Nat) : Int)).toNat % 2 ^ 12 := by
    rw [BitVec.toNat_and, BitVec.toNat_ofInt, h127, Nat.and_two_pow_sub_one_eq_mod]
  show IntKind.i64.wrap ((BitVec.ofInt 64 n &&& BitVec.ofInt 64 4095).toNat : Nat) = n % 4096
  rw [key, IntKind.wrap_i64]
  omega
/-- The 16-bit word at a place. -/
def W (s : ByteArray) (i : Nat) : Int := valBE (bytesOf (s.extract i (i + 2)))
abbrev Frame := Int × Int × List Int × Int × ByteArray × Int
def failed (e : Int) : Frame := (0, 0, [], 0, ⟨#[]⟩, e)
/-- Whether a type is that of a tag. -/
def isTag (t : Int) : Prop := t = 33024 ∨ t = 34984
instance (t : Int) : Decidable (isTag t) := by unfold isTag; infer_instance
/-- What follows a type t, read up to i. -/
def decL (s : ByteArray) (d c : Int) : Nat → Nat → Int → List Int → Frame
  | 0, i, t, vl => if isTag t then failed 9 else if t < 1536 then failed 2 else (d, c, vl, t, s.extract i s.size, 0)
  | n + 1, i, t, vl => if isTag t then (if s.size < i + 4 then failed 1 else decL s d c n (i + 4) (W s (i + 2)) (vl ++ [W s i % 4096])) else if t < 1536 then failed 2 else (d, c, vl, t, s.extract i s.size, 0)
/-- Decode in closed form. -/
def decOf (s : ByteArray) : Frame :=
  if s.size < 14 then failed 1 else decL s (valBE (bytesOf (s.extract 0 6))) (valBE (bytesOf (s.extract 6 12))) 2 14 (W s 12) []
theorem tagged_is (t : Int) : ethernet_tagged.f t = some (decide (isTag t)) := by
  unfold ethernet_tagged.f isTag
  have e0 : rd TAB0 0 = 33024 := by decide
  have e1 : rd TAB0 1 = 34984 := by decide
  rw [e0, e1, if_pos (by decide)]
  by_cases h : t = 33024
  · rw [if_pos h]; simp [h]
  · rw [if_neg h, if_pos (by decide)]; simp only [h, false_or]; by_cases h2 : t = 34984 <;> simp [h2]
theorem dec_err (s : ByteArray) (i e : Int) (he : e ≠ 0) (d c : Int) (vl : List Int) (t : Int) (p : ByteArray) (k : Nat) (hk : 2 ≤ k) : ethernet_Decode.l0 k s i e d c vl t p = some (failed e) := by
  obtain ⟨k, rfl⟩ : ∃ m, k = m + 2 := ⟨k - 2, by omega⟩
  rw [ethernet_Decode.l0, field_Reader_Err.f]
  simp only [bs]
  rw [if_neg he, ethernet_Decode.j1, field_Reader_Err.f]
  simp only [bs, Bool.false_eq_true, if_false]
  rw [if_neg he]
  rfl
theorem dec_plain (s : ByteArray) (i : Nat) (d c : Int) (vl : List Int) (t : Int) (hs : s.size ≤ 4611686018427387904) (hi : i ≤ s.size) (ht : ¬ isTag t) (k : Nat) (p : ByteArray) :
    ethernet_Decode.l0 (k + 2) s i 0 d c vl t p = some (if t < 1536 then failed 2 else (d, c, vl, t, s.extract i s.size, 0)) := by
  rw [ethernet_Decode.l0, field_Reader_Err.f]
  simp only [bs]
  rw [if_pos trivial, tagged_is, decide_eq_false ht]
  simp only [bs]
  rw [ethernet_Decode.j1, field_Reader_Err.f]
  simp only [bs, Bool.false_eq_true, if_false, if_true]
  split
  · rfl
  · unfold field_Reader_Rest.f
    rw [left_is s i 0 hs hi]
    simp only [bs]
    rw [next_is s i 0 _ hs hi (by omega) (by omega), if_pos rfl, if_neg (by omega)]
    simp only [bs]
    rw [show i + ((s.size : Int) - i).toNat = s.size by omega]
theorem W_range (s : ByteArray) (i : Nat) (h : i + 2 ≤ s.size) : 0 ≤ W s i ∧ W s i < 65536 := by
  have hr := valBE_range _ (bytesOf_range (s.extract i (i + 2)))
  have hb := bytesOf_length (s.extract i (i + 2))
  have hz : (s.extract i (i + 2)).size = 2 := by simp; omega
  rw [hb, hz] at hr
  exact hr
theorem dec_loop (s : ByteArray) (d c : Int) (hs : s.size ≤ 4611686018427387904) : ∀ (n i : Nat) (t : Int) (vl : List Int) (k : Nat), i ≤ s.size → vl.length + n = 2 → 2 * n + 12 ≤ k →
    ethernet_Decode.l0 k s i 0 d c vl t (⟨#[]⟩ : ByteArray) = some (decL s d c n i t vl)
  | 0, i, t, vl, k, hi, hl, hk => by
    obtain ⟨k, rfl⟩ : ∃ m, k = m + 2 := ⟨k - 2, by omega⟩
    by_cases ht : isTag t
    · rw [decL, if_pos ht, ethernet_Decode.l0, field_Reader_Err.f]
      simp only [bs]
      rw [if_pos trivial, tagged_is, decide_eq_true ht]
      simp only [bs]
      rw [ethernet_Decode.j1, if_pos rfl, if_pos (by omega)]
      rfl
    · rw [decL, if_neg ht, dec_plain s i d c vl t hs hi ht]
  | n + 1, i, t, vl, k, hi, hl, hk => by
    obtain ⟨k, rfl⟩ : ∃ m, k = m + 2 := ⟨k - 2, by omega⟩
    by_cases ht : isTag t
    · rw [decL, if_pos ht, ethernet_Decode.l0, field_Reader_Err.f]
      simp only [bs]
      rw [if_pos trivial, tagged_is, decide_eq_true ht]
      simp only [bs]
      rw [ethernet_Decode.j1, if_pos rfl, if_neg (by omega)]
      have i2 := fun (j : Nat) (e : Int) (hj : j ≤ s.size) => int_is s j 2 e k hs hj (by omega) (by omega) (by omega)
      simp only [show (((2 : Nat)) : Int) = 2 from rfl] at i2
      rw [i2 i 0 hi, if_pos rfl]
      by_cases c1 : s.size < i + 2
      · rw [if_pos c1, if_pos (show s.size < i + 4 by omega)]
        simp only [bs]
        rw [if_pos (by omega), i2 i 1 hi, if_neg (by decide)]
        simp only [bs]
        rw [dec_err _ _ _ (by decide) _ _ _ _ _ _ (by omega)]
      · rw [if_neg c1]
        simp only [bs]
        rw [if_pos (by omega), i2 (i + 2) 0 (by omega), if_pos rfl]
        by_cases c2 : s.size < i + 2 + 2
        · rw [if_pos c2, if_pos (show s.size < i + 4 by omega)]
          simp only [bs]
          rw [dec_err _ _ _ (by decide) _ _ _ _ _ _ (by omega)]
        · rw [if_neg c2, if_neg (show ¬ s.size < i + 4 by omega)]
          simp only [bs]
          rw [and12]
          exact dec_loop s d c hs n (i + 4) _ _ k (by omega) (by simp; omega) (by omega)
    · rw [decL, if_neg ht, dec_plain s i d c vl t hs hi ht]
theorem val6 (s : ByteArray) (i : Nat) : 0 ≤ valBE (bytesOf (s.extract i (i + 6))) ∧ valBE (bytesOf (s.extract i (i + 6))) < 281474976710656 := by
  have hr := valBE_range _ (bytesOf_range (s.extract i (i + 6)))
  have hb := bytesOf_length (s.extract i (i + 6))
  have hz : (s.extract i (i + 6)).size ≤ 6 := by simp; omega
  refine ⟨hr.1, Int.lt_of_lt_of_le hr.2 ?_⟩
  have hn : 256 ^ (bytesOf (s.extract i (i + 6))).length ≤ 281474976710656 := Nat.le_trans (Nat.pow_le_pow_right (by decide) (by omega : _ ≤ 6)) (by decide)
  have hc : ((256 ^ (bytesOf (s.extract i (i + 6))).length : Nat) : Int) = (256 : Int) ^ (bytesOf (s.extract i (i + 6))).length := Int.natCast_pow 256 _
  omega
theorem edecode_is (s : ByteArray) (hs : s.size ≤ 4611686018427387904) (k : Nat) (hk : 20 ≤ k) : ethernet_Decode.f k s = some (decOf s) := by
  unfold ethernet_Decode.f field_NewReader.f decOf
  simp only [bs]
  have i6 := fun (j : Nat) (e : Int) (hj : j ≤ s.size) => int_is s j 6 e k hs hj (by omega) (by omega) (by omega)
  have i2 := fun (j : Nat) (e : Int) (hj : j ≤ s.size) => int_is s j 2 e k hs hj (by omega) (by omega) (by omega)
  simp only [show (((6 : Nat)) : Int) = 6 from rfl] at i6
  simp only [show (((2 : Nat)) : Int) = 2 from rfl] at i2
  have z : ((0 : Nat) : Int) = 0 := rfl
  have i60 := i6 0 0 (by omega)
  rw [z] at i60
  rw [i60, if_pos rfl]
  by_cases c1 : s.size < 0 + 6
  · rw [if_pos c1, if_pos (by omega)]
    simp only [bs]
    have i61 := i6 0 1 (by omega)
    have i21 := i2 0 1 (by omega)
    rw [z] at i61 i21
    rw [i61, if_neg (by decide)]
    simp only [bs]
    rw [i21, if_neg (by decide)]
    simp only [bs]
    rw [dec_err _ _ _ (by decide) _ _ _ _ _ _ (by omega)]
  · rw [if_neg c1]
    simp only [bs]
    rw [i6 (0 + 6) 0 (by omega), if_pos rfl]
    by_cases c2 : s.size < 0 + 6 + 6
    · rw [if_pos c2, if_pos (by omega)]
      simp only [bs]
      rw [i2 (0 + 6) 1 (by omega), if_neg (by decide)]
      simp only [bs]
      rw [dec_err _ _ _ (by decide) _ _ _ _ _ _ (by omega)]
    · rw [if_neg c2]
      simp only [bs]
      rw [i2 (0 + 6 + 6) 0 (by omega), if_pos rfl]
      by_cases c3 : s.size < 0 + 6 + 6 + 2
      · rw [if_pos c3, if_pos (by omega)]
        simp only [bs]
        rw [dec_err _ _ _ (by decide) _ _ _ _ _ _ (by omega)]
      · rw [if_neg c3, if_neg (by omega)]
        simp only [bs]
        have v0 := val6 s 0
        have v6 := val6 s 6
        simp only [Nat.zero_add, Nat.reduceAdd] at v0 v6 ⊢
        rw [u64_wrap_id _ v0.1 (by omega), u64_wrap_id _ v6.1 (by omega)]
        have hW : valBE (bytesOf (s.extract 12 14)) = W s 12 := rfl
        rw [hW, dec_loop s _ _ hs 2 14 _ [] k (by omega) rfl (by omega)]
theorem rtag_is (t : Int) : intrusionref10_tag.f t = some (decide (isTag t)) := by
  unfold intrusionref10_tag.f isTag
  by_cases h : t = 33024
  · rw [if_pos h]; simp [h]
  · rw [if_neg h]; simp only [h, false_or]; by_cases h2 : t = 34984 <;> simp [h2]
theorem rdec_loop (s : ByteArray) (d c : Int) (hs : s.size ≤ 1099511627776) : ∀ (n i : Nat) (vl : List Int) (k : Nat), i ≤ s.size → vl.length + n = 2 → n + 10 ≤ k →
    intrusionref10_Decode.l0 k s i d c vl 0 (⟨#[]⟩ : ByteArray) = some (if s.size < i + 2 then failed 1 else decL s d c n (i + 2) (W s i) vl)
  | n, i, vl, k, hi, hl, hk => by
    obtain ⟨k, rfl⟩ : ∃ m, k = m + 1 := ⟨k - 1, by omega⟩
    rw [intrusionref10_Decode.l0, w64 (n := (s.size : Int) - i) (by omega) (by omega), w64 (n := (i : Int) + 2) (by omega) (by omega), w64 (n := (s.size : Int) - ((i : Int) + 2)) (by omega) (by omega), w64 (n := (i : Int) + 2 + 2) (by omega) (by omega)]
    by_cases c1 : s.size < i + 2
    · rw [if_pos (by omega), if_pos c1]; rfl
    · rw [if_neg (by omega), if_neg c1, if_pos (by omega), if_pos (by omega), if_pos (by omega), show ((i : Int)).toNat = i by omega, show ((i : Int) + 2).toNat = i + 2 by omega, value_is _ (by simp; omega) _ (by omega)]
      have hW : valBE (bytesOf (s.extract i (i + 2))) = W s i := rfl
      have hW2 : valBE (bytesOf (s.extract (i + 2) (i + 2 + 2))) = W s (i + 2) := rfl
      rw [hW]
      simp only [bs]
      rw [rtag_is]
      simp only [bs, decide_eq_true_eq]
      by_cases ht : isTag (W s i)
      · rw [if_pos ht]
        match n, hl, hk with
        | 0, hl, _ =>
          rw [if_pos (by omega), decL, if_pos ht]
          rfl
        | n + 1, hl, hk =>
          rw [if_neg (by omega), decL, if_pos ht]
          by_cases c2 : s.size < i + 2 + 2
          · rw [if_pos (by omega), if_pos (by omega)]
            rfl
          · have hr := W_range s (i + 2) (by omega)
            rw [if_neg (by omega), if_pos (by omega), if_pos (by omega), if_pos (by omega), show ((i : Int) + 2 + 2).toNat = i + 2 + 2 by omega, value_is _ (by simp; omega) _ (by omega), hW2]
            simp only [bs]
            rw [if_pos (by omega), Int.tmod_eq_emod_of_nonneg hr.1, show (i : Int) + 2 + 2 = ((i + 4 : Nat) : Int) by omega,
              rdec_loop s d c hs n (i + 4) _ k (by omega) (by simp; omega) (by omega)]
      · rw [if_neg ht]
        have e : decL s d c n (i + 2) (W s i) vl = if W s i < 1536 then failed 2 else (d, c, vl, W s i, s.extract (i + 2) s.size, 0) := by
          match n with
          | 0 => rw [decL, if_neg ht]
          | n + 1 => rw [decL, if_neg ht]
        rw [e]
        split
        · rfl
        · rw [if_pos (by omega)]
theorem erdecode_is (s : ByteArray) (hs : s.size ≤ 1099511627776) (k : Nat) (hk : 20 ≤ k) : intrusionref10_Decode.f k s = some (decOf s) := by
  unfold intrusionref10_Decode.f decOf
  by_cases c1 : (s.size : Int) < 14
  · rw [if_pos c1, if_pos (by omega)]; rfl
  · have v0 := val6 s 0
    have v6 := val6 s 6
    simp only [Nat.zero_add, Nat.reduceAdd] at v0 v6
    rw [if_neg c1, if_neg (show ¬ s.size < 14 by omega), if_pos (show (0 : Nat) ≤ 6 by decide), if_pos (show (6 : Int) ≤ (s.size : Int) by omega), value_is _ (by simp; omega) _ (by omega)]
    simp only [bs]
    rw [if_pos (by decide), if_pos (by omega), value_is _ (by simp; omega) _ (by omega)]
    simp only [bs]
    rw [u64_wrap_id _ v0.1 (by omega), u64_wrap_id _ v6.1 (by omega)]
    have := rdec_loop s (valBE (bytesOf (s.extract 0 6))) (valBE (bytesOf (s.extract 6 12))) hs 2 12 [] k (by omega) rfl (by omega)
    rw [if_neg (by omega)] at this
    exact this
theorem TunnelFrames : intrusionlaw17_TunnelFrames.Pure := by
  intro s hs
  refine ⟨300, ?_⟩
  unfold intrusionlaw17_TunnelFrames.f intrusionlaw17_long.f
  simp only [bs]
  by_cases h : (s.size : Int) > 70000
  · rw [if_pos (decide_eq_true h), awake17_is _ (by omega)]
    simp only [bs]
  · rw [if_neg (by rw [decide_eq_true_iff]; exact h)]
    unfold tunnel_Frame.f intrusionref17_Frame.f
    rw [edecode_is s (by omega) _ (by omega), erdecode_is s (by omega) _ (by omega), awake17_is _ (by omega)]
    simp only [bs]
    generalize decOf s = q
    by_cases e : q.2.2.2.2.2 = 0
    · simp only [e, kind_is, rkind_is, bs, if_true]
      by_cases c : kdOf q.2.2.2.1 = 3
      · simp [c]
      · simp [c]
    · simp [e]
end Go.Proofs.YtocobalkikkhlaaDoor.Pure
