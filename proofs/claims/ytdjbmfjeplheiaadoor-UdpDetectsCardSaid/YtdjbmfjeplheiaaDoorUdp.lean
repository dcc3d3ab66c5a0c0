/- What the program's Decode and Encode of layer 13 compute, in closed form, and that the awake example holds; for strings of at most 2^40 bytes. -/
import Derived.Test.YtdjbmfjeplheiaaDoorReader
import Derived.Test.YtdjbmfjeplheiaaDoorSumA
import Derived.Test.YtdjbmfjeplheiaaDoorPseudoP
import Derived.Test.YtdjbmfjeplheiaaDoorX6
import Derived.Test.YtdjbmfjeplheiaaDoorX8
import Derived.Test.YtdjbmfjeplheiaaDoorX3
import Derived.Test.YtdjbmfjeplheiaaDoorX5
import Derived.Test.YtdjbmfjeplheiaaDoorX7
namespace Go.Proofs.YtdjbmfjeplheiaaDoor.Pure
open Go.RowKit Go.Proofs.YtdjbmfjeplheiaaDoor.X Go.Proofs.YtdjbmfjeplheiaaDoorW.PrintWords Go.Proofs.YtdjbmfjeplheiaaDoorW.PrintLast Go.Proofs.YtdjbmfjeplheiaaDoorW.PrintMore

theorem awake60 : intrusionlaw13_awake.f 100 = some true := by decide +kernel
theorem awake_is (k : Nat) (hk : 100 ≤ k) : intrusionlaw13_awake.f k = some true := at_rounds intrusionlaw13_awake.mono hk awake60
/-- Two addresses that fit. -/
def okFit (v6 : Bool) (hi lo : Int) (w6 : Bool) (hj lp : Int) : Prop := okAddr v6 hi lo ∧ okAddr w6 hj lp ∧ v6 = w6
instance (v6 : Bool) (hi lo : Int) (w6 : Bool) (hj lp : Int) : Decidable (okFit v6 hi lo w6 hj lp) := by unfold okFit; infer_instance
theorem avalid_is (v6 : Bool) (hi lo : Int) : address_Valid.f v6 hi lo = some (decide (okAddr v6 hi lo)) := by
  unfold address_Valid.f okAddr
  by_cases h : v6 = true
  · simp [h]
  · by_cases h2 : hi = 0
    · rw [if_neg h, if_pos h2]
      congr 1
      apply decide_eq_decide.mpr
      constructor
      · intro h3; exact .inr ⟨h2, by omega⟩
      · rintro (h3 | h3)
        · exact absurd h3 h
        · omega
    · simp [h, h2]
theorem fit_is (v6 : Bool) (hi lo : Int) (w6 : Bool) (hj lp : Int) : udp_ends_fit.f v6 hi lo w6 hj lp = some (decide (okFit v6 hi lo w6 hj lp)) := by
  unfold udp_ends_fit.f okFit
  rw [avalid_is, avalid_is]
  simp only [bs, decide_eq_true_eq]
  by_cases c1 : okAddr v6 hi lo
  · rw [if_pos c1]
    by_cases c2 : okAddr w6 hj lp
    · rw [if_pos c2]
      by_cases c3 : v6 = w6
      · subst c3
        split <;> simp [c1, c2]
      · rw [if_neg (by simp [c3])]
        simp [c3]
    · rw [if_neg c2]; simp [c2]
  · rw [if_neg c1]; simp [c1]
/-- The checksum is never 0. -/
def nz (n : Int) : Int := if n = 0 then 65535 else n
def zz : ByteArray := ⟨#[0, 0]⟩
/-- The checksum of a datagram whose checksum is 0. -/
def sumU (v6 : Bool) (hi lo : Int) (w6 : Bool) (hj lp : Int) (s : ByteArray) : Int := nz (sumOf (pseudoOf v6 hi lo w6 hj lp 17 s.size ++ s))
/-- A datagram with its checksum made 0. -/
def zeroed (s : ByteArray) : ByteArray := s.extract 0 6 ++ zz ++ s.extract 8 s.size
theorem zeroed_size (s : ByteArray) (h : 8 ≤ s.size) : (zeroed s).size = s.size := by
  have z : zz.size = 2 := rfl
  unfold zeroed
  rw [size_append, size_append, z]
  simp; omega
theorem pseudo_len (v6 : Bool) (hi lo : Int) (w6 : Bool) (hj lp : Int) (p s : Int) : (pseudoOf v6 hi lo w6 hj lp p s).size ≤ 40 := by
  have a := addrOf_len v6 hi lo
  have b := addrOf_len w6 hj lp
  have z : (⟨#[]⟩ : ByteArray).size = 0 := rfl
  unfold pseudoOf
  repeat' split
  all_goals first
    | (rw [z]; omega)
    | (rw [strOfNums_size]; simp only [List.length_append, beN_length]; omega)
structure Addrs (hi lo hj lp : Int) : Prop where
  h0 : 0 ≤ hi
  h1 : hi < 18446744073709551616
  h2 : 0 ≤ lo
  h3 : lo < 18446744073709551616
  g0 : 0 ≤ hj
  g1 : hj < 18446744073709551616
  g2 : 0 ≤ lp
  g3 : lp < 18446744073709551616
theorem sum13_is (v6 : Bool) (hi lo : Int) (w6 : Bool) (hj lp : Int) (A : Addrs hi lo hj lp) (s : ByteArray) (h8 : 8 ≤ s.size) (hs : s.size ≤ 1099511627776) (k : Nat) (hk : s.size + 60 ≤ k) :
    udp_ends_sum.f k v6 hi lo w6 hj lp s = some (sumU v6 hi lo w6 hj lp (zeroed s)) := by
  unfold udp_ends_sum.f
  have pl := pseudo_len v6 hi lo w6 hj lp 17 (s.size : Int)
  have z : (⟨#[0, 0]⟩ : ByteArray).size = 2 := rfl
  have e1 : (s.extract 0 6).size = 6 := by simp; omega
  have e2 : (s.extract 8 s.size).size = s.size - 8 := by simp
  rw [pseudo_is v6 hi lo w6 hj lp 17 _ A.h0 A.h1 A.h2 A.h3 A.g0 A.g1 A.g2 A.g3 k (by omega)]
  simp only [bs]
  have q : (pseudoOf v6 hi lo w6 hj lp 17 ↑s.size ++ s.extract 0 6).size = (pseudoOf v6 hi lo w6 hj lp 17 ↑s.size).size + 6 := by rw [size_append, e1]
  have q2 : (pseudoOf v6 hi lo w6 hj lp 17 ↑s.size ++ s.extract 0 6 ++ (⟨#[0, 0]⟩ : ByteArray)).size = (pseudoOf v6 hi lo w6 hj lp 17 ↑s.size).size + 8 := by rw [size_append, q, z]
  have q3 : (pseudoOf v6 hi lo w6 hj lp 17 ↑s.size ++ s.extract 0 6 ++ (⟨#[0, 0]⟩ : ByteArray) ++ s.extract 8 s.size).size = (pseudoOf v6 hi lo w6 hj lp 17 ↑s.size).size + s.size := by rw [size_append, q2, e2]; omega
  rw [if_pos (show (0 : Nat) ≤ 6 by decide), if_pos (show (6 : Int) ≤ (s.size : Int) by omega), if_pos (by rw [e1]; omega), if_pos (by rw [q]; omega), if_pos (show (8 : Int) ≤ (s.size : Int) by omega), if_pos (by rw [q2, e2]; omega), sum_is _ (by rw [q3]; omega) k (by rw [q3]; omega)]
  simp only [bs]
  have e : pseudoOf v6 hi lo w6 hj lp 17 ↑s.size ++ s.extract 0 6 ++ (⟨#[0, 0]⟩ : ByteArray) ++ s.extract 8 s.size = pseudoOf v6 hi lo w6 hj lp 17 ((zeroed s).size : Int) ++ zeroed s := by
    rw [zeroed_size s h8]
    apply bytesOf_inj
    unfold zeroed zz
    simp only [bytesOf_append, List.append_assoc]
  rw [e]
  unfold sumU nz
  split <;> rfl
/-- The 16-bit word at a place. -/
def W (s : ByteArray) (i : Nat) : Int := valBE (bytesOf (s.extract i (i + 2)))
theorem W_range (s : ByteArray) (i : Nat) (h : i + 2 ≤ s.size) : 0 ≤ W s i ∧ W s i < 65536 := by
  have hr := valBE_range _ (bytesOf_range (s.extract i (i + 2)))
  have hb := bytesOf_length (s.extract i (i + 2))
  have hz : (s.extract i (i + 2)).size = 2 := by simp; omega
  rw [hb, hz] at hr
  exact hr
/-- Decode in closed form. -/
def decU (v6 : Bool) (hi lo : Int) (w6 : Bool) (hj lp : Int) (s : ByteArray) : Int × Int × ByteArray × Int :=
  if ¬ okFit v6 hi lo w6 hj lp then (0, 0, ⟨#[]⟩, 13)
  else if s.size < 8 then (0, 0, ⟨#[]⟩, 1)
  else if W s 4 < 8 then (0, 0, ⟨#[]⟩, 2)
  else if W s 4 > (s.size : Int) then (0, 0, ⟨#[]⟩, 1)
  else if W s 6 ≠ sumU v6 hi lo w6 hj lp (zeroed (s.extract 0 (W s 4).toNat)) ∧ (W s 6 ≠ 0 ∨ v6 = true) then (0, 0, ⟨#[]⟩, 8)
  else (W s 0, W s 2, s.extract 8 (W s 4).toNat, 0)
theorem int2 (s : ByteArray) (i : Nat) (k : Nat) (hs : s.size ≤ 1099511627776) (hi : i + 2 ≤ s.size) (hk : 8 ≤ k) : field_Reader_Int.f k s (i : Int) 0 2 = some (W s i, s, ((i + 2 : Nat) : Int), 0) := by
  have h := int_is s i 2 0 k (by omega) (by omega) (by omega) (by omega) hk
  rw [show (((2 : Nat)) : Int) = 2 from rfl, if_pos rfl, if_neg (by omega)] at h
  exact h
theorem decode_is (v6 : Bool) (hi lo : Int) (w6 : Bool) (hj lp : Int) (A : Addrs hi lo hj lp) (s : ByteArray) (hs : s.size ≤ 1099511627776) (k : Nat) (hk : s.size + 70 ≤ k) :
    udp_Decode.f k v6 hi lo w6 hj lp s = some (decU v6 hi lo w6 hj lp s) := by
  unfold udp_Decode.f decU field_NewReader.f
  rw [fit_is]
  simp only [bs, decide_eq_true_eq]
  by_cases c0 : okFit v6 hi lo w6 hj lp
  · rw [if_pos c0, if_neg (show ¬ ¬ okFit v6 hi lo w6 hj lp from fun h => h c0)]
    by_cases c1 : (s.size : Int) < 8
    · rw [if_pos c1, if_pos (by omega)]
    · have r0 := int2 s 0 k hs (by omega) (by omega)
      have r2 := int2 s 2 k hs (by omega) (by omega)
      have r4 := int2 s 4 k hs (by omega) (by omega)
      have r6 := int2 s 6 k hs (by omega) (by omega)
      rw [show (((0 : Nat)) : Int) = 0 from rfl] at r0
      have w4 := W_range s 4 (by omega)
      rw [if_neg c1, if_neg (show ¬ s.size < 8 by omega), r0]
      simp only [bs]
      rw [r2]
      simp only [bs]
      rw [r4]
      simp only [bs]
      rw [r6]
      simp only [bs]
      by_cases c2 : W s 4 < 8
      · rw [if_pos c2, if_pos c2]
      · rw [if_neg c2, if_neg c2]
        by_cases c3 : W s 4 > (s.size : Int)
        · rw [if_pos c3, if_pos c3]
        · rw [if_neg c3, if_neg c3]
          have ez : (s.extract 0 (W s 4).toNat).size = (W s 4).toNat := by simp; omega
          have hsum := sum13_is v6 hi lo w6 hj lp A (s.extract 0 (W s 4).toNat) (by omega) (by omega) k (by omega)
          have tl : ∀ b : Bool, udp_Decode.j0 k s (W s 4) b (W s 0) (W s 2) (⟨#[]⟩ : ByteArray) = some (if b = true then (0, 0, ⟨#[]⟩, 8) else (W s 0, W s 2, s.extract 8 (W s 4).toNat, 0)) := by
            intro b
            obtain ⟨k, rfl⟩ : ∃ m, k = m + 1 := ⟨k - 1, by omega⟩
            rw [udp_Decode.j0]
            cases b with
            | true => rfl
            | false => rw [if_neg (by simp), if_pos (by omega), if_pos (by omega), if_neg (by simp)]
          by_cases c4 : W s 6 = 0
          · rw [if_pos c4]
            by_cases c5 : v6 = true
            · rw [if_pos c5, if_pos (by omega), if_pos (by omega), hsum]
              simp only [bs]
              rw [tl]
              by_cases c6 : W s 6 = sumU v6 hi lo w6 hj lp (zeroed (s.extract 0 (W s 4).toNat))
              · rw [if_neg (by simp [c6]), if_neg (fun h => h.1 c6)]
              · rw [if_pos (by simpa using c6), if_pos ⟨c6, .inr c5⟩]
            · rw [if_neg c5, tl, if_neg (by simp), if_neg (fun h => h.2.elim (fun h => h c4) c5)]
          · rw [if_neg c4, if_pos (by omega), if_pos (by omega), hsum]
            simp only [bs]
            rw [tl]
            by_cases c6 : W s 6 = sumU v6 hi lo w6 hj lp (zeroed (s.extract 0 (W s 4).toNat))
            · rw [if_neg (by simp [c6]), if_neg (fun h => h.1 c6)]
            · rw [if_pos (by simpa using c6), if_pos ⟨c6, .inl c4⟩]
  · rw [if_neg c0, if_pos c0]
end Go.Proofs.YtdjbmfjeplheiaaDoor.Pure
