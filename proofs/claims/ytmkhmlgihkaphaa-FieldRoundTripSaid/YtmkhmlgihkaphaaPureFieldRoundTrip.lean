/- FieldRoundTrip as a plain law: reading returns what was written, in both byte orders, with at most 100 bytes before and behind; no further condition. -/
import Derived.Test.YtmkhmlgihkaphaaXDFieldRoundTrip
import Derived.Test.YtmkhmlgihkaphaaRef01
namespace Go.Proofs.Ytmkhmlgihkaphaa.Pure
open Go.RowKit Go.Proofs.Ytmkhmlgihkaphaa.X Go.Proofs.YtmkhmlgihkaphaaW.PrintWords Go.Proofs.YtmkhmlgihkaphaaW.PrintLast Go.Proofs.YtmkhmlgihkaphaaW.PrintMore

theorem getD_reverse (l : List Int) (n i : Nat) (h : l.length = n) (hi : i < n) : l.reverse.getD (n - 1 - i) 0 = l.getD i 0 := by
  subst h
  rw [List.getD_eq_getElem?_getD, List.getD_eq_getElem?_getD, List.getElem?_reverse (by omega)]
  congr 2
  omega
theorem cut_mid (x y z : ByteArray) : bytesOf (((x ++ y) ++ z).extract x.size (x.size + y.size)) = bytesOf y := by
  have hx := bytesOf_length x
  have hy := bytesOf_length y
  rw [bytesOf_extract, bytesOf_append, bytesOf_append, List.append_assoc, List.drop_left' hx, List.take_left' (by omega)]
theorem rt_end (x y a b : ByteArray) (v : Int) (z : Nat) (hx : x.size ≤ 100) (hy : y.size ≤ 100) (hz : 1 ≤ z) (hz7 : z ≤ 7) (ha : bytesOf a = beN z v) (hb : bytesOf b = (beN z v).reverse) (hv : 0 ≤ v) (hv2 : v < 256 ^ z) :
    ∀ (m i k : Nat), i + m = z → intrusionlaw01_FieldRoundTrip.l0 (k + m + 50) x y z v a b i = some true
  | 0, i, k, h => by
    have la : a.size = z := by rw [size_bytes, ha, beN_length]
    have lb : b.size = z := by rw [size_bytes, hb, List.length_reverse, beN_length]
    have s1 := size_append x a
    have s2 := size_append (x ++ a) y
    have s3 := size_append x b
    have s4 := size_append (x ++ b) y
    have hval : valBE (beN z v) = v := by rw [valBE_beN z v hv, Int.emod_eq_of_lt hv hv2]
    have c1 := cut_mid x a y
    have c2 := cut_mid x b y
    rw [la] at c1
    rw [lb] at c2
    have g1 : field_Get.f (k + 49) (x ++ a ++ y) (x.size : Int) z = some (v, 0) := by
      unfold field_Get.f
      rw [if_pos (by omega), if_neg (by omega), if_neg (by omega), show ((x.size : Int)).toNat = x.size by omega, show ((x.size : Int) + z).toNat = x.size + z by omega, c1, ha, number_is _ (beN_range z v) (by rw [beN_length]; omega) _ (by omega), hval]
      rfl
    have g2 : field_GetLittle.f (k + 49) (x ++ b ++ y) (x.size : Int) z = some (v, 0) := by
      unfold field_GetLittle.f
      rw [if_pos (by omega), if_neg (by omega), if_neg (by omega), show ((x.size : Int)).toNat = x.size by omega, show ((x.size : Int) + z).toNat = x.size + z by omega, c2, hb, List.reverse_reverse, number_is _ (beN_range z v) (by rw [beN_length]; omega) _ (by omega), hval]
      rfl
    rw [show k + 0 + 50 = (k + 49) + 1 by omega, intrusionlaw01_FieldRoundTrip.l0]
    have q1 : x.size + a.size ≤ 9223372036854775807 := by omega
    have q2 : (x ++ a).size + y.size ≤ 9223372036854775807 := by omega
    have q3 : x.size + b.size ≤ 9223372036854775807 := by omega
    have q4 : (x ++ b).size + y.size ≤ 9223372036854775807 := by omega
    rw [if_neg (by omega), awake_is _ (by omega), g1, g2]
    simp only [q1, q2, q3, q4, if_true, Option.bind_some]
  | m + 1, i, k, h => by
    have la : a.size = z := by rw [size_bytes, ha, beN_length]
    have lb : b.size = z := by rw [size_bytes, hb, List.length_reverse, beN_length]
    have ih := rt_end x y a b v z hx hy hz hz7 ha hb hv hv2 m (i + 1) k (by omega)
    rw [show k + (m + 1) + 50 = (k + m + 50) + 1 by omega, intrusionlaw01_FieldRoundTrip.l0]
    rw [if_pos (by omega), if_pos (by omega), if_pos (by omega), w64 (n := (z : Int) - 1) (by omega) (by omega), w64 (n := (z : Int) - 1 - i) (by omega) (by omega), w64 (n := (i : Int) + 1) (by omega) (by omega), if_pos (by omega), if_pos (by omega),
      show (z : Int) - 1 - i = ((z - 1 - i : Nat) : Int) by omega, bt_eq, bt_eq, ha, hb, getD_reverse _ z i (beN_length _ _) (by omega), if_pos rfl, show (i : Int) + 1 = ((i + 1 : Nat) : Int) by omega]
    exact ih
theorem FieldRoundTrip : intrusionlaw01_FieldRoundTrip.Pure := by
  intro s x y n hs _ _ hn
  have hs := wf_u8 hs
  have hn := wf_u64 hn
  have out : ∀ a b c, intrusionlaw01_FieldRoundTrip.j0 80 n x y true a b c = some true := by
    intro a b c
    rw [intrusionlaw01_FieldRoundTrip.j0, awake_is _ (by omega)]
    rfl
  refine ⟨80, ?_⟩
  unfold intrusionlaw01_FieldRoundTrip.f
  by_cases h1 : (x.size : Int) > 100
  · rw [if_pos h1]; exact out _ _ _
  · rw [if_neg h1]
    by_cases h2 : (y.size : Int) > 100
    · rw [decide_eq_true h2]; exact out _ _ _
    · rw [decide_eq_false h2, intrusionlaw01_FieldRoundTrip.j0]
      simp only [Bool.false_eq_true, if_false]
      rw [w64 (n := s) (by omega) (by omega), Int.tmod_eq_emod_of_nonneg (by omega)]
      obtain ⟨z, hz⟩ : ∃ z : Nat, (z : Int) = 1 + s % 7 := ⟨(1 + s % 7).toNat, by omega⟩
      rw [w64 (n := 1 + s % 7) (by omega) (by omega), ← hz, w64 (n := 7 - (z : Int)) (by omega) (by omega), w64 (n := 8 * (7 - (z : Int))) (by omega) (by omega), w64 (n := n / 256) (by omega) (by omega)]
      have hsh := shr64 (n / 256) (7 - z) (by omega)
      rw [show 8 * (7 - (z : Int)) = 8 * ((7 - z : Nat) : Int) by omega, hsh, if_pos (by omega)]
      generalize hV : n / 256 / 256 ^ (7 - z) = v
      have hv : 0 ≤ v := by rw [← hV]; exact Int.ediv_nonneg (by omega) (Int.le_of_lt (Int.pow_pos (by decide)))
      have hv2 : v < 256 ^ z := by
        rw [← hV]
        refine Int.ediv_lt_of_lt_mul (Int.pow_pos (by decide)) ?_
        rw [← Int.pow_add, show z + (7 - z) = 7 by omega]
        omega
      unfold field_PutLittle.f
      have hl := putOf_len v z
      have hp := putOf_size v z (by omega) (by omega) hv (by simpa using hv2)
      rw [Int.toNat_natCast] at hp
      rw [put_is _ _ _ (by omega)]
      simp only [Option.bind_some]
      rw [if_pos (show (putOf v z).size ≤ 9223372036854775807 by omega), hp]
      simp only [Option.bind_some]
      have la : (putOf v z).size = z := by rw [size_bytes, hp, beN_length]
      have lb : (strOfNums (beN z v).reverse).size = z := by rw [strOfNums_size, List.length_reverse, beN_length]
      rw [if_pos (by omega), lb, bne_self_eq_false, intrusionlaw01_FieldRoundTrip.j1]
      simp only [Bool.false_eq_true, if_false]
      have hb : bytesOf (strOfNums (beN z v).reverse) = (beN z v).reverse := bytesOf_strOfNums _ (fun x hx => beN_range z v x (by simpa using hx))
      have := rt_end x y (putOf v z) (strOfNums (beN z v).reverse) v z (by omega) (by omega) (by omega) (by omega) hp hb hv hv2 z 0 (28 - z) (by omega)
      rw [show 28 - z + z + 50 = 78 by omega] at this
      exact this

end Go.Proofs.Ytmkhmlgihkaphaa.Pure
