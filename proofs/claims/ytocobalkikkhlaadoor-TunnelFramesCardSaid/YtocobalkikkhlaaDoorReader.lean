/- What the program's reader computes, in closed form, for strings of at most 2^62 bytes. -/
import Derived.Test.YtocobalkikkhlaaDoorField
import Derived.Test.YtocobalkikkhlaaDoorX5
namespace Go.Proofs.YtocobalkikkhlaaDoor.Pure
open Go.RowKit Go.Proofs.YtocobalkikkhlaaDoor.X Go.Proofs.YtocobalkikkhlaaDoorW.PrintWords Go.Proofs.YtocobalkikkhlaaDoorW.PrintLast Go.Proofs.YtocobalkikkhlaaDoorW.PrintMore

theorem nil_size : (⟨#[]⟩ : ByteArray).size = 0 := rfl
/-- What 'next' returns, with permission. -/
theorem next_is (s : ByteArray) (i : Nat) (e n : Int) (hs : s.size ≤ 4611686018427387904) (hi : i ≤ s.size) (hn : 0 ≤ n) (hn2 : n ≤ 9223372036854775807) :
    field_Reader_next.f s (i : Int) e n true = some (if e = 0 then (if n > (s.size : Int) - i then ((⟨#[]⟩ : ByteArray), s, (i : Int), 1) else (s.extract i (i + n.toNat), s, (i : Int) + n, 0)) else ((⟨#[]⟩ : ByteArray), s, (i : Int), e)) := by
  unfold field_Reader_next.f
  by_cases h : e = 0
  · subst h
    rw [if_pos rfl, if_pos rfl, if_pos rfl, w64 (n := (s.size : Int) - i) (by omega) (by omega)]
    by_cases h2 : n > (s.size : Int) - i
    · rw [if_pos h2, if_pos h2]
    · rw [if_neg h2, if_neg h2, w64 (n := (i : Int) + n) (by omega) (by omega), w64 (n := (i : Int) + n - n) (by omega) (by omega), if_pos (by omega), if_pos (by omega), if_pos (by omega)]
      rw [show ((i : Int) + n - n).toNat = i by omega, show ((i : Int) + n).toNat = i + n.toNat by omega]
  · rw [if_neg h, if_neg h]
theorem cut_append (s : ByteArray) (i j : Nat) (h : i ≤ j) : s.extract 0 i ++ s.extract i j = s.extract 0 j := by
  apply bytesOf_inj
  rw [bytesOf_append, bytesOf_extract, bytesOf_extract, bytesOf_extract]
  simp only [List.drop_zero, Nat.sub_zero]
  rw [← List.take_append_drop i (List.take j (bytesOf s)), List.take_take, List.drop_take, Nat.min_eq_left h]
theorem put_val (l : ByteArray) (n : Nat) (h1 : 1 ≤ n) (h7 : n ≤ 7) (hl : l.size = n) : putOf (valBE (bytesOf l)) n = l := by
  have hb := bytesOf_length l
  have hr := valBE_range _ (bytesOf_range l)
  have hv := beN_valBE _ (bytesOf_range l)
  rw [hb, hl] at hr hv
  apply bytesOf_inj
  rw [putOf_size _ _ (by omega) (by omega) hr.1 (by simpa using hr.2), Int.toNat_natCast, hv]

theorem int_is (s : ByteArray) (i n : Nat) (e : Int) (k : Nat) (hs : s.size ≤ 4611686018427387904) (hi : i ≤ s.size) (h1 : 1 ≤ n) (h7 : n ≤ 7) (hk : 8 ≤ k) :
    field_Reader_Int.f k s (i : Int) e (n : Int) = some (if e = 0 then (if s.size < i + n then (0, s, (i : Int), 1) else (valBE (bytesOf (s.extract i (i + n))), s, ((i + n : Nat) : Int), 0)) else (0, s, (i : Int), e)) := by
  unfold field_Reader_Int.f field_valid.f
  rw [if_pos (show (n : Int) ≥ 1 by omega), decide_eq_true (show (n : Int) ≤ 7 by omega)]
  simp only [bs]
  rw [next_is s i e _ hs hi (by omega) (by omega)]
  have z : field_number.f k (bytesOf (⟨#[]⟩ : ByteArray)) = some 0 := by rw [number_is _ (bytesOf_range _) (by decide) _ hk]; rfl
  by_cases h : e = 0
  · rw [if_pos h, if_pos h]
    by_cases h2 : (n : Int) > (s.size : Int) - i
    · rw [if_pos h2, if_pos (by omega)]
      simp only [bs, z, nil_size]
      rfl
    · rw [if_neg h2, if_neg (by omega)]
      have z2 : (s.extract i (i + n)).size = n := by simp; omega
      have hb := bytesOf_length (s.extract i (i + n))
      simp only [bs, Int.toNat_natCast]
      rw [if_pos (by omega), number_is _ (bytesOf_range _) (by omega) _ hk]
      simp only [bs]
      rw [show (i : Int) + (n : Int) = ((i + n : Nat) : Int) by omega]
  · rw [if_neg h, if_neg h]
    simp only [bs, z, nil_size]
    rfl
end Go.Proofs.YtocobalkikkhlaaDoor.Pure
