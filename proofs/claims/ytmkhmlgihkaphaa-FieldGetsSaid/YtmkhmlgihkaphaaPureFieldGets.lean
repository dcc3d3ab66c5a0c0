/- FieldGets as a plain law: the program's Get and GetLittle and the document's return the same number and error at any place of a string of at most 200 bytes; no further condition. -/
import Derived.Test.YtmkhmlgihkaphaaXDFieldGets
import Derived.Test.YtmkhmlgihkaphaaRef01
namespace Go.Proofs.Ytmkhmlgihkaphaa.Pure
open Go.RowKit Go.Proofs.Ytmkhmlgihkaphaa.X Go.Proofs.YtmkhmlgihkaphaaW.PrintWords Go.Proofs.YtmkhmlgihkaphaaW.PrintLast Go.Proofs.YtmkhmlgihkaphaaW.PrintMore

theorem rget_is (s : ByteArray) (at_ size : Int) (hs : s.size ≤ 200) (h1 : -9223372036854775808 ≤ at_) (h2 : at_ < 9223372036854775808) (k : Nat) (hk : 40 ≤ k) :
    intrusionref01_Get.f k s at_ size = if (size < 1 ∨ 7 < size) ∨ at_ < 0 then some (0, 4) else if (s.size : Int) < at_ ∨ (s.size : Int) - at_ < size then some (0, 1)
      else some (valBE (bytesOf (s.extract at_.toNat (at_ + size).toNat)), 0) := by
  obtain ⟨k, rfl⟩ : ∃ m, k = m + 1 := ⟨k - 1, by omega⟩
  unfold intrusionref01_Get.f
  by_cases c1 : size < 1
  · rw [if_pos c1, if_pos (.inl (.inl c1)), intrusionref01_Get.j0]; simp
  · by_cases c2 : size > 7
    · rw [if_neg c1, if_pos c2, if_pos (.inl (.inr c2)), intrusionref01_Get.j0]; simp
    · by_cases c3 : at_ < 0
      · rw [if_neg c1, if_neg c2, if_pos (.inr c3), decide_eq_true c3, intrusionref01_Get.j0]; simp
      · rw [if_neg c1, if_neg c2, if_neg (show ¬ ((size < 1 ∨ 7 < size) ∨ at_ < 0) by omega), decide_eq_false c3, intrusionref01_Get.j0]
        simp only [Bool.false_eq_true, if_false]
        by_cases c4 : at_ > (s.size : Int)
        · rw [if_pos c4, if_pos (.inl c4)]
        · rw [if_neg c4, w64 (n := (s.size : Int) - at_) (by omega) (by omega)]
          by_cases c5 : (s.size : Int) - at_ < size
          · rw [if_pos c5, if_pos (.inr c5)]
          · rw [if_neg c5, if_neg (show ¬ ((s.size : Int) < at_ ∨ (s.size : Int) - at_ < size) by omega), w64 (n := at_ + size) (by omega) (by omega), if_pos (by omega), if_pos (by omega), if_pos (by omega),
              value_is _ (by simp; omega) _ (by omega)]
            rfl
theorem FieldGets : intrusionlaw01_FieldGets.Pure := by
  intro s at_ size hs h1 h2
  have h1 := wf_i64 h1
  refine ⟨60, ?_⟩
  unfold intrusionlaw01_FieldGets.f
  rw [awake_is _ (by omega)]
  by_cases hl : (s.size : Int) > 200
  · rw [if_pos hl]; rfl
  · rw [if_neg hl]
    have hr := rget_is s at_ size (by omega) (by omega) (by omega) 60 (by omega)
    unfold field_Get.f field_GetLittle.f intrusionref01_GetLittle.f
    rw [if_pos (show s.size ≤ 9223372036854775807 by omega), hr, if_pos (show s.size ≤ 9223372036854775807 by omega)]
    by_cases c1 : (size < 1 ∨ 7 < size) ∨ at_ < 0
    · simp [c1]
    · by_cases c2 : (s.size : Int) < at_ ∨ (s.size : Int) - at_ < size
      · simp [c1, c2]
      · have hz : (s.extract at_.toNat (at_ + size).toNat).size ≤ 7 := by simp; omega
        have hb := bytesOf_length (s.extract at_.toNat (at_ + size).toNat)
        have hr2 := bytesOf_range (s.extract at_.toNat (at_ + size).toNat)
        have hr3 : ∀ x ∈ (bytesOf (s.extract at_.toNat (at_ + size).toNat)).reverse, 0 ≤ x ∧ x < 256 := fun x hx => hr2 x (by simpa using hx)
        simp only [if_neg c1, if_neg c2, Option.bind_some, if_true]
        rw [w64 (n := at_ + size) (by omega) (by omega), if_pos (show 0 ≤ at_ by omega), if_pos (show at_ ≤ at_ + size by omega), if_pos (show at_ + size ≤ (s.size : Int) by omega), number_is _ hr2 (by omega) _ (by omega),
          number_is _ hr3 (by simp; omega) _ (by omega), reverse_is _ (by omega) _ (by omega)]
        simp only [Option.bind_some]
        rw [value_is _ (by rw [strOfNums_size, List.length_reverse]; omega) _ (by omega), bytesOf_strOfNums _ hr3]
        simp

end Go.Proofs.Ytmkhmlgihkaphaa.Pure
