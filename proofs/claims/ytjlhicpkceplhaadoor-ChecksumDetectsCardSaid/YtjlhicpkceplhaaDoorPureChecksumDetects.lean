/- ChecksumDetects as a plain law: another word at an even place changes the Sum unless both are forms of zero, and Update follows the change up to the two forms; no condition but that a machine holds the string. -/
import Derived.Test.YtjlhicpkceplhaaDoorXDChecksumDetects
import Derived.Test.YtjlhicpkceplhaaDoorRef02
import Derived.Test.YtjlhicpkceplhaaDoorField
namespace Go.Proofs.YtjlhicpkceplhaaDoor.Pure
open Go.RowKit Go.Proofs.YtjlhicpkceplhaaDoor.X Go.Proofs.YtjlhicpkceplhaaDoorW.PrintWords Go.Proofs.YtjlhicpkceplhaaDoorW.PrintLast Go.Proofs.YtjlhicpkceplhaaDoorW.PrintMore

theorem upd_follow (T b a : Int) (h1 : 0 ≤ b) (h2 : b ≤ 65535) (h3 : 0 ≤ a) (h4 : a ≤ 65535) (hT : b ≤ T) :
    updOf (65535 - canon T) b a = 65535 - canon (T - b + a) ∨
      (updOf (65535 - canon T) b a + (65535 - canon (T - b + a)) = 65535 ∧ (updOf (65535 - canon T) b a = 0 ∨ 65535 - canon (T - b + a) = 0)) := by
  unfold updOf addOf canon
  repeat' split
  all_goals omega
theorem sum_differs (T b a : Int) (h1 : 0 ≤ b) (h2 : b ≤ 65535) (h3 : 0 ≤ a) (h4 : a ≤ 65535) (_hT : b ≤ T) (h : canon T = canon (T - b + a)) : Int.tmod (b - a) 65535 = 0 := by
  have : b - a = 65535 ∨ b - a = 0 ∨ b - a = -65535 := by
    unfold canon at h
    repeat' split at h
    all_goals omega
  rcases this with e | e | e <;> rw [e] <;> decide
theorem two (l : List Int) (h : l.length = 2) : ∃ x y, l = [x, y] := by
  match l, h with
  | [x, y], _ => exact ⟨x, y, rfl⟩
theorem detects_j1 (before after a b : Int) (k : Nat) (hk : 20 < k) (h : updOf a before after = b ∨ (updOf a before after + b = 65535 ∧ (updOf a before after = 0 ∨ b = 0)))
    : intrusionlaw02_ChecksumDetects.j1 k before after a b false = some true := by
  obtain ⟨k, rfl⟩ : ∃ n, k = n + 1 := ⟨k - 1, by omega⟩
  rw [intrusionlaw02_ChecksumDetects.j1, awake_is _ (by omega), update_is]
  simp only [Option.bind_some, Bool.false_eq_true, if_false]
  by_cases h1 : updOf a before after = b
  · simp [h1]
  · rw [if_neg h1]
    rcases h with h | ⟨h, h2⟩
    · exact absurd h h1
    · rw [w64 (n := updOf a before after + b) (by omega) (by omega), if_pos h]
      have : updOf a before after * b = 0 := by rcases h2 with h2 | h2 <;> simp [h2]
      rw [this]
      simp [wrap64]
theorem detects_go (s : ByteArray) (at_ word : Int) (hs : s.size ≤ 140737488351232) (h0 : 0 ≤ at_) (h1 : at_ < (s.size : Int) / 2) (w0 : 0 ≤ word) (w1 : word < 65536) (k : Nat) (hk : s.size + 40 < k) :
    intrusionlaw02_ChecksumDetects.j0 k s at_ word false = some true := by
  obtain ⟨k, rfl⟩ : ∃ n, k = n + 1 := ⟨k - 1, by omega⟩
  obtain ⟨i, rfl⟩ := Int.eq_ofNat_of_zero_le h0
  have hlen := bytesOf_length s
  rw [intrusionlaw02_ChecksumDetects.j0]
  rw [w64 (n := 2 * (i : Int)) (by omega) (by omega), w64 (n := word) (by omega) (by omega), w64 (n := 2 * (i : Int) + 2) (by omega) (by omega)]
  have eT : (2 * (i : Int)).toNat = 2 * i := by omega
  have eT2 : (2 * (i : Int) + 2).toNat = 2 * i + 2 := by omega
  obtain ⟨x, y, hm⟩ := two (bytesOf (s.extract (2 * i) (2 * i + 2))) (by rw [bytesOf_length]; simp; omega)
  have hxy := bytesOf_range (s.extract (2 * i) (2 * i + 2))
  rw [hm] at hxy
  have hx := hxy x (by simp)
  have hy := hxy y (by simp)
  have hget : field_Get.f k s (2 * (i : Int)) 2 = some (x * 256 + y, 0) := by
    unfold field_Get.f
    rw [if_pos (by omega), if_neg (by omega), if_neg (by omega), eT, eT2, hm, number_is _ hxy (by simp) _ (by omega)]
    simp [valBE]
  rw [hget]
  simp only [Bool.false_eq_true, if_false, Option.bind_some, if_true]
  rw [if_pos (by omega), if_pos (by omega), put_is _ _ _ (by omega)]
  simp only [Option.bind_some]
  have hp := putOf_len word 2
  have z1 : (s.extract 0 (2 * i)).size = 2 * i := by simp; omega
  have z2 : (s.extract (2 * i + 2) s.size).size = s.size - (2 * i + 2) := by simp
  have z3 := size_append (s.extract 0 (2 * i)) (putOf word 2)
  have z4 := size_append (s.extract 0 (2 * i) ++ putOf word 2) (s.extract (2 * i + 2) s.size)
  rw [eT, eT2, if_pos (by omega), if_pos (by omega), if_pos (by omega), if_pos (by omega), sum_is s (by omega) _ (by omega), sum_is _ (by omega) _ (by omega)]
  simp only [Option.bind_some]
  have hb := putOf_size word 2 (by decide) (by decide) (by omega) (by simp; omega)
  have hp2 : tot (beN 2 word) = word := by
    simp only [beN, tot, Int.pow_zero, Int.pow_succ]; omega
  have hpl : (beN 2 word).length = 2 := beN_length _ _
  have sp : bytesOf s = (bytesOf s).take (2 * i) ++ ([x, y] ++ (bytesOf s).drop (2 * i + 2)) := by
    have e1 : bytesOf (s.extract (2 * i) (2 * i + 2)) = ((bytesOf s).drop (2 * i)).take 2 := by rw [bytesOf_extract]; congr 1; omega
    rw [hm] at e1
    rw [e1]
    conv => lhs; rw [← List.take_append_drop (2 * i) (bytesOf s), ← List.take_append_drop 2 (List.drop (2 * i) (bytesOf s)), List.drop_drop]
  have t1 : tot (bytesOf s) = tot ((bytesOf s).take (2 * i)) + (x * 256 + y) + tot ((bytesOf s).drop (2 * i + 2)) := by
    conv => lhs; rw [sp]
    rw [tot_append _ _ (by simp; omega), tot_append [x, y] _ (by simp)]
    simp only [tot]; omega
  have t2 : tot (bytesOf (s.extract 0 (2 * i) ++ putOf word 2 ++ s.extract (2 * i + 2) s.size)) = tot ((bytesOf s).take (2 * i)) + word + tot ((bytesOf s).drop (2 * i + 2)) := by
    rw [bytesOf_append, bytesOf_append, bytesOf_extract, bytesOf_extract, hb, show (2 : Int).toNat = 2 from rfl, List.append_assoc, tot_append _ _ (by simp; omega), tot_append _ _ (by rw [hpl]), hp2]
    rw [List.take_of_length_le (l := List.drop (2 * i + 2) (bytesOf s)) (by simp; omega)]
    simp only [List.drop_zero, Nat.sub_zero]; omega
  have n1 := tot_nonneg ((bytesOf s).take (2 * i)) (fun v hv => bytesOf_range s v (List.mem_of_mem_take hv))
  have n2 := tot_nonneg ((bytesOf s).drop (2 * i + 2)) (fun v hv => bytesOf_range s v (List.mem_of_mem_drop hv))
  have hr := sumOf_range s
  have u := upd_follow (tot (bytesOf s)) (x * 256 + y) word (by omega) (by omega) (by omega) (by omega) (by omega)
  have d := sum_differs (tot (bytesOf s)) (x * 256 + y) word (by omega) (by omega) (by omega) (by omega) (by omega)
  have e2 : tot (bytesOf s) - (x * 256 + y) + word = tot (bytesOf (s.extract 0 (2 * i) ++ putOf word 2 ++ s.extract (2 * i + 2) s.size)) := by rw [t2, t1]; omega
  rw [e2] at u d
  have fin := detects_j1 (x * 256 + y) word (sumOf s) (sumOf (s.extract 0 (2 * i) ++ putOf word 2 ++ s.extract (2 * i + 2) s.size)) k (by omega) u
  rw [w64 (n := x * 256 + y - word) (by omega) (by omega), if_neg (show ¬ sumOf s < 0 by omega), decide_eq_false (show ¬ sumOf s > 65535 by omega)]
  split
  · exact fin
  · rename_i hmod
    rw [if_neg]
    · exact fin
    · intro he
      exact hmod (d (by unfold sumOf at he; omega))
theorem ChecksumDetects : intrusionlaw02_ChecksumDetects.Pure := by
  intro s at_ word hs ha hw
  have ha := wf_i64 ha
  have hw := wf_u16 hw
  refine ⟨s.size + 50, ?_⟩
  have out : intrusionlaw02_ChecksumDetects.j0 (s.size + 50) s at_ word true = some true := by
    rw [intrusionlaw02_ChecksumDetects.j0, awake_is _ (by omega)]
    rfl
  unfold intrusionlaw02_ChecksumDetects.f intrusionlaw02_long.f
  simp only [Option.bind_some]
  rw [w64 (n := (s.size : Int) / 2) (by omega) (by omega)]
  split
  · exact out
  · split
    · exact out
    · by_cases h : at_ ≥ (s.size : Int) / 2
      · rw [decide_eq_true h]; exact out
      · rw [decide_eq_false h]; exact detects_go s at_ word hs (by omega) (by omega) (by omega) (by omega) _ (by omega)

end Go.Proofs.YtjlhicpkceplhaaDoor.Pure
