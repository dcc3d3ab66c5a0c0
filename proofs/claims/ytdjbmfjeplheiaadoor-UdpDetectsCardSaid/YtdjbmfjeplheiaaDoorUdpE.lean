/- What the program's Encode of layer 13 computes, in closed form. -/
import Derived.Test.YtdjbmfjeplheiaaDoorUdp
import Derived.Test.YtdjbmfjeplheiaaDoorX8
import Derived.Test.YtdjbmfjeplheiaaDoorX6
import Derived.Test.YtdjbmfjeplheiaaDoorX7
namespace Go.Proofs.YtdjbmfjeplheiaaDoor.Pure
open Go.RowKit Go.Proofs.YtdjbmfjeplheiaaDoor.X Go.Proofs.YtdjbmfjeplheiaaDoorW.PrintWords Go.Proofs.YtdjbmfjeplheiaaDoorW.PrintLast Go.Proofs.YtdjbmfjeplheiaaDoorW.PrintMore

def hd6 (sp dp n : Int) : List Int := beN 2 sp ++ beN 2 dp ++ beN 2 n
theorem hd6_len (sp dp n : Int) : (hd6 sp dp n).length = 6 := by simp [hd6, beN_length]
theorem hd6_range (sp dp n : Int) : ∀ x ∈ hd6 sp dp n, 0 ≤ x ∧ x < 256 := by
  intro x hx
  simp only [hd6, List.mem_append] at hx
  rcases hx with (hx | hx) | hx <;> exact beN_range _ _ x hx
/-- Encode in closed form. -/
def encU (v6 : Bool) (hi lo : Int) (w6 : Bool) (hj lp : Int) (sp dp : Int) (p : ByteArray) : ByteArray × Int :=
  if ¬ okFit v6 hi lo w6 hj lp then (⟨#[]⟩, 13)
  else if sp < 0 ∨ 65535 < sp ∨ dp < 0 ∨ 65535 < dp then (⟨#[]⟩, 4)
  else if 65507 < p.size then (⟨#[]⟩, 3)
  else (strOfNums (hd6 sp dp (8 + p.size) ++ beN 2 (sumU v6 hi lo w6 hj lp (strOfNums (hd6 sp dp (8 + p.size) ++ [0, 0]) ++ p))) ++ p, 0)
theorem put2 (n : Int) (h0 : 0 ≤ n) (h1 : n < 65536) : putOf n 2 = strOfNums (beN 2 n) := by
  unfold putOf
  rw [if_pos ⟨by decide, by decide, h0, by simpa using h1⟩]
  rfl
theorem zero_mid (h : List Int) (hh : h.length = 6) (hr : ∀ x ∈ h, 0 ≤ x ∧ x < 256) (a b : Int) (ha : 0 ≤ a ∧ a < 256) (hb : 0 ≤ b ∧ b < 256) (p : ByteArray) :
    zeroed (strOfNums (h ++ [a, b]) ++ p) = strOfNums (h ++ [0, 0]) ++ p := by
  have r1 : ∀ x ∈ h ++ [a, b], 0 ≤ x ∧ x < 256 := by
    intro x hx
    simp only [List.mem_append, List.mem_cons, List.not_mem_nil, or_false] at hx
    rcases hx with hx | rfl | rfl
    · exact hr x hx
    · exact ha
    · exact hb
  have r2 : ∀ x ∈ h ++ [0, 0], 0 ≤ x ∧ x < 256 := by
    intro x hx
    simp only [List.mem_append, List.mem_cons, List.not_mem_nil, or_false] at hx
    rcases hx with hx | rfl | rfl
    · exact hr x hx
    · decide
    · decide
  have hp := bytesOf_length p
  have hs : (strOfNums (h ++ [a, b]) ++ p).size = 8 + p.size := by rw [size_append, strOfNums_size]; simp [hh]
  apply bytesOf_inj
  have zb : bytesOf zz = [0, 0] := rfl
  unfold zeroed
  rw [hs, bytesOf_append, bytesOf_append, bytesOf_extract, bytesOf_extract, zb, bytesOf_append, bytesOf_append, bytesOf_strOfNums _ r1, bytesOf_strOfNums _ r2]
  have e1 : List.take (6 - 0) (List.drop 0 (h ++ [a, b] ++ bytesOf p)) = h := by
    rw [List.drop_zero, List.append_assoc, List.take_left' (by omega)]
  have e2 : List.take (8 + p.size - 8) (List.drop 8 (h ++ [a, b] ++ bytesOf p)) = bytesOf p := by
    rw [List.drop_left' (by simp [hh]), List.take_of_length_le (by omega)]
  rw [e1, e2]
theorem nz_range (n : Int) (h : 0 ≤ n ∧ n ≤ 65535) : 1 ≤ nz n ∧ nz n ≤ 65535 := by unfold nz; split <;> omega
theorem sumU_range (v6 : Bool) (hi lo : Int) (w6 : Bool) (hj lp : Int) (s : ByteArray) : 1 ≤ sumU v6 hi lo w6 hj lp s ∧ sumU v6 hi lo w6 hj lp s ≤ 65535 := nz_range _ (sumOf_range _)
theorem port_is (n : Int) : udp_port.f n = some (decide (0 ≤ n ∧ n ≤ 65535)) := by
  unfold udp_port.f
  by_cases h : n ≥ 0
  · rw [if_pos h]
    congr 1
    apply decide_eq_decide.mpr
    omega
  · rw [if_neg h, decide_eq_false (by omega)]
theorem encode_is (v6 : Bool) (hi lo : Int) (w6 : Bool) (hj lp : Int) (A : Addrs hi lo hj lp) (sp dp : Int) (p : ByteArray) (k : Nat) (hk : p.size + 100 ≤ k ∨ 65507 < p.size ∧ 100 ≤ k) :
    udp_Encode.f k v6 hi lo w6 hj lp sp dp p = some (encU v6 hi lo w6 hj lp sp dp p) := by
  obtain ⟨k, rfl⟩ : ∃ m, k = m + 1 := ⟨k - 1, by omega⟩
  unfold udp_Encode.f encU
  have bad : udp_Encode.j0 (k + 1) true sp dp p v6 hi lo w6 hj lp = some (⟨#[]⟩, 4) := by rw [udp_Encode.j0, if_pos rfl]
  rw [fit_is]
  simp only [bs, decide_eq_true_eq]
  by_cases c0 : okFit v6 hi lo w6 hj lp
  · rw [if_pos c0, if_neg (show ¬ ¬ okFit v6 hi lo w6 hj lp from fun h => h c0), port_is, port_is]
    simp only [bs, decide_eq_true_eq]
    by_cases c1 : 0 ≤ sp ∧ sp ≤ 65535
    · rw [if_pos c1]
      by_cases c2 : 0 ≤ dp ∧ dp ≤ 65535
      · rw [decide_eq_true c2, if_neg (by omega), udp_Encode.j0, if_neg (by simp)]
        by_cases c3 : (p.size : Int) > 65507
        · rw [if_pos c3, if_pos (by omega)]
        · rw [if_neg c3, if_neg (show ¬ 65507 < p.size by omega), w64 (n := 8 + (p.size : Int)) (by omega) (by omega)]
          have z2 : (⟨#[0, 0]⟩ : ByteArray) = strOfNums [0, 0] := by decide +kernel
          have L2 : ∀ x : Int, (strOfNums (beN 2 x)).size = 2 := fun x => by rw [strOfNums_size, beN_length]
          have hl := hd6_len sp dp (8 + p.size)
          have eH : strOfNums (beN 2 sp) ++ strOfNums (beN 2 dp) ++ strOfNums (beN 2 (8 + (p.size : Int))) = strOfNums (hd6 sp dp (8 + p.size)) := by
            rw [← strOfNums_append, ← strOfNums_append]; rfl
          have hH : (strOfNums (hd6 sp dp (8 + (p.size : Int)))).size = 6 := by rw [strOfNums_size, hl]
          have hX : (strOfNums (hd6 sp dp (8 + (p.size : Int)) ++ [0, 0]) ++ p).size = 8 + p.size := by rw [size_append, strOfNums_size]; simp [hl]
          have hz := zero_mid (hd6 sp dp (8 + p.size)) hl (hd6_range _ _ _) 0 0 (by decide) (by decide) p
          have hr := sumU_range v6 hi lo w6 hj lp (strOfNums (hd6 sp dp (8 + p.size) ++ [0, 0]) ++ p)
          rw [put_is _ _ _ (by omega), put_is _ _ _ (by omega), put2 sp c1.1 (by omega), put2 dp c2.1 (by omega)]
          simp only [bs]
          rw [if_pos (by rw [L2, L2]; omega), put_is _ _ _ (by omega), put2 (8 + (p.size : Int)) (by omega) (by omega)]
          simp only [bs]
          rw [if_pos (by rw [size_append, L2, L2, L2]; omega), eH, if_pos (by rw [hH]; omega), z2, ← strOfNums_append, if_pos (by rw [strOfNums_size]; simp [hl]; omega), sum13_is v6 hi lo w6 hj lp A _ (by omega) (by omega) k (by omega), hz]
          simp only [bs]
          rw [put_is _ _ _ (by omega), put2 _ (by omega) (by omega)]
          simp only [bs]
          rw [if_pos (by rw [hH, L2]; omega), ← strOfNums_append, if_pos (by rw [strOfNums_size, List.length_append, hl, beN_length]; omega)]
      · rw [decide_eq_false c2, if_pos (by omega)]
        exact bad
    · rw [if_neg c1, bad, if_pos (by omega)]
  · rw [if_neg c0, if_pos c0]
end Go.Proofs.YtdjbmfjeplheiaaDoor.Pure
