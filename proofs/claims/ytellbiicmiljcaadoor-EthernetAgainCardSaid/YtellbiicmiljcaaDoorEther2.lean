/- What the program's Encode of layer 10 computes, in closed form, for payloads of at most 2^62 bytes. -/
import Derived.Test.YtellbiicmiljcaaDoorEther
import Derived.Test.YtellbiicmiljcaaDoorX6
import Derived.Test.YtellbiicmiljcaaDoorX5
namespace Go.Proofs.YtellbiicmiljcaaDoor.Pure
open Go.RowKit Go.Proofs.YtellbiicmiljcaaDoor.X Go.Proofs.YtellbiicmiljcaaDoorW.PrintWords Go.Proofs.YtellbiicmiljcaaDoorW.PrintLast Go.Proofs.YtellbiicmiljcaaDoorW.PrintMore

/-- The bytes of the tags. -/
def tagsOf : List Int → List Int
  | [] => []
  | [v] => beN 2 33024 ++ beN 2 v
  | u :: v :: r => beN 2 34984 ++ beN 2 u ++ tagsOf (v :: r)
def goodTags (vl : List Int) : Prop := ∀ v ∈ vl, 0 ≤ v ∧ v ≤ 4095
instance (vl : List Int) : Decidable (goodTags vl) := by unfold goodTags; infer_instance
/-- What stands before the payload. -/
def headOf (d c : Int) (vl : List Int) (t : Int) : List Int := beN 6 d ++ beN 6 c ++ tagsOf vl ++ beN 2 t
/-- Encode in closed form. -/
def encOf (d c : Int) (vl : List Int) (t : Int) (p : ByteArray) : ByteArray × Int :=
  if 281474976710656 ≤ d ∨ 281474976710656 ≤ c then (⟨#[]⟩, 4)
  else if ¬ goodTags vl then (⟨#[]⟩, 4)
  else if t < 1536 ∨ 65535 < t ∨ isTag t then (⟨#[]⟩, 4)
  else if 2 < vl.length then (⟨#[]⟩, 9)
  else if 4096 < 14 + 4 * vl.length + p.size then (⟨#[]⟩, 3)
  else (strOfNums (headOf d c vl t) ++ p, 0)
theorem put6 (n : Int) (h0 : 0 ≤ n) (h1 : n < 281474976710656) : putOf n 6 = strOfNums (beN 6 n) := by
  unfold putOf
  rw [if_pos ⟨by decide, by decide, h0, by simpa using h1⟩]
  rfl
theorem put2 (n : Int) (h0 : 0 ≤ n) (h1 : n < 65536) : putOf n 2 = strOfNums (beN 2 n) := by
  unfold putOf
  rw [if_pos ⟨by decide, by decide, h0, by simpa using h1⟩]
  rfl
/-- What follows the look at the tags. -/
def encTail (k : Nat) (d c : Int) (vl : List Int) (t : Int) (p : ByteArray) : Option (ByteArray × Int) :=
  if t < 1536 then (ethernet_Encode.j2 k true d c vl t p) else (if t > 65535 then (ethernet_Encode.j2 k true d c vl t p) else ((ethernet_tagged.f t).bind fun x => (ethernet_Encode.j2 k x d c vl t p)))
theorem enc_good (d c : Int) (vl : List Int) (t : Int) (p : ByteArray) (hl : vl.length ≤ 6) (hv : goodTags vl) : ∀ (m i k : Nat), i + m = vl.length →
    ethernet_Encode.l0 (k + m + 1) vl vl.length i d c vl t p = encTail k d c vl t p
  | 0, i, k, h => by
    rw [ethernet_Encode.l0, if_neg (by omega)]
    rfl
  | m + 1, i, k, h => by
    have hi : i < vl.length := by omega
    have hg := hv vl[i] (List.getElem_mem hi)
    rw [show k + (m + 1) + 1 = (k + m + 1) + 1 by omega, ethernet_Encode.l0, if_pos (by omega), if_pos (by omega), if_pos (by omega), rd_of _ _ hi, if_neg (by omega), if_neg (by omega), w64 (by omega) (by omega), show (i : Int) + 1 = ((i + 1 : Nat) : Int) by omega]
    exact enc_good d c vl t p hl hv m (i + 1) k (by omega)
theorem enc_bad (d c : Int) (vl : List Int) (t : Int) (p : ByteArray) (hl : vl.length ≤ 6) : ∀ (m i k : Nat), i + m = vl.length → ¬ goodTags (vl.drop i) →
    ethernet_Encode.l0 (k + m + 1) vl vl.length i d c vl t p = some (⟨#[]⟩, 4)
  | 0, i, k, h, hb => by
    rw [List.drop_of_length_le (by omega)] at hb
    exact absurd (fun v hv => by cases hv) hb
  | m + 1, i, k, h, hb => by
    have hi : i < vl.length := by omega
    rw [show k + (m + 1) + 1 = (k + m + 1) + 1 by omega, ethernet_Encode.l0, if_pos (by omega), if_pos (by omega), if_pos (by omega), rd_of _ _ hi]
    by_cases h1 : vl[i] < 0
    · rw [if_pos h1]
    · rw [if_neg h1]
      by_cases h2 : vl[i] > 4095
      · rw [if_pos h2]
      · rw [if_neg h2, w64 (by omega) (by omega), show (i : Int) + 1 = ((i + 1 : Nat) : Int) by omega]
        refine enc_bad d c vl t p hl m (i + 1) k (by omega) (fun hg => hb ?_)
        rw [List.drop_eq_getElem_cons hi]
        intro v hv
        rcases List.mem_cons.mp hv with rfl | hv
        · omega
        · exact hg v hv
theorem nil_append (s : ByteArray) : strOfNums [] ++ s = s := by apply bytesOf_inj; rw [bytesOf_append, bytesOf_strOfNums _ (by simp)]; rfl
theorem enc_tags (d c : Int) (vl : List Int) (t : Int) (p : ByteArray) (a : List Int) (ha : a.length = 12) (hl : vl.length ≤ 2) (hv : goodTags vl) (t0 : 0 ≤ t) (t1 : t < 65536) (hp : p.size ≤ 4611686018427387904) (k : Nat) (hk : 20 ≤ k) :
    ethernet_Encode.l1 k (strOfNums a) vl vl.length 0 d c vl t p = some (strOfNums (a ++ tagsOf vl ++ beN 2 t) ++ p, 0) := by
  have last : ∀ (b : List Int) (k : Nat), b.length ≤ 20 → 15 ≤ k → ((field_Put.f k t 2).bind fun t258 => (if (strOfNums b).size + t258.size ≤ 9223372036854775807 then (if (strOfNums b ++ t258).size + p.size ≤ 9223372036854775807 then (some ((strOfNums b ++ t258) ++ p, (0 : Int))) else (none)) else (none))) = some (strOfNums (b ++ beN 2 t) ++ p, 0) := by
    intro b k hb hk
    rw [put_is _ _ _ (by omega), put2 t t0 t1]
    simp only [bs]
    rw [if_pos (by rw [strOfNums_size, strOfNums_size, beN_length]; omega), if_pos (by rw [size_append, strOfNums_size, strOfNums_size, beN_length]; omega), ← strOfNums_append]
  have e0 : rd TAB0 0 = 33024 := by decide
  have e1 : rd TAB0 1 = 34984 := by decide
  have p1 := put2 33024 (by decide) (by decide)
  have p2 := put2 34984 (by decide) (by decide)
  have sz : ∀ x : Int, (strOfNums (beN 2 x)).size = 2 := by intro x; rw [strOfNums_size, beN_length]
  obtain ⟨k, rfl⟩ : ∃ m, k = m + 3 := ⟨k - 3, by omega⟩
  match vl, hl, hv with
  | [], _, _ =>
    rw [ethernet_Encode.l1, if_neg (by simp), last a _ (by omega) (by omega)]
    simp [tagsOf]
  | [v], _, hv =>
    have hg := hv v (by simp)
    have pv := put2 v (by omega) (by omega)
    have r0 : rd [v] 0 = v := rfl
    rw [ethernet_Encode.l1]
    simp only [List.length_singleton, r0]
    rw [if_pos (by decide), if_pos (by decide), if_pos (by decide), if_pos (by decide +kernel), if_pos (by decide +kernel)]
    have z : wrap64 (wrap64 (((1 : Nat) : Int) - 1) - 0) = 0 := by decide +kernel
    have z1 : wrap64 (0 + 1) = 1 := by decide +kernel
    rw [z, z1, e0, put_is _ _ _ (by omega), put_is _ _ _ (by omega), p1, pv]
    simp only [bs]
    rw [if_pos (by rw [sz, sz]; omega), ← strOfNums_append, if_pos (by simp [strOfNums_size, beN_length]; omega), ← strOfNums_append, ethernet_Encode.l1, if_neg (by decide), last _ _ (by simp [beN_length]; omega) (by omega)]
    simp [tagsOf]
  | [u, v], _, hv =>
    have hg := hv v (by simp)
    have hu := hv u (by simp)
    have pv := put2 v (by omega) (by omega)
    have pu := put2 u (by omega) (by omega)
    have r0 : rd [u, v] 0 = u := rfl
    have r1 : rd [u, v] 1 = v := rfl
    have hlen : [u, v].length = 2 := rfl
    rw [ethernet_Encode.l1]
    simp only [hlen, r0]
    rw [if_pos (by decide), if_pos (by decide), if_pos (by decide), if_pos (by decide +kernel), if_pos (by decide +kernel)]
    have z : wrap64 (wrap64 (((2 : Nat) : Int) - 1) - 0) = 1 := by decide +kernel
    have z1 : wrap64 (0 + 1) = 1 := by decide +kernel
    rw [z, z1, e1, put_is _ _ _ (by omega), put_is _ _ _ (by omega), p2, pu]
    simp only [bs]
    rw [if_pos (by rw [sz, sz]; omega), ← strOfNums_append, if_pos (by simp [strOfNums_size, beN_length]; omega), ← strOfNums_append, ethernet_Encode.l1]
    simp only [hlen, r1]
    rw [if_pos (by decide), if_pos (by decide), if_pos (by decide), if_pos (by decide +kernel), if_pos (by decide +kernel)]
    have z2 : wrap64 (wrap64 (((2 : Nat) : Int) - 1) - 1) = 0 := by decide +kernel
    have z3 : wrap64 (1 + 1) = 2 := by decide +kernel
    rw [z2, z3, e0, put_is _ _ _ (by omega), put_is _ _ _ (by omega), p1, pv]
    simp only [bs]
    rw [if_pos (by rw [sz, sz]; omega), ← strOfNums_append, if_pos (by simp [strOfNums_size, beN_length]; omega), ← strOfNums_append, ethernet_Encode.l1, if_neg (by decide), last _ _ (by simp [beN_length]; omega) (by omega)]
    simp [tagsOf]
theorem tail_is (d c : Int) (vl : List Int) (t : Int) (p : ByteArray) (hl : vl.length ≤ 6) (hv : goodTags vl) (d0 : 0 ≤ d) (d1 : d < 281474976710656) (c0 : 0 ≤ c) (c1 : c < 281474976710656) (hp : p.size ≤ 4611686018427387904) (k : Nat) (hk : 30 ≤ k) :
    encTail k d c vl t p = some (encOf d c vl t p) := by
  obtain ⟨k, rfl⟩ : ∃ m, k = m + 1 := ⟨k - 1, by omega⟩
  have bad : ethernet_Encode.j2 (k + 1) true d c vl t p = some (⟨#[]⟩, 4) := by rw [ethernet_Encode.j2, if_pos rfl]
  unfold encTail encOf
  rw [if_neg (show ¬ (281474976710656 ≤ d ∨ 281474976710656 ≤ c) by omega), if_neg (show ¬ ¬ goodTags vl from fun h => h hv), tagged_is]
  simp only [bs]
  by_cases h1 : t < 1536
  · rw [if_pos h1, bad, if_pos (.inl h1)]
  · rw [if_neg h1]
    by_cases h2 : t > 65535
    · rw [if_pos h2, bad, if_pos (.inr (.inl h2))]
    · rw [if_neg h2]
      by_cases h3 : isTag t
      · rw [decide_eq_true h3, bad, if_pos (.inr (.inr h3))]
      · have hn : ¬ (t < 1536 ∨ 65535 < t ∨ isTag t) := fun h => h.elim h1 (fun h => h.elim (fun h => h2 h) h3)
        rw [decide_eq_false h3, if_neg hn, ethernet_Encode.j2]
        simp only [Bool.false_eq_true, if_false]
        by_cases h4 : (vl.length : Int) > 2
        · rw [if_pos h4, if_pos (by omega)]
        · rw [if_neg h4, if_neg (show ¬ 2 < vl.length by omega), w64 (n := 4 * (vl.length : Int)) (by omega) (by omega), w64 (n := 14 + 4 * (vl.length : Int)) (by omega) (by omega), w64 (n := 14 + 4 * (vl.length : Int) + (p.size : Int)) (by omega) (by omega)]
          by_cases h5 : 14 + 4 * (vl.length : Int) + (p.size : Int) > 4096
          · rw [if_pos h5, if_pos (by omega)]
          · rw [if_neg h5, if_neg (show ¬ 4096 < 14 + 4 * vl.length + p.size by omega), w64 (n := d) (by omega) (by omega), w64 (n := c) (by omega) (by omega), put_is _ _ _ (by omega), put_is _ _ _ (by omega), put6 d d0 d1, put6 c c0 c1]
            simp only [bs]
            rw [if_pos (by rw [strOfNums_size, strOfNums_size, beN_length, beN_length]; omega), ← strOfNums_append, enc_tags d c vl t p _ (by simp [beN_length]) (by omega) hv (by omega) (by omega) hp _ (by omega)]
            rfl
theorem encode_is (d c : Int) (vl : List Int) (t : Int) (p : ByteArray) (hl : vl.length ≤ 6) (d0 : 0 ≤ d) (d1 : d < 18446744073709551616) (c0 : 0 ≤ c) (c1 : c < 18446744073709551616) (hp : p.size ≤ 4611686018427387904) (k : Nat) (hk : 50 ≤ k) :
    ethernet_Encode.f k d c vl t p = some (encOf d c vl t p) := by
  obtain ⟨k, rfl⟩ : ∃ m, k = m + 1 := ⟨k - 1, by omega⟩
  have bad : ethernet_Encode.j0 (k + 1) true d c vl t p = some (⟨#[]⟩, 4) := by rw [ethernet_Encode.j0, if_pos rfl]
  unfold ethernet_Encode.f
  by_cases h1 : d ≥ 281474976710656
  · rw [if_pos h1, bad, encOf, if_pos (.inl h1)]
  · rw [if_neg h1]
    by_cases h2 : c ≥ 281474976710656
    · rw [decide_eq_true h2, bad, encOf, if_pos (.inr h2)]
    · rw [decide_eq_false h2, ethernet_Encode.j0, if_neg (by simp)]
      by_cases hv : goodTags vl
      · have := enc_good d c vl t p hl hv vl.length 0 (k - vl.length - 1) (by omega)
        rw [show k - vl.length - 1 + vl.length + 1 = k by omega, tail_is d c vl t p hl hv d0 (by omega) c0 (by omega) hp _ (by omega)] at this
        exact this
      · have := enc_bad d c vl t p hl vl.length 0 (k - vl.length - 1) (by omega) (by simpa using hv)
        rw [show k - vl.length - 1 + vl.length + 1 = k by omega] at this
        unfold encOf
        rw [if_neg (show ¬ (281474976710656 ≤ d ∨ 281474976710656 ≤ c) by omega), if_pos hv]
        exact this
end Go.Proofs.YtellbiicmiljcaaDoor.Pure
