/- EthernetEncodes as a plain law: the program's Encode and the document's return the same bytes and error for every frame of at most 6 tags and 5000 bytes of payload; no further condition. -/
import Derived.Test.YtellbiicmiljcaaDoorXDEthernetEncodes
import Derived.Test.YtellbiicmiljcaaDoorEther2
import Derived.Test.YtellbiicmiljcaaDoorRefPut
import Derived.Test.YtellbiicmiljcaaDoorX13
import Derived.Test.YtellbiicmiljcaaDoorX7
namespace Go.Proofs.YtellbiicmiljcaaDoor.Pure
open Go.RowKit Go.Proofs.YtellbiicmiljcaaDoor.X Go.Proofs.YtellbiicmiljcaaDoorW.PrintWords Go.Proofs.YtellbiicmiljcaaDoorW.PrintLast Go.Proofs.YtellbiicmiljcaaDoorW.PrintMore

theorem rtag2_is (t : Int) : intrusionref10_tag.f t = some (decide (isTag t)) := by
  unfold intrusionref10_tag.f isTag
  by_cases h : t = 33024
  · rw [if_pos h]; simp [h]
  · rw [if_neg h]; simp only [h, false_or]; by_cases h2 : t = 34984 <;> simp [h2]
def rencTail (k : Nat) (d c : Int) (vl : List Int) (t : Int) (p : ByteArray) : Option (ByteArray × Int) :=
  if t < 1536 then (intrusionref10_Encode.j2 k true d c vl t p) else (if t > 65535 then (intrusionref10_Encode.j2 k true d c vl t p) else ((intrusionref10_tag.f t).bind fun x => (intrusionref10_Encode.j2 k x d c vl t p)))
theorem renc_good (d c : Int) (vl : List Int) (t : Int) (p : ByteArray) (hl : vl.length ≤ 6) (hv : goodTags vl) : ∀ (m i k : Nat), i + m = vl.length →
    intrusionref10_Encode.l0 (k + m + 1) i d c vl t p = rencTail k d c vl t p
  | 0, i, k, h => by
    rw [intrusionref10_Encode.l0, if_neg (by omega)]
    rfl
  | m + 1, i, k, h => by
    have hi : i < vl.length := by omega
    have hg := hv vl[i] (List.getElem_mem hi)
    rw [show k + (m + 1) + 1 = (k + m + 1) + 1 by omega, intrusionref10_Encode.l0, if_pos (by omega), if_pos (by omega), rd_of _ _ hi, if_neg (by omega), if_neg (by omega), w64 (by omega) (by omega), show (i : Int) + 1 = ((i + 1 : Nat) : Int) by omega]
    exact renc_good d c vl t p hl hv m (i + 1) k (by omega)
theorem renc_bad (d c : Int) (vl : List Int) (t : Int) (p : ByteArray) (hl : vl.length ≤ 6) : ∀ (m i k : Nat), i + m = vl.length → ¬ goodTags (vl.drop i) →
    intrusionref10_Encode.l0 (k + m + 1) i d c vl t p = some (⟨#[]⟩, 4)
  | 0, i, k, h, hb => by
    rw [List.drop_of_length_le (by omega)] at hb
    exact absurd (fun v hv => by cases hv) hb
  | m + 1, i, k, h, hb => by
    have hi : i < vl.length := by omega
    rw [show k + (m + 1) + 1 = (k + m + 1) + 1 by omega, intrusionref10_Encode.l0, if_pos (by omega), if_pos (by omega), rd_of _ _ hi]
    by_cases h1 : vl[i] < 0
    · rw [if_pos h1]
    · rw [if_neg h1]
      by_cases h2 : vl[i] > 4095
      · rw [if_pos h2]
      · rw [if_neg h2, w64 (by omega) (by omega), show (i : Int) + 1 = ((i + 1 : Nat) : Int) by omega]
        refine renc_bad d c vl t p hl m (i + 1) k (by omega) (fun hg => hb ?_)
        rw [List.drop_eq_getElem_cons hi]
        intro v hv
        rcases List.mem_cons.mp hv with rfl | hv
        · omega
        · exact hg v hv
theorem renc_tags (d c : Int) (vl : List Int) (t : Int) (p : ByteArray) (a : List Int) (ha : a.length = 12) (hl : vl.length ≤ 2) (hv : goodTags vl) (t0 : 0 ≤ t) (t1 : t < 65536) (hp : p.size ≤ 4611686018427387904) (k : Nat) (hk : 60 ≤ k) :
    intrusionref10_Encode.l1 k (strOfNums a) 0 d c vl t p = some (if 4096 < 14 + 4 * vl.length + p.size then (⟨#[]⟩, 3) else (strOfNums (a ++ tagsOf vl ++ beN 2 t) ++ p, 0)) := by
  have last : ∀ (b : List Int) (k n : Nat), b.length = n → n ≤ 20 → 50 ≤ k → ((intrusionref01_Put.f k t 2).bind fun t265 => (if (strOfNums b).size + t265.size ≤ 9223372036854775807 then (if (strOfNums b ++ t265).size + p.size ≤ 9223372036854775807 then (if (((strOfNums b ++ t265) ++ p).size : Int) > 4096 then (some ((⟨#[]⟩ : ByteArray), (3 : Int))) else (some ((strOfNums b ++ t265) ++ p, 0))) else (none)) else (none))) =
      some (if 4096 < n + 2 + p.size then (⟨#[]⟩, 3) else (strOfNums (b ++ beN 2 t) ++ p, 0)) := by
    intro b k n hb hn hk
    rw [rput_all _ _ _ (by omega) (by omega) (by omega), put2 t t0 t1]
    simp only [bs]
    rw [if_pos (by rw [strOfNums_size, strOfNums_size, beN_length]; omega), if_pos (by rw [size_append, strOfNums_size, strOfNums_size, beN_length]; omega), ← strOfNums_append]
    have z : ((strOfNums (b ++ beN 2 t) ++ p).size : Int) = n + 2 + p.size := by rw [size_append, strOfNums_size, List.length_append, beN_length, hb]; omega
    by_cases h : 4096 < n + 2 + p.size
    · rw [if_pos (by omega), if_pos h]
    · rw [if_neg (by omega), if_neg h]
  have p1 := put2 33024 (by decide) (by decide)
  have p2 := put2 34984 (by decide) (by decide)
  have sz : ∀ x : Int, (strOfNums (beN 2 x)).size = 2 := by intro x; rw [strOfNums_size, beN_length]
  obtain ⟨k, rfl⟩ : ∃ m, k = m + 3 := ⟨k - 3, by omega⟩
  have z1 : wrap64 (0 + 1) = 1 := by decide +kernel
  have z3 : wrap64 (1 + 1) = 2 := by decide +kernel
  match vl, hl, hv with
  | [], _, _ =>
    rw [intrusionref10_Encode.l1, if_neg (by simp), last a _ 12 ha (by omega) (by omega)]
    simp [tagsOf]
  | [v], _, hv =>
    have hg := hv v (by simp)
    have pv := put2 v (by omega) (by omega)
    have r0 : rd [v] 0 = v := rfl
    have z : wrap64 (((1 : Nat) : Int) - 1) = 0 := by decide +kernel
    rw [intrusionref10_Encode.l1]
    simp only [List.length_singleton, r0, z, z1]
    rw [if_pos (by decide), if_pos trivial, rput_all _ _ _ (by omega) (by omega) (by omega), p1]
    simp only [bs]
    rw [if_pos (by rw [sz, strOfNums_size]; omega), if_pos (by decide), rput_all _ _ _ (by omega) (by omega) (by omega), pv]
    simp only [bs]
    rw [if_pos (by rw [size_append, sz, sz, strOfNums_size]; omega), ← strOfNums_append, ← strOfNums_append, intrusionref10_Encode.l1, if_neg (by simp), last _ _ 16 (by simp [beN_length]; omega) (by omega) (by omega)]
    simp [tagsOf]
  | [u, v], _, hv =>
    have hg := hv v (by simp)
    have hu := hv u (by simp)
    have pv := put2 v (by omega) (by omega)
    have pu := put2 u (by omega) (by omega)
    have r0 : rd [u, v] 0 = u := rfl
    have r1 : rd [u, v] 1 = v := rfl
    have hlen : [u, v].length = 2 := rfl
    have z : wrap64 (((2 : Nat) : Int) - 1) = 1 := by decide +kernel
    rw [intrusionref10_Encode.l1]
    simp only [hlen, r0, z, z1]
    rw [if_pos (by decide), if_neg (by decide), rput_all _ _ _ (by omega) (by omega) (by omega), p2]
    simp only [bs]
    rw [if_pos (by rw [sz, strOfNums_size]; omega), if_pos (by decide), rput_all _ _ _ (by omega) (by omega) (by omega), pu]
    simp only [bs]
    rw [if_pos (by rw [size_append, sz, sz, strOfNums_size]; omega), ← strOfNums_append, ← strOfNums_append, intrusionref10_Encode.l1]
    simp only [hlen, r1, z, z3]
    rw [if_pos (by decide), if_pos trivial, rput_all _ _ _ (by omega) (by omega) (by omega), p1]
    simp only [bs]
    have sa : (strOfNums (a ++ beN 2 34984 ++ beN 2 u)).size = 16 := by rw [strOfNums_size]; simp [beN_length]; omega
    rw [if_pos (by rw [sz, sa]; omega), if_pos (by decide), rput_all _ _ _ (by omega) (by omega) (by omega), pv]
    simp only [bs]
    rw [if_pos (by rw [size_append, sz, sz, sa]; omega), ← strOfNums_append, ← strOfNums_append, intrusionref10_Encode.l1, if_neg (by simp), last _ _ 20 (by simp [beN_length]; omega) (by omega) (by omega)]
    simp [tagsOf]
theorem rtail_is (d c : Int) (vl : List Int) (t : Int) (p : ByteArray) (hv : goodTags vl) (d0 : 0 ≤ d) (d1 : d < 281474976710656) (c0 : 0 ≤ c) (c1 : c < 281474976710656) (hp : p.size ≤ 4611686018427387904) (k : Nat) (hk : 70 ≤ k) :
    rencTail k d c vl t p = some (encOf d c vl t p) := by
  obtain ⟨k, rfl⟩ : ∃ m, k = m + 1 := ⟨k - 1, by omega⟩
  have bad : intrusionref10_Encode.j2 (k + 1) true d c vl t p = some (⟨#[]⟩, 4) := by rw [intrusionref10_Encode.j2, if_pos rfl]
  unfold rencTail encOf
  rw [if_neg (show ¬ (281474976710656 ≤ d ∨ 281474976710656 ≤ c) by omega), if_neg (show ¬ ¬ goodTags vl from fun h => h hv), rtag2_is]
  simp only [bs]
  by_cases h1 : t < 1536
  · rw [if_pos h1, bad, if_pos (.inl h1)]
  · rw [if_neg h1]
    by_cases h2 : t > 65535
    · rw [if_pos h2, bad, if_pos (.inr (.inl h2))]
    · rw [if_neg h2]
      by_cases h3 : isTag t
      · rw [decide_eq_true h3, bad, if_pos (.inr (.inr h3))]
      · have hn : ¬ (t < 1536 ∨ 65535 < t ∨ isTag t) := fun h => h.elim h1 (fun h => h.elim (fun h => h2 h) h3)
        rw [decide_eq_false h3, if_neg hn, intrusionref10_Encode.j2]
        simp only [Bool.false_eq_true, if_false]
        by_cases h4 : (vl.length : Int) > 2
        · rw [if_pos h4, if_pos (by omega)]
        · rw [if_neg h4, if_neg (show ¬ 2 < vl.length by omega), w64 (n := d) (by omega) (by omega), w64 (n := c) (by omega) (by omega), rput_all _ _ _ (by omega) (by omega) (by omega), rput_all _ _ _ (by omega) (by omega) (by omega), put6 d d0 d1, put6 c c0 c1]
          simp only [bs]
          rw [if_pos (by rw [strOfNums_size, strOfNums_size, beN_length, beN_length]; omega), ← strOfNums_append, renc_tags d c vl t p _ (by simp [beN_length]) (by omega) hv (by omega) (by omega) hp _ (by omega)]
          rfl
theorem rencode_is (d c : Int) (vl : List Int) (t : Int) (p : ByteArray) (hl : vl.length ≤ 6) (d0 : 0 ≤ d) (c0 : 0 ≤ c) (hp : p.size ≤ 4611686018427387904) (k : Nat) (hk : 90 ≤ k) :
    intrusionref10_Encode.f k d c vl t p = some (encOf d c vl t p) := by
  obtain ⟨k, rfl⟩ : ∃ m, k = m + 1 := ⟨k - 1, by omega⟩
  have bad : intrusionref10_Encode.j0 (k + 1) true d c vl t p = some (⟨#[]⟩, 4) := by rw [intrusionref10_Encode.j0, if_pos rfl]
  unfold intrusionref10_Encode.f
  by_cases h1 : d ≥ 281474976710656
  · rw [if_pos h1, bad, encOf, if_pos (.inl h1)]
  · rw [if_neg h1]
    by_cases h2 : c ≥ 281474976710656
    · rw [decide_eq_true h2, bad, encOf, if_pos (.inr h2)]
    · rw [decide_eq_false h2, intrusionref10_Encode.j0, if_neg (by simp)]
      by_cases hv : goodTags vl
      · have := renc_good d c vl t p hl hv vl.length 0 (k - vl.length - 1) (by omega)
        rw [show k - vl.length - 1 + vl.length + 1 = k by omega, rtail_is d c vl t p hv d0 (by omega) c0 (by omega) hp _ (by omega)] at this
        exact this
      · have := renc_bad d c vl t p hl vl.length 0 (k - vl.length - 1) (by omega) (by simpa using hv)
        rw [show k - vl.length - 1 + vl.length + 1 = k by omega] at this
        unfold encOf
        rw [if_neg (show ¬ (281474976710656 ≤ d ∨ 281474976710656 ≤ c) by omega), if_pos hv]
        exact this
theorem EthernetEncodes : intrusionlaw10_EthernetEncodes.Pure := by
  intro d c vl t p hd hc _ _ _ _
  have hd := wf_u64 hd
  have hc := wf_u64 hc
  obtain ⟨K, hK⟩ : ∃ K, 120 = K := ⟨_, rfl⟩
  have out : intrusionlaw10_EthernetEncodes.j0 (K + 1) true d c vl t p = some true := by
    rw [intrusionlaw10_EthernetEncodes.j0, if_pos rfl, awake_is _ (by omega)]
    rfl
  refine ⟨K + 1, ?_⟩
  unfold intrusionlaw10_EthernetEncodes.f
  by_cases h1 : (vl.length : Int) > 6
  · rw [if_pos h1]; exact out
  · rw [if_neg h1]
    by_cases h2 : (p.size : Int) > 5000
    · rw [decide_eq_true h2]; exact out
    · rw [decide_eq_false h2, intrusionlaw10_EthernetEncodes.j0, if_neg (by simp), encode_is d c vl t p (by omega) hd.1 hd.2 hc.1 hc.2 (by omega) _ (by omega), rencode_is d c vl t p (by omega) hd.1 hc.1 (by omega) _ (by omega), awake_is _ (by omega)]
      simp

end Go.Proofs.YtellbiicmiljcaaDoor.Pure
