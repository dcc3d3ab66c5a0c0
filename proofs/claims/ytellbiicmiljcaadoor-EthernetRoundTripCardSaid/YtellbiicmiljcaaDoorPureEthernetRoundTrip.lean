/- EthernetRoundTrip as a plain law: decoding the bytes of an encoded frame returns the frame, for at most 6 tags and 5000 bytes of payload; no further condition. -/
import Derived.Test.YtellbiicmiljcaaDoorXDEthernetRoundTrip
import Derived.Test.YtellbiicmiljcaaDoorEther3
namespace Go.Proofs.YtellbiicmiljcaaDoor.Pure
open Go.RowKit Go.Proofs.YtellbiicmiljcaaDoor.X Go.Proofs.YtellbiicmiljcaaDoorW.PrintWords Go.Proofs.YtellbiicmiljcaaDoorW.PrintLast Go.Proofs.YtellbiicmiljcaaDoorW.PrintMore

theorem dec_enc (d c : Int) (vl : List Int) (t : Int) (p : ByteArray) (d0 : 0 ≤ d) (d1 : d < 281474976710656) (c0 : 0 ≤ c) (c1 : c < 281474976710656) (hv : goodTags vl) (ht : ¬ isTag t) (t0 : 1536 ≤ t) (t1 : t ≤ 65535) (hl : vl.length ≤ 2) :
    decOf (strOfNums (headOf d c vl t) ++ p) = (d, c, vl, t, p, 0) := by
  generalize hs : strOfNums (headOf d c vl t) ++ p = s
  have hb : bytesOf s = headOf d c vl t ++ bytesOf p := by rw [← hs, bytesOf_append, bytesOf_strOfNums _ (headOf_range d c vl t)]
  have L6 : ∀ x : Int, (beN 6 x).length = 6 := beN_length 6
  have L2 : ∀ x : Int, (beN 2 x).length = 2 := beN_length 2
  have tag1 : isTag 33024 := .inl rfl
  have tag2 : isTag 34984 := .inr rfl
  have hlp := bytesOf_length p
  unfold headOf at hb
  have g0 : valBE (bytesOf (s.extract 0 6)) = d := by
    rw [piece s [] (beN 6 d) (beN 6 c ++ tagsOf vl ++ beN 2 t ++ bytesOf p) (by rw [hb]; simp) 0 6 rfl (by rw [L6]), val6' d d0 d1]
  have g1 : valBE (bytesOf (s.extract 6 12)) = c := by
    rw [piece s (beN 6 d) (beN 6 c) (tagsOf vl ++ beN 2 t ++ bytesOf p) (by rw [hb]; simp) 6 12 (L6 d) (by rw [L6]), val6' c c0 c1]
  unfold decOf
  rw [g0, g1]
  match vl, hl, hv, hb with
  | [], _, _, hb =>
    have hsz : s.size = 14 + p.size := by rw [size_bytes, hb]; simp [tagsOf, L6, L2, hlp]; omega
    have w0 : W s 12 = t := by
      unfold W
      rw [piece s (beN 6 d ++ beN 6 c) (beN 2 t) (bytesOf p) (by rw [hb]; simp [tagsOf]) 12 14 (by simp [L6]) (by rw [L2]), val2 t (by omega) (by omega)]
    rw [if_neg (by omega), w0, decL, if_neg ht, if_neg (by omega), rest_is s (beN 6 d ++ beN 6 c ++ beN 2 t) p (by rw [hb]; simp [tagsOf]) 14 (by simp [L6, L2])]
  | [v], _, hv, hb =>
    have hg := hv v (by simp)
    have hsz : s.size = 18 + p.size := by rw [size_bytes, hb]; simp [tagsOf, L6, L2, hlp]; omega
    have w0 : W s 12 = 33024 := by
      unfold W
      rw [piece s (beN 6 d ++ beN 6 c) (beN 2 33024) (beN 2 v ++ beN 2 t ++ bytesOf p) (by rw [hb]; simp [tagsOf]) 12 14 (by simp [L6]) (by rw [L2]), val2 _ (by decide) (by decide)]
    have w1 : W s 14 = v := by
      unfold W
      rw [piece s (beN 6 d ++ beN 6 c ++ beN 2 33024) (beN 2 v) (beN 2 t ++ bytesOf p) (by rw [hb]; simp [tagsOf]) 14 16 (by simp [L6, L2]) (by rw [L2]), val2 _ (by omega) (by omega)]
    have w2 : W s 16 = t := by
      unfold W
      rw [piece s (beN 6 d ++ beN 6 c ++ beN 2 33024 ++ beN 2 v) (beN 2 t) (bytesOf p) (by rw [hb]; simp [tagsOf]) 16 18 (by simp [L6, L2]) (by rw [L2]), val2 t (by omega) (by omega)]
    rw [if_neg (by omega), w0, decL, if_pos tag1, if_neg (by omega), w1, w2, decL, if_neg ht, if_neg (by omega), rest_is s (beN 6 d ++ beN 6 c ++ beN 2 33024 ++ beN 2 v ++ beN 2 t) p (by rw [hb]; simp [tagsOf]) 18 (by simp [L6, L2])]
    simp only [List.nil_append, show v % 4096 = v by omega]
  | [u, v], _, hv, hb =>
    have hg := hv v (by simp)
    have hu := hv u (by simp)
    have hsz : s.size = 22 + p.size := by rw [size_bytes, hb]; simp [tagsOf, L6, L2, hlp]; omega
    have w0 : W s 12 = 34984 := by
      unfold W
      rw [piece s (beN 6 d ++ beN 6 c) (beN 2 34984) (beN 2 u ++ beN 2 33024 ++ beN 2 v ++ beN 2 t ++ bytesOf p) (by rw [hb]; simp [tagsOf]) 12 14 (by simp [L6]) (by rw [L2]), val2 _ (by decide) (by decide)]
    have w1 : W s 14 = u := by
      unfold W
      rw [piece s (beN 6 d ++ beN 6 c ++ beN 2 34984) (beN 2 u) (beN 2 33024 ++ beN 2 v ++ beN 2 t ++ bytesOf p) (by rw [hb]; simp [tagsOf]) 14 16 (by simp [L6, L2]) (by rw [L2]), val2 _ (by omega) (by omega)]
    have w2 : W s 16 = 33024 := by
      unfold W
      rw [piece s (beN 6 d ++ beN 6 c ++ beN 2 34984 ++ beN 2 u) (beN 2 33024) (beN 2 v ++ beN 2 t ++ bytesOf p) (by rw [hb]; simp [tagsOf]) 16 18 (by simp [L6, L2]) (by rw [L2]), val2 _ (by decide) (by decide)]
    have w3 : W s 18 = v := by
      unfold W
      rw [piece s (beN 6 d ++ beN 6 c ++ beN 2 34984 ++ beN 2 u ++ beN 2 33024) (beN 2 v) (beN 2 t ++ bytesOf p) (by rw [hb]; simp [tagsOf]) 18 20 (by simp [L6, L2]) (by rw [L2]), val2 _ (by omega) (by omega)]
    have w4 : W s 20 = t := by
      unfold W
      rw [piece s (beN 6 d ++ beN 6 c ++ beN 2 34984 ++ beN 2 u ++ beN 2 33024 ++ beN 2 v) (beN 2 t) (bytesOf p) (by rw [hb]; simp [tagsOf]) 20 22 (by simp [L6, L2]) (by rw [L2]), val2 t (by omega) (by omega)]
    rw [if_neg (by omega), w0, decL, if_pos tag2, if_neg (by omega), w1, w2, decL, if_pos tag1, if_neg (by omega), w3, w4, decL, if_neg ht, if_neg (by omega), rest_is s (beN 6 d ++ beN 6 c ++ beN 2 34984 ++ beN 2 u ++ beN 2 33024 ++ beN 2 v ++ beN 2 t) p (by rw [hb]; simp [tagsOf]) 22 (by simp [L6, L2])]
    simp only [List.nil_append, show v % 4096 = v by omega, show u % 4096 = u by omega, List.singleton_append]
theorem nilList : (⟨#[]⟩ : ByteArray).toList = [] := by
  unfold ByteArray.toList ByteArray.toList.loop
  rfl
theorem EthernetRoundTrip : intrusionlaw10_EthernetRoundTrip.Pure := by
  intro d c vl t p hd hc _ _ _ _
  have hd := wf_u64 hd
  have hc := wf_u64 hc
  obtain ⟨K, hK⟩ : ∃ K, 120 = K := ⟨_, rfl⟩
  have out : intrusionlaw10_EthernetRoundTrip.j0 (K + 1) true d c vl t p = some true := by
    rw [intrusionlaw10_EthernetRoundTrip.j0, if_pos rfl, awake_is _ (by omega)]
    rfl
  refine ⟨K + 1, ?_⟩
  unfold intrusionlaw10_EthernetRoundTrip.f
  by_cases h1 : (vl.length : Int) > 6
  · rw [if_pos h1]; exact out
  · rw [if_neg h1]
    by_cases h2 : (p.size : Int) > 5000
    · rw [decide_eq_true h2]; exact out
    · rw [decide_eq_false h2, intrusionlaw10_EthernetRoundTrip.j0, if_neg (by simp), encode_is d c vl t p (by omega) hd.1 hd.2 hc.1 hc.2 (by omega) _ (by omega), awake_is _ (by omega)]
      simp only [bs]
      unfold encOf
      by_cases c1 : 281474976710656 ≤ d ∨ 281474976710656 ≤ c
      · rw [if_pos c1, if_neg (by decide), if_pos nilList]
      · rw [if_neg c1]
        by_cases c2 : ¬ goodTags vl
        · rw [if_pos c2, if_neg (by decide), if_pos nilList]
        · rw [if_neg c2]
          by_cases c3 : t < 1536 ∨ 65535 < t ∨ isTag t
          · rw [if_pos c3, if_neg (by decide), if_pos nilList]
          · rw [if_neg c3]
            by_cases c4 : 2 < vl.length
            · rw [if_pos c4, if_neg (by decide), if_pos nilList]
            · rw [if_neg c4]
              by_cases c5 : 4096 < 14 + 4 * vl.length + p.size
              · rw [if_pos c5, if_neg (by decide), if_pos nilList]
              · rw [if_neg c5]
                have ht : ¬ isTag t := fun h => c3 (.inr (.inr h))
                have hz : (strOfNums (headOf d c vl t) ++ p).size = 14 + 4 * vl.length + p.size := by
                  rw [size_append, strOfNums_size]; unfold headOf; simp [beN_length, tags_len]; omega
                have hde := dec_enc d c vl t p hd.1 (by omega) hc.1 (by omega) (Decidable.not_not.mp c2) ht (by omega) (by omega) (by omega)
                dsimp only
                rw [if_pos rfl, decode_is _ (by omega) _ (by omega), hde]
                simp only [bs]
                rw [if_pos trivial, same_is _ _ _ _ _ (by omega) _ (by omega)]
                simp only [bs]
                rw [if_pos trivial, hz, w64 (n := 4 * (vl.length : Int)) (by omega) (by omega), w64 (n := 14 + 4 * (vl.length : Int)) (by omega) (by omega), w64 (n := 14 + 4 * (vl.length : Int) + (p.size : Int)) (by omega) (by omega), if_pos (by omega)]

end Go.Proofs.YtellbiicmiljcaaDoor.Pure
