/- EthernetAgain as a plain law: the bytes of a decoded frame are the same again, apart from the tags, for at most 4096 bytes; no further condition. -/
import Derived.Test.YtellbiicmiljcaaDoorXDEthernetAgain
import Derived.Test.YtellbiicmiljcaaDoorEther3
namespace Go.Proofs.YtellbiicmiljcaaDoor.Pure
open Go.RowKit Go.Proofs.YtellbiicmiljcaaDoor.X Go.Proofs.YtellbiicmiljcaaDoorW.PrintWords Go.Proofs.YtellbiicmiljcaaDoorW.PrintLast Go.Proofs.YtellbiicmiljcaaDoorW.PrintMore

theorem join_cut (s : ByteArray) (a b c : Nat) (h1 : a ≤ b) (h2 : b ≤ c) : bytesOf (s.extract a b) ++ bytesOf (s.extract b c) = bytesOf (s.extract a c) := by
  rw [bytesOf_extract, bytesOf_extract, bytesOf_extract]
  have e1 : List.drop b (bytesOf s) = List.drop (b - a) (List.drop a (bytesOf s)) := by rw [List.drop_drop]; congr 1; omega
  rw [e1, show c - a = (b - a) + (c - b) by omega, List.take_add]
/-- What a frame that was decoded is. -/
def Fine (s : ByteArray) (d c : Int) (r : Frame) : Prop :=
  ∃ vl t, r = (d, c, vl, t, s.extract (14 + 4 * vl.length) s.size, 0) ∧ vl.length ≤ 2 ∧ goodTags vl ∧ 1536 ≤ t ∧ t < 65536 ∧ ¬ isTag t ∧ t = W s (12 + 4 * vl.length) ∧ 14 + 4 * vl.length ≤ s.size
theorem decL_fine (s : ByteArray) (d c : Int) : ∀ (n i : Nat) (t : Int) (vl : List Int), vl.length + n = 2 → goodTags vl → i = 14 + 4 * vl.length → i ≤ s.size → 0 ≤ t → t < 65536 → t = W s (12 + 4 * vl.length) →
    (decL s d c n i t vl).2.2.2.2.2 = 0 → Fine s d c (decL s d c n i t vl)
  | 0, i, t, vl, h, hg, hi, hs, t0, t1, ht, hz => by
    rw [decL] at hz ⊢
    split at hz
    · exact absurd hz (by decide)
    · split at hz
      · exact absurd hz (by decide)
      · rename_i h1 h2
        rw [if_neg h1, if_neg h2]
        exact ⟨vl, t, by rw [hi], by omega, hg, by omega, t1, h1, ht, by omega⟩
  | n + 1, i, t, vl, h, hg, hi, hs, t0, t1, ht, hz => by
    rw [decL] at hz ⊢
    split at hz
    · rename_i h1
      rw [if_pos h1]
      split at hz
      · exact absurd hz (by decide)
      · rename_i h2
        rw [if_neg h2]
        have w := W_range s i (by omega)
        have w2 := W_range s (i + 2) (by omega)
        have hl : (vl ++ [W s i % 4096]).length = vl.length + 1 := by simp
        refine decL_fine s d c n (i + 4) _ _ (by omega) ?_ (by omega) (by omega) w2.1 w2.2 (by rw [hl]; congr 1; omega) hz
        intro v hv
        rcases List.mem_append.mp hv with hv | hv
        · exact hg v hv
        · simp only [List.mem_singleton] at hv
          subst hv
          omega
    · split at hz
      · exact absurd hz (by decide)
      · rename_i h1 h2
        rw [if_neg h1, if_neg h2]
        exact ⟨vl, t, by rw [hi], by omega, hg, by omega, t1, h1, ht, by omega⟩
theorem decOf_fine (s : ByteArray) (hz : (decOf s).2.2.2.2.2 = 0) : 14 ≤ s.size ∧ Fine s (valBE (bytesOf (s.extract 0 6))) (valBE (bytesOf (s.extract 6 12))) (decOf s) := by
  unfold decOf at hz ⊢
  split at hz
  · exact absurd hz (by decide)
  · rename_i h
    rw [if_neg h]
    have w := W_range s 12 (by omega)
    exact ⟨by omega, decL_fine s _ _ 2 14 _ [] rfl (fun v hv => by cases hv) rfl (by omega) w.1 w.2 rfl hz⟩
theorem back6 (s : ByteArray) (i : Nat) (h : i + 6 ≤ s.size) : beN 6 (valBE (bytesOf (s.extract i (i + 6)))) = bytesOf (s.extract i (i + 6)) := by
  have hl : (bytesOf (s.extract i (i + 6))).length = 6 := by rw [bytesOf_length]; simp; omega
  have := beN_valBE _ (bytesOf_range (s.extract i (i + 6)))
  rwa [hl] at this
theorem back2 (s : ByteArray) (i : Nat) (h : i + 2 ≤ s.size) : beN 2 (W s i) = bytesOf (s.extract i (i + 2)) := by
  have hl : (bytesOf (s.extract i (i + 2))).length = 2 := by rw [bytesOf_length]; simp; omega
  have := beN_valBE _ (bytesOf_range (s.extract i (i + 2)))
  rwa [hl] at this
theorem EthernetAgain : intrusionlaw10_EthernetAgain.Pure := by
  intro s _
  obtain ⟨K, hK⟩ : ∃ K, 120 = K := ⟨_, rfl⟩
  refine ⟨K, ?_⟩
  unfold intrusionlaw10_EthernetAgain.f
  rw [awake_is _ (by omega)]
  by_cases c1 : (s.size : Int) > 4096
  · rw [if_pos c1]; rfl
  · rw [if_neg c1, decode_is s (by omega) _ (by omega)]
    simp only [bs]
    by_cases hz : (decOf s).2.2.2.2.2 = 0
    · obtain ⟨hs, vl, t, hr, hl, hg, t0, t1, ht, htw, hn⟩ := decOf_fine s hz
      rw [if_pos hz, hr]
      dsimp only
      have v0 := val6 s 0
      have v6 := val6 s 6
      simp only [Nat.zero_add, Nat.reduceAdd] at v0 v6
      have b0 := back6 s 0 (by omega)
      have b6 := back6 s 6 (by omega)
      simp only [Nat.zero_add, Nat.reduceAdd] at b0 b6
      have bt := back2 s (12 + 4 * vl.length) (by omega)
      have hps : (s.extract (14 + 4 * vl.length) s.size).size = s.size - (14 + 4 * vl.length) := by simp
      rw [encode_is _ _ _ _ _ (by omega) v0.1 (by omega) v6.1 (by omega) (by omega) _ (by omega)]
      have he : encOf (valBE (bytesOf (s.extract 0 6))) (valBE (bytesOf (s.extract 6 12))) vl t (s.extract (14 + 4 * vl.length) s.size) = (strOfNums (headOf (valBE (bytesOf (s.extract 0 6))) (valBE (bytesOf (s.extract 6 12))) vl t) ++ s.extract (14 + 4 * vl.length) s.size, 0) := by
        unfold encOf
        rw [if_neg (by omega), if_neg (show ¬ ¬ goodTags vl from fun h => h hg), if_neg (fun h => h.elim (by omega) (fun h => h.elim (by omega) ht)), if_neg (by omega), if_neg (by omega)]
      rw [he]
      simp only [bs]
      generalize hE : strOfNums (headOf (valBE (bytesOf (s.extract 0 6))) (valBE (bytesOf (s.extract 6 12))) vl t) ++ s.extract (14 + 4 * vl.length) s.size = E
      have hb : bytesOf E = bytesOf (s.extract 0 6) ++ bytesOf (s.extract 6 12) ++ tagsOf vl ++ (bytesOf (s.extract (12 + 4 * vl.length) (12 + 4 * vl.length + 2)) ++ bytesOf (s.extract (14 + 4 * vl.length) s.size)) := by
        rw [← hE, bytesOf_append, bytesOf_strOfNums _ (headOf_range _ _ _ _)]
        unfold headOf
        rw [b0, b6, htw, bt]
        simp
      have j1 := join_cut s 0 6 12 (by omega) (by omega)
      have j2 := join_cut s (12 + 4 * vl.length) (14 + 4 * vl.length) s.size (by omega) (by omega)
      rw [show 12 + 4 * vl.length + 2 = 14 + 4 * vl.length by omega, j1, j2] at hb
      have l12 : (bytesOf (s.extract 0 12)).length = 12 := by rw [bytesOf_length]; simp; omega
      have hEs : E.size = s.size := by
        rw [size_bytes, hb, List.length_append, List.length_append, l12, tags_len, bytesOf_length]
        simp; omega
      have x1 : E.extract 0 12 = s.extract 0 12 := by
        apply bytesOf_inj
        rw [bytesOf_extract E, hb, List.append_assoc, List.drop_zero, List.take_left' l12]
      have x2 : E.extract (12 + 4 * vl.length) E.size = s.extract (12 + 4 * vl.length) s.size := by
        apply bytesOf_inj
        have hll : (bytesOf (s.extract (12 + 4 * vl.length) s.size)).length = s.size - (12 + 4 * vl.length) := by rw [bytesOf_length]; simp
        rw [bytesOf_extract E, hb, List.drop_left' (by rw [List.length_append, l12, tags_len]), List.take_of_length_le (by omega)]
      rw [w64 (n := 4 * (vl.length : Int)) (by omega) (by omega), w64 (n := 12 + 4 * (vl.length : Int)) (by omega) (by omega), show (12 + 4 * (vl.length : Int)).toNat = 12 + 4 * vl.length by omega, x1, x2]
      rw [if_pos trivial, if_pos (by omega), if_pos (by decide), if_pos (by omega), if_pos (by omega), if_pos rfl, if_pos (by omega), if_pos (by omega), if_pos (by omega), if_pos rfl]
    · rw [if_neg hz]

end Go.Proofs.YtellbiicmiljcaaDoor.Pure
