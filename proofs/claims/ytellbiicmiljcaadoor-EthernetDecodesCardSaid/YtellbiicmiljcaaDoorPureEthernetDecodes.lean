/- EthernetDecodes as a plain law: the program's Decode and the document's return the same frame and error for every string of at most 5000 bytes; no further condition. -/
import Derived.Test.YtellbiicmiljcaaDoorXDEthernetDecodes
import Derived.Test.YtellbiicmiljcaaDoorEther
import Derived.Test.YtellbiicmiljcaaDoorRefVal
import Derived.Test.YtellbiicmiljcaaDoorX9
import Derived.Test.YtellbiicmiljcaaDoorX7
namespace Go.Proofs.YtellbiicmiljcaaDoor.Pure
open Go.RowKit Go.Proofs.YtellbiicmiljcaaDoor.X Go.Proofs.YtellbiicmiljcaaDoorW.PrintWords Go.Proofs.YtellbiicmiljcaaDoorW.PrintLast Go.Proofs.YtellbiicmiljcaaDoorW.PrintMore

theorem rtag_is (t : Int) : intrusionref10_tag.f t = some (decide (isTag t)) := by
  unfold intrusionref10_tag.f isTag
  by_cases h : t = 33024
  · rw [if_pos h]; simp [h]
  · rw [if_neg h]; simp only [h, false_or]; by_cases h2 : t = 34984 <;> simp [h2]
theorem rdec_loop (s : ByteArray) (d c : Int) (hs : s.size ≤ 5000) : ∀ (n i : Nat) (vl : List Int) (k : Nat), i ≤ s.size → vl.length + n = 2 → n + 10 ≤ k →
    intrusionref10_Decode.l0 k s i d c vl 0 (⟨#[]⟩ : ByteArray) = some (if s.size < i + 2 then failed 1 else decL s d c n (i + 2) (W s i) vl)
  | n, i, vl, k, hi, hl, hk => by
    obtain ⟨k, rfl⟩ : ∃ m, k = m + 1 := ⟨k - 1, by omega⟩
    rw [intrusionref10_Decode.l0, w64 (n := (s.size : Int) - i) (by omega) (by omega), w64 (n := (i : Int) + 2) (by omega) (by omega), w64 (n := (s.size : Int) - ((i : Int) + 2)) (by omega) (by omega), w64 (n := (i : Int) + 2 + 2) (by omega) (by omega)]
    by_cases c1 : s.size < i + 2
    · rw [if_pos (by omega), if_pos c1]; rfl
    · rw [if_neg (by omega), if_neg c1, if_pos (by omega), if_pos (by omega), if_pos (by omega), show ((i : Int)).toNat = i by omega, show ((i : Int) + 2).toNat = i + 2 by omega, value_is _ (by simp; omega) _ (by omega)]
      have hW : valBE (bytesOf (s.extract i (i + 2))) = W s i := rfl
      have hW2 : valBE (bytesOf (s.extract (i + 2) (i + 2 + 2))) = W s (i + 2) := rfl
      rw [hW]
      simp only [bs]
      rw [rtag_is]
      simp only [bs, decide_eq_true_eq]
      by_cases ht : isTag (W s i)
      · rw [if_pos ht]
        match n, hl, hk with
        | 0, hl, _ =>
          rw [if_pos (by omega), decL, if_pos ht]
          rfl
        | n + 1, hl, hk =>
          rw [if_neg (by omega), decL, if_pos ht]
          by_cases c2 : s.size < i + 2 + 2
          · rw [if_pos (by omega), if_pos (by omega)]
            rfl
          · have hr := W_range s (i + 2) (by omega)
            rw [if_neg (by omega), if_pos (by omega), if_pos (by omega), if_pos (by omega), show ((i : Int) + 2 + 2).toNat = i + 2 + 2 by omega, value_is _ (by simp; omega) _ (by omega), hW2]
            simp only [bs]
            rw [if_pos (by omega), Int.tmod_eq_emod_of_nonneg hr.1, show (i : Int) + 2 + 2 = ((i + 4 : Nat) : Int) by omega,
              rdec_loop s d c hs n (i + 4) _ k (by omega) (by simp; omega) (by omega)]
      · rw [if_neg ht]
        have e : decL s d c n (i + 2) (W s i) vl = if W s i < 1536 then failed 2 else (d, c, vl, W s i, s.extract (i + 2) s.size, 0) := by
          match n with
          | 0 => rw [decL, if_neg ht]
          | n + 1 => rw [decL, if_neg ht]
        rw [e]
        split
        · rfl
        · rw [if_pos (by omega)]
theorem rdecode_is (s : ByteArray) (hs : s.size ≤ 5000) (k : Nat) (hk : 20 ≤ k) : intrusionref10_Decode.f k s = some (decOf s) := by
  unfold intrusionref10_Decode.f decOf
  by_cases c1 : (s.size : Int) < 14
  · rw [if_pos c1, if_pos (by omega)]; rfl
  · have v0 := val6 s 0
    have v6 := val6 s 6
    simp only [Nat.zero_add, Nat.reduceAdd] at v0 v6
    rw [if_neg c1, if_neg (show ¬ s.size < 14 by omega), if_pos (show (0 : Nat) ≤ 6 by decide), if_pos (show (6 : Int) ≤ (s.size : Int) by omega), value_is _ (by simp; omega) _ (by omega)]
    simp only [bs]
    rw [if_pos (by decide), if_pos (by omega), value_is _ (by simp; omega) _ (by omega)]
    simp only [bs]
    rw [u64_wrap_id _ v0.1 (by omega), u64_wrap_id _ v6.1 (by omega)]
    have := rdec_loop s (valBE (bytesOf (s.extract 0 6))) (valBE (bytesOf (s.extract 6 12))) hs 2 12 [] k (by omega) rfl (by omega)
    rw [if_neg (by omega)] at this
    exact this
theorem EthernetDecodes : intrusionlaw10_EthernetDecodes.Pure := by
  intro s _
  refine ⟨80, ?_⟩
  unfold intrusionlaw10_EthernetDecodes.f
  rw [awake_is _ (by omega)]
  by_cases c1 : (s.size : Int) > 5000
  · rw [if_pos c1]; rfl
  · rw [if_neg c1, decode_is s (by omega) _ (by omega), rdecode_is s (by omega) _ (by omega)]
    have hv := decOf_vlans s
    simp only [bs]
    rw [if_pos trivial, same_is _ _ _ _ _ (by omega) _ (by omega)]
    simp

end Go.Proofs.YtellbiicmiljcaaDoor.Pure
