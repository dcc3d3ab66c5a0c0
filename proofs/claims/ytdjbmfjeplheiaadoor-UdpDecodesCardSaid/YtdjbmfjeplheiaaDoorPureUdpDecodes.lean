/- UdpDecodes as a plain law: the program's Decode and the document's return the same datagram and error for any addresses and at most 300 bytes; no further condition. -/
import Derived.Test.YtdjbmfjeplheiaaDoorXDUdpDecodes
import Derived.Test.YtdjbmfjeplheiaaDoorUdpR
import Derived.Test.YtdjbmfjeplheiaaDoorRefVal
import Derived.Test.YtdjbmfjeplheiaaDoorX13
namespace Go.Proofs.YtdjbmfjeplheiaaDoor.Pure
open Go.RowKit Go.Proofs.YtdjbmfjeplheiaaDoor.X Go.Proofs.YtdjbmfjeplheiaaDoorW.PrintWords Go.Proofs.YtdjbmfjeplheiaaDoorW.PrintLast Go.Proofs.YtdjbmfjeplheiaaDoorW.PrintMore

theorem rdecode_is (v6 : Bool) (hi lo : Int) (w6 : Bool) (hj lp : Int) (A : Addrs hi lo hj lp) (s : ByteArray) (hs : s.size ≤ 300) (k : Nat) (hk : s.size + 70 ≤ k) :
    intrusionref13_Decode.f k v6 hi lo w6 hj lp s = some (decU v6 hi lo w6 hj lp s) := by
  unfold intrusionref13_Decode.f decU
  rw [rfit_is]
  simp only [bs, decide_eq_true_eq]
  by_cases c0 : okFit v6 hi lo w6 hj lp
  · rw [if_pos c0, if_neg (show ¬ ¬ okFit v6 hi lo w6 hj lp from fun h => h c0)]
    by_cases c1 : (s.size : Int) < 8
    · rw [if_pos c1, if_pos (by omega)]
    · have w4 := W_range s 4 (by omega)
      have e4 : valBE (bytesOf (s.extract 4 6)) = W s 4 := rfl
      have e6 : valBE (bytesOf (s.extract 6 8)) = W s 6 := rfl
      have e0 : valBE (bytesOf (s.extract 0 2)) = W s 0 := rfl
      have e2 : valBE (bytesOf (s.extract 2 4)) = W s 2 := rfl
      have vz : ∀ i : Nat, (s.extract i (i + 2)).size ≤ 7 := by intro i; simp; omega
      rw [if_neg c1, if_neg (show ¬ s.size < 8 by omega), if_pos (show (4 : Nat) ≤ 6 by decide), if_pos (show (6 : Int) ≤ (s.size : Int) by omega), value_is _ (vz 4) _ (by omega), e4]
      simp only [bs]
      by_cases c2 : W s 4 < 8
      · rw [if_pos c2, if_pos c2]
      · rw [if_neg c2, if_neg c2]
        by_cases c3 : W s 4 > (s.size : Int)
        · rw [if_pos c3, if_pos c3]
        · rw [if_neg c3, if_neg c3, if_pos (show (6 : Nat) ≤ 8 by decide), if_pos (show (8 : Int) ≤ (s.size : Int) by omega), value_is _ (vz 6) _ (by omega), e6]
          simp only [bs]
          have ez : (s.extract 0 (W s 4).toNat).size = (W s 4).toNat := by simp; omega
          have zz2 : (⟨#[0, 0]⟩ : ByteArray).size = 2 := rfl
          have x6 : (s.extract 0 6).size = 6 := by simp; omega
          have x8 : (s.extract 8 (W s 4).toNat).size = (W s 4).toNat - 8 := by simp; omega
          have y6 : (s.extract 0 6 ++ (⟨#[0, 0]⟩ : ByteArray)).size = 8 := by rw [size_append, x6, zz2]
          have eZ : s.extract 0 6 ++ (⟨#[0, 0]⟩ : ByteArray) ++ s.extract 8 (W s 4).toNat = zeroed (s.extract 0 (W s 4).toNat) := by
            apply bytesOf_inj
            unfold zeroed zz
            have hl := bytesOf_length s
            rw [bytesOf_append, bytesOf_append, bytesOf_append, bytesOf_append, ez, bytesOf_extract s 0 6, bytesOf_extract s 8, bytesOf_extract (s.extract 0 (W s 4).toNat) 0 6, bytesOf_extract (s.extract 0 (W s 4).toNat) 8, bytesOf_extract s 0 (W s 4).toNat]
            simp only [List.drop_zero, Nat.sub_zero]
            rw [List.take_take, Nat.min_eq_left (by omega), List.drop_take, List.take_take, Nat.min_self]
          have hzs := zeroed_size (s.extract 0 (W s 4).toNat) (by omega)
          rw [if_pos (show (0 : Nat) ≤ 6 by decide), if_pos (by omega), if_pos (by omega), if_pos (by omega), if_pos (by omega), eZ, rsum13_is v6 hi lo w6 hj lp A _ (by omega) k (by omega)]
          simp only [bs]
          have tl : ∀ b : Bool, intrusionref13_Decode.j0 k s (W s 4) b = some (if b = true then (0, 0, ⟨#[]⟩, 8) else (W s 0, W s 2, s.extract 8 (W s 4).toNat, 0)) := by
            intro b
            obtain ⟨k, rfl⟩ : ∃ m, k = m + 1 := ⟨k - 1, by omega⟩
            rw [intrusionref13_Decode.j0]
            cases b with
            | true => rfl
            | false =>
              rw [if_neg (by simp), if_pos (show (0 : Nat) ≤ 2 by decide), if_pos (by omega), value_is _ (vz 0) _ (by omega), e0]
              simp only [bs]
              rw [if_pos (show (2 : Nat) ≤ 4 by decide), if_pos (by omega), value_is _ (vz 2) _ (by omega), e2]
              simp only [bs]
              rw [if_pos (by omega), if_pos (by omega), if_neg (by simp)]
          by_cases c6 : W s 6 = sumU v6 hi lo w6 hj lp (zeroed (s.extract 0 (W s 4).toNat))
          · rw [if_pos c6, tl, if_neg (by simp), if_neg (fun h => h.1 c6)]
          · rw [if_neg c6]
            by_cases c4 : W s 6 = 0
            · rw [if_pos c4, tl]
              by_cases c5 : v6 = true
              · rw [if_pos c5, if_pos ⟨c6, .inr c5⟩]
              · rw [if_neg c5, if_neg (fun h => h.2.elim (fun h => h c4) c5)]
            · rw [if_neg c4, tl, if_pos rfl, if_pos ⟨c6, .inl c4⟩]
  · rw [if_neg c0, if_pos c0]
theorem UdpDecodes : intrusionlaw13_UdpDecodes.Pure := by
  intro v6 hi lo w6 hj lp s a b c d _
  have a := wf_u64 a
  have b := wf_u64 b
  have c := wf_u64 c
  have d := wf_u64 d
  obtain ⟨K, hK⟩ : ∃ K, s.size + 200 = K := ⟨_, rfl⟩
  refine ⟨K, ?_⟩
  unfold intrusionlaw13_UdpDecodes.f
  rw [awake_is _ (by omega)]
  by_cases c1 : (s.size : Int) > 300
  · rw [if_pos c1]; rfl
  · have A : Addrs hi lo hj lp := ⟨a.1, a.2, b.1, b.2, c.1, c.2, d.1, d.2⟩
    rw [if_neg c1, decode_is v6 hi lo w6 hj lp A s (by omega) K (by omega), rdecode_is v6 hi lo w6 hj lp A s (by omega) K (by omega)]
    simp

end Go.Proofs.YtdjbmfjeplheiaaDoor.Pure
