/- UdpEncodes as a plain law: the program's Encode and the document's return the same bytes and error for any datagram of at most 300 bytes of payload, or more than 65507, between any addresses; no condition but that a machine holds the payload. -/
import Derived.Test.YtdjbmfjeplheiaaDoorXDUdpEncodes
import Derived.Test.YtdjbmfjeplheiaaDoorUdpE
import Derived.Test.YtdjbmfjeplheiaaDoorUdpR
import Derived.Test.YtdjbmfjeplheiaaDoorRefPut
import Derived.Test.YtdjbmfjeplheiaaDoorX16
namespace Go.Proofs.YtdjbmfjeplheiaaDoor.Pure
open Go.RowKit Go.Proofs.YtdjbmfjeplheiaaDoor.X Go.Proofs.YtdjbmfjeplheiaaDoorW.PrintWords Go.Proofs.YtdjbmfjeplheiaaDoorW.PrintLast Go.Proofs.YtdjbmfjeplheiaaDoorW.PrintMore

theorem rencode_is (v6 : Bool) (hi lo : Int) (w6 : Bool) (hj lp : Int) (A : Addrs hi lo hj lp) (sp dp : Int) (p : ByteArray) (hs1 : -9223372036854775808 ≤ sp ∧ sp < 9223372036854775808) (hs2 : -9223372036854775808 ≤ dp ∧ dp < 9223372036854775808) (k : Nat) (hk : p.size + 100 ≤ k ∨ 65507 < p.size ∧ 100 ≤ k) :
    intrusionref13_Encode.f k v6 hi lo w6 hj lp sp dp p = some (encU v6 hi lo w6 hj lp sp dp p) := by
  obtain ⟨k, rfl⟩ : ∃ m, k = m + 1 := ⟨k - 1, by omega⟩
  unfold intrusionref13_Encode.f encU
  have bad : intrusionref13_Encode.j0 (k + 1) true v6 hi lo w6 hj lp sp dp p = some (⟨#[]⟩, 4) := by rw [intrusionref13_Encode.j0, if_pos rfl]
  rw [rfit_is]
  simp only [bs, decide_eq_true_eq]
  by_cases c0 : okFit v6 hi lo w6 hj lp
  · rw [if_pos c0, if_neg (show ¬ ¬ okFit v6 hi lo w6 hj lp from fun h => h c0)]
    by_cases a1 : sp < 0
    · rw [if_pos a1, bad, if_pos (.inl a1)]
    · rw [if_neg a1]
      by_cases a2 : sp > 65535
      · rw [if_pos a2, bad, if_pos (.inr (.inl a2))]
      · rw [if_neg a2]
        by_cases a3 : dp < 0
        · rw [if_pos a3, bad, if_pos (.inr (.inr (.inl a3)))]
        · rw [if_neg a3]
          by_cases a4 : dp > 65535
          · rw [decide_eq_true a4, bad, if_pos (.inr (.inr (.inr a4)))]
          · rw [decide_eq_false a4, if_neg (show ¬ (sp < 0 ∨ 65535 < sp ∨ dp < 0 ∨ 65535 < dp) by omega), intrusionref13_Encode.j0, if_neg (by simp)]
            by_cases c3 : (p.size : Int) > 65507
            · rw [if_pos c3, if_pos (by omega)]
            · rw [if_neg c3, if_neg (show ¬ 65507 < p.size by omega), w64 (n := 8 + (p.size : Int)) (by omega) (by omega)]
              have z2 : (⟨#[0, 0]⟩ : ByteArray) = strOfNums [0, 0] := by decide +kernel
              have L2 : ∀ x : Int, (strOfNums (beN 2 x)).size = 2 := fun x => by rw [strOfNums_size, beN_length]
              have hl := hd6_len sp dp (8 + p.size)
              have eH : strOfNums (beN 2 sp) ++ strOfNums (beN 2 dp) ++ strOfNums (beN 2 (8 + (p.size : Int))) = strOfNums (hd6 sp dp (8 + p.size)) := by
                rw [← strOfNums_append, ← strOfNums_append]; rfl
              have hH : (strOfNums (hd6 sp dp (8 + (p.size : Int)))).size = 6 := by rw [strOfNums_size, hl]
              have hX : (strOfNums (hd6 sp dp (8 + (p.size : Int)) ++ [0, 0]) ++ p).size = 8 + p.size := by rw [size_append, strOfNums_size]; simp [hl]
              have hr := sumU_range v6 hi lo w6 hj lp (strOfNums (hd6 sp dp (8 + p.size) ++ [0, 0]) ++ p)
              rw [rput_all _ _ _ (by omega) (by omega) (by omega), rput_all _ _ _ (by omega) (by omega) (by omega), put2 sp (by omega) (by omega), put2 dp (by omega) (by omega)]
              simp only [bs]
              rw [if_pos (by rw [L2, L2]; omega), rput_all _ _ _ (by omega) (by omega) (by omega), put2 (8 + (p.size : Int)) (by omega) (by omega)]
              simp only [bs]
              rw [if_pos (by rw [size_append, L2, L2, L2]; omega), eH, if_pos (by rw [hH]; omega), z2, ← strOfNums_append, if_pos (by rw [strOfNums_size]; simp [hl]; omega), rsum13_is v6 hi lo w6 hj lp A _ (by omega) k (by omega)]
              simp only [bs]
              rw [rput_all _ _ _ (by omega) (by omega) (by omega), put2 _ (by omega) (by omega)]
              simp only [bs]
              rw [if_pos (by rw [hH, L2]; omega), ← strOfNums_append, if_pos (by rw [strOfNums_size, List.length_append, hl, beN_length]; omega)]
  · rw [if_neg c0, if_pos c0]
theorem UdpEncodes : intrusionlaw13_UdpEncodes.Pure := by
  intro v6 hi lo w6 hj lp sp dp p a b c d e f hp
  have a := wf_u64 a
  have b := wf_u64 b
  have c := wf_u64 c
  have d := wf_u64 d
  have e := wf_i64 e
  have f := wf_i64 f
  obtain ⟨K, hK⟩ : ∃ K, 600 = K := ⟨_, rfl⟩
  have A : Addrs hi lo hj lp := ⟨a.1, a.2, b.1, b.2, c.1, c.2, d.1, d.2⟩
  have out : intrusionlaw13_UdpEncodes.j0 (K + 1) true v6 hi lo w6 hj lp sp dp p = some true := by
    rw [intrusionlaw13_UdpEncodes.j0, if_pos rfl, awake_is _ (by omega)]
    rfl
  have go : (p.size ≤ 300 ∨ 65507 < p.size) → intrusionlaw13_UdpEncodes.j0 (K + 1) false v6 hi lo w6 hj lp sp dp p = some true := by
    intro h
    have e1 : udp_Encode.f K v6 hi lo w6 hj lp sp dp p = some (encU v6 hi lo w6 hj lp sp dp p) := encode_is v6 hi lo w6 hj lp A sp dp p K (by omega)
    rw [intrusionlaw13_UdpEncodes.j0, if_neg (by simp), e1, rencode_is v6 hi lo w6 hj lp A sp dp p e f K (by omega), awake_is _ (by omega)]
    simp
  refine ⟨K + 1, ?_⟩
  unfold intrusionlaw13_UdpEncodes.f
  by_cases h1 : (p.size : Int) > 300
  · rw [if_pos h1]
    by_cases h2 : (p.size : Int) ≤ 65507
    · rw [decide_eq_true h2]; exact out
    · rw [decide_eq_false h2]; exact go (by omega)
  · rw [if_neg h1]; exact go (by omega)

end Go.Proofs.YtdjbmfjeplheiaaDoor.Pure
