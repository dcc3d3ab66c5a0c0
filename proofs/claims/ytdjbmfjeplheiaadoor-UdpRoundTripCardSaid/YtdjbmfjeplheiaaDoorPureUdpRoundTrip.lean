/- UdpRoundTrip as a plain law: decoding the bytes of an encoded datagram returns it, whatever follows, for at most 300 bytes of payload and behind it; no further condition. -/
import Derived.Test.YtdjbmfjeplheiaaDoorXDUdpRoundTrip
import Derived.Test.YtdjbmfjeplheiaaDoorUdpE
namespace Go.Proofs.YtdjbmfjeplheiaaDoor.Pure
open Go.RowKit Go.Proofs.YtdjbmfjeplheiaaDoor.X Go.Proofs.YtdjbmfjeplheiaaDoorW.PrintWords Go.Proofs.YtdjbmfjeplheiaaDoorW.PrintLast Go.Proofs.YtdjbmfjeplheiaaDoorW.PrintMore

/-- A piece of a joined string. -/
theorem piece (s : ByteArray) (a b r : List Int) (h : bytesOf s = a ++ (b ++ r)) (i j : Nat) (hi : a.length = i) (hj : i + b.length = j) : bytesOf (s.extract i j) = b := by
  rw [bytesOf_extract, h, List.drop_left' hi, List.take_left' (by omega)]
theorem val2 (n : Int) (h0 : 0 ≤ n) (h1 : n < 65536) : valBE (beN 2 n) = n := by
  rw [valBE_beN 2 n h0]; exact Int.emod_eq_of_lt h0 (by simpa using h1)
/-- An encoded datagram's parts. -/
theorem parts (sp dp c : Int) (p after : ByteArray) (s1 : 0 ≤ sp) (s2 : sp < 65536) (d1 : 0 ≤ dp) (d2 : dp < 65536) (c1 : 0 ≤ c) (c2 : c < 65536) (hp : p.size ≤ 65507) :
    let s := strOfNums (hd6 sp dp (8 + p.size) ++ beN 2 c) ++ p ++ after
    W s 0 = sp ∧ W s 2 = dp ∧ W s 4 = 8 + p.size ∧ W s 6 = c ∧ s.extract 0 (8 + p.size) = strOfNums (hd6 sp dp (8 + p.size) ++ beN 2 c) ++ p ∧ s.extract 8 (8 + p.size) = p ∧ s.size = 8 + p.size + after.size := by
  intro s
  have L2 : ∀ x : Int, (beN 2 x).length = 2 := beN_length 2
  have hr : ∀ x ∈ hd6 sp dp (8 + p.size) ++ beN 2 c, 0 ≤ x ∧ x < 256 := by
    intro x hx
    rcases List.mem_append.mp hx with hx | hx
    · exact hd6_range _ _ _ x hx
    · exact beN_range _ _ x hx
  have hb : bytesOf s = beN 2 sp ++ beN 2 dp ++ beN 2 (8 + p.size) ++ beN 2 c ++ bytesOf p ++ bytesOf after := by
    show bytesOf (strOfNums (hd6 sp dp (8 + p.size) ++ beN 2 c) ++ p ++ after) = _
    rw [bytesOf_append, bytesOf_append, bytesOf_strOfNums _ hr]; rfl
  have hlp := bytesOf_length p
  have hla := bytesOf_length after
  refine ⟨?_, ?_, ?_, ?_, ?_, ?_, ?_⟩
  · unfold W
    rw [piece s [] (beN 2 sp) (beN 2 dp ++ beN 2 (8 + p.size) ++ beN 2 c ++ bytesOf p ++ bytesOf after) (by rw [hb]; simp) 0 2 rfl (by rw [L2]), val2 _ s1 s2]
  · unfold W
    rw [piece s (beN 2 sp) (beN 2 dp) (beN 2 (8 + p.size) ++ beN 2 c ++ bytesOf p ++ bytesOf after) (by rw [hb]; simp) 2 4 (L2 _) (by rw [L2]), val2 _ d1 d2]
  · unfold W
    rw [piece s (beN 2 sp ++ beN 2 dp) (beN 2 (8 + p.size)) (beN 2 c ++ bytesOf p ++ bytesOf after) (by rw [hb]; simp) 4 6 (by simp [L2]) (by rw [L2]), val2 _ (by omega) (by omega)]
  · unfold W
    rw [piece s (beN 2 sp ++ beN 2 dp ++ beN 2 (8 + p.size)) (beN 2 c) (bytesOf p ++ bytesOf after) (by rw [hb]; simp) 6 8 (by simp [L2]) (by rw [L2]), val2 _ c1 c2]
  · apply bytesOf_inj
    rw [piece s [] (beN 2 sp ++ beN 2 dp ++ beN 2 (8 + p.size) ++ beN 2 c ++ bytesOf p) (bytesOf after) (by rw [hb]; simp) 0 (8 + p.size) rfl (by simp [L2, hlp]; omega), bytesOf_append, bytesOf_strOfNums _ hr]; rfl
  · apply bytesOf_inj
    rw [piece s (beN 2 sp ++ beN 2 dp ++ beN 2 (8 + p.size) ++ beN 2 c) (bytesOf p) (bytesOf after) (by rw [hb]; simp) 8 (8 + p.size) (by simp [L2]) (by rw [hlp])]
  · rw [size_bytes s, hb]; simp [L2, hlp, hla]; omega
theorem nilList : (⟨#[]⟩ : ByteArray).toList = [] := by
  unfold ByteArray.toList ByteArray.toList.loop
  rfl
theorem UdpRoundTrip : intrusionlaw13_UdpRoundTrip.Pure := by
  intro v6 hi lo w6 hj lp sp dp p after a b c d e f hp ha
  have a := wf_u64 a
  have b := wf_u64 b
  have c := wf_u64 c
  have d := wf_u64 d
  obtain ⟨K, hK⟩ : ∃ K, 1000 = K := ⟨_, rfl⟩
  have A : Addrs hi lo hj lp := ⟨a.1, a.2, b.1, b.2, c.1, c.2, d.1, d.2⟩
  have out : intrusionlaw13_UdpRoundTrip.j0 (K + 1) after true v6 hi lo w6 hj lp sp dp p = some true := by
    rw [intrusionlaw13_UdpRoundTrip.j0, if_pos rfl, awake_is _ (by omega)]
    rfl
  refine ⟨K + 1, ?_⟩
  unfold intrusionlaw13_UdpRoundTrip.f
  by_cases h1 : (p.size : Int) > 300
  · rw [if_pos h1]; exact out
  · rw [if_neg h1]
    by_cases h2 : (after.size : Int) > 300
    · rw [decide_eq_true h2]; exact out
    · rw [decide_eq_false h2, intrusionlaw13_UdpRoundTrip.j0, if_neg (by simp), encode_is v6 hi lo w6 hj lp A sp dp p K (by omega), awake_is _ (by omega)]
      simp only [bs]
      unfold encU
      by_cases c0 : ¬ okFit v6 hi lo w6 hj lp
      · rw [if_pos c0, if_neg (by decide), if_pos nilList]
      · rw [if_neg c0]
        by_cases c1 : sp < 0 ∨ 65535 < sp ∨ dp < 0 ∨ 65535 < dp
        · rw [if_pos c1, if_neg (by decide), if_pos nilList]
        · rw [if_neg c1, if_neg (show ¬ 65507 < p.size by omega)]
          have hr := sumU_range v6 hi lo w6 hj lp (strOfNums (hd6 sp dp (8 + p.size) ++ [0, 0]) ++ p)
          generalize hc : sumU v6 hi lo w6 hj lp (strOfNums (hd6 sp dp (8 + p.size) ++ [0, 0]) ++ p) = ck at hr
          obtain ⟨q0, q2, q4, q6, qe, qp, qs⟩ := parts sp dp ck p after (by omega) (by omega) (by omega) (by omega) (by omega) (by omega) (by omega)
          have zs : (strOfNums (hd6 sp dp (8 + p.size) ++ beN 2 ck) ++ p).size = 8 + p.size := by rw [size_append, strOfNums_size, List.length_append, hd6_len, beN_length]
          dsimp only
          rw [if_pos rfl, if_pos (by rw [zs]; omega), decode_is v6 hi lo w6 hj lp A _ (by omega) K (by omega)]
          simp only [bs]
          have c2r : ∀ x ∈ beN 2 ck, 0 ≤ x ∧ x < 256 := beN_range 2 ck
          have hz : zeroed (strOfNums (hd6 sp dp (8 + p.size) ++ beN 2 ck) ++ p) = strOfNums (hd6 sp dp (8 + p.size) ++ [0, 0]) ++ p := by
            have e2 : beN 2 ck = [ck / 256 ^ 1 % 256, ck / 256 ^ 0 % 256] := rfl
            rw [e2]
            exact zero_mid _ (hd6_len _ _ _) (hd6_range _ _ _) _ _ (by omega) (by omega) p
          have hd : decU v6 hi lo w6 hj lp (strOfNums (hd6 sp dp (8 + p.size) ++ beN 2 ck) ++ p ++ after) = (sp, dp, p, 0) := by
            unfold decU
            rw [if_neg c0, if_neg (by omega), q4, if_neg (by omega), if_neg (by omega), show (8 + (p.size : Int)).toNat = 8 + p.size by omega, qe, hz, hc, q6, if_neg (fun h => h.1 rfl), q0, q2, qp]
          rw [hd, zs, w64 (n := 8 + (p.size : Int)) (by omega) (by omega)]
          simp

end Go.Proofs.YtdjbmfjeplheiaaDoor.Pure
