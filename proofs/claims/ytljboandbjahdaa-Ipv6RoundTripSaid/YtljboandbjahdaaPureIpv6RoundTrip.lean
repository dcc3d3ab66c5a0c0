/- Ipv6RoundTrip as a plain law: decoding an encoded packet gives it again, whatever follows, and without its last byte it is too short; the packet is as large as a machine's memory lets it be. -/
import Derived.Test.YtljboandbjahdaaXDIpv6RoundTrip
import Derived.Test.YtljboandbjahdaaIp6S
import Derived.Test.YtljboandbjahdaaIp6Q
set_option linter.unusedVariables false
set_option linter.unusedSimpArgs false
namespace Go.Proofs.Ytljboandbjahdaa.Pure
open Go.RowKit Go.Proofs.Ytljboandbjahdaa.X Go.Proofs.YtljboandbjahdaaW.PrintWords Go.Proofs.YtljboandbjahdaaW.PrintLast Go.Proofs.YtljboandbjahdaaW.PrintMore

theorem Ipv6RoundTrip : intrusionlaw12_Ipv6RoundTrip.Pure := by
  intro c lb h n v s1 s2 w d1 d2 l fr id off mo p tail _ _ _ _ u1 u2 u3 u4 hl _ _ _ hp ht
  obtain ⟨M, hM⟩ : ∃ M, 8200 = M := ⟨_, rfl⟩
  obtain ⟨K, hK⟩ : ∃ K, 5 * M + 1000 = K := ⟨_, rfl⟩
  obtain ⟨b, hb, hb2⟩ := long_is c lb h n v s1 s2 w d1 d2 l fr id off mo p 3000
  refine ⟨K + 1 + 1, ?_⟩
  unfold intrusionlaw12_Ipv6RoundTrip.f
  rw [lives_is _ (by omega)]
  simp only [bs, if_true]
  rw [hb _ (by omega)]
  simp only [bs]
  cases b with
  | true => rw [if_pos rfl, intrusionlaw12_Ipv6RoundTrip.j0, if_pos rfl]
  | false =>
    obtain ⟨h10, h3⟩ := hb2 rfl
    rw [if_neg (by decide), intrusionlaw12_Ipv6RoundTrip.j0]
    by_cases h100 : (tail.size : Int) > 100
    · rw [if_pos (decide_eq_true h100)]
    · rw [if_neg (by rw [decide_eq_true_iff]; exact h100), encode_is c lb h n v s1 s2 w d1 d2 l fr id off mo p (by omega) (by omega) _ (by omega)]
      simp only [bs]
      unfold encOf
      have nilList : (⟨#[]⟩ : ByteArray).toList = ([] : List UInt8) := by unfold ByteArray.toList ByteArray.toList.loop; rfl
      by_cases hc : chkOf c lb h n v w l fr id off mo = 0
      · rw [if_pos hc]
        by_cases hB : (bodyB n l fr id off mo p).length > 65535
        · rw [if_pos hB, if_neg (show ¬ (((⟨#[]⟩ : ByteArray), (3 : Int)).2 = 0) by decide), intrusionlaw12_Ipv6RoundTrip.j1, if_pos rfl, if_neg (by decide), nilList]
          rfl
        · rw [if_neg hB]
          obtain ⟨hA, h8, hok⟩ := chk_open c lb h n v w l fr id off mo hc
          obtain ⟨hbr, hkr⟩ := body_range c lb h n v w l fr id off mo p hA hok
          have hhr := head_range c lb h n v s1 s2 w d1 d2 l fr id off mo hA hkr (bodyB n l fr id off mo p).length
          have hrt := round_trip c lb h n v s1 s2 w d1 d2 l fr id off mo p hc hB (wf_u64 u1) (wf_u64 u2) (wf_u64 u3) (wf_u64 u4) (bytesOf tail) M (by omega)
          have hst := short_trip c lb h n v s1 s2 w d1 d2 l fr id off mo p hc hB (wf_u64 u1) (wf_u64 u2) (wf_u64 u3) (wf_u64 u4) M
          have hv : v = true ∧ w = true := hA.2.1.2.2
          obtain ⟨rfl, rfl⟩ := hv
          have hhl := head_len c lb h n s1 s2 d1 d2 l fr (bodyB n l fr id off mo p).length
          generalize hBe : bodyB n l fr id off mo p = B at *
          generalize hHe : headB c lb h n true s1 s2 true d1 d2 l fr B.length = H at *
          have hbs : bytesOf (strOfNums (H ++ B)) = H ++ B := bytesOf_strOfNums _ (fun x hx => (List.mem_append.mp hx).elim (hhr x) (hbr x))
          have hsz : (strOfNums (H ++ B)).size = 40 + B.length := by rw [strOfNums_size, List.length_append, hhl]
          dsimp only
          rw [if_pos rfl, decide_eq_false (show ¬ ((strOfNums (H ++ B)).size : Int) < 40 by omega), intrusionlaw12_Ipv6RoundTrip.j1, if_neg (by decide), if_pos (by omega), decode_is _ (by rw [size_append]; omega) M K (by omega) (by omega)]
          simp only [bs]
          rw [w64 (n := ((strOfNums (H ++ B)).size : Int) - 1) (by omega) (by omega), if_pos (by omega), if_pos (by omega), decode_is _ (by rw [ByteArray.size_extract]; omega) M K (by omega) (by omega)]
          simp only [bs]
          rw [bytesOf_append, bytesOf_extract, hbs, List.append_assoc, hrt, List.drop_zero, show (((strOfNums (H ++ B)).size : Int) - 1).toNat - 0 = 39 + B.length by omega, hst]
          dsimp only
          rw [same_self c lb h n true s1 s2 true d1 d2 l fr id off mo p (by omega) K (by omega)]
          simp [bs, badP]
      · rw [if_neg hc, if_neg (show ¬ (((⟨#[]⟩ : ByteArray), chkOf c lb h n v w l fr id off mo).2 = 0) from hc), intrusionlaw12_Ipv6RoundTrip.j1, if_pos rfl, if_neg hc, nilList]
        rfl
end Go.Proofs.Ytljboandbjahdaa.Pure
