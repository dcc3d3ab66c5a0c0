/- Ipv6Reads as a plain law: a packet that Decode returns can be encoded, and decoded again, for strings of at most 3000 bytes; no further condition. -/
import Derived.Test.YtljboandbjahdaaXDIpv6Reads
import Derived.Test.YtljboandbjahdaaIp6S
import Derived.Test.YtljboandbjahdaaIp6Q
set_option linter.unusedVariables false
set_option linter.unusedSimpArgs false
namespace Go.Proofs.Ytljboandbjahdaa.Pure
open Go.RowKit Go.Proofs.Ytljboandbjahdaa.X Go.Proofs.YtljboandbjahdaaW.PrintWords Go.Proofs.YtljboandbjahdaaW.PrintLast Go.Proofs.YtljboandbjahdaaW.PrintMore

def extL : List S60 → Nat
  | [] => 0
  | x :: r => 2 + x.f1.size + extL r
theorem extB_extL : ∀ (l : List S60) (nx : Int), (extB l nx).length = extL l
  | [], _ => rfl
  | x :: r, nx => by
    have := extB_extL r nx
    have hb := bytesOf_length x.f1
    simp [extB, extL]
    omega
theorem extL_snoc : ∀ (l : List S60) (x : S60), extL (l ++ [x]) = extL l + 2 + x.f1.size
  | [], x => by simp [extL]
  | y :: r, x => by
    have := extL_snoc r x
    simp [extL]
    omega
theorem okEs_snoc : ∀ (l : List S60) (i : Nat) (x : S60), okEs i l = true → okE (i + l.length) x → okEs i (l ++ [x]) = true
  | [], i, x, _, h => by simpa [okEs] using h
  | y :: r, i, x, ho, h => by
    simp only [okEs, Bool.and_eq_true, decide_eq_true_iff] at ho
    have := okEs_snoc r (i + 1) x ho.2 (by rw [show i + 1 + r.length = i + (y :: r).length by simp; omega]; exact h)
    simp only [List.cons_append, okEs, Bool.and_eq_true, decide_eq_true_iff]
    exact ⟨ho.1, this⟩
def good (t : WR) (N : Nat) : Prop := okEs 0 t.2.1 = true ∧ t.2.1.length ≤ 8 ∧ (0 ≤ t.1 ∧ t.1 ≤ 255) ∧ ¬ isExt t.1 ∧ t.1 ≠ 44 ∧ okFrag t.2.2.1 t.2.2.2.1 t.2.2.2.2.1 t.2.2.2.2.2.1 ∧ extL t.2.1 + (if t.2.2.1 = true then 8 else 0) + t.2.2.2.2.2.2.1.size = N
theorem walk_inv : ∀ (m : Nat) (first : Bool) (nx : Int) (l : List S60) (fr : Bool) (id off : Int) (mo : Bool) (r : List Int),
    (∀ x ∈ r, 0 ≤ x ∧ x < 256) → (0 ≤ nx ∧ nx ≤ 255) → okEs 0 l = true → l.length ≤ 8 → (first = true → l.length = 0) → okFrag fr id off mo →
    (walkOf m first nx l fr id off mo r).2.2.2.2.2.2.2 = 0 → good (walkOf m first nx l fr id off mo r) (extL l + (if fr = true then 8 else 0) + r.length)
  | 0, first, nx, l, fr, id, off, mo, r, _, _, _, _, _, _, he => by simp [walkOf] at he
  | m + 1, first, nx, l, fr, id, off, mo, r, hr, hn, ho, hl, hf, hF, he => by
    rw [walkOf] at he ⊢
    by_cases c1 : ¬ (isExt nx ∨ nx = 44)
    · rw [if_pos c1]
      exact ⟨ho, hl, hn, fun z => c1 (.inl z), fun z => c1 (.inr z), hF, by show extL l + _ + (strOfNums r).size = _; rw [strOfNums_size]⟩
    · rw [if_neg c1] at he ⊢
      by_cases c2 : (nx = 0 ∧ first = false) ∨ fr = true
      · rw [if_pos c2] at he; cases he
      · rw [if_neg c2] at he ⊢
        have hfr : fr = false := by cases fr with | true => exact absurd (.inr rfl) c2 | false => rfl
        subst hfr
        by_cases c3 : nx ≠ 44 ∧ l.length = 8
        · rw [if_pos c3] at he; cases he
        · rw [if_neg c3] at he ⊢
          by_cases c4 : r.length < 8 ∨ (nx ≠ 44 ∧ (r.length : Int) < 8 + 8 * r.getD 1 0)
          · rw [if_pos c4] at he; cases he
          · rw [if_neg c4] at he ⊢
            have h8 : ¬ r.length < 8 := fun z => c4 (.inl z)
            have g0 := getD_range r hr 0
            have g1 := getD_range r hr 1
            by_cases c5 : nx = 44
            · rw [if_pos c5] at he ⊢
              have v2 := valBE_range ((r.drop 2).take 2) (fun x hx => hr x (List.mem_of_mem_drop (List.mem_of_mem_take hx)))
              have v4 := valBE_range ((r.drop 4).take 4) (fun x hx => hr x (List.mem_of_mem_drop (List.mem_of_mem_take hx)))
              rw [show ((r.drop 2).take 2).length = 2 by simp; omega] at v2
              rw [show ((r.drop 4).take 4).length = 4 by simp; omega] at v4
              have ih := walk_inv m false (r.getD 0 0) l true (valBE ((r.drop 4).take 4)) (valBE ((r.drop 2).take 2) / 8 * 8) (valBE ((r.drop 2).take 2) % 2 == 1) (r.drop 8)
                (fun x hx => hr x (List.mem_of_mem_drop hx)) g0 ho hl (fun z => by cases z)
                (by unfold okFrag; rw [if_pos rfl]; exact ⟨⟨v4.1, by omega⟩, ⟨by omega, by omega⟩, by rw [Int.tmod_eq_emod_of_nonneg (by omega)]; omega⟩) he
              rw [if_pos rfl, List.length_drop] at ih
              rw [if_neg (by decide)]
              rw [show extL l + 0 + r.length = extL l + 8 + (r.length - 8) by omega]
              exact ih
            · rw [if_neg c5] at he ⊢
              have hlen : ¬ (r.length : Int) < 8 + 8 * r.getD 1 0 := fun z => c4 (.inr ⟨c5, z⟩)
              have hx : isExt nx := by
                by_cases q : isExt nx
                · exact q
                · exact absurd (fun z => z.elim q c5) c1
              have hds : (strOfNums ((r.drop 2).take (6 + 8 * (r.getD 1 0).toNat))).size = 6 + 8 * (r.getD 1 0).toNat := by rw [strOfNums_size, List.length_take, List.length_drop]; omega
              have h8l : l.length ≠ 8 := fun z => c3 ⟨c5, z⟩
              have ih := walk_inv m false (r.getD 0 0) (l ++ [(⟨nx, strOfNums ((r.drop 2).take (6 + 8 * (r.getD 1 0).toNat))⟩ : S60)]) false id off mo (r.drop (8 + 8 * (r.getD 1 0).toNat))
                (fun x hx => hr x (List.mem_of_mem_drop hx)) g0
                (okEs_snoc l 0 _ ho ⟨hx, fun z => by
                  have : first = true := by cases first with | true => rfl | false => exact absurd (.inl ⟨z.1, rfl⟩) c2
                  have := hf this
                  have := z.2
                  omega, by show ((strOfNums _).size : Int) ≤ 2046; rw [hds]; omega, by show ((strOfNums _).size : Int) % 8 = 6; rw [hds]; omega⟩)
                (by simp; omega) (fun z => by cases z) hF he
              rw [if_neg (by decide), extL_snoc] at ih
              rw [if_neg (by decide)]
              have e : extL l + 2 + (strOfNums ((r.drop 2).take (6 + 8 * (r.getD 1 0).toNat))).size + 0 + (r.drop (8 + 8 * (r.getD 1 0).toNat)).length = extL l + 0 + r.length := by rw [hds, List.length_drop]; omega
              rw [← e]
              exact ih
theorem dec_inv (s : ByteArray) (m : Nat) : (∃ e, e ≠ 0 ∧ decOf m (bytesOf s) = badP e) ∨
    ∃ c lb h n s1 s2 d1 d2 l fr id off mo p, decOf m (bytesOf s) = (c, lb, h, n, true, s1, s2, true, d1, d2, l, fr, id, off, mo, p, 0) ∧ chkOf c lb h n true true l fr id off mo = 0 ∧ l.length ≤ 8 ∧ (bodyB n l fr id off mo p).length ≤ 65535 ∧ 40 + (bodyB n l fr id off mo p).length ≤ s.size ∧
      (0 ≤ s1 ∧ s1 < 18446744073709551616) ∧ (0 ≤ s2 ∧ s2 < 18446744073709551616) ∧ (0 ≤ d1 ∧ d1 < 18446744073709551616) ∧ (0 ≤ d2 ∧ d2 < 18446744073709551616) ∧ p.size ≤ s.size := by
  have hl := bytesOf_length s
  have R := bytesOf_range s
  unfold decOf
  by_cases c1 : (bytesOf s).length < 40
  · rw [if_pos c1]; exact .inl ⟨1, by decide, rfl⟩
  · rw [if_neg c1]
    by_cases c2 : valBE ((bytesOf s).take 4) / 268435456 ≠ 6
    · rw [if_pos c2]; exact .inl ⟨2, by decide, rfl⟩
    · rw [if_neg c2]
      by_cases c3 : ((bytesOf s).length : Int) - 40 < valBE (((bytesOf s).drop 4).take 2)
      · rw [if_pos c3]; exact .inl ⟨1, by decide, rfl⟩
      · rw [if_neg c3]
        have p8 : (256 : Int) ^ 8 = 18446744073709551616 := by decide
        have v4 := valBE_range _ (drop_take_range s 0 4)
        have v2 := valBE_range _ (drop_take_range s 4 2)
        have w1 := valBE_range _ (drop_take_range s 8 8)
        have w2 := valBE_range _ (drop_take_range s 16 8)
        have w3 := valBE_range _ (drop_take_range s 24 8)
        have w4 := valBE_range _ (drop_take_range s 32 8)
        rw [show (((bytesOf s).drop 0).take 4).length = 4 by simp; omega, List.drop_zero] at v4
        rw [show (((bytesOf s).drop 4).take 2).length = 2 by simp; omega] at v2
        rw [show (((bytesOf s).drop 8).take 8).length = 8 by simp; omega, p8] at w1
        rw [show (((bytesOf s).drop 16).take 8).length = 8 by simp; omega, p8] at w2
        rw [show (((bytesOf s).drop 24).take 8).length = 8 by simp; omega, p8] at w3
        rw [show (((bytesOf s).drop 32).take 8).length = 8 by simp; omega, p8] at w4
        obtain ⟨z, hz⟩ : ∃ z : Nat, valBE (((bytesOf s).drop 4).take 2) = z := ⟨_, (Int.toNat_of_nonneg v2.1).symm⟩
        rw [hz, Int.toNat_natCast]
        rw [hz] at c3 v2
        have g6 := getD_range (bytesOf s) R 6
        have g7 := getD_range (bytesOf s) R 7
        have hi := walk_inv m true ((bytesOf s).getD 6 0) [] false 0 0 false (((bytesOf s).drop 40).take z) (drop_take_range s 40 z) g6 rfl (by simp) (fun _ => rfl) (by unfold okFrag; rw [if_neg (by decide)]; exact ⟨rfl, rfl, rfl⟩)
        generalize walkOf m true ((bytesOf s).getD 6 0) [] false 0 0 false (((bytesOf s).drop 40).take z) = t at hi
        unfold packP
        by_cases c4 : t.2.2.2.2.2.2.2 = 0
        · rw [if_pos c4]
          obtain ⟨n, l, fr, id, off, mo, p, e⟩ := t
          obtain ⟨ho, h8, hn, hx, h44, hF, hN⟩ := hi c4
          dsimp only at ho h8 hn hx h44 hF hN c4 ⊢
          rw [show extL [] = 0 from rfl, if_neg (show ¬ (false = true) by decide), List.length_take, List.length_drop] at hN
          have hbl := bytesOf_length p
          have hB : (bodyB n l fr id off mo p).length = z := by
            unfold bodyB
            rw [List.length_append, List.length_append, extB_extL]
            cases fr with
            | true => rw [if_pos rfl] at hN ⊢; simp only [fragB, List.length_append, beN_length, List.length_cons, List.length_nil]; omega
            | false => rw [if_neg (by decide)] at hN ⊢; simp only [List.length_nil]; omega
          refine .inr ⟨_, _, _, n, _, _, _, _, l, fr, id, off, mo, p, rfl, ?_, h8, by omega, by omega, w1, w2, w3, w4, by omega⟩
          unfold chkOf
          rw [if_pos (show okAll _ _ _ n true true fr id off mo from ⟨⟨⟨by omega, by omega, hn⟩, by omega⟩, ⟨hx, h44, rfl, rfl⟩, hF⟩), if_neg (by omega), if_pos ho]
        · rw [if_neg c4]; exact .inl ⟨_, c4, rfl⟩
theorem Ipv6Reads : intrusionlaw12_Ipv6Reads.Pure := by
  intro s hs
  obtain ⟨M, hM⟩ : ∃ M, 8200 = M := ⟨_, rfl⟩
  obtain ⟨K, hK⟩ : ∃ K, 5 * M + 1000 = K := ⟨_, rfl⟩
  refine ⟨K, ?_⟩
  have nilList : (⟨#[]⟩ : ByteArray).toList = ([] : List UInt8) := by unfold ByteArray.toList ByteArray.toList.loop; rfl
  unfold intrusionlaw12_Ipv6Reads.f
  rw [lives_is _ (by omega)]
  simp only [bs, if_true]
  by_cases h : (s.size : Int) > 3000
  · rw [if_pos h]
  · rw [if_neg h, decode_is s (by omega) M K (by omega) (by omega)]
    simp only [bs]
    rcases dec_inv s M with ⟨e, he, hd⟩ | ⟨c, lb, h', n, s1, s2, d1, d2, l, fr, id, off, mo, p, hd, hc, h8, hB, hB2, u1, u2, u3, u4, hp⟩
    · rw [hd]
      unfold badP
      dsimp only
      rw [if_neg he, if_pos (by simp), nilList]
      rfl
    · rw [hd]
      dsimp only
      rw [if_pos rfl, encode_is c lb h' n true s1 s2 true d1 d2 l fr id off mo p (by omega) (by omega) K (by omega)]
      simp only [bs]
      unfold encOf
      rw [if_pos hc, if_neg (show ¬ (bodyB n l fr id off mo p).length > 65535 by omega)]
      dsimp only
      obtain ⟨hA, _, hok⟩ := chk_open c lb h' n true true l fr id off mo hc
      obtain ⟨hbr, hkr⟩ := body_range c lb h' n true true l fr id off mo p hA hok
      have hhr := head_range c lb h' n true s1 s2 true d1 d2 l fr id off mo hA hkr (bodyB n l fr id off mo p).length
      have hrt := round_trip c lb h' n true s1 s2 true d1 d2 l fr id off mo p hc (by omega) u1 u2 u3 u4 [] M (by omega)
      have hhl := head_len c lb h' n s1 s2 d1 d2 l fr (bodyB n l fr id off mo p).length
      generalize hBe : bodyB n l fr id off mo p = B at *
      generalize hHe : headB c lb h' n true s1 s2 true d1 d2 l fr B.length = H at *
      have hbs : bytesOf (strOfNums (H ++ B)) = H ++ B := bytesOf_strOfNums _ (fun x hx => (List.mem_append.mp hx).elim (hhr x) (hbr x))
      have hsz : (strOfNums (H ++ B)).size = 40 + B.length := by rw [strOfNums_size, List.length_append, hhl]
      rw [List.append_nil] at hrt
      rw [decode_is _ (by omega) M K (by omega) (by omega), hbs, hrt]
      simp only [bs, if_true]
      rw [same_self c lb h' n true s1 s2 true d1 d2 l fr id off mo p (by omega) K (by omega)]
      simp only [bs, if_true]
      rw [decide_eq_true (by omega)]
end Go.Proofs.Ytljboandbjahdaa.Pure
