/- Ipv6Parts as a plain law: the fragments of a packet can be encoded, follow one another, and are its payload together, for at most 2000 bytes of payload; the packet is as large as a machine's memory lets it be. -/
import Derived.Test.YtljboandbjahdaaXDIpv6Parts
import Derived.Test.YtljboandbjahdaaIp6S
import Derived.Test.YtljboandbjahdaaIp6L
import Derived.Test.YtljboandbjahdaaReader
set_option linter.unusedVariables false
set_option linter.unusedSimpArgs false
namespace Go.Proofs.Ytljboandbjahdaa.Pure
open Go.RowKit Go.Proofs.Ytljboandbjahdaa.X Go.Proofs.YtljboandbjahdaaW.PrintWords Go.Proofs.YtljboandbjahdaaW.PrintLast Go.Proofs.YtljboandbjahdaaW.PrintMore

theorem rd28 (l : List S28) (i : Nat) (h : i < l.length) : rd_T28 l (i : Int) = l[i] := by
  unfold rd_T28
  rw [Int.toNat_natCast, List.getD_eq_getElem?_getD, List.getElem?_eq_getElem h]
  rfl
section
variable (c lb h n : Int) (v : Bool) (s1 s2 : Int) (w : Bool) (d1 d2 : Int) (l : List S60) (p : ByteArray) (sz id : Int) (fr : Bool) (id0 off : Int) (mo : Bool)
def okP : Nat → List S28 → Prop
  | _, [] => False
  | a, x :: r => x = partE c lb h n v s1 s2 w d1 d2 l p id a (endOf p sz a) ∧ errE c lb h n v s1 s2 w d1 d2 l p id a (endOf p sz a) = 0 ∧ ((r = [] ∧ endOf p sz a = p.size) ∨ (r ≠ [] ∧ a + sz.toNat < p.size ∧ okP (a + sz.toNat) r))
theorem splitL_parts (hsz : 1 ≤ sz) : ∀ (m a : Nat) (out : List S28), a ≤ p.size → (a = 0 ∨ a < p.size) → (splitL c lb h n v s1 s2 w d1 d2 l p sz id m a out).2 = 0 →
    ∃ r, (splitL c lb h n v s1 s2 w d1 d2 l p sz id m a out).1 = out ++ r ∧ okP c lb h n v s1 s2 w d1 d2 l p sz id a r
  | 0, a, out, _, _, he => by simp [splitL] at he
  | m + 1, a, out, ha, hc, he => by
    rw [splitL] at he ⊢
    rw [if_pos hc] at he ⊢
    by_cases h0 : errE c lb h n v s1 s2 w d1 d2 l p id a (endOf p sz a) = 0
    · rw [if_pos h0] at he ⊢
      by_cases hE : endOf p sz a = a
      · rw [if_pos hE]
        exact ⟨[_], rfl, rfl, h0, .inl ⟨rfl, by unfold endOf at hE ⊢; omega⟩⟩
      · rw [if_neg hE] at he ⊢
        by_cases hl : endOf p sz a < p.size
        · obtain ⟨r, h1, h2⟩ := splitL_parts hsz m (endOf p sz a) _ (by omega) (.inr hl) he
          refine ⟨_ :: r, by rw [h1, List.append_assoc]; rfl, rfl, h0, .inr ⟨?_, ?_, ?_⟩⟩
          · intro z
            subst z
            exact h2
          · unfold endOf at hl; omega
          · rw [show a + sz.toNat = endOf p sz a by unfold endOf at hl ⊢; omega]
            exact h2
        · have hle : endOf p sz a ≤ p.size := by unfold endOf; omega
          cases m with
          | zero => simp [splitL] at he
          | succ m =>
            rw [splitL, if_neg (show ¬ (endOf p sz a = 0 ∨ endOf p sz a < p.size) by omega)]
            exact ⟨[_], rfl, rfl, h0, .inl ⟨rfl, by omega⟩⟩
    · rw [if_neg h0] at he
      exact absurd he h0
theorem parts_end (R : List S28) (hR : 0 < R.length) (k : Nat) : intrusionlaw12_Ipv6Parts.l0 (k + 1) sz id R p (R.length : Int) c lb h n v s1 s2 w d1 d2 l fr id0 off mo p = some true := by
  rw [intrusionlaw12_Ipv6Parts.l0, if_neg (by omega), if_pos rfl, decide_eq_true (by omega)]
theorem parts_loop (hl : l.length ≤ 10) (hp : p.size ≤ 66000) (hsz : 1 ≤ sz) (R : List S28) (hR : R.length ≤ 4611686018427387904) : ∀ (r : List S28) (i k a : Nat), R.drop i = r → i + r.length = R.length → a ≤ p.size → okP c lb h n v s1 s2 w d1 d2 l p sz id a r → r.length + 200 ≤ k →
    intrusionlaw12_Ipv6Parts.l0 k sz id R (p.extract 0 a) (i : Int) c lb h n v s1 s2 w d1 d2 l fr id0 off mo p = some true := by
  intro r
  induction r with
  | nil => intro i k a _ _ _ hok _; exact False.elim hok
  | cons x r ih =>
    intro i k a hd hi ha hok hk
    obtain ⟨q, hq⟩ : ∃ q, k = q + 1 := ⟨k - 1, by omega⟩
    have hk2 : r.length + 200 ≤ q := by simp at hk; omega
    subst hq
    clear hk
    obtain ⟨hx, h0', hr⟩ := hok
    have h0 := Aside0.mk h0'
    clear h0'
    simp at hi
    have hlt : i < R.length := by omega
    have hxi : R[i] = x := by
      rw [List.drop_eq_getElem_cons hlt] at hd
      exact (List.cons.inj hd).1
    have hd' : R.drop (i + 1) = r := by
      rw [List.drop_eq_getElem_cons hlt] at hd
      exact (List.cons.inj hd).2
    have hE : a ≤ endOf p sz a ∧ endOf p sz a ≤ p.size ∧ endOf p sz a ≤ a + sz.toNat := by unfold endOf; omega
    have hlast : r = [] → i + 1 = R.length := fun z => by subst z; simp at hi; omega
    have hmore : r ≠ [] → i + 1 < R.length := fun z => by
      cases r with
      | nil => exact absurd rfl z
      | cons y q => simp at hi; omega
    have hz1 : (p.extract 0 a).size = a := by rw [ByteArray.size_extract]; omega
    have hz2 : (p.extract a (endOf p sz a)).size = endOf p sz a - a := by rw [ByteArray.size_extract]; omega
    have hcat : p.extract 0 a ++ p.extract a (endOf p sz a) = p.extract 0 (endOf p sz a) := cut_append p a (endOf p sz a) hE.1
    have hwi : wrap64 ((i : Int) + 1) = ((i + 1 : Nat) : Int) := by rw [w64 (by omega) (by omega)]; omega
    have hflag : decide ((endOf p sz a : Int) < (p.size : Int)) = decide (((i + 1 : Nat) : Int) < (R.length : Int)) := by
      apply decide_eq_decide.mpr
      rcases hr with ⟨z, e⟩ | ⟨z, e, _⟩
      · have := hlast z; omega
      · have := hmore z
        have e2 : endOf p sz a = a + sz.toNat := by unfold endOf; omega
        omega
    have next : intrusionlaw12_Ipv6Parts.l0 q sz id R (p.extract 0 (endOf p sz a)) ((i + 1 : Nat) : Int) c lb h n v s1 s2 w d1 d2 l fr id0 off mo p = some true := by
      rcases hr with ⟨z, e⟩ | ⟨z, e, ok⟩
      · have hpp : p.extract 0 p.size = p := by apply bytesOf_inj; rw [bytesOf_extract, List.drop_zero, List.take_of_length_le (by simp [bytesOf_length])]
        obtain ⟨q', hq⟩ : ∃ q', q = q' + 1 := ⟨q - 1, by omega⟩
        rw [e, hpp, hlast z, hq]
        exact parts_end c lb h n v s1 s2 w d1 d2 l p sz id fr id0 off mo R (Nat.lt_of_le_of_lt (Nat.zero_le i) hlt) q'
      · rw [show endOf p sz a = a + sz.toNat by unfold endOf; omega]
        exact ih (i + 1) q (a + sz.toNat) hd' (by clear ok; omega) (by clear ok; omega) ok hk2
    have hi1 : (i : Int) < (R.length : Int) := Int.ofNat_lt.mpr hlt
    have hi0 : (0 : Int) ≤ (i : Int) := Int.natCast_nonneg i
    rw [intrusionlaw12_Ipv6Parts.l0, if_pos hi1, if_pos hi0, rd28 R i hlt, hxi, hx]
    unfold partE
    dsimp only
    rw [encode_is c lb h n v s1 s2 w d1 d2 l true id (a : Int) _ (p.extract a (endOf p sz a)) (by omega) (by omega) _ (by omega)]
    simp only [bs]
    have h0 := h0.out
    unfold errE at h0
    rw [if_pos h0]
    clear h0
    rw [if_pos trivial, if_pos trivial, if_pos (by omega), hwi, if_neg (by rw [hflag]; simp), if_neg (by omega), hcat, next]
    by_cases hm : ((i + 1 : Nat) : Int) < (R.length : Int)
    · rw [if_pos hm]
      rcases hr with ⟨z, e⟩ | ⟨z, e, ok⟩
      · have := hlast z; omega
      · have e2 : endOf p sz a = a + sz.toNat := by unfold endOf; omega
        rw [if_pos (by omega), if_pos trivial, if_pos (by omega)]
    · rw [if_neg hm, if_pos trivial, if_pos (by omega)]
end
theorem Ipv6Parts : intrusionlaw12_Ipv6Parts.Pure := by
  intro c lb h n v s1 s2 w d1 d2 l fr id0 off mo p sz id _ _ _ _ _ _ _ _ hl _ _ _ hp hsz hid
  have hs := wf_i64 hsz
  obtain ⟨M, hM⟩ : ∃ M, 66010 = M := ⟨_, rfl⟩
  obtain ⟨K, hK⟩ : ∃ K, 3 * M + 1000 = K := ⟨_, rfl⟩
  obtain ⟨b, hb, hb2⟩ := long_is c lb h n v s1 s2 w d1 d2 l fr id0 off mo p 2000
  refine ⟨K, ?_⟩
  unfold intrusionlaw12_Ipv6Parts.f
  rw [lives_is _ (by omega)]
  simp only [bs, if_true]
  rw [hb K (by omega)]
  simp only [bs]
  cases b with
  | true => rw [if_pos rfl]
  | false =>
    obtain ⟨h10, h66⟩ := hb2 rfl
    rw [if_neg (by decide), split_is c lb h n v s1 s2 w d1 d2 l p sz id fr id0 off mo h10 (by omega) hs.2 M K (by omega) (by omega)]
    simp only [bs]
    unfold splitOf
    by_cases h0 : (encOf c lb h n v s1 s2 w d1 d2 l fr id0 off mo p).2 = 0
    · rw [if_pos h0]
      by_cases hc : 1 ≤ sz ∧ Int.tmod sz 8 = 0 ∧ 0 ≤ id ∧ id ≤ 4294967295
      · rw [if_pos hc]
        cases fr with
        | true => rw [if_pos rfl]; rfl
        | false =>
          rw [if_neg (show ¬ (false = true) by decide)]
          have hlen := splitL_len c lb h n v s1 s2 w d1 d2 l p sz id M 0 []
          by_cases he : (splitL c lb h n v s1 s2 w d1 d2 l p sz id M 0 []).2 = 0
          · obtain ⟨r, h1, h2⟩ := splitL_parts c lb h n v s1 s2 w d1 d2 l p sz id hc.1 M 0 [] (by omega) (.inl rfl) he
            rw [List.nil_append] at h1
            rw [if_pos he, h1]
            rw [h1] at hlen
            simp at hlen
            have hx0 : (⟨#[]⟩ : ByteArray) = p.extract 0 0 := by apply bytesOf_inj; rw [bytesOf_extract]; simp [bytesOf_nil]
            rw [hx0]
            exact parts_loop c lb h n v s1 s2 w d1 d2 l p sz id false id0 off mo h10 (by omega) hc.1 r (by omega) r 0 K 0 rfl (by omega) (by omega) h2 (by omega)
          · rw [if_neg he]
            have hnil : ∀ (m a : Nat) (out : List S28), (splitL c lb h n v s1 s2 w d1 d2 l p sz id m a out).2 ≠ 0 → (splitL c lb h n v s1 s2 w d1 d2 l p sz id m a out).1 = [] := by
              intro m
              induction m with
              | zero => intro a out _; rfl
              | succ m ih =>
                intro a out z
                unfold splitL at z ⊢
                split at z
                · rename_i q1
                  split at z
                  · rename_i q2
                    split at z
                    · exact absurd rfl z
                    · rename_i q3
                      rw [if_pos q1, if_pos q2, if_neg q3]
                      exact ih _ _ z
                  · rename_i q2
                    rw [if_pos q1, if_neg q2]
                · exact absurd rfl z
            rw [hnil M 0 [] he]
            rfl
      · rw [if_neg hc]; rfl
    · rw [if_neg h0, if_neg h0]; rfl
end Go.Proofs.Ytljboandbjahdaa.Pure
