/- FieldPasses as a plain law: what a reader returns, written again, is the part of the string that it passed, for at most 200 bytes and 60 sizes; no further condition. -/
import Derived.Test.YtmkhmlgihkaphaaXDFieldPasses
import Derived.Test.YtmkhmlgihkaphaaRef01
namespace Go.Proofs.Ytmkhmlgihkaphaa.Pure
open Go.RowKit Go.Proofs.Ytmkhmlgihkaphaa.X Go.Proofs.YtmkhmlgihkaphaaW.PrintWords Go.Proofs.YtmkhmlgihkaphaaW.PrintLast Go.Proofs.YtmkhmlgihkaphaaW.PrintMore

theorem nil_size : (⟨#[]⟩ : ByteArray).size = 0 := rfl
/-- What 'next' returns, with permission. -/
theorem next_is (s : ByteArray) (i : Nat) (e n : Int) (hs : s.size ≤ 200) (hi : i ≤ s.size) (hn : 0 ≤ n) (hn2 : n ≤ 9223372036854775807) :
    field_Reader_next.f s (i : Int) e n true = some (if e = 0 then (if n > (s.size : Int) - i then ((⟨#[]⟩ : ByteArray), s, (i : Int), 1) else (s.extract i (i + n.toNat), s, (i : Int) + n, 0)) else ((⟨#[]⟩ : ByteArray), s, (i : Int), e)) := by
  unfold field_Reader_next.f
  by_cases h : e = 0
  · subst h
    rw [if_pos rfl, if_pos rfl, if_pos rfl, w64 (n := (s.size : Int) - i) (by omega) (by omega)]
    by_cases h2 : n > (s.size : Int) - i
    · rw [if_pos h2, if_pos h2]
    · rw [if_neg h2, if_neg h2, w64 (n := (i : Int) + n) (by omega) (by omega), w64 (n := (i : Int) + n - n) (by omega) (by omega), if_pos (by omega), if_pos (by omega), if_pos (by omega)]
      rw [show ((i : Int) + n - n).toNat = i by omega, show ((i : Int) + n).toNat = i + n.toNat by omega]
  · rw [if_neg h, if_neg h]
theorem left_is (s : ByteArray) (i : Nat) (e : Int) (hs : s.size ≤ 200) (hi : i ≤ s.size) : field_Reader_Left.f s (i : Int) e = some ((s.size : Int) - i, s, (i : Int), e) := by
  unfold field_Reader_Left.f
  rw [w64 (n := (s.size : Int) - i) (by omega) (by omega)]
theorem cut_append (s : ByteArray) (i j : Nat) (h : i ≤ j) : s.extract 0 i ++ s.extract i j = s.extract 0 j := by
  apply bytesOf_inj
  rw [bytesOf_append, bytesOf_extract, bytesOf_extract, bytesOf_extract]
  simp only [List.drop_zero, Nat.sub_zero]
  rw [← List.take_append_drop i (List.take j (bytesOf s)), List.take_take, List.drop_take, Nat.min_eq_left h]
theorem put_val (l : ByteArray) (n : Nat) (h1 : 1 ≤ n) (h7 : n ≤ 7) (hl : l.size = n) : putOf (valBE (bytesOf l)) n = l := by
  have hb := bytesOf_length l
  have hr := valBE_range _ (bytesOf_range l)
  have hv := beN_valBE _ (bytesOf_range l)
  rw [hb, hl] at hr hv
  apply bytesOf_inj
  rw [putOf_size _ _ (by omega) (by omega) hr.1 (by simpa using hr.2), Int.toNat_natCast, hv]

theorem passes_step (s : ByteArray) (l : List Int) (hs : s.size ≤ 200) (hl : l.length ≤ 60) (hu : ∀ x, x ∈ l → (Lit.int .u8 x).wf = true) :
    ∀ (m i k at_ : Nat) (e : Int), i + m = l.length → at_ ≤ s.size → intrusionlaw01_FieldPasses.l0 (2 * m + k + 40) s l (s.extract 0 at_) (i : Int) s (at_ : Int) e = some true
  | 0, i, k, at_, e, h, ha => by
    rw [show 2 * 0 + k + 40 = (k + 39) + 1 by omega]
    obtain ⟨K, hK⟩ : ∃ K, k + 39 = K := ⟨_, rfl⟩
    rw [hK, intrusionlaw01_FieldPasses.l0, if_neg (by omega)]
    unfold field_Reader_Rest.f field_Reader_Err.f
    rw [left_is s at_ e hs ha]
    simp only [Option.bind_some]
    rw [next_is s at_ e _ hs ha (by omega) (by omega), awake_is _ (by omega)]
    have z1 : (s.extract 0 at_).size = at_ := by simp; omega
    by_cases h0 : e = 0
    · rw [if_pos h0, if_neg (by omega)]
      have hc := cut_append s at_ s.size ha
      have ht : at_ + ((s.size : Int) - at_).toNat = s.size := by omega
      have hw : s.extract 0 s.size = s := by simp
      have z2 : (s.extract at_ s.size).size = s.size - at_ := by simp
      simp only [Option.bind_some, ht, hc, hw, if_true]
      rw [if_pos (by omega)]
    · rw [if_neg h0]
      simp only [Option.bind_some, h0, if_false]
      rw [if_pos (by rw [z1, nil_size]; omega)]
  | m + 1, i, k, at_, e, h, ha => by
    have ih : ∀ (at' : Nat) (e' : Int), at' ≤ s.size → intrusionlaw01_FieldPasses.l0 (2 * m + k + 40) s l (s.extract 0 at') ((i + 1 : Nat) : Int) s (at' : Int) e' = some true := fun at' e' h' => passes_step s l hs hl hu m (i + 1) k at' e' (by omega) h'
    rw [show 2 * (m + 1) + k + 40 = (2 * m + k + 40 + 1) + 1 by omega]
    obtain ⟨K, hK⟩ : ∃ K, 2 * m + k + 40 = K := ⟨_, rfl⟩
    rw [hK] at ih ⊢
    have hlt : i < l.length := by omega
    have hx := wf_u8 (hu l[i] (List.getElem_mem hlt))
    have hrd : rd l i = l[i] := by unfold rd; rw [Int.toNat_natCast, List.getD_eq_getElem?_getD, List.getElem?_eq_getElem hlt]; rfl
    rw [intrusionlaw01_FieldPasses.l0, if_pos (by omega), if_pos (by omega), hrd, w64 (n := l[i]) (by omega) (by omega), Int.tmod_eq_emod_of_nonneg (by omega)]
    obtain ⟨n, hn⟩ : ∃ n : Nat, (n : Int) = l[i] % 9 := ⟨(l[i] % 9).toNat, by omega⟩
    rw [← hn]
    have z1 : ∀ j : Nat, j ≤ s.size → (s.extract 0 j).size = j := by intro j hj; simp; omega
    have i1 : wrap64 ((i : Int) + 1) = ((i + 1 : Nat) : Int) := by rw [w64 (by omega) (by omega)]; omega
    have ok : ∀ (at' : Nat) (e' : Int), at' ≤ s.size → (if (wrap64 ((s.size : Int) - ((s.size : Int) - at'))) = ((s.extract 0 at').size : Int) then (if 0 ≤ ((s.extract 0 at').size : Int) then (if ((s.extract 0 at').size : Int) ≤ (s.size : Int) then (if (s.extract 0 at').toList = (s.extract 0 (((s.extract 0 at').size : Int) : Int).toNat).toList then (intrusionlaw01_FieldPasses.l0 K s l (s.extract 0 at') (wrap64 ((i : Int) + 1)) s at' e') else (some false)) else (none)) else (none)) else (some false)) = some true := by
      intro at' e' h'
      rw [z1 at' h', w64 (n := (s.size : Int) - ((s.size : Int) - at')) (by omega) (by omega), if_pos (by omega), if_pos (by omega), if_pos (by omega), Int.toNat_natCast, if_pos rfl, i1]
      exact ih at' e' h'
    by_cases c1 : (n : Int) ≥ 1 ∧ (n : Int) ≤ 7
    · rw [if_pos c1.1, decide_eq_true c1.2, intrusionlaw01_FieldPasses.j2]
      have v : field_valid.f (n : Int) = some true := by unfold field_valid.f; rw [if_pos c1.1, decide_eq_true c1.2]
      unfold field_Reader_Int.f field_Reader_Err.f
      rw [v]
      simp only [Option.bind_some, if_true]
      rw [next_is s at_ e _ hs ha (by omega) (by omega)]
      by_cases h0 : e = 0
      · rw [if_pos h0]
        by_cases c2 : (n : Int) > (s.size : Int) - at_
        · rw [if_pos c2]
          simp only [Option.bind_some]
          rw [if_pos (by decide), number_is _ (bytesOf_range _) (by decide) _ (by omega)]
          simp only [Option.bind_some]
          rw [if_neg (by decide), left_is s at_ 1 hs ha]
          exact ok at_ 1 ha
        · rw [if_neg c2]
          have z2 : (s.extract at_ (at_ + n)).size = n := by simp; omega
          have hp := put_val (s.extract at_ (at_ + n)) n (by omega) (by omega) z2
          have hb := bytesOf_length (s.extract at_ (at_ + n))
          have hc := cut_append s at_ (at_ + n) (by omega)
          simp only [Option.bind_some, Int.toNat_natCast]
          rw [if_pos (by omega), number_is _ (bytesOf_range _) (by omega) _ (by omega)]
          simp only [Option.bind_some]
          rw [if_pos trivial, put_is _ _ _ (by omega), hp]
          simp only [Option.bind_some]
          rw [if_pos (by rw [z1 _ ha]; omega), hc, show (at_ : Int) + (n : Int) = ((at_ + n : Nat) : Int) by omega, left_is s (at_ + n) 0 hs (by omega)]
          exact ok (at_ + n) 0 (by omega)
      · rw [if_neg h0]
        simp only [Option.bind_some]
        rw [if_pos (by decide), number_is _ (bytesOf_range _) (by decide) _ (by omega)]
        simp only [Option.bind_some]
        rw [if_neg h0, left_is s at_ e hs ha]
        exact ok at_ e ha
    · have go : intrusionlaw01_FieldPasses.j2 (K + 1) s l (s.extract 0 at_) i n false s at_ e = some true := by
        rw [intrusionlaw01_FieldPasses.j2]
        unfold field_Reader_Take.f
        rw [decide_eq_true (show (n : Int) ≥ 0 by omega), next_is s at_ e _ hs ha (by omega) (by omega)]
        simp only [Bool.false_eq_true, if_false]
        have nil : s.extract 0 at_ ++ (⟨#[]⟩ : ByteArray) = s.extract 0 at_ := by apply bytesOf_inj; rw [bytesOf_append, bytesOf_nil, List.append_nil]
        by_cases h0 : e = 0
        · rw [if_pos h0]
          by_cases c2 : (n : Int) > (s.size : Int) - at_
          · rw [if_pos c2]
            simp only [Option.bind_some]
            rw [nil, if_pos (by rw [z1 _ ha, nil_size]; omega), left_is s at_ 1 hs ha]
            exact ok at_ 1 ha
          · rw [if_neg c2]
            have z2 : (s.extract at_ (at_ + n)).size = n := by simp; omega
            have hc := cut_append s at_ (at_ + n) (by omega)
            simp only [Option.bind_some, Int.toNat_natCast]
            rw [if_pos (by rw [z1 _ ha]; omega), hc, show (at_ : Int) + (n : Int) = ((at_ + n : Nat) : Int) by omega, left_is s (at_ + n) 0 hs (by omega)]
            exact ok (at_ + n) 0 (by omega)
        · rw [if_neg h0]
          simp only [Option.bind_some]
          rw [nil, if_pos (by rw [z1 _ ha, nil_size]; omega), left_is s at_ e hs ha]
          exact ok at_ e ha
      by_cases c3 : (n : Int) ≥ 1
      · rw [if_pos c3, decide_eq_false (by omega)]
        exact go
      · rw [if_neg c3]
        exact go
theorem FieldPasses : intrusionlaw01_FieldPasses.Pure := by
  intro s l _ _ hu
  obtain ⟨K, hK⟩ : ∃ K, 2 * l.length + 9 + 40 = K := ⟨_, rfl⟩
  have out : intrusionlaw01_FieldPasses.j0 (K + 1) s l true = some true := by
    rw [intrusionlaw01_FieldPasses.j0, if_pos rfl, awake_is _ (by omega)]
    rfl
  refine ⟨K + 1, ?_⟩
  unfold intrusionlaw01_FieldPasses.f
  by_cases h1 : (s.size : Int) > 200
  · rw [if_pos h1]; exact out
  · rw [if_neg h1]
    by_cases h2 : (l.length : Int) > 60
    · rw [decide_eq_true h2]; exact out
    · have h := passes_step s l (by omega) (by omega) hu l.length 0 9 0 0 (by omega) (by omega)
      rw [hK] at h
      rw [decide_eq_false h2, intrusionlaw01_FieldPasses.j0, if_neg (by simp)]
      unfold field_NewReader.f
      have e0 : s.extract 0 0 = (⟨#[]⟩ : ByteArray) := by apply bytesOf_inj; rw [bytesOf_extract]; simp [bytesOf_nil]
      rw [e0] at h
      simp only [Option.bind_some]
      exact h

end Go.Proofs.Ytmkhmlgihkaphaa.Pure
