/- FieldReads as a plain law: any calls of the program's reader and of the document's return the same, for at most 200 bytes and 60 calls; no further condition. -/
import Derived.Test.YtmkhmlgihkaphaaXDFieldReads
import Derived.Test.YtmkhmlgihkaphaaReader
import Derived.Test.YtmkhmlgihkaphaaRefVal
import Derived.Test.YtmkhmlgihkaphaaX3
import Derived.Test.YtmkhmlgihkaphaaX2
import Derived.Test.YtmkhmlgihkaphaaX5
import Derived.Test.YtmkhmlgihkaphaaX9
import Derived.Test.YtmkhmlgihkaphaaX10
namespace Go.Proofs.Ytmkhmlgihkaphaa.Pure
open Go.RowKit Go.Proofs.Ytmkhmlgihkaphaa.X Go.Proofs.YtmkhmlgihkaphaaW.PrintWords Go.Proofs.YtmkhmlgihkaphaaW.PrintLast Go.Proofs.YtmkhmlgihkaphaaW.PrintMore

theorem rawake30 : intrusionlaw01_awake.f 30 = some true := by decide +kernel
theorem rawake_is (k : Nat) (hk : 30 ≤ k) : intrusionlaw01_awake.f k = some true := at_rounds intrusionlaw01_awake.mono hk rawake30
theorem next_no (s : ByteArray) (i n e : Int) : field_Reader_next.f s i e n false = some ((⟨#[]⟩ : ByteArray), s, i, if e = 0 then 4 else e) := by
  unfold field_Reader_next.f
  by_cases h : e = 0
  · rw [if_pos h, if_neg (by simp), if_pos h]
  · rw [if_neg h, if_neg h]
/-- What is left of a string. -/
def left (s : ByteArray) (i : Nat) : ByteArray := s.extract i s.size
theorem left_size (s : ByteArray) (i : Nat) (hi : i ≤ s.size) : ((left s i).size : Int) = (s.size : Int) - i := by unfold left; simp; omega
theorem left_take (s : ByteArray) (i n : Nat) (h : i + n ≤ s.size) : (left s i).extract 0 n = s.extract i (i + n) := by
  apply bytesOf_inj
  unfold left
  rw [bytesOf_extract, bytesOf_extract, bytesOf_extract]
  simp only [List.drop_zero, Nat.sub_zero]
  rw [List.take_take, Nat.min_eq_left (by omega)]
  congr 1
  omega
theorem left_drop (s : ByteArray) (i n : Nat) (h : i + n ≤ s.size) : (left s i).extract n (left s i).size = left s (i + n) := by
  have hz := left_size s i (by omega)
  apply bytesOf_inj
  unfold left at hz ⊢
  rw [bytesOf_extract, bytesOf_extract, bytesOf_extract]
  have hl := bytesOf_length s
  rw [List.take_of_length_le (l := List.drop i (bytesOf s)) (by simp; omega), List.drop_drop, List.take_of_length_le (by simp; omega), List.take_of_length_le (by simp; omega)]
/-- What Take does to the place and the error. -/
def takeOf (s : ByteArray) (i : Nat) (e n : Int) : ByteArray × Nat × Int :=
  if e = 0 then (if n < 0 then (⟨#[]⟩, i, 4) else if n > (s.size : Int) - i then (⟨#[]⟩, i, 1) else (s.extract i (i + n.toNat), i + n.toNat, 0)) else (⟨#[]⟩, i, e)
theorem takeOf_le (s : ByteArray) (i : Nat) (e n : Int) (hi : i ≤ s.size) : (takeOf s i e n).2.1 ≤ s.size := by
  unfold takeOf
  split
  · split
    · exact hi
    · split
      · exact hi
      · simp only; omega
  · exact hi
theorem take_is (s : ByteArray) (i : Nat) (e n : Int) (hs : s.size ≤ 200) (hi : i ≤ s.size) (hn : n < 9223372036854775808) :
    field_Reader_Take.f s (i : Int) e n = some ((takeOf s i e n).1, s, ((takeOf s i e n).2.1 : Int), (takeOf s i e n).2.2) := by
  unfold field_Reader_Take.f takeOf
  by_cases h0 : n < 0
  · rw [decide_eq_false (show ¬ n ≥ 0 by omega), next_no]
    simp only [bs]
    by_cases he : e = 0
    · rw [if_pos he, if_pos he, if_pos h0]
    · rw [if_neg he, if_neg he]
  · rw [decide_eq_true (show n ≥ 0 by omega), next_is s i e n (by omega) hi (by omega) (by omega)]
    simp only [bs]
    by_cases he : e = 0
    · rw [if_pos he, if_pos he, if_neg h0]
      by_cases h2 : n > (s.size : Int) - i
      · rw [if_pos h2, if_pos h2]
      · rw [if_neg h2, if_neg h2]
        simp only
        rw [show (i : Int) + n = ((i + n.toNat : Nat) : Int) by omega]
    · rw [if_neg he, if_neg he]
theorem rtake_is (s : ByteArray) (i : Nat) (e n : Int) (hi : i ≤ s.size) :
    intrusionref01_Reader_Take.f (left s i) e n = some ((takeOf s i e n).1, left s (takeOf s i e n).2.1, (takeOf s i e n).2.2) := by
  unfold intrusionref01_Reader_Take.f takeOf
  rw [left_size s i hi]
  by_cases he : e = 0
  · rw [if_pos he, if_pos he]
    by_cases h0 : n < 0
    · rw [if_pos h0, if_pos h0]
    · rw [if_neg h0, if_neg h0]
      by_cases h2 : n > (s.size : Int) - i
      · rw [if_pos h2, if_pos h2]
      · rw [if_neg h2, if_neg h2, if_pos (by omega), if_pos (by omega), left_take s i n.toNat (by omega), left_drop s i n.toNat (by omega), he]
  · rw [if_neg he, if_neg he]
/-- What Int does. -/
def intOf (s : ByteArray) (i : Nat) (e n : Int) : ByteArray × Nat × Int := if 1 ≤ n ∧ n ≤ 7 then takeOf s i e n else (⟨#[]⟩, i, if e = 0 then 4 else e)
theorem intOf_le (s : ByteArray) (i : Nat) (e n : Int) (hi : i ≤ s.size) : (intOf s i e n).2.1 ≤ s.size := by
  unfold intOf
  split
  · exact takeOf_le s i e n hi
  · exact hi
theorem nil7 : (⟨#[]⟩ : ByteArray).size ≤ 7 := by decide
theorem intOf_size (s : ByteArray) (i : Nat) (e n : Int) : (intOf s i e n).1.size ≤ 7 := by
  unfold intOf takeOf
  split
  · split
    · split
      · exact nil7
      · split
        · exact nil7
        · simp; omega
    · exact nil7
  · exact nil7
theorem num_is (b : ByteArray) (hb : b.size ≤ 7) (k : Nat) (hk : 8 ≤ k) : field_number.f k (bytesOf b) = some (valBE (bytesOf b)) := by
  have hl := bytesOf_length b
  exact number_is _ (bytesOf_range b) (by omega) k hk
theorem pint_is (s : ByteArray) (i : Nat) (e n : Int) (hs : s.size ≤ 200) (hi : i ≤ s.size) (k : Nat) (hk : 8 ≤ k) :
    field_Reader_Int.f k s (i : Int) e n = some (valBE (bytesOf (intOf s i e n).1), s, ((intOf s i e n).2.1 : Int), (intOf s i e n).2.2) := by
  have hsz := intOf_size s i e n
  unfold field_Reader_Int.f field_valid.f
  by_cases h1 : n ≥ 1
  · by_cases h7 : n ≤ 7
    · rw [if_pos h1, decide_eq_true h7]
      simp only [bs]
      have hI : intOf s i e n = takeOf s i e n := by unfold intOf; rw [if_pos ⟨h1, h7⟩]
      rw [hI] at hsz ⊢
      rw [next_is s i e n (by omega) hi (by omega) (by omega)]
      unfold takeOf at hsz ⊢
      by_cases he : e = 0
      · rw [if_pos he] at hsz ⊢
        rw [if_neg (show ¬ n < 0 by omega)] at hsz ⊢
        rw [if_pos he]
        by_cases h2 : n > (s.size : Int) - i
        · rw [if_pos h2] at hsz ⊢
          rw [if_pos h2]
          simp only [bs]
          rw [if_pos (by decide), num_is _ nil7 k hk]
          simp only [bs]
        · rw [if_neg h2] at hsz ⊢
          rw [if_neg h2]
          simp only [bs]
          rw [if_pos (Nat.le_trans hsz (by decide)), num_is _ hsz k hk]
          simp only [bs]
          rw [show (i : Int) + n = ((i + n.toNat : Nat) : Int) by omega]
      · rw [if_neg he] at hsz ⊢
        rw [if_neg he]
        simp only [bs]
        rw [if_pos (by decide), num_is _ nil7 k hk]
        simp only [bs]
    · rw [if_pos h1, decide_eq_false h7]
      simp only [bs]
      have hI : intOf s i e n = (⟨#[]⟩, i, if e = 0 then 4 else e) := by unfold intOf; rw [if_neg (by omega)]
      rw [next_no, hI]
      simp only [bs]
      rw [if_pos (by decide), num_is _ (by decide) k hk]
      simp only [bs]
  · rw [if_neg h1]
    simp only [bs]
    have hI : intOf s i e n = (⟨#[]⟩, i, if e = 0 then 4 else e) := by unfold intOf; rw [if_neg (by omega)]
    rw [next_no, hI]
    simp only [bs]
    rw [if_pos (by decide), num_is _ (by decide) k hk]
    simp only [bs]
theorem rint_is (s : ByteArray) (i : Nat) (e n : Int) (hi : i ≤ s.size) (k : Nat) (hk : 9 ≤ k) :
    intrusionref01_Reader_Int.f k (left s i) e n = some (valBE (bytesOf (intOf s i e n).1), left s (intOf s i e n).2.1, (intOf s i e n).2.2) := by
  obtain ⟨k, rfl⟩ : ∃ m, k = m + 1 := ⟨k - 1, by omega⟩
  have hsz := intOf_size s i e n
  have good : (1 ≤ n ∧ n ≤ 7) ∨ e ≠ 0 → intrusionref01_Reader_Int.j0 (k + 1) n false (left s i) e = some (valBE (bytesOf (intOf s i e n).1), left s (intOf s i e n).2.1, (intOf s i e n).2.2) := by
    intro h
    have hI : intOf s i e n = takeOf s i e n := by
      unfold intOf
      split
      · rfl
      · rename_i hn
        have he : e ≠ 0 := h.resolve_left hn
        unfold takeOf
        rw [if_neg he, if_neg he]
    rw [intrusionref01_Reader_Int.j0, if_neg (by simp), rtake_is s i e n hi, hI]
    rw [hI] at hsz
    simp only [bs]
    rw [value_is _ hsz k (by omega)]
    simp only [bs]
  have bad : e = 0 → ¬ (1 ≤ n ∧ n ≤ 7) → intrusionref01_Reader_Int.j0 (k + 1) n true (left s i) e = some (valBE (bytesOf (intOf s i e n).1), left s (intOf s i e n).2.1, (intOf s i e n).2.2) := by
    intro he hn
    have hI : intOf s i e n = (⟨#[]⟩, i, 4) := by unfold intOf; rw [if_neg hn, if_pos he]
    have ht : takeOf s i 4 n = (⟨#[]⟩, i, 4) := by unfold takeOf; rw [if_neg (by decide)]
    rw [intrusionref01_Reader_Int.j0, if_pos rfl, rtake_is s i 4 n hi, ht, hI]
    simp only [bs]
    rw [value_is _ (by decide) k (by omega)]
    simp only [bs]
  unfold intrusionref01_Reader_Int.f
  by_cases he : e = 0
  · rw [if_pos he]
    by_cases h1 : n < 1
    · rw [if_pos h1]; exact bad he (by omega)
    · rw [if_neg h1]
      by_cases h7 : n > 7
      · rw [decide_eq_true h7]; exact bad he (by omega)
      · rw [decide_eq_false h7]; exact good (.inl ⟨by omega, by omega⟩)
  · rw [if_neg he]; exact good (.inr he)
theorem rest_is2 (s : ByteArray) (i : Nat) (e : Int) (hs : s.size ≤ 200) (hi : i ≤ s.size) :
    field_Reader_Rest.f s (i : Int) e = some ((takeOf s i e ((s.size : Int) - i)).1, s, ((takeOf s i e ((s.size : Int) - i)).2.1 : Int), (takeOf s i e ((s.size : Int) - i)).2.2) := by
  unfold field_Reader_Rest.f
  rw [left_is s i e (by omega) hi]
  simp only [bs]
  have ht := take_is s i e ((s.size : Int) - i) hs hi (by omega)
  unfold field_Reader_Take.f at ht
  rw [decide_eq_true (by omega)] at ht
  exact ht
theorem rrest_is2 (s : ByteArray) (i : Nat) (e : Int) (hi : i ≤ s.size) :
    intrusionref01_Reader_Rest.f (left s i) e = some ((takeOf s i e ((s.size : Int) - i)).1, left s (takeOf s i e ((s.size : Int) - i)).2.1, (takeOf s i e ((s.size : Int) - i)).2.2) := by
  unfold intrusionref01_Reader_Rest.f
  rw [left_size s i hi, rtake_is s i e _ hi]
  simp only [bs]
theorem reads_loop (s : ByteArray) (l : List S31) (hs : s.size ≤ 200) (hl : l.length ≤ 60) (hw : ∀ x ∈ l, x.f1 < 9223372036854775808) : ∀ (m j K i : Nat) (e : Int), j + m = l.length → i ≤ s.size → 2 * m + 40 ≤ K →
    intrusionlaw01_FieldReads.l0 K l (j : Int) s (i : Int) e (left s i) e = some true
  | 0, j, K, i, e, h, hi, hk => by
    obtain ⟨K, rfl⟩ : ∃ x, K = x + 1 := ⟨K - 1, by omega⟩
    rw [intrusionlaw01_FieldReads.l0, if_neg (by omega), rawake_is _ (by omega)]
    simp only [bs]
  | m + 1, j, K, i, e, h, hi, hk => by
    obtain ⟨K, rfl⟩ : ∃ x, K = x + 1 := ⟨K - 1, by omega⟩
    have hlt : j < l.length := by omega
    have hrd : rd_T31 l (j : Int) = l[j] := by unfold rd_T31; rw [Int.toNat_natCast, List.getD_eq_getElem?_getD, List.getElem?_eq_getElem hlt]; rfl
    have hwf := hw l[j] (List.getElem_mem hlt)
    have onw : ∀ (i' : Nat) (e' : Int), i' ≤ s.size → intrusionlaw01_FieldReads.j2 K l (j : Int) s (i' : Int) e' (left s i') e' = some true := by
      intro i' e' h'
      obtain ⟨K, rfl⟩ : ∃ x, K = x + 1 := ⟨K - 1, by omega⟩
      rw [intrusionlaw01_FieldReads.j2]
      unfold intrusionref01_Reader_Left.f field_Reader_Err.f intrusionref01_Reader_Err.f
      rw [left_is s i' e' (by omega) h', left_size s i' h', w64 (n := (j : Int) + 1) (by omega) (by omega), show (j : Int) + 1 = ((j + 1 : Nat) : Int) by omega]
      simp only [bs, if_true]
      exact reads_loop s l hs hl hw m (j + 1) K i' e' (by omega) h' (by omega)
    rw [intrusionlaw01_FieldReads.l0, if_pos (by omega), if_pos (by omega), hrd]
    by_cases k0 : l[j].f0 = 0
    · rw [if_pos k0, pint_is s i e _ hs hi K (by omega), rint_is s i e _ hi K (by omega)]
      simp only [bs]
      rw [if_pos trivial]
      exact onw _ _ (intOf_le s i e _ hi)
    · rw [if_neg k0]
      by_cases k1 : l[j].f0 = 1
      · rw [if_pos k1, take_is s i e _ hs hi hwf, rtake_is s i e _ hi]
        simp only [bs]
        rw [if_pos trivial]
        exact onw _ _ (takeOf_le s i e _ hi)
      · rw [if_neg k1]
        by_cases k2 : l[j].f0 = 2
        · rw [if_pos k2, rest_is2 s i e hs hi, rrest_is2 s i e hi]
          simp only [bs]
          rw [if_pos trivial]
          exact onw _ _ (takeOf_le s i e _ hi)
        · rw [if_neg k2]
          exact onw i e hi
theorem FieldReads : intrusionlaw01_FieldReads.Pure := by
  intro s l _ _ hw
  obtain ⟨K, hK⟩ : ∃ K, 2 * l.length + 60 = K := ⟨_, rfl⟩
  have out : intrusionlaw01_FieldReads.j0 (K + 1) s l true = some true := by
    rw [intrusionlaw01_FieldReads.j0, if_pos rfl, rawake_is _ (by omega)]
    rfl
  refine ⟨K + 1, ?_⟩
  unfold intrusionlaw01_FieldReads.f
  by_cases h1 : (s.size : Int) > 200
  · rw [if_pos h1]; exact out
  · rw [if_neg h1]
    by_cases h2 : (l.length : Int) > 60
    · rw [decide_eq_true h2]; exact out
    · rw [decide_eq_false h2, intrusionlaw01_FieldReads.j0, if_neg (by simp)]
      unfold field_NewReader.f intrusionref01_NewReader.f
      simp only [bs]
      have h := reads_loop s l (by omega) (by omega) (fun x hx => (wf_i64 (hw x hx).2).2) l.length 0 K 0 0 (by omega) (by omega) (by omega)
      have e0 : left s 0 = s := by unfold left; simp
      rw [e0] at h
      exact h

end Go.Proofs.Ytmkhmlgihkaphaa.Pure
