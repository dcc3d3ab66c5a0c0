/- Decode of layer 12 in closed form: the document's walk over the headers. -/
import Derived.Test.YtljboandbjahdaaIp6W
import Derived.Test.YtljboandbjahdaaIp6X
import Derived.Test.YtljboandbjahdaaX18
import Derived.Test.YtljboandbjahdaaX17
namespace Go.Proofs.Ytljboandbjahdaa.Pure
open Go.RowKit Go.Proofs.Ytljboandbjahdaa.X Go.Proofs.YtljboandbjahdaaW.PrintWords Go.Proofs.YtljboandbjahdaaW.PrintLast Go.Proofs.YtljboandbjahdaaW.PrintMore

theorem and1_u8 (x : Int) (h0 : 0 ≤ x) (h1 : x ≤ 255) : Go.bits .and .u8 x 1 = x % 2 :=
  bits_mask .u8 8 (by decide) wraps_u8 1 (by omega) x h0 (by omega)
/-- The document's number. -/
theorem rnum_loop (s : ByteArray) (h8 : s.size ≤ 7) : ∀ (m i k : Nat), i + m = s.size →
    intrusionref12_number.l0 (k + m + 1) s (valBE ((bytesOf s).take i)) i = some (valBE (bytesOf s))
  | 0, i, k, h => by
    have hl := bytesOf_length s
    unfold intrusionref12_number.l0
    rw [if_neg (by omega), List.take_of_length_le (by omega)]
  | m + 1, i, k, h => by
    have hl := bytesOf_length s
    have hlt : i < (bytesOf s).length := by omega
    have hr := valBE_range ((bytesOf s).take i) (fun x hx => bytesOf_range s x (List.mem_of_mem_take hx))
    have hc := bytesOf_range s (bytesOf s)[i] (List.getElem_mem hlt)
    have hp : (256 : Int) ^ ((bytesOf s).take i).length ≤ 281474976710656 := by
      have e : ((bytesOf s).take i).length ≤ 6 := by simp; omega
      have hn : 256 ^ ((bytesOf s).take i).length ≤ 281474976710656 := Nat.le_trans (Nat.pow_le_pow_right (by decide) e) (by decide)
      have hc : ((256 ^ ((bytesOf s).take i).length : Nat) : Int) = (256 : Int) ^ ((bytesOf s).take i).length := Int.natCast_pow 256 _
      omega
    have ht : (bytesOf s).take (i + 1) = (bytesOf s).take i ++ [(bytesOf s)[i]] := by rw [List.take_add_one]; simp [hlt]
    rw [show k + (m + 1) + 1 = (k + m + 1) + 1 by omega]
    unfold intrusionref12_number.l0
    rw [if_pos (by omega), if_pos (by omega), bt_get s i hlt, w64 (n := valBE ((bytesOf s).take i) * 256) (by omega) (by omega), or8 _ _ (by omega) (by omega) (by omega) hc.1 hc.2, ← valBE_snoc, ← ht,
      w64 (n := (i : Int) + 1) (by omega) (by omega), show (i : Int) + 1 = ((i + 1 : Nat) : Int) by omega]
    exact rnum_loop s h8 m (i + 1) k (by omega)
theorem rnum_is (s : ByteArray) (h8 : s.size ≤ 7) (k : Nat) (hk : 10 ≤ k) : intrusionref12_number.f k s = some (valBE (bytesOf s)) := by
  have h := rnum_loop s h8 s.size 0 (k - s.size - 1) (by omega)
  rw [show k - s.size - 1 + s.size + 1 = k by omega] at h
  unfold intrusionref12_number.f
  simpa [valBE] using h
section
variable (c lb h : Int) (v : Bool) (s1 s2 : Int) (w : Bool) (d1 d2 : Int)
theorem rheads_walk : ∀ (m k : Nat) (first : Bool) (nx : Int) (l : List S60) (fr : Bool) (id off : Int) (mo : Bool) (s : ByteArray), s.size < 8 * m → s.size ≤ 4611686018427387904 → l.length ≤ 8 →
    intrusionref12_Decode.l0 (k + 5 * m + 10) s first c lb h nx v s1 s2 w d1 d2 l fr id off mo ⟨#[]⟩ = some (packP c lb h v s1 s2 w d1 d2 (walkOf m first nx l fr id off mo (bytesOf s)))
  | 0, k, first, nx, l, fr, id, off, mo, s, hm, _, _ => by omega
  | m + 1, k, first, nx, l, fr, id, off, mo, s, hm, hs, hl => by
    have hbl := bytesOf_length s
    rw [show k + 5 * (m + 1) + 10 = (k + 5 * m + 10) + 1 + 1 + 1 + 1 + 1 by omega, intrusionref12_Decode.l0, rext_is]
    simp only [bs]
    have hj1 : (if decide (isExt nx) = true then intrusionref12_Decode.j1 (k + 5 * m + 10 + 1 + 1 + 1 + 1) s first true c lb h nx v s1 s2 w d1 d2 l fr id off mo ⟨#[]⟩ else intrusionref12_Decode.j1 (k + 5 * m + 10 + 1 + 1 + 1 + 1) s first (nx == 44) c lb h nx v s1 s2 w d1 d2 l fr id off mo ⟨#[]⟩)
        = intrusionref12_Decode.j1 (k + 5 * m + 10 + 1 + 1 + 1 + 1) s first (decide (isExt nx ∨ nx = 44)) c lb h nx v s1 s2 w d1 d2 l fr id off mo ⟨#[]⟩ := by
      by_cases a : isExt nx
      · rw [if_pos (decide_eq_true a), show decide (isExt nx ∨ nx = 44) = true from decide_eq_true (.inl a)]
      · rw [if_neg (by rw [decide_eq_true_iff]; exact a)]
        by_cases b : nx = 44
        · rw [show decide (isExt nx ∨ nx = 44) = true from decide_eq_true (.inr b), show (nx == 44) = true from beq_iff_eq.mpr b]
        · rw [show decide (isExt nx ∨ nx = 44) = false from decide_eq_false (fun z => z.elim a b), show (nx == 44) = false from beq_eq_false_iff_ne.mpr b]
    rw [hj1, intrusionref12_Decode.j1]
    unfold walkOf
    by_cases hext : isExt nx ∨ nx = 44
    · rw [if_pos (decide_eq_true hext), if_neg (fun z : ¬ (isExt nx ∨ nx = 44) => z hext)]
      have hj2 : (if nx = 0 then (if first = true then intrusionref12_Decode.j2 (k + 5 * m + 10 + 1 + 1 + 1) s fr c lb h nx v s1 s2 w d1 d2 l fr id off mo ⟨#[]⟩ else intrusionref12_Decode.j2 (k + 5 * m + 10 + 1 + 1 + 1) s true c lb h nx v s1 s2 w d1 d2 l fr id off mo ⟨#[]⟩) else intrusionref12_Decode.j2 (k + 5 * m + 10 + 1 + 1 + 1) s fr c lb h nx v s1 s2 w d1 d2 l fr id off mo ⟨#[]⟩)
          = intrusionref12_Decode.j2 (k + 5 * m + 10 + 1 + 1 + 1) s (decide ((nx = 0 ∧ first = false) ∨ fr = true)) c lb h nx v s1 s2 w d1 d2 l fr id off mo ⟨#[]⟩ := by
        by_cases a : nx = 0
        · rw [if_pos a]
          cases first with
          | true => rw [if_pos rfl, show decide ((nx = 0 ∧ true = false) ∨ fr = true) = fr by cases fr <;> simp]
          | false => rw [if_neg (by decide), show decide ((nx = 0 ∧ false = false) ∨ fr = true) = true from decide_eq_true (.inl ⟨a, rfl⟩)]
        · rw [if_neg a, show decide ((nx = 0 ∧ first = false) ∨ fr = true) = fr by cases fr <;> simp [a]]
      rw [hj2, intrusionref12_Decode.j2]
      by_cases hbad : (nx = 0 ∧ first = false) ∨ fr = true
      · rw [if_pos (decide_eq_true hbad), if_pos hbad]
        rfl
      · rw [if_neg (by rw [decide_eq_true_iff]; exact hbad), if_neg hbad]
        by_cases h44 : nx = 44
        · rw [if_pos h44, if_neg (fun z : nx ≠ 44 ∧ l.length = 8 => z.1 h44), intrusionref12_Decode.j3, if_neg (by decide)]
          by_cases h8 : s.size < 8
          · rw [if_pos (by omega), if_pos (show (bytesOf s).length < 8 ∨ (nx ≠ 44 ∧ ((bytesOf s).length : Int) < 8 + 8 * (bytesOf s).getD 1 0) from .inl (by omega)), intrusionref12_Decode.j4, if_pos rfl]
            rfl
          · rw [if_neg (by omega), if_neg (show ¬ ((bytesOf s).length < 8 ∨ (nx ≠ 44 ∧ ((bytesOf s).length : Int) < 8 + 8 * (bytesOf s).getD 1 0)) from fun z => z.elim (fun y => by omega) (fun y => y.1 h44)), if_pos h44, intrusionref12_Decode.j4, if_neg (by decide), if_pos (by omega), if_pos h44, if_pos (by omega), if_pos (by omega), if_pos h44,
              rnum_is _ (by simp; omega) _ (by omega), rnum_is _ (by simp; omega) _ (by omega)]
            have hv := valBE_range (((bytesOf s).drop 2).take 2) (fun x hx => bytesOf_range s x (List.mem_of_mem_drop (List.mem_of_mem_take hx)))
            have hv2 : (((bytesOf s).drop 2).take 2).length = 2 := by simp; omega
            rw [hv2] at hv
            have b3 : (Go.bits .and .u8 (bt s 3) 1 == 1) = (valBE (((bytesOf s).drop 2).take 2) % 2 == 1) := by
              have hb3 := bt_range s 3
              have e3 : bt s 3 = (bytesOf s)[3]'(by omega) := bt_get s 3 (by omega)
              have e2 : ((bytesOf s).drop 2).take 2 = [(bytesOf s)[2]'(by omega), (bytesOf s)[3]'(by omega)] := by
                rw [List.drop_eq_getElem_cons (by omega), List.drop_eq_getElem_cons (by omega)]; rfl
              rw [and1_u8 _ hb3.1 hb3.2, e3, e2]
              congr 1
              simp only [valBE, List.foldl_cons, List.foldl_nil]
              omega
            simp only [bs]
            rw [if_pos (by omega), if_pos (by omega), if_pos (by omega), b3, bytesOf_extract, bytesOf_extract, show 4 - 2 = 2 from rfl, show 8 - 4 = 4 from rfl, w64 (n := valBE (((bytesOf s).drop 2).take 2) / 8 * 8) (by omega) (by omega), bt0, rheads_walk m k false _ l true _ _ _ (s.extract 8 s.size) (by simp; omega) (by simp; omega) hl, ext_end]
        · rw [if_neg h44, intrusionref12_Decode.j3]
          by_cases hl8 : l.length = 8
          · rw [if_pos (by rw [beq_iff_eq]; omega), if_pos (show nx ≠ 44 ∧ l.length = 8 from ⟨h44, hl8⟩)]
            rfl
          · rw [if_neg (by rw [beq_iff_eq]; omega), if_neg (fun z : nx ≠ 44 ∧ l.length = 8 => hl8 z.2)]
            by_cases h8 : s.size < 8
            · rw [if_pos (by omega), if_pos (show (bytesOf s).length < 8 ∨ (nx ≠ 44 ∧ ((bytesOf s).length : Int) < 8 + 8 * (bytesOf s).getD 1 0) from .inl (by omega)), intrusionref12_Decode.j4, if_pos rfl]
              rfl
            · rw [if_neg (by omega), if_neg h44, if_pos (by omega), bt1, intrusionref12_Decode.j4]
              have hr := getD_range (bytesOf s) (bytesOf_range s) 1
              by_cases hlen : ((bytesOf s).length : Int) < 8 + 8 * (bytesOf s).getD 1 0
              · rw [if_pos (decide_eq_true (by omega)), if_pos (show (bytesOf s).length < 8 ∨ (nx ≠ 44 ∧ ((bytesOf s).length : Int) < 8 + 8 * (bytesOf s).getD 1 0) from .inr ⟨h44, hlen⟩)]
                rfl
              · rw [if_neg (by rw [decide_eq_true_iff]; omega), if_neg (show ¬ ((bytesOf s).length < 8 ∨ (nx ≠ 44 ∧ ((bytesOf s).length : Int) < 8 + 8 * (bytesOf s).getD 1 0)) from fun z => z.elim (fun y => by omega) (fun y => hlen y.2)), if_pos (by omega), if_neg h44, if_pos (by omega), bt1, if_pos (by omega), if_pos (by omega), if_pos (by omega), if_pos (by omega), if_neg h44, bt0]
                rw [rheads_walk m k false _ _ fr _ _ _ _ (by rw [ByteArray.size_extract]; omega) (by rw [ByteArray.size_extract]; omega) (by simp; omega), ext_end, ext_str]
                have e1 : (8 + 8 * (bytesOf s).getD 1 0).toNat = 8 + 8 * ((bytesOf s).getD 1 0).toNat := by omega
                have e2 : 8 + 8 * ((bytesOf s).getD 1 0).toNat - 2 = 6 + 8 * ((bytesOf s).getD 1 0).toNat := by omega
                rw [e1, e2]
    · rw [if_neg (by rw [decide_eq_true_iff]; exact hext), if_pos hext, str_bytes]
      rfl
end
end Go.Proofs.Ytljboandbjahdaa.Pure
