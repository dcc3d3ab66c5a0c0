/- Which packets of layer 12 can be encoded: what the program's check and the document's look compute, in closed form. -/
import Derived.Test.YtljboandbjahdaaField
import Derived.Test.YtljboandbjahdaaX7
namespace Go.Proofs.Ytljboandbjahdaa.Pure
open Go.RowKit Go.Proofs.Ytljboandbjahdaa.X Go.Proofs.YtljboandbjahdaaW.PrintWords Go.Proofs.YtljboandbjahdaaW.PrintLast Go.Proofs.YtljboandbjahdaaW.PrintMore

def isExt (n : Int) : Prop := n = 0 ∨ n = 43 ∨ n = 60
instance (n : Int) : Decidable (isExt n) := by unfold isExt; infer_instance
theorem ext_is (n : Int) : ipv6_extension.f n = some (decide (isExt n)) := by
  unfold ipv6_extension.f isExt
  by_cases h0 : n = 0
  · rw [if_pos h0]; simp [h0]
  · rw [if_neg h0]
    by_cases h1 : n = 43
    · rw [if_pos h1]; simp [h1]
    · rw [if_neg h1]
      by_cases h2 : n = 60
      · simp [h2]
      · simp [h0, h1, h2]
theorem within_loop (t : Int) (l : List Int) (hl : l.length ≤ 4611686018427387904) : ∀ (m i k : Nat), i + m = l.length →
    ipv6_within.l0 (k + m + 1) t l l.length i = some (decide (∀ x ∈ l.drop i, 0 ≤ x ∧ x ≤ t))
  | 0, i, k, h => by
    unfold ipv6_within.l0
    rw [if_neg (by omega), List.drop_eq_nil_of_le (by omega)]
    simp
  | m + 1, i, k, h => by
    have hlt : i < l.length := by omega
    have hrd : rd l (i : Int) = l[i] := by unfold rd; rw [Int.toNat_natCast, List.getD_eq_getElem?_getD, List.getElem?_eq_getElem hlt]; rfl
    have ih := within_loop t l hl m (i + 1) k (by omega)
    rw [show k + (m + 1) + 1 = (k + m + 1) + 1 by omega]
    unfold ipv6_within.l0
    rw [if_pos (by omega), if_pos (by omega), if_pos (by omega), hrd, List.drop_eq_getElem_cons hlt, w64 (n := (i : Int) + 1) (by omega) (by omega), show (i : Int) + 1 = ((i + 1 : Nat) : Int) by omega, ih]
    by_cases a : l[i] < 0
    · rw [if_pos a]
      congr 1
      rw [eq_comm, decide_eq_false_iff_not]
      intro h2
      have := h2 l[i] (List.mem_cons.mpr (.inl rfl))
      omega
    · rw [if_neg a]
      by_cases b : l[i] > t
      · rw [if_pos b]
        congr 1
        rw [eq_comm, decide_eq_false_iff_not]
        intro h2
        have := h2 l[i] (List.mem_cons.mpr (.inl rfl))
        omega
      · rw [if_neg b]
        congr 1
        apply decide_eq_decide.mpr
        constructor
        · intro h2 x hx
          rcases List.mem_cons.mp hx with e | e
          · rw [e]; omega
          · exact h2 x e
        · intro h2 x hx
          exact h2 x (List.mem_cons.mpr (.inr hx))
theorem within_is (t : Int) (l : List Int) (hl : l.length ≤ 1000) (k : Nat) (hk : l.length + 1 ≤ k) : ipv6_within.f k t l = some (decide (∀ x ∈ l, 0 ≤ x ∧ x ≤ t)) := by
  have h := within_loop t l (by omega) l.length 0 (k - l.length - 1) (by omega)
  rw [show k - l.length - 1 + l.length + 1 = k by omega] at h
  unfold ipv6_within.f
  simpa using h
theorem within1 (t a : Int) (k : Nat) (hk : 10 ≤ k) : ipv6_within.f k t [a] = some (decide (0 ≤ a ∧ a ≤ t)) := by
  rw [within_is t [a] (by simp) k (by simp; omega)]
  simp
theorem within3 (t a b c : Int) (k : Nat) (hk : 10 ≤ k) : ipv6_within.f k t [a, b, c] = some (decide ((0 ≤ a ∧ a ≤ t) ∧ (0 ≤ b ∧ b ≤ t) ∧ (0 ≤ c ∧ c ≤ t))) := by
  rw [within_is t [a, b, c] (by simp) k (by simp; omega)]
  congr 1
  apply decide_eq_decide.mpr
  constructor
  · intro h
    exact ⟨h a (by simp), h b (by simp), h c (by simp)⟩
  · rintro ⟨h1, h2, h3⟩ x hx
    simp only [List.mem_cons, List.not_mem_nil, or_false] at hx
    rcases hx with rfl | rfl | rfl
    · exact h1
    · exact h2
    · exact h3
/-- The numbers are in range. -/
def okNum (c lb h n : Int) : Prop := ((0 ≤ c ∧ c ≤ 255) ∧ (0 ≤ h ∧ h ≤ 255) ∧ (0 ≤ n ∧ n ≤ 255)) ∧ (0 ≤ lb ∧ lb ≤ 1048575)
def okEnd (n : Int) (v w : Bool) : Prop := ¬ isExt n ∧ n ≠ 44 ∧ v = true ∧ w = true
def okFrag (fr : Bool) (id off : Int) (mo : Bool) : Prop := if fr = true then (0 ≤ id ∧ id ≤ 4294967295) ∧ (0 ≤ off ∧ off ≤ 65528) ∧ Int.tmod off 8 = 0 else id = 0 ∧ off = 0 ∧ mo = false
instance (c lb h n : Int) : Decidable (okNum c lb h n) := by unfold okNum; infer_instance
instance (n : Int) (v w : Bool) : Decidable (okEnd n v w) := by unfold okEnd; infer_instance
instance (fr : Bool) (id off : Int) (mo : Bool) : Decidable (okFrag fr id off mo) := by unfold okFrag; infer_instance
def okE (i : Nat) (x : S60) : Prop := isExt x.f0 ∧ ¬ (x.f0 = 0 ∧ 0 < i) ∧ (x.f1.size : Int) ≤ 2046 ∧ (x.f1.size : Int) % 8 = 6
instance (i : Nat) (x : S60) : Decidable (okE i x) := by unfold okE; infer_instance
def okEs : Nat → List S60 → Bool
  | _, [] => true
  | i, x :: r => decide (okE i x) && okEs (i + 1) r
def okAll (c lb h n : Int) (v w fr : Bool) (id off : Int) (mo : Bool) : Prop := okNum c lb h n ∧ okEnd n v w ∧ okFrag fr id off mo
instance (c lb h n : Int) (v w fr : Bool) (id off : Int) (mo : Bool) : Decidable (okAll c lb h n v w fr id off mo) := by unfold okAll; infer_instance
/-- The error of a packet, apart from its length. -/
def chkOf (c lb h n : Int) (v w : Bool) (l : List S60) (fr : Bool) (id off : Int) (mo : Bool) : Int :=
  if okAll c lb h n v w fr id off mo then (if (l.length : Int) > 8 then 9 else if okEs 0 l = true then 0 else 2) else 4
theorem rd60 (l : List S60) (i : Nat) (h : i < l.length) : rd_T60 l (i : Int) = l[i] := by
  unfold rd_T60
  rw [Int.toNat_natCast, List.getD_eq_getElem?_getD, List.getElem?_eq_getElem h]
  rfl
theorem j5_no (k : Nat) (l : List S60) (n i : Int) : ipv6_check.j5 (k + 1) l n i true = some 2 := by
  rw [ipv6_check.j5]
  rw [if_pos rfl]
theorem chk_loop (l : List S60) (hl : l.length ≤ 4611686018427387904) : ∀ (m i k : Nat), i + m = l.length →
    ipv6_check.l0 (k + 2 * m + 1) l l.length i = some (if okEs i (l.drop i) = true then 0 else 2)
  | 0, i, k, h => by
    unfold ipv6_check.l0
    rw [if_neg (by omega), List.drop_eq_nil_of_le (by omega)]
    simp [okEs]
  | m + 1, i, k, h => by
    have hlt : i < l.length := by omega
    have ih := chk_loop l hl m (i + 1) k (by omega)
    rw [show k + 2 * (m + 1) + 1 = (k + 2 * m + 1) + 1 + 1 by omega]
    have yes : okE i l[i] → ipv6_check.j5 (k + 2 * m + 1 + 1) l l.length i false = some (if okEs i (l.drop i) = true then 0 else 2) := by
      intro ho
      rw [ipv6_check.j5]
      rw [if_neg (by decide), w64 (n := (i : Int) + 1) (by omega) (by omega), show (i : Int) + 1 = ((i + 1 : Nat) : Int) by omega, ih, List.drop_eq_getElem_cons hlt]
      simp [okEs, ho]
    have no : ¬ okE i l[i] → some (2 : Int) = some (if okEs i (l.drop i) = true then 0 else 2) := by
      intro ho
      rw [List.drop_eq_getElem_cons hlt]
      simp [okEs, ho]
    unfold ipv6_check.l0
    rw [if_pos (by omega), if_pos (by omega), if_pos (by omega), rd60 l i hlt, ext_is]
    simp only [bs]
    by_cases he : isExt l[i].f0
    · rw [if_pos (by simpa using he)]
      have last : (if (l[i].f1.size : Int) < 6 then ipv6_check.j5 (k + 2 * m + 1 + 1) l l.length i true else if (l[i].f1.size : Int) > 2046 then ipv6_check.j5 (k + 2 * m + 1 + 1) l l.length i true else ipv6_check.j5 (k + 2 * m + 1 + 1) l l.length i (((l[i].f1.size : Int) % 8) != 6)) = (if ((l[i].f1.size : Int) ≤ 2046 ∧ (l[i].f1.size : Int) % 8 = 6) then ipv6_check.j5 (k + 2 * m + 1 + 1) l l.length i false else some 2) := by
        by_cases a : (l[i].f1.size : Int) < 6
        · rw [if_pos a, if_neg (by omega), j5_no]
        · rw [if_neg a]
          by_cases b : (l[i].f1.size : Int) > 2046
          · rw [if_pos b, if_neg (by omega), j5_no]
          · rw [if_neg b]
            by_cases c : (l[i].f1.size : Int) % 8 = 6
            · rw [if_pos ⟨by omega, c⟩, show (((l[i].f1.size : Int) % 8) != 6) = false from bne_eq_false_iff_eq.mpr c]
            · rw [if_neg (fun h => c h.2), show (((l[i].f1.size : Int) % 8) != 6) = true from bne_iff_ne.mpr c, j5_no]
      by_cases h0 : l[i].f0 = 0
      · rw [if_pos h0]
        by_cases hi : (i : Int) > 0
        · rw [if_pos hi, j5_no]
          exact no (fun ho => ho.2.1 ⟨h0, by omega⟩)
        · rw [if_neg hi, last]
          by_cases c : (l[i].f1.size : Int) ≤ 2046 ∧ (l[i].f1.size : Int) % 8 = 6
          · rw [if_pos c]
            exact yes ⟨he, fun h => by omega, c.1, c.2⟩
          · rw [if_neg c]
            exact no (fun ho => c ⟨ho.2.2.1, ho.2.2.2⟩)
      · rw [if_neg h0, last]
        by_cases c : (l[i].f1.size : Int) ≤ 2046 ∧ (l[i].f1.size : Int) % 8 = 6
        · rw [if_pos c]
          exact yes ⟨he, fun h => h0 h.1, c.1, c.2⟩
        · rw [if_neg c]
          exact no (fun ho => c ⟨ho.2.2.1, ho.2.2.2⟩)
    · rw [if_neg (by simpa using he), j5_no]
      exact no (fun ho => he ho.1)
section
variable (c lb h n : Int) (v : Bool) (s1 s2 : Int) (w : Bool) (d1 d2 : Int) (l : List S60) (fr : Bool) (id off : Int) (mo : Bool) (p : ByteArray)
theorem j0_no (k : Nat) : ipv6_check.j0 (k + 1) true c lb h n v s1 s2 w d1 d2 l fr id off mo p = some 4 := by rw [ipv6_check.j0, if_pos rfl]
theorem j1_no (k : Nat) : ipv6_check.j1 (k + 1) true c lb h n v s1 s2 w d1 d2 l fr id off mo p = some 4 := by rw [ipv6_check.j1, if_pos rfl]
theorem j2_no (k : Nat) : ipv6_check.j2 (k + 1) true c lb h n v s1 s2 w d1 d2 l fr id off mo p = some 4 := by rw [ipv6_check.j2, if_pos rfl]
theorem j3_no (k : Nat) : ipv6_check.j3 (k + 1) true c lb h n v s1 s2 w d1 d2 l fr id off mo p = some 4 := by rw [ipv6_check.j3, if_pos rfl]
theorem j3_is (hl : l.length ≤ 4611686018427387904) (k : Nat) (hk : 2 * l.length + 2 ≤ k) : ipv6_check.j3 k false c lb h n v s1 s2 w d1 d2 l fr id off mo p = some (if (l.length : Int) > 8 then 9 else if okEs 0 l = true then 0 else 2) := by
  obtain ⟨j, rfl⟩ : ∃ j, k = (j + 2 * l.length + 1) + 1 := ⟨k - 2 * l.length - 2, by omega⟩
  rw [ipv6_check.j3]
  rw [if_neg (by decide)]
  by_cases h8 : (l.length : Int) > 8
  · rw [if_pos h8, if_pos h8]
  · rw [if_neg h8, if_neg h8]
    have := chk_loop l hl l.length 0 j (by omega)
    simpa using this
theorem j2_is (hl : l.length ≤ 4611686018427387904) (k : Nat) (hk : 2 * l.length + 4 ≤ k) : ipv6_check.j2 k false c lb h n v s1 s2 w d1 d2 l fr id off mo p = some (if fr = true ∨ (id = 0 ∧ off = 0 ∧ mo = false) then (if (l.length : Int) > 8 then 9 else if okEs 0 l = true then 0 else 2) else 4) := by
  obtain ⟨j, rfl⟩ : ∃ j, k = (j + 1) + 1 := ⟨k - 2, by omega⟩
  rw [ipv6_check.j2]
  rw [if_neg (by decide)]
  cases fr with
  | true => rw [if_pos rfl, if_pos (show (true = true ∨ (id = 0 ∧ off = 0 ∧ mo = false)) from .inl rfl), j3_is (hl := hl) (hk := by omega)]
  | false =>
    rw [if_neg (by decide)]
    by_cases a : id = 0
    · rw [if_pos a]
      by_cases b : off = 0
      · rw [if_pos b]
        cases mo with
        | true => rw [j3_no, if_neg (by simp)]
        | false => rw [if_pos (show (false = true ∨ (id = 0 ∧ off = 0 ∧ false = false)) from .inr ⟨a, b, rfl⟩), j3_is (hl := hl) (hk := by omega)]
      · rw [if_neg b, j3_no, if_neg (by simp [b])]
    · rw [if_neg a, j3_no, if_neg (by simp [a])]
theorem j1_is (hl : l.length ≤ 4611686018427387904) (k : Nat) (hk : 2 * l.length + 20 ≤ k) : ipv6_check.j1 k false c lb h n v s1 s2 w d1 d2 l fr id off mo p = some (if okFrag fr id off mo then (if (l.length : Int) > 8 then 9 else if okEs 0 l = true then 0 else 2) else 4) := by
  obtain ⟨j, rfl⟩ : ∃ j, k = (j + 1) + 1 := ⟨k - 2, by omega⟩
  rw [ipv6_check.j1]
  rw [if_neg (by decide)]
  cases fr with
  | true =>
    rw [if_pos rfl, within1 _ _ _ (by omega)]
    simp only [bs]
    by_cases a : 0 ≤ id ∧ id ≤ 4294967295
    · rw [if_pos (by simpa using a), within1 _ _ _ (by omega)]
      simp only [bs]
      by_cases b : 0 ≤ off ∧ off ≤ 65528
      · rw [if_pos (by simpa using b)]
        by_cases d : Int.tmod off 8 = 0
        · rw [show ((Int.tmod off 8) != 0) = false from bne_eq_false_iff_eq.mpr d, j2_is (hl := hl) (hk := by omega), if_pos (show (true = true ∨ (id = 0 ∧ off = 0 ∧ mo = false)) from .inl rfl), if_pos (show okFrag true id off mo by unfold okFrag; rw [if_pos rfl]; exact ⟨a, b, d⟩)]
        · rw [show ((Int.tmod off 8) != 0) = true from bne_iff_ne.mpr d, j2_no, if_neg (by unfold okFrag; rw [if_pos rfl]; exact fun h => d h.2.2)]
      · rw [if_neg (by simpa using b), j2_no, if_neg (by unfold okFrag; rw [if_pos rfl]; exact fun h => b h.2.1)]
    · rw [if_neg (by simpa using a), j2_no, if_neg (by unfold okFrag; rw [if_pos rfl]; exact fun h => a h.1)]
  | false =>
    rw [if_neg (by decide), j2_is (hl := hl) (hk := by omega)]
    have : okFrag false id off mo ↔ (false = true ∨ (id = 0 ∧ off = 0 ∧ mo = false)) := by unfold okFrag; simp
    by_cases q : okFrag false id off mo
    · rw [if_pos q, if_pos (this.mp q)]
    · rw [if_neg q, if_neg (fun z => q (this.mpr z))]
theorem j0_is (hl : l.length ≤ 4611686018427387904) (k : Nat) (hk : 2 * l.length + 22 ≤ k) : ipv6_check.j0 k false c lb h n v s1 s2 w d1 d2 l fr id off mo p = some (if okEnd n v w ∧ okFrag fr id off mo then (if (l.length : Int) > 8 then 9 else if okEs 0 l = true then 0 else 2) else 4) := by
  obtain ⟨j, rfl⟩ : ∃ j, k = (j + 1) + 1 := ⟨k - 2, by omega⟩
  rw [ipv6_check.j0]
  rw [if_neg (by decide), ext_is]
  simp only [bs]
  by_cases a : isExt n
  · rw [if_pos (by simpa using a), j1_no, if_neg (fun z => z.1.1 a)]
  · rw [if_neg (by simpa using a)]
    by_cases b : n = 44
    · rw [if_pos b, j1_no, if_neg (fun z => z.1.2.1 b)]
    · rw [if_neg b]
      cases v with
      | false => rw [if_neg (by decide), j1_no, if_neg (fun z => by have := z.1.2.2.1; cases this)]
      | true =>
        rw [if_pos rfl]
        cases w with
        | false => rw [show (!false) = true from rfl, j1_no, if_neg (fun z => by have := z.1.2.2.2; cases this)]
        | true =>
          rw [show (!true) = false from rfl, j1_is (hl := hl) (hk := by omega)]
          by_cases q : okFrag fr id off mo
          · rw [if_pos q, if_pos (show okEnd n true true ∧ okFrag fr id off mo from ⟨⟨a, b, rfl, rfl⟩, q⟩)]
          · rw [if_neg q, if_neg (fun z => q z.2)]
theorem check_is (hl : l.length ≤ 4611686018427387904) (k : Nat) (hk : 2 * l.length + 30 ≤ k) : ipv6_check.f k c lb h n v s1 s2 w d1 d2 l fr id off mo p = some (chkOf c lb h n v w l fr id off mo) := by
  obtain ⟨j, rfl⟩ : ∃ j, k = j + 1 := ⟨k - 1, by omega⟩
  unfold ipv6_check.f chkOf
  have no : ¬ okNum c lb h n → ¬ okAll c lb h n v w fr id off mo := fun z y => z (by unfold okAll at y; exact y.1)
  rw [within3 _ _ _ _ _ (by omega)]
  simp only [bs]
  by_cases a : (0 ≤ c ∧ c ≤ 255) ∧ (0 ≤ h ∧ h ≤ 255) ∧ (0 ≤ n ∧ n ≤ 255)
  · rw [if_pos (by simpa using a), within1 _ _ _ (by omega)]
    simp only [bs]
    by_cases b : 0 ≤ lb ∧ lb ≤ 1048575
    · have hN : okNum c lb h n := by unfold okNum; exact ⟨a, b⟩
      rw [show (!decide (0 ≤ lb ∧ lb ≤ 1048575)) = false by simp [b], j0_is (hl := hl) (hk := by omega)]
      by_cases q : okEnd n v w ∧ okFrag fr id off mo
      · rw [if_pos q, if_pos (show okAll c lb h n v w fr id off mo by unfold okAll; exact ⟨hN, q⟩)]
      · rw [if_neg q, if_neg (show ¬ okAll c lb h n v w fr id off mo by unfold okAll; exact fun z => q z.2)]
    · rw [show (!decide (0 ≤ lb ∧ lb ≤ 1048575)) = true by simp [b], j0_no, if_neg (no (by unfold okNum; exact fun z => b z.2))]
  · rw [if_neg (by simpa using a), j0_no, if_neg (no (by unfold okNum; exact fun z => a z.1))]
end
end Go.Proofs.Ytljboandbjahdaa.Pure
