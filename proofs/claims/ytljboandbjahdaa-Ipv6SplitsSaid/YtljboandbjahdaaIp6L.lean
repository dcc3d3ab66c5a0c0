/- Split of layer 12 in closed form: what the program computes; for packets of at most ten extension headers and 66000 bytes of payload. -/
import Derived.Test.YtljboandbjahdaaIp6E
import Derived.Test.YtljboandbjahdaaX10
set_option linter.unusedVariables false
set_option linter.unusedSimpArgs false
namespace Go.Proofs.Ytljboandbjahdaa.Pure
open Go.RowKit Go.Proofs.Ytljboandbjahdaa.X Go.Proofs.YtljboandbjahdaaW.PrintWords Go.Proofs.YtljboandbjahdaaW.PrintLast Go.Proofs.YtljboandbjahdaaW.PrintMore

section
variable (c lb h n : Int) (v : Bool) (s1 s2 : Int) (w : Bool) (d1 d2 : Int) (l : List S60) (p : ByteArray) (sz id : Int)
/-- The part from 'at' to 'e'. -/
def partE (a e : Nat) : S28 := ⟨c, lb, h, n, ⟨v, s1, s2⟩, ⟨w, d1, d2⟩, l, true, id, (a : Int), decide ((e : Int) < (p.size : Int)), p.extract a e⟩
def endOf (p : ByteArray) (sz : Int) (a : Nat) : Nat := min (a + sz.toNat) p.size
def errE (a e : Nat) : Int := (encOf c lb h n v s1 s2 w d1 d2 l true id (a : Int) (decide ((e : Int) < (p.size : Int))) (p.extract a e)).2
/-- The parts from 'at' on, behind those that stand. -/
def splitL : Nat → Nat → List S28 → List S28 × Int
  | 0, _, _ => ([], 7)
  | m + 1, a, out =>
    if a = 0 ∨ a < p.size then
      (if errE c lb h n v s1 s2 w d1 d2 l p id a (endOf p sz a) = 0 then
        (if endOf p sz a = a then (out ++ [partE c lb h n v s1 s2 w d1 d2 l p id a (endOf p sz a)], 0) else splitL m (endOf p sz a) (out ++ [partE c lb h n v s1 s2 w d1 d2 l p id a (endOf p sz a)]))
       else ([], errE c lb h n v s1 s2 w d1 d2 l p id a (endOf p sz a)))
    else (out, 0)
theorem splitL_len : ∀ (m a : Nat) (out : List S28), (splitL c lb h n v s1 s2 w d1 d2 l p sz id m a out).1.length ≤ out.length + m
  | 0, a, out => by simp [splitL]
  | m + 1, a, out => by
    unfold splitL
    split
    · split
      · split
        · simp <;> omega
        · have := splitL_len m (endOf p sz a) (out ++ [partE c lb h n v s1 s2 w d1 d2 l p id a (endOf p sz a)])
          simp at this ⊢
          omega
      · simp
    · simp <;> omega
theorem splitL_all (q : List S60 → Prop) (hq : q l) : ∀ (m a : Nat) (out : List S28), (∀ x ∈ out, q x.f6) → ∀ x ∈ (splitL c lb h n v s1 s2 w d1 d2 l p sz id m a out).1, q x.f6
  | 0, a, out, ho => by simp [splitL]
  | m + 1, a, out, ho => by
    have ho' : ∀ x ∈ out ++ [partE c lb h n v s1 s2 w d1 d2 l p id a (endOf p sz a)], q x.f6 := by
      intro x hx
      rcases List.mem_append.mp hx with hx | hx
      · exact ho x hx
      · simp only [List.mem_cons, List.not_mem_nil, or_false] at hx
        subst hx
        exact hq
    unfold splitL
    split
    · split
      · split
        · exact ho'
        · exact splitL_all q hq m (endOf p sz a) _ ho'
      · simp
    · exact ho
variable (fr : Bool) (id0 off : Int) (mo : Bool)
theorem split_loop (hl : l.length ≤ 10) (hp : p.size ≤ 66000) (hsz : 1 ≤ sz) (hs2 : sz < 9223372036854775808) : ∀ (m k a : Nat) (out : List S28), a ≤ p.size → out.length ≤ a → p.size < a + m →
    ipv6_Split.l0 (k + 3 * m + 200) sz id out (a : Int) c lb h n v s1 s2 w d1 d2 l fr id0 off mo p = some (splitL c lb h n v s1 s2 w d1 d2 l p sz id m a out)
  | 0, k, a, out, ha, _, hm => by omega
  | m + 1, k, a, out, ha, hout, hm => by
    rw [show k + 3 * (m + 1) + 200 = (k + 3 * m + 200) + 1 + 1 + 1 by omega, ipv6_Split.l0]
    have hj : (if (a : Int) = 0 then ipv6_Split.j2 (k + 3 * m + 200 + 1 + 1) sz id out (a : Int) true c lb h n v s1 s2 w d1 d2 l fr id0 off mo p else ipv6_Split.j2 (k + 3 * m + 200 + 1 + 1) sz id out (a : Int) (decide ((a : Int) < (p.size : Int))) c lb h n v s1 s2 w d1 d2 l fr id0 off mo p)
        = ipv6_Split.j2 (k + 3 * m + 200 + 1 + 1) sz id out (a : Int) (decide (a = 0 ∨ a < p.size)) c lb h n v s1 s2 w d1 d2 l fr id0 off mo p := by
      by_cases z : a = 0
      · rw [if_pos (by omega), decide_eq_true (show a = 0 ∨ a < p.size from .inl z)]
      · rw [if_neg (by omega)]
        congr 1
        apply decide_eq_decide.mpr
        omega
    rw [hj, ipv6_Split.j2]
    unfold splitL
    by_cases hc : a = 0 ∨ a < p.size
    · rw [if_pos (decide_eq_true hc), if_pos hc]
      have he : endOf p sz a ≤ p.size ∧ a ≤ endOf p sz a := by unfold endOf; omega
      have hj3 : (if sz < wrap64 ((p.size : Int) - (a : Int)) then ipv6_Split.j3 (k + 3 * m + 200 + 1) sz id out (a : Int) (wrap64 ((a : Int) + sz)) c lb h n v s1 s2 w d1 d2 l fr id0 off mo p else ipv6_Split.j3 (k + 3 * m + 200 + 1) sz id out (a : Int) (p.size : Int) c lb h n v s1 s2 w d1 d2 l fr id0 off mo p)
          = ipv6_Split.j3 (k + 3 * m + 200 + 1) sz id out (a : Int) ((endOf p sz a : Nat) : Int) c lb h n v s1 s2 w d1 d2 l fr id0 off mo p := by
        rw [w64 (n := (p.size : Int) - (a : Int)) (by omega) (by omega)]
        by_cases z : sz < (p.size : Int) - (a : Int)
        · rw [if_pos z, w64 (n := (a : Int) + sz) (by omega) (by omega), show (a : Int) + sz = ((endOf p sz a : Nat) : Int) by unfold endOf; omega]
        · rw [if_neg z, show (p.size : Int) = ((endOf p sz a : Nat) : Int) by unfold endOf; omega]
      rw [hj3, ipv6_Split.j3]
      generalize hE : endOf p sz a = E at he
      have hz : (p.extract a E).size ≤ 66000 := by rw [ByteArray.size_extract]; omega
      simp only [bs]
      rw [if_pos (by simp; omega)]
      simp only [bs, List.nil_append]
      rw [if_pos (by omega), if_pos (by omega), if_pos (by omega), Int.toNat_natCast, Int.toNat_natCast, encode_is c lb h n v s1 s2 w d1 d2 l true id (a : Int) _ (p.extract a E) (by omega) (by omega) (k + 3 * m + 200) (by omega)]
      simp only [bs]
      unfold errE
      by_cases h0 : (encOf c lb h n v s1 s2 w d1 d2 l true id (a : Int) (decide ((E : Int) < (p.size : Int))) (p.extract a E)).2 = 0
      · rw [if_pos h0, if_pos h0, if_pos (by omega)]
        by_cases hEa : E = a
        · rw [if_pos (by omega), if_pos hEa]
          rfl
        · rw [if_neg (by omega), if_neg hEa, split_loop hl hp hsz hs2 m k E _ (by omega) (by simp; omega) (by omega)]
          rfl
      · rw [if_neg h0, if_neg h0]
    · rw [if_neg (by rw [decide_eq_true_iff]; exact hc), if_neg hc]
/-- What Split answers. -/
def splitOf (m : Nat) : List S28 × Int :=
  if (encOf c lb h n v s1 s2 w d1 d2 l fr id0 off mo p).2 = 0 then
    (if 1 ≤ sz ∧ Int.tmod sz 8 = 0 ∧ 0 ≤ id ∧ id ≤ 4294967295 then (if fr = true then ([], 10) else splitL c lb h n v s1 s2 w d1 d2 l p sz id m 0 []) else ([], 4))
  else ([], (encOf c lb h n v s1 s2 w d1 d2 l fr id0 off mo p).2)
theorem split_is (hl : l.length ≤ 10) (hp : p.size ≤ 66000) (hs2 : sz < 9223372036854775808) (m k : Nat) (hm : 66000 < m) (hk : 3 * m + 300 ≤ k) :
    ipv6_Split.f k c lb h n v s1 s2 w d1 d2 l fr id0 off mo p sz id = some (splitOf c lb h n v s1 s2 w d1 d2 l p sz id fr id0 off mo m) := by
  obtain ⟨j, rfl⟩ : ∃ j, k = (j + 3 * m + 200) + 1 := ⟨k - 3 * m - 201, by omega⟩
  unfold ipv6_Split.f splitOf
  rw [encode_is c lb h n v s1 s2 w d1 d2 l fr id0 off mo p (by omega) (by omega) _ (by omega)]
  simp only [bs]
  by_cases h0 : (encOf c lb h n v s1 s2 w d1 d2 l fr id0 off mo p).2 = 0
  · rw [if_pos h0, if_pos h0]
    have no : ipv6_Split.j0 (j + 3 * m + 200 + 1) sz id true c lb h n v s1 s2 w d1 d2 l fr id0 off mo p = some ([], 4) := by rw [ipv6_Split.j0, if_pos rfl]
    by_cases a : sz < 1
    · rw [if_pos a, no, if_neg (fun z => by omega)]
    · rw [if_neg a]
      by_cases b : Int.tmod sz 8 = 0
      · rw [if_pos b, within1 _ _ _ (by omega)]
        simp only [bs]
        by_cases q : 0 ≤ id ∧ id ≤ 4294967295
        · rw [show (!decide (0 ≤ id ∧ id ≤ 4294967295)) = false by simp [q], if_pos (show 1 ≤ sz ∧ Int.tmod sz 8 = 0 ∧ 0 ≤ id ∧ id ≤ 4294967295 from ⟨by omega, b, q⟩), ipv6_Split.j0, if_neg (by decide)]
          cases fr with
          | true => rw [if_pos rfl, if_pos rfl]
          | false =>
            rw [if_neg (by decide), if_neg (by decide)]
            exact split_loop c lb h n v s1 s2 w d1 d2 l p sz id false id0 off mo hl hp (by omega) hs2 m j 0 [] (by omega) (by simp) (by omega)
        · rw [show (!decide (0 ≤ id ∧ id ≤ 4294967295)) = true by simp [q], no, if_neg (fun z => q z.2.2)]
      · rw [if_neg b, no, if_neg (fun z => b z.2.1)]
  · rw [if_neg h0, if_neg h0]
end
end Go.Proofs.Ytljboandbjahdaa.Pure
