/- Which packets of layer 12 can be encoded: what the document's look computes, in closed form. -/
import Derived.Test.YtljboandbjahdaaIp6X
import Derived.Test.YtljboandbjahdaaX15
import Derived.Test.YtljboandbjahdaaX16
namespace Go.Proofs.Ytljboandbjahdaa.Pure
open Go.RowKit Go.Proofs.Ytljboandbjahdaa.X Go.Proofs.YtljboandbjahdaaW.PrintWords Go.Proofs.YtljboandbjahdaaW.PrintLast Go.Proofs.YtljboandbjahdaaW.PrintMore

section
variable (c lb h n : Int) (v : Bool) (s1 s2 : Int) (w : Bool) (d1 d2 : Int) (l : List S60) (fr : Bool) (id off : Int) (mo : Bool) (p : ByteArray)
theorem rj0_no (k : Nat) : intrusionref12_ranges.j0 (k + 1) true c lb h n v s1 s2 w d1 d2 l fr id off mo p = some false := by rw [intrusionref12_ranges.j0, if_pos rfl]
theorem rj0_is (k : Nat) : intrusionref12_ranges.j0 (k + 1) false c lb h n v s1 s2 w d1 d2 l fr id off mo p = some (decide (okFrag fr id off mo)) := by
  rw [intrusionref12_ranges.j0, if_neg (by decide)]
  cases fr with
  | true =>
    have q : okFrag true id off mo ↔ ((0 ≤ id ∧ id ≤ 4294967295) ∧ (0 ≤ off ∧ off ≤ 65528) ∧ Int.tmod off 8 = 0) := by unfold okFrag; rw [if_pos rfl]
    rw [if_pos rfl]
    by_cases a : id ≥ 0
    · rw [if_pos a]
      by_cases b : id < 4294967296
      · rw [if_pos b]
        by_cases d : off ≥ 0
        · rw [if_pos d]
          by_cases e : off ≤ 65528
          · rw [if_pos e]
            congr 1
            rw [Bool.eq_iff_iff, beq_iff_eq, decide_eq_true_iff, q]
            constructor
            · intro z; exact ⟨⟨by omega, by omega⟩, ⟨by omega, e⟩, z⟩
            · intro z; exact z.2.2
          · rw [if_neg e, decide_eq_false (fun y => by have z := q.mp y; exact e z.2.1.2)]
        · rw [if_neg d, decide_eq_false (fun y => by have z := q.mp y; exact d z.2.1.1)]
      · rw [if_neg b, decide_eq_false (fun y => by have z := q.mp y; exact b (by have := z.1.2; omega))]
    · rw [if_neg a, decide_eq_false (fun y => by have z := q.mp y; exact a z.1.1)]
  | false =>
    have q : okFrag false id off mo ↔ (id = 0 ∧ off = 0 ∧ mo = false) := by unfold okFrag; rw [if_neg (by decide)]
    rw [if_neg (by decide)]
    by_cases a : id = 0
    · rw [if_pos a]
      by_cases b : off = 0
      · rw [if_pos b]
        congr 1; rw [Bool.eq_iff_iff, decide_eq_true_iff, q]; cases mo <;> simp [a, b]
      · rw [if_neg b, decide_eq_false (fun y => b (q.mp y).2.1)]
    · rw [if_neg a, decide_eq_false (fun y => a (q.mp y).1)]
theorem ranges_is (k : Nat) (hk : 1 ≤ k) : intrusionref12_ranges.f k c lb h n v s1 s2 w d1 d2 l fr id off mo p = some (decide (okAll c lb h n v w fr id off mo)) := by
  obtain ⟨j, rfl⟩ : ∃ j, k = j + 1 := ⟨k - 1, by omega⟩
  unfold intrusionref12_ranges.f
  have nN : ¬ okNum c lb h n → some false = some (decide (okAll c lb h n v w fr id off mo)) := fun z => by rw [decide_eq_false (fun y => z (by unfold okAll at y; exact y.1))]
  have nE : ¬ okEnd n v w → some false = some (decide (okAll c lb h n v w fr id off mo)) := fun z => by rw [decide_eq_false (fun y => z (by unfold okAll at y; exact y.2.1))]
  by_cases a1 : c < 0
  · rw [if_pos a1, rj0_no]; exact nN (by unfold okNum; omega)
  rw [if_neg a1]
  by_cases a2 : c > 255
  · rw [if_pos a2, rj0_no]; exact nN (by unfold okNum; omega)
  rw [if_neg a2]
  by_cases a3 : h < 0
  · rw [if_pos a3, rj0_no]; exact nN (by unfold okNum; omega)
  rw [if_neg a3]
  by_cases a4 : h > 255
  · rw [if_pos a4, rj0_no]; exact nN (by unfold okNum; omega)
  rw [if_neg a4]
  by_cases a5 : lb < 0
  · rw [if_pos a5, rj0_no]; exact nN (by unfold okNum; omega)
  rw [if_neg a5]
  by_cases a6 : lb > 1048575
  · rw [if_pos a6, rj0_no]; exact nN (by unfold okNum; omega)
  rw [if_neg a6]
  by_cases a7 : n < 0
  · rw [if_pos a7, rj0_no]; exact nN (by unfold okNum; omega)
  rw [if_neg a7]
  by_cases a8 : n > 255
  · rw [if_pos a8, rj0_no]; exact nN (by unfold okNum; omega)
  rw [if_neg a8, rext_is]
  simp only [bs]
  have hN : okNum c lb h n := by unfold okNum; omega
  by_cases a : isExt n
  · rw [if_pos (by simpa using a), rj0_no]
    exact nE (fun z => by unfold okEnd at z; exact z.1 a)
  · rw [if_neg (by simpa using a)]
    by_cases b : n = 44
    · rw [if_pos b, rj0_no]
      exact nE (fun z => by unfold okEnd at z; exact z.2.1 b)
    · rw [if_neg b]
      cases v with
      | false => rw [if_neg (by decide), rj0_no]; exact nE (fun z => by unfold okEnd at z; have := z.2.2.1; cases this)
      | true =>
        rw [if_pos rfl]
        cases w with
        | false => rw [show (!false) = true from rfl, rj0_no]; exact nE (fun z => by unfold okEnd at z; have := z.2.2.2; cases this)
        | true =>
          rw [show (!true) = false from rfl, rj0_is]
          congr 1
          apply decide_eq_decide.mpr
          unfold okAll
          constructor
          · intro q; exact ⟨hN, by unfold okEnd; exact ⟨a, b, rfl, rfl⟩, q⟩
          · intro q; exact q.2.2
end
end Go.Proofs.Ytljboandbjahdaa.Pure
