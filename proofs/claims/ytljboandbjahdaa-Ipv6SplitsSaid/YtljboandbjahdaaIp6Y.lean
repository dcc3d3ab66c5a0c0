/- Addresses to bytes: what the document's function computes. -/
import Derived.Test.YtljboandbjahdaaIp06
import Derived.Test.YtljboandbjahdaaX15
namespace Go.Proofs.Ytljboandbjahdaa.Pure
open Go.RowKit Go.Proofs.Ytljboandbjahdaa.X Go.Proofs.YtljboandbjahdaaW.PrintWords Go.Proofs.YtljboandbjahdaaW.PrintLast Go.Proofs.YtljboandbjahdaaW.PrintMore

theorem rB_loop1 (v : Bool) (hi lo : Int) : ∀ (m k : Nat) (x : List Int), m ≤ 8 → x.length ≤ 16 - m →
    intrusionref06_Bytes.l1 (k + m + 1) x ((m : Int) - 1) v hi lo = some (strOfNums (x ++ beN m lo))
  | 0, k, x, h, hx => by
    unfold intrusionref06_Bytes.l1
    rw [if_neg (by omega)]
    simp [beN]
  | m + 1, k, x, h, hx => by
    rw [show k + (m + 1) + 1 = (k + m + 1) + 1 by omega]
    unfold intrusionref06_Bytes.l1
    rw [show ((m + 1 : Nat) : Int) - 1 = (m : Int) by omega, w64 (n := 8 * (m : Int)) (by omega) (by omega), wu64 (n := 8 * (m : Int)) (by omega) (by omega), w64 (n := (m : Int) - 1) (by omega) (by omega),
      if_pos (by omega), if_pos (by omega), if_pos (by omega), shrU64 lo m (by omega), rB_loop1 v hi lo m k _ (by omega) (by simp; omega)]
    simp [beN]
theorem rB_loop0 (v : Bool) (hi lo : Int) : ∀ (m k : Nat) (x : List Int), m ≤ 8 → x.length ≤ 8 - m →
    intrusionref06_Bytes.l0 (k + m + 10) x ((m : Int) - 1) v hi lo = some (strOfNums (x ++ beN m hi ++ beN 8 lo))
  | 0, k, x, h, hx => by
    rw [show k + 0 + 10 = (k + 8 + 1) + 1 by omega]
    unfold intrusionref06_Bytes.l0
    rw [if_neg (by omega)]
    have := rB_loop1 v hi lo 8 k x (by omega) (by omega)
    rw [show ((8 : Nat) : Int) - 1 = 7 by omega] at this
    rw [this]
    simp [beN]
  | m + 1, k, x, h, hx => by
    rw [show k + (m + 1) + 10 = (k + m + 10) + 1 by omega]
    unfold intrusionref06_Bytes.l0
    rw [show ((m + 1 : Nat) : Int) - 1 = (m : Int) by omega, w64 (n := 8 * (m : Int)) (by omega) (by omega), wu64 (n := 8 * (m : Int)) (by omega) (by omega), w64 (n := (m : Int) - 1) (by omega) (by omega),
      if_pos (by omega), if_pos (by omega), if_pos (by omega), shrU64 hi m (by omega), rB_loop0 v hi lo m k _ (by omega) (by simp; omega)]
    simp [beN]
theorem rB_loop2 (v : Bool) (hi lo : Int) : ∀ (m k : Nat) (x : List Int), m ≤ 4 → x.length ≤ 4 - m →
    intrusionref06_Bytes.l2 (k + m + 1) x ((m : Int) - 1) v hi lo = some (strOfNums (x ++ beN m lo))
  | 0, k, x, h, hx => by
    unfold intrusionref06_Bytes.l2
    rw [if_neg (by omega)]
    simp [beN]
  | m + 1, k, x, h, hx => by
    rw [show k + (m + 1) + 1 = (k + m + 1) + 1 by omega]
    unfold intrusionref06_Bytes.l2
    rw [show ((m + 1 : Nat) : Int) - 1 = (m : Int) by omega, w64 (n := 8 * (m : Int)) (by omega) (by omega), wu64 (n := 8 * (m : Int)) (by omega) (by omega), w64 (n := (m : Int) - 1) (by omega) (by omega),
      if_pos (by omega), if_pos (by omega), if_pos (by omega), shrU64 lo m (by omega), rB_loop2 v hi lo m k _ (by omega) (by simp; omega)]
    simp [beN]
theorem rBytes_is (v6 : Bool) (hi lo : Int) (k : Nat) (hk : 20 ≤ k) : intrusionref06_Bytes.f k v6 hi lo = some (strOfNums (adrB v6 hi lo)) := by
  unfold intrusionref06_Bytes.f adrB
  split
  · have h := rB_loop0 v6 hi lo 8 (k - 18) [] (by omega) (by simp)
    rw [show k - 18 + 8 + 10 = k by omega, show ((8 : Nat) : Int) - 1 = 7 by omega] at h
    rw [h]; simp
  · have h := rB_loop2 v6 hi lo 4 (k - 5) [] (by omega) (by simp)
    rw [show k - 5 + 4 + 1 = k by omega, show ((4 : Nat) : Int) - 1 = 3 by omega] at h
    rw [h]; simp
end Go.Proofs.Ytljboandbjahdaa.Pure
