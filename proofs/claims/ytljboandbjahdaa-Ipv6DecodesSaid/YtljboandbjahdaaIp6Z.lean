/- Bytes to addresses: what the document's function computes. -/
import Derived.Test.YtljboandbjahdaaIp06
import Derived.Test.YtljboandbjahdaaX17
namespace Go.Proofs.Ytljboandbjahdaa.Pure
open Go.RowKit Go.Proofs.Ytljboandbjahdaa.X Go.Proofs.YtljboandbjahdaaW.PrintWords Go.Proofs.YtljboandbjahdaaW.PrintLast Go.Proofs.YtljboandbjahdaaW.PrintMore

theorem rF_loop4 (s : ByteArray) (h4 : s.size = 4) : ∀ (m i k : Nat), i + m = 4 →
    intrusionref06_FromBytes.l0 (k + m + 1) s i false 0 (valBE ((bytesOf s).take i)) = some (false, 0, valBE (bytesOf s), 0)
  | 0, i, k, h => by
    have hl := bytesOf_length s
    unfold intrusionref06_FromBytes.l0
    rw [if_neg (by omega), List.take_of_length_le (by omega)]
  | m + 1, i, k, h => by
    have hl := bytesOf_length s
    rw [show k + (m + 1) + 1 = (k + m + 1) + 1 by omega]
    unfold intrusionref06_FromBytes.l0
    rw [if_pos (by omega), if_neg (by decide), if_pos (by omega), wu64 (n := bt s (i : Int)) (bt_range s i).1 (by have := (bt_range s i).2; omega), bt_get s i (by omega), val_step _ (bytesOf_range s) i (by omega) (by omega), w64 (n := (i : Int) + 1) (by omega) (by omega), show (i : Int) + 1 = ((i + 1 : Nat) : Int) by omega]
    exact rF_loop4 s h4 m (i + 1) k (by omega)
theorem rF_loop16b (s : ByteArray) (h16 : s.size = 16) (hi : Int) : ∀ (m i k : Nat), i + m = 8 →
    intrusionref06_FromBytes.l0 (k + m + 1) s ((8 + i : Nat) : Int) true hi (valBE (((bytesOf s).drop 8).take i)) = some (true, hi, valBE ((bytesOf s).drop 8), 0)
  | 0, i, k, h => by
    have hl := bytesOf_length s
    unfold intrusionref06_FromBytes.l0
    rw [if_neg (by omega), List.take_of_length_le (by simp; omega)]
  | m + 1, i, k, h => by
    have hl := bytesOf_length s
    have hd : ((bytesOf s).drop 8).length = 8 := by simp; omega
    have hb : bt s ((8 + i : Nat) : Int) = ((bytesOf s).drop 8)[i]'(by omega) := by rw [bt_get s (8 + i) (by omega)]; simp
    rw [show k + (m + 1) + 1 = (k + m + 1) + 1 by omega]
    unfold intrusionref06_FromBytes.l0
    rw [if_pos (by omega), if_pos rfl, if_neg (by omega), if_pos (by omega), wu64 (n := bt s ((8 + i : Nat) : Int)) (bt_range s _).1 (by have := (bt_range s ((8 + i : Nat) : Int)).2; omega), hb, val_step _ (fun x hx => bytesOf_range s x (List.mem_of_mem_drop hx)) i (by omega) (by omega), w64 (n := ((8 + i : Nat) : Int) + 1) (by omega) (by omega), show ((8 + i : Nat) : Int) + 1 = ((8 + (i + 1) : Nat) : Int) by omega]
    exact rF_loop16b s h16 hi m (i + 1) k (by omega)
theorem rF_loop16a (s : ByteArray) (h16 : s.size = 16) : ∀ (m i k : Nat), i + m = 8 →
    intrusionref06_FromBytes.l0 (k + m + 9) s i true (valBE (((bytesOf s).take 8).take i)) 0 = some (true, valBE ((bytesOf s).take 8), valBE ((bytesOf s).drop 8), 0)
  | 0, i, k, h => by
    have hl := bytesOf_length s
    have := rF_loop16b s h16 (valBE ((bytesOf s).take 8)) 8 0 k (by omega)
    rw [show k + 0 + 9 = k + 8 + 1 by omega, show i = 8 + 0 by omega, List.take_of_length_le (l := List.take 8 (bytesOf s)) (by simp; omega)]
    simpa [valBE] using this
  | m + 1, i, k, h => by
    have hl := bytesOf_length s
    have hd : ((bytesOf s).take 8).length = 8 := by simp; omega
    have hb : bt s (i : Int) = ((bytesOf s).take 8)[i]'(by omega) := by rw [bt_get s i (by omega)]; simp
    rw [show k + (m + 1) + 9 = (k + m + 9) + 1 by omega]
    unfold intrusionref06_FromBytes.l0
    rw [if_pos (by omega), if_pos rfl, if_pos (by omega), if_pos (by omega), wu64 (n := bt s (i : Int)) (bt_range s i).1 (by have := (bt_range s i).2; omega), hb, val_step _ (fun x hx => bytesOf_range s x (List.mem_of_mem_take hx)) i (by omega) (by omega), w64 (n := (i : Int) + 1) (by omega) (by omega), show (i : Int) + 1 = ((i + 1 : Nat) : Int) by omega]
    exact rF_loop16a s h16 m (i + 1) k (by omega)
theorem rFrom4 (s : ByteArray) (h : s.size = 4) (k : Nat) (hk : 20 ≤ k) : intrusionref06_FromBytes.f k s = some (false, 0, valBE (bytesOf s), 0) := by
  obtain ⟨j, rfl⟩ : ∃ j, k = j + 4 + 1 + 1 := ⟨k - 6, by omega⟩
  unfold intrusionref06_FromBytes.f
  rw [if_pos (by omega)]
  rw [intrusionref06_FromBytes.j0]
  rw [if_neg (by decide), show ((s.size : Int) == 16) = false from beq_eq_false_iff_ne.mpr (by omega)]
  exact rF_loop4 s h 4 0 j (by omega)
theorem rFrom16 (s : ByteArray) (h : s.size = 16) (k : Nat) (hk : 20 ≤ k) : intrusionref06_FromBytes.f k s = some (true, valBE ((bytesOf s).take 8), valBE ((bytesOf s).drop 8), 0) := by
  obtain ⟨j, rfl⟩ : ∃ j, k = j + 8 + 9 + 1 := ⟨k - 18, by omega⟩
  unfold intrusionref06_FromBytes.f
  rw [if_neg (by omega), show ((s.size : Int) != 16) = false from bne_eq_false_iff_eq.mpr (by omega)]
  rw [intrusionref06_FromBytes.j0]
  rw [if_neg (by decide), show ((s.size : Int) == 16) = true from beq_iff_eq.mpr (by omega)]
  exact rF_loop16a s h 8 0 j (by omega)
end Go.Proofs.Ytljboandbjahdaa.Pure
