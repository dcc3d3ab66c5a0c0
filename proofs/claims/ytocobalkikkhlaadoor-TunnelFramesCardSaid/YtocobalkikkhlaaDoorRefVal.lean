/- What the document's Value of layer 1 computes, in closed form. -/
import Derived.Test.YtocobalkikkhlaaDoorField
import Derived.Test.YtocobalkikkhlaaDoorX11
namespace Go.Proofs.YtocobalkikkhlaaDoor.Pure
open Go.RowKit Go.Proofs.YtocobalkikkhlaaDoor.X Go.Proofs.YtocobalkikkhlaaDoorW.PrintWords Go.Proofs.YtocobalkikkhlaaDoorW.PrintLast Go.Proofs.YtocobalkikkhlaaDoorW.PrintMore

theorem getD_bt (s : ByteArray) (i : Nat) (h : i < s.size) : bt s (i : Int) = (bytesOf s)[i]'(by rw [bytesOf_length]; exact h) := by
  rw [bt_eq, List.getD_eq_getElem?_getD, List.getElem?_eq_getElem (by rw [bytesOf_length]; exact h)]
  rfl
theorem value_loop (s : ByteArray) (h7 : s.size ≤ 7) : ∀ (m i k : Nat), i + m = s.size →
    intrusionref01_Value.l0 (k + m + 1) s (valBE ((bytesOf s).take i)) i = some (valBE (bytesOf s))
  | 0, i, k, h => by
    have hlen := bytesOf_length s
    unfold intrusionref01_Value.l0
    rw [if_neg (by omega), List.take_of_length_le (by omega)]
  | m + 1, i, k, h => by
    rw [show k + (m + 1) + 1 = (k + m + 1) + 1 by omega]
    have hlen := bytesOf_length s
    have hlt : i < (bytesOf s).length := by omega
    have hl := bytesOf_range s
    generalize hL : bytesOf s = l at *
    have ht : l.take (i + 1) = l.take i ++ [l[i]] := by rw [List.take_add_one]; simp [hlt]
    have e : valBE (l.take (i + 1)) = valBE (l.take i) * 256 + l[i] := by
      rw [ht]; unfold valBE; rw [List.foldl_append]; rfl
    have hr := valBE_range (l.take i) (fun x hx => hl x (List.mem_of_mem_take hx))
    have hc := hl l[i] (List.getElem_mem hlt)
    have hpow : (256 : Int) ^ (l.take i).length ≤ 281474976710656 := by
      have h6 : (l.take i).length ≤ 6 := by simp; omega
      have hn : 256 ^ (l.take i).length ≤ 281474976710656 := Nat.le_trans (Nat.pow_le_pow_right (by decide) h6) (by decide)
      have hc : ((256 ^ (l.take i).length : Nat) : Int) = (256 : Int) ^ (l.take i).length := Int.natCast_pow 256 _
      omega
    have hbt : bt s (i : Int) = l[i] := by rw [getD_bt s i (by omega)]; simp [hL]
    unfold intrusionref01_Value.l0
    rw [if_pos (by omega), if_pos (by omega), hbt, w64 (n := l[i]) (by omega) (by omega), w64 (n := valBE (l.take i) * 256) (by omega) (by omega), w64 (n := valBE (l.take i) * 256 + l[i]) (by omega) (by omega), w64 (n := (i : Int) + 1) (by omega) (by omega), ← e,
      show (i : Int) + 1 = ((i + 1 : Nat) : Int) by omega]
    have := value_loop s h7 m (i + 1) k (by omega)
    rw [hL] at this
    exact this
theorem value_is (s : ByteArray) (h7 : s.size ≤ 7) (k : Nat) (hk : 8 ≤ k) : intrusionref01_Value.f k s = some (valBE (bytesOf s)) := by
  have h := value_loop s h7 s.size 0 (k - s.size - 1) (by omega)
  rw [show k - s.size - 1 + s.size + 1 = k by omega] at h
  unfold intrusionref01_Value.f
  simpa [valBE] using h
end Go.Proofs.YtocobalkikkhlaaDoor.Pure
