/- Pieces of an encoded frame. -/
import Derived.Test.YtellbiicmiljcaaDoorEther2
namespace Go.Proofs.YtellbiicmiljcaaDoor.Pure
open Go.RowKit Go.Proofs.YtellbiicmiljcaaDoor.X Go.Proofs.YtellbiicmiljcaaDoorW.PrintWords Go.Proofs.YtellbiicmiljcaaDoorW.PrintLast Go.Proofs.YtellbiicmiljcaaDoorW.PrintMore

/-- A piece of a joined string. -/
theorem piece (s : ByteArray) (a b r : List Int) (h : bytesOf s = a ++ (b ++ r)) (i j : Nat) (hi : a.length = i) (hj : i + b.length = j) : bytesOf (s.extract i j) = b := by
  rw [bytesOf_extract, h, List.drop_left' hi, List.take_left' (by omega)]
theorem rest_is (s : ByteArray) (a : List Int) (p : ByteArray) (h : bytesOf s = a ++ bytesOf p) (i : Nat) (hi : a.length = i) : s.extract i s.size = p := by
  apply bytesOf_inj
  have hs : s.size = i + p.size := by rw [size_bytes s, h, List.length_append, hi, bytesOf_length]
  have hp := bytesOf_length p
  rw [bytesOf_extract, h, List.drop_left' hi, List.take_of_length_le (by omega)]
theorem val2 (n : Int) (h0 : 0 ≤ n) (h1 : n < 65536) : valBE (beN 2 n) = n := by
  rw [valBE_beN 2 n h0]; exact Int.emod_eq_of_lt h0 (by simpa using h1)
theorem val6' (n : Int) (h0 : 0 ≤ n) (h1 : n < 281474976710656) : valBE (beN 6 n) = n := by
  rw [valBE_beN 6 n h0]; exact Int.emod_eq_of_lt h0 (by simpa using h1)
theorem headOf_range (d c : Int) (vl : List Int) (t : Int) : ∀ x ∈ headOf d c vl t, 0 ≤ x ∧ x < 256 := by
  have ht : ∀ vl : List Int, ∀ x ∈ tagsOf vl, 0 ≤ x ∧ x < 256 := by
    intro vl
    induction vl with
    | nil => intro x hx; simp [tagsOf] at hx
    | cons u r ih =>
      intro x hx
      match r, ih with
      | [], _ =>
        simp only [tagsOf, List.mem_append] at hx
        rcases hx with hx | hx <;> exact beN_range _ _ x hx
      | v :: r, ih =>
        rw [tagsOf] at hx
        simp only [List.mem_append] at hx
        rcases hx with (hx | hx) | hx
        · exact beN_range _ _ x hx
        · exact beN_range _ _ x hx
        · exact ih x hx
  intro x hx
  simp only [headOf, List.mem_append] at hx
  rcases hx with ((hx | hx) | hx) | hx
  · exact beN_range _ _ x hx
  · exact beN_range _ _ x hx
  · exact ht vl x hx
  · exact beN_range _ _ x hx
theorem tags_len : ∀ vl : List Int, (tagsOf vl).length = 4 * vl.length
  | [] => rfl
  | [v] => by simp [tagsOf, beN_length]
  | u :: v :: r => by
    rw [tagsOf, List.length_append, List.length_append, beN_length, beN_length, tags_len (v :: r)]
    simp; omega
end Go.Proofs.YtellbiicmiljcaaDoor.Pure
