/- The parts of an encoded datagram. -/
import Derived.Test.YtdjbmfjeplheiaaDoorUdpE
namespace Go.Proofs.YtdjbmfjeplheiaaDoor.Pure
open Go.RowKit Go.Proofs.YtdjbmfjeplheiaaDoor.X Go.Proofs.YtdjbmfjeplheiaaDoorW.PrintWords Go.Proofs.YtdjbmfjeplheiaaDoorW.PrintLast Go.Proofs.YtdjbmfjeplheiaaDoorW.PrintMore

/-- A piece of a joined string. -/
theorem piece (s : ByteArray) (a b r : List Int) (h : bytesOf s = a ++ (b ++ r)) (i j : Nat) (hi : a.length = i) (hj : i + b.length = j) : bytesOf (s.extract i j) = b := by
  rw [bytesOf_extract, h, List.drop_left' hi, List.take_left' (by omega)]
theorem val2 (n : Int) (h0 : 0 ≤ n) (h1 : n < 65536) : valBE (beN 2 n) = n := by
  rw [valBE_beN 2 n h0]; exact Int.emod_eq_of_lt h0 (by simpa using h1)
/-- An encoded datagram's parts. -/
theorem parts (sp dp c : Int) (p after : ByteArray) (s1 : 0 ≤ sp) (s2 : sp < 65536) (d1 : 0 ≤ dp) (d2 : dp < 65536) (c1 : 0 ≤ c) (c2 : c < 65536) (hp : p.size ≤ 65507) :
    let s := strOfNums (hd6 sp dp (8 + p.size) ++ beN 2 c) ++ p ++ after
    W s 0 = sp ∧ W s 2 = dp ∧ W s 4 = 8 + p.size ∧ W s 6 = c ∧ s.extract 0 (8 + p.size) = strOfNums (hd6 sp dp (8 + p.size) ++ beN 2 c) ++ p ∧ s.extract 8 (8 + p.size) = p ∧ s.size = 8 + p.size + after.size := by
  intro s
  have L2 : ∀ x : Int, (beN 2 x).length = 2 := beN_length 2
  have hr : ∀ x ∈ hd6 sp dp (8 + p.size) ++ beN 2 c, 0 ≤ x ∧ x < 256 := by
    intro x hx
    rcases List.mem_append.mp hx with hx | hx
    · exact hd6_range _ _ _ x hx
    · exact beN_range _ _ x hx
  have hb : bytesOf s = beN 2 sp ++ beN 2 dp ++ beN 2 (8 + p.size) ++ beN 2 c ++ bytesOf p ++ bytesOf after := by
    show bytesOf (strOfNums (hd6 sp dp (8 + p.size) ++ beN 2 c) ++ p ++ after) = _
    rw [bytesOf_append, bytesOf_append, bytesOf_strOfNums _ hr]; rfl
  have hlp := bytesOf_length p
  have hla := bytesOf_length after
  refine ⟨?_, ?_, ?_, ?_, ?_, ?_, ?_⟩
  · unfold W
    rw [piece s [] (beN 2 sp) (beN 2 dp ++ beN 2 (8 + p.size) ++ beN 2 c ++ bytesOf p ++ bytesOf after) (by rw [hb]; simp) 0 2 rfl (by rw [L2]), val2 _ s1 s2]
  · unfold W
    rw [piece s (beN 2 sp) (beN 2 dp) (beN 2 (8 + p.size) ++ beN 2 c ++ bytesOf p ++ bytesOf after) (by rw [hb]; simp) 2 4 (L2 _) (by rw [L2]), val2 _ d1 d2]
  · unfold W
    rw [piece s (beN 2 sp ++ beN 2 dp) (beN 2 (8 + p.size)) (beN 2 c ++ bytesOf p ++ bytesOf after) (by rw [hb]; simp) 4 6 (by simp [L2]) (by rw [L2]), val2 _ (by omega) (by omega)]
  · unfold W
    rw [piece s (beN 2 sp ++ beN 2 dp ++ beN 2 (8 + p.size)) (beN 2 c) (bytesOf p ++ bytesOf after) (by rw [hb]; simp) 6 8 (by simp [L2]) (by rw [L2]), val2 _ c1 c2]
  · apply bytesOf_inj
    rw [piece s [] (beN 2 sp ++ beN 2 dp ++ beN 2 (8 + p.size) ++ beN 2 c ++ bytesOf p) (bytesOf after) (by rw [hb]; simp) 0 (8 + p.size) rfl (by simp [L2, hlp]; omega), bytesOf_append, bytesOf_strOfNums _ hr]; rfl
  · apply bytesOf_inj
    rw [piece s (beN 2 sp ++ beN 2 dp ++ beN 2 (8 + p.size) ++ beN 2 c) (bytesOf p) (bytesOf after) (by rw [hb]; simp) 8 (8 + p.size) (by simp [L2]) (by rw [hlp])]
  · rw [size_bytes s, hb]; simp [L2, hlp, hla]; omega
theorem nilList : (⟨#[]⟩ : ByteArray).toList = [] := by
  unfold ByteArray.toList ByteArray.toList.loop
  rfl
end Go.Proofs.YtdjbmfjeplheiaaDoor.Pure
