/- What the document's Sum and Fit of layer 13 compute, in closed form. -/
import Derived.Test.YtdjbmfjeplheiaaDoorUdp
import Derived.Test.YtdjbmfjeplheiaaDoorPseudoR
import Derived.Test.YtdjbmfjeplheiaaDoorRSum02
import Derived.Test.YtdjbmfjeplheiaaDoorX11
import Derived.Test.YtdjbmfjeplheiaaDoorX9
namespace Go.Proofs.YtdjbmfjeplheiaaDoor.Pure
open Go.RowKit Go.Proofs.YtdjbmfjeplheiaaDoor.X Go.Proofs.YtdjbmfjeplheiaaDoorW.PrintWords Go.Proofs.YtdjbmfjeplheiaaDoorW.PrintLast Go.Proofs.YtdjbmfjeplheiaaDoorW.PrintMore

theorem rfine_is (v6 : Bool) (hi lo : Int) : intrusionref07_Fine.f v6 hi lo = some (decide (okAddr v6 hi lo)) := by
  unfold intrusionref07_Fine.f okAddr
  by_cases h : v6 = true
  · simp [h]
  · by_cases h2 : hi = 0 <;> simp [h, h2]
theorem rfit_is (v6 : Bool) (hi lo : Int) (w6 : Bool) (hj lp : Int) : intrusionref13_Fit.f v6 hi lo w6 hj lp = some (decide (okFit v6 hi lo w6 hj lp)) := by
  unfold intrusionref13_Fit.f okFit
  rw [rfine_is, rfine_is]
  simp only [bs, decide_eq_true_eq]
  by_cases c1 : okAddr v6 hi lo
  · rw [if_pos c1]
    by_cases c2 : okAddr w6 hj lp
    · rw [if_pos c2]
      by_cases c3 : v6 = w6
      · subst c3; simp [c1, c2]
      · simp [c3]
    · rw [if_neg c2]; simp [c2]
  · rw [if_neg c1]; simp [c1]
theorem rsum13_is (v6 : Bool) (hi lo : Int) (w6 : Bool) (hj lp : Int) (A : Addrs hi lo hj lp) (s : ByteArray) (hs : s.size ≤ 1099511627776) (k : Nat) (hk : s.size + 60 ≤ k) :
    intrusionref13_Sum.f k v6 hi lo w6 hj lp s = some (sumU v6 hi lo w6 hj lp s) := by
  unfold intrusionref13_Sum.f
  have pl := pseudo_len v6 hi lo w6 hj lp 17 (s.size : Int)
  have q := size_append (pseudoOf v6 hi lo w6 hj lp 17 (s.size : Int)) s
  rw [rpseudo_is v6 hi lo w6 hj lp 17 _ A.h0 A.h1 A.h2 A.h3 A.g0 A.g1 A.g2 A.g3 (by omega) k (by omega)]
  simp only [bs]
  rw [if_pos (by omega), rsum_is _ (by omega) k (by omega)]
  simp only [bs]
  unfold sumU nz
  split <;> rfl
end Go.Proofs.YtdjbmfjeplheiaaDoor.Pure
