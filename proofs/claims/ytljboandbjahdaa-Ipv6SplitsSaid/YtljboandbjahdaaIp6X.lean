/- Which kinds are those of extension headers: the document's answer. -/
import Derived.Test.YtljboandbjahdaaIp6C
import Derived.Test.YtljboandbjahdaaX14
namespace Go.Proofs.Ytljboandbjahdaa.Pure
open Go.RowKit Go.Proofs.Ytljboandbjahdaa.X Go.Proofs.YtljboandbjahdaaW.PrintWords Go.Proofs.YtljboandbjahdaaW.PrintLast Go.Proofs.YtljboandbjahdaaW.PrintMore

theorem rext_is (n : Int) : intrusionref12_extension.f n = some (decide (isExt n)) := by
  unfold intrusionref12_extension.f isExt
  by_cases h0 : n = 0
  · rw [if_pos h0]; simp [h0]
  · rw [if_neg h0]
    by_cases h1 : n = 43
    · rw [if_pos h1]; simp [h1]
    · rw [if_neg h1]
      by_cases h2 : n = 60
      · simp [h2]
      · simp [h0, h1, h2]
end Go.Proofs.Ytljboandbjahdaa.Pure
