/- What the functions of the translation that this claim's statement reaches compute, each proved by its walk. Written by xprint.py, a program of this claim's author, run over the kit's printer. -/
import Derived.Test.YtellbiicmiljcaaDoorX0
namespace Go.Proofs.YtellbiicmiljcaaDoor.X
open Go.RowKit Go.Proofs.YtellbiicmiljcaaDoorW.PrintWords Go.Proofs.YtellbiicmiljcaaDoorW.PrintLast Go.Proofs.YtellbiicmiljcaaDoorW.PrintMore
attribute [local go_sem] max2_int min2_int max_two min_two max_three min_three max_four min_four   -- for this text's walks alone
set_option linter.unusedVariables false
set_option linter.unusedSimpArgs false

/-! ### intrusionref10_tag: function 24 -/
def intrusionref10_tag.f (a0 : Int) : Option (Bool) := if a0 = 33024 then (some true) else (some (a0 == 34984))
set_option maxHeartbeats 8000000 in
set_option maxRecDepth 100000 in
theorem intrusionref10_tag.calls (a0 : Int) (r : Bool) (w : World) (h : intrusionref10_tag.f a0 = some r) :
    Calls Tryd.prog 24 #[.int .i64 a0] w fun e w' => e = .returned (.bool r) ∧ Drawn0 w w' := by
  have H : (if a0 = 33024 then (some true) else (some (a0 == 34984))) = some r := h
  clear h
  by_cases c2 : a0 = 33024
  · rw [if_pos c2] at H
    have c2b0 : (a0 == 33024) = true := beq_iff_eq.mpr c2
    have c2b1 : (a0 != 33024) = false := bne_eq_false_iff_eq.mpr c2
    clear c2
    obtain rfl := Option.some.inj H
    go_enter Tryd.func24, Tryd.ntmps24
    go_wp2
    go_ret
    exact ⟨by first | rfl | (simp; done) | (simp [*]; done), by repeat (first | exact Drawn0.refl _ | apply Drawn0.step)⟩
  · rw [if_neg c2] at H
    have c2b0 : (a0 == 33024) = false := beq_eq_false_iff_ne.mpr c2
    have c2b1 : (a0 != 33024) = true := bne_iff_ne.mpr c2
    obtain rfl := Option.some.inj H
    go_enter Tryd.func24, Tryd.ntmps24
    go_wp2
    go_ret
    exact ⟨by first | rfl | (simp; done) | (simp [*]; done), by repeat (first | exact Drawn0.refl _ | apply Drawn0.step)⟩

end Go.Proofs.YtellbiicmiljcaaDoor.X
