/- Functions and their walks, printed by xprint.py. -/
import Derived.Test.YtocobalkikkhlaaDoorX0
import Derived.Test.YtocobalkikkhlaaDoorX3
import Derived.Test.YtocobalkikkhlaaDoorX10
import Derived.Test.YtocobalkikkhlaaDoorX11
import Derived.Test.YtocobalkikkhlaaDoorX12
namespace Go.Proofs.YtocobalkikkhlaaDoor.X
open Go.RowKit Go.Proofs.YtocobalkikkhlaaDoorW.PrintWords Go.Proofs.YtocobalkikkhlaaDoorW.PrintLast Go.Proofs.YtocobalkikkhlaaDoorW.PrintMore
attribute [local go_sem] max2_int min2_int max_two min_two max_three min_three max_four min_four   -- for this text's walks alone
set_option linter.unusedVariables false
set_option linter.unusedSimpArgs false

/-! ### intrusionlaw17_TunnelFrames: function 7 -/
def intrusionlaw17_TunnelFrames.f (k : Nat) (a0 : ByteArray) : Option (Bool) := (intrusionlaw17_long.f a0).bind fun t369 => (if t369 = true then ((intrusionlaw17_awake.f k).bind fun t370 => (some t370)) else ((tunnel_Frame.f k a0).bind fun bt371 => ((intrusionref17_Frame.f k a0).bind fun bt374 => (if bt371.1 = bt374.1 then (if bt371.2.1.toList = bt374.2.1.toList then (if bt371.2.2 = bt374.2.2 then ((intrusionlaw17_awake.f k).bind fun t377 => (some t377)) else (none)) else (none)) else (none)))))
theorem intrusionlaw17_TunnelFrames.mono : ∀ a0 k, LeO (intrusionlaw17_TunnelFrames.f k a0) (intrusionlaw17_TunnelFrames.f (k + 1) a0) := by
 intro a0 k
 unfold intrusionlaw17_TunnelFrames.f
 repeat' first | with_reducible first | apply intrusionlaw17_awake.mono | apply intrusionref17_Frame.mono | apply tunnel_Frame.mono | apply LeO.refl | apply LeO.none | refine LeO.ite ?_ ?_ | refine LeO.bind ?_ (fun _ => ?_)
set_option maxHeartbeats 8000000 in
set_option maxRecDepth 100000 in
theorem intrusionlaw17_TunnelFrames.calls (k : Nat) (a0 : ByteArray) (r : Bool) (w : World) (hLd : Laid w) (h : intrusionlaw17_TunnelFrames.f k a0 = some r) :
  Calls Tryd.prog 7 #[.string a0] w fun e w' => e = .returned (.bool r) ∧ Below w.heap.size w w' := by
 have HLD := As hLd
 clear hLd
 have HB := As (Below.refl w.heap.size w)
 have H : ((intrusionlaw17_long.f a0).bind fun t369 => (if t369 = true then ((intrusionlaw17_awake.f k).bind fun t370 => (some t370)) else ((tunnel_Frame.f k a0).bind fun bt371 => ((intrusionref17_Frame.f k a0).bind fun bt374 => (if bt371.1 = bt374.1 then (if bt371.2.1.toList = bt374.2.1.toList then (if bt371.2.2 = bt374.2.2 then ((intrusionlaw17_awake.f k).bind fun t377 => (some t377)) else (none)) else (none)) else (none)))))) = some r := h
 clear h
 replace H := Option.bind_eq_some_iff.mp H
 obtain ⟨t369, A20, H⟩ := H
 replace H : (if t369 = true then ((intrusionlaw17_awake.f k).bind fun t370 => (some t370)) else ((tunnel_Frame.f k a0).bind fun bt371 => ((intrusionref17_Frame.f k a0).bind fun bt374 => (if bt371.1 = bt374.1 then (if bt371.2.1.toList = bt374.2.1.toList then (if bt371.2.2 = bt374.2.2 then ((intrusionlaw17_awake.f k).bind fun t377 => (some t377)) else (none)) else (none)) else (none))))) = some r := H
 have A2 := As A20
 clear A20
 by_cases c3 : t369 = true
 ·subst c3
  have H1 : ((intrusionlaw17_awake.f k).bind fun t370 => (some t370)) = some r := by rw [if_pos rfl] at H; exact H
  clear H
  have H := H1
  clear H1
  replace H := Option.bind_eq_some_iff.mp H
  obtain ⟨t370, A40, H⟩ := H
  replace H : (some t370) = some r := H
  have A4 := As A40
  clear A40
  obtain rfl := Option.some.inj H
  go_enter Tryd.func7, Tryd.ntmps7
  go_wp2_with (first | ((with_reducible refine gate_callee (f := 10) rfl ?_); refine goesL_ (some 10) rfl rfl Tryd.func10 (by kernel_rfl) rfl #[.string a0] rfl kA ?_; (with_reducible refine (intrusionlaw17_long.calls a0 true _ A2.out).mono ?_); rintro e w' ⟨rfl, ⟨nd, rfl⟩⟩; refine ⟨_, rfl, ?_⟩) | ((with_reducible refine gate_callee (f := 11) rfl ?_); refine goesL_ (some 11) rfl rfl Tryd.func11 (by kernel_rfl) rfl #[] rfl kA ?_; (with_reducible refine (intrusionlaw17_awake.calls k  t370 _ ?side1 A4.out).mono ?_); (case side1 => exact laid_below HLD.out (kB HB.out)); rintro e w5 ⟨rfl, hb⟩; refine ⟨_, rfl, ?_⟩; replace HB := As (below_step (kB HB.out) hb); (try clear hb)))
  go_ret
  exact ⟨kE, by exact kB HB.out⟩
 replace c3 := Bool.eq_false_iff.mpr c3
 subst c3
 have H1 : ((tunnel_Frame.f k a0).bind fun bt371 => ((intrusionref17_Frame.f k a0).bind fun bt374 => (if bt371.1 = bt374.1 then (if bt371.2.1.toList = bt374.2.1.toList then (if bt371.2.2 = bt374.2.2 then ((intrusionlaw17_awake.f k).bind fun t377 => (some t377)) else (none)) else (none)) else (none)))) = some r := by rw [if_neg (show ¬ (false = true) by decide)] at H; exact H
 clear H
 have H := H1
 clear H1
 replace H := Option.bind_eq_some_iff.mp H
 obtain ⟨⟨t371, t372, t373⟩, A60, H⟩ := H
 replace H : ((intrusionref17_Frame.f k a0).bind fun bt374 => (if t371 = bt374.1 then (if t372.toList = bt374.2.1.toList then (if t373 = bt374.2.2 then ((intrusionlaw17_awake.f k).bind fun t377 => (some t377)) else (none)) else (none)) else (none))) = some r := H
 have A6 := As A60
 clear A60
 replace H := Option.bind_eq_some_iff.mp H
 obtain ⟨⟨t374, t375, t376⟩, A70, H⟩ := H
 replace H : (if t371 = t374 then (if t372.toList = t375.toList then (if t373 = t376 then ((intrusionlaw17_awake.f k).bind fun t377 => (some t377)) else (none)) else (none)) else (none)) = some r := H
 have A7 := As A70
 clear A70
 by_cases c8 : t371 = t374
 ·rw [if_pos c8] at H
  have c8b0 : (t371 == t374) = true := beq_iff_eq.mpr c8
  have c8b1 : (t371 != t374) = false := bne_eq_false_iff_eq.mpr c8
  clear c8
  by_cases c9 : t372.toList = t375.toList
  ·rw [if_pos c9] at H
   have c9b0 : (t372.toList == t375.toList) = true := beq_iff_eq.mpr c9
   have c9b1 : (t372.toList != t375.toList) = false := bne_eq_false_iff_eq.mpr c9
   clear c9
   by_cases c10 : t373 = t376
   ·rw [if_pos c10] at H
    have c10b0 : (t373 == t376) = true := beq_iff_eq.mpr c10
    have c10b1 : (t373 != t376) = false := bne_eq_false_iff_eq.mpr c10
    clear c10
    replace H := Option.bind_eq_some_iff.mp H
    obtain ⟨t377, A110, H⟩ := H
    replace H : (some t377) = some r := H
    have A11 := As A110
    clear A110
    obtain rfl := Option.some.inj H
    go_enter Tryd.func7, Tryd.ntmps7
    go_wp2_with (first | ((with_reducible refine gate_callee (f := 10) rfl ?_); refine goesL_ (some 10) rfl rfl Tryd.func10 (by kernel_rfl) rfl #[.string a0] rfl kA ?_; (with_reducible refine (intrusionlaw17_long.calls a0 false _ A2.out).mono ?_); rintro e w' ⟨rfl, ⟨nd, rfl⟩⟩; refine ⟨_, rfl, ?_⟩) | ((with_reducible refine gate_callee (f := 21) rfl ?_); refine goesL_ (some 14) rfl rfl Tryd.func21 (by kernel_rfl) rfl #[.string a0] rfl kA ?_; (with_reducible refine (tunnel_Frame.calls k a0 t371 t372 t373 _ ?side1 A6.out).mono ?_); (case side1 => exact laid_below HLD.out (kB HB.out)); rintro e w12 ⟨rfl, hb⟩; refine ⟨_, rfl, ?_⟩; replace HB := As (below_step (kB HB.out) hb); (try clear hb)) | ((with_reducible refine gate_callee (f := 22) rfl ?_); refine goesL_ (some 20) rfl rfl Tryd.func22 (by kernel_rfl) rfl #[.string a0] rfl kA ?_; (with_reducible refine (intrusionref17_Frame.calls k a0 t374 t375 t376 _ A7.out).mono ?_); rintro e w13 ⟨rfl, hb⟩; refine ⟨_, rfl, ?_⟩; replace HB := As (below_step (kB HB.out) hb); (try clear hb)) | (go_at_call 11; (with_reducible refine (intrusionlaw17_awake.calls k  t377 _ ?side1 A11.out).mono ?_); (case side1 => exact laid_below HLD.out (kB HB.out)); rintro e w14 ⟨rfl, hb⟩; replace HB := As (below_step (kB HB.out) hb); (try clear hb)))
    go_ret
    exact ⟨kE, by exact kB HB.out⟩
   rw [if_neg c10] at H
   exact absurd H (by simp)
  rw [if_neg c9] at H
  exact absurd H (by simp)
 rw [if_neg c8] at H
 exact absurd H (by simp)

end Go.Proofs.YtocobalkikkhlaaDoor.X
-- short
