/- Functions and their walks, printed by xprint.py. -/
import Derived.Test.YtafjmciojeondaaX0
import Derived.Test.YtafjmciojeondaaX3
import Derived.Test.YtafjmciojeondaaX4
import Derived.Test.YtafjmciojeondaaX7
import Derived.Test.YtafjmciojeondaaX8
import Derived.Test.YtafjmciojeondaaX11
import Derived.Test.YtafjmciojeondaaX13
import Derived.Test.YtafjmciojeondaaX14
import Derived.Test.YtafjmciojeondaaX17
namespace Go.Proofs.Ytafjmciojeondaa.X
open Go.RowKit Go.Proofs.YtafjmciojeondaaW.PrintWords Go.Proofs.YtafjmciojeondaaW.PrintLast Go.Proofs.YtafjmciojeondaaW.PrintMore
attribute [local go_sem] max2_int min2_int max_two min_two max_three min_three max_four min_four   -- for this text's walks alone
set_option linter.unusedVariables false
set_option linter.unusedSimpArgs false

/-! ### intrusionlaw09_CaptureFeeds: function 7 -/
mutual
def intrusionlaw09_CaptureFeeds.j0 : Nat → List ByteArray → Bool → ByteArray → Int → Bool → Bool → Int → Int → Bool → ByteArray → Int → Bool → Bool → Int → Int → Bool → Option (Bool)
 | 0, _, _, _, _, _, _, _, _, _, _, _, _, _, _, _, _ => none
 | k + 1, x0, x20, x459000, x459001, x459002, x459003, x459004, x459005, x459006, x460000, x460001, x460002, x460003, x460004, x460005, x460006 => if x20 = true then ((intrusionlaw09_lives.f k).bind fun t461 => (some t461)) else (intrusionlaw09_CaptureFeeds.l0 k x0 0 x459000 x459001 x459002 x459003 x459004 x459005 x459006 x460000 x460001 x460002 x460003 x460004 x460005 x460006)
def intrusionlaw09_CaptureFeeds.l0 : Nat → List ByteArray → Int → ByteArray → Int → Bool → Bool → Int → Int → Bool → ByteArray → Int → Bool → Bool → Int → Int → Bool → Option (Bool)
 | 0, _, _, _, _, _, _, _, _, _, _, _, _, _, _, _, _ => none
 | k + 1, x0, x5, x459000, x459001, x459002, x459003, x459004, x459005, x459006, x460000, x460001, x460002, x460003, x460004, x460005, x460006 => if x5 < (x0.length : Int) then (if 0 ≤ x5 then ((capture_Reader_Feed.f k x459000 x459001 x459002 x459003 x459004 x459005 x459006 (rdOf ByteArray.empty x0 x5)).bind fun bt463 => ((intrusionref09_Reader_Feed.f k x460000 x460001 x460002 x460003 x460004 x460005 x460006 (rdOf ByteArray.empty x0 x5)).bind fun bt475 => ((intrusionref09_Same.f k bt463.1 bt475.1).bind fun t486 => (if t486 = true then (if bt463.2.1 = bt475.2.1 then (intrusionlaw09_CaptureFeeds.l0 k x0 (wrap64 (x5 + 1)) bt463.2.2.1 bt463.2.2.2.1 bt463.2.2.2.2.1 bt463.2.2.2.2.2.1 bt463.2.2.2.2.2.2.1 bt463.2.2.2.2.2.2.2.1 bt463.2.2.2.2.2.2.2.2 bt475.2.2.1 bt475.2.2.2.1 bt475.2.2.2.2.1 bt475.2.2.2.2.2.1 bt475.2.2.2.2.2.2.1 bt475.2.2.2.2.2.2.2.1 bt475.2.2.2.2.2.2.2.2) else (none)) else (none))))) else (none)) else ((capture_Reader_Close.f x459000 x459001 x459002 x459003 x459004 x459005 x459006).bind fun bt487 => ((intrusionref09_Reader_Close.f x460000 x460001 x460002 x460003 x460004 x460005 x460006).bind fun bt495 => (if bt487.1 = bt495.1 then ((capture_Reader_Feed.f k bt487.2.1 bt487.2.2.1 bt487.2.2.2.1 bt487.2.2.2.2.1 bt487.2.2.2.2.2.1 bt487.2.2.2.2.2.2.1 bt487.2.2.2.2.2.2.2 (⟨#[]⟩ : ByteArray)).bind fun bt503 => (if (bt503.1.length : Int) = 0 then (if bt503.2.1 = 10 then ((capture_Reader_Close.f bt503.2.2.1 bt503.2.2.2.1 bt503.2.2.2.2.1 bt503.2.2.2.2.2.1 bt503.2.2.2.2.2.2.1 bt503.2.2.2.2.2.2.2.1 bt503.2.2.2.2.2.2.2.2).bind fun bt514 => (if bt514.1 = 10 then ((intrusionlaw09_lives.f k).bind fun t522 => (some t522)) else (none))) else (none)) else (none))) else (none))))
end
def intrusionlaw09_CaptureFeeds.f (k : Nat) (l0 : List ByteArray) : Option (Bool) := (capture_NewReader.f).bind fun bt451 => ((intrusionlaw09_long.f k l0).bind fun t460 => (if t460 = true then (intrusionlaw09_CaptureFeeds.j0 k l0 true bt451.1 bt451.2.1 bt451.2.2.1 bt451.2.2.2.1 bt451.2.2.2.2.1 bt451.2.2.2.2.2.1 bt451.2.2.2.2.2.2 (⟨#[]⟩ : ByteArray) 0 false false 0 0 false) else (intrusionlaw09_CaptureFeeds.j0 k l0 false bt451.1 bt451.2.1 bt451.2.2.1 bt451.2.2.2.1 bt451.2.2.2.2.1 bt451.2.2.2.2.2.1 bt451.2.2.2.2.2.2 (⟨#[]⟩ : ByteArray) 0 false false 0 0 false)))
theorem intrusionlaw09_CaptureFeeds.mono_l : ∀ k, (∀ y0 y1 y2 y3 y4 y5 y6 y7 y8 y9 y10 y11 y12 y13 y14 y15, LeO (intrusionlaw09_CaptureFeeds.j0 k y0 y1 y2 y3 y4 y5 y6 y7 y8 y9 y10 y11 y12 y13 y14 y15) (intrusionlaw09_CaptureFeeds.j0 (k + 1) y0 y1 y2 y3 y4 y5 y6 y7 y8 y9 y10 y11 y12 y13 y14 y15)) ∧ (∀ y0 y1 y2 y3 y4 y5 y6 y7 y8 y9 y10 y11 y12 y13 y14 y15, LeO (intrusionlaw09_CaptureFeeds.l0 k y0 y1 y2 y3 y4 y5 y6 y7 y8 y9 y10 y11 y12 y13 y14 y15) (intrusionlaw09_CaptureFeeds.l0 (k + 1) y0 y1 y2 y3 y4 y5 y6 y7 y8 y9 y10 y11 y12 y13 y14 y15))
 | 0 => ⟨fun _ _ _ _ _ _ _ _ _ _ _ _ _ _ _ _ r h => by simp [intrusionlaw09_CaptureFeeds.j0] at h, fun _ _ _ _ _ _ _ _ _ _ _ _ _ _ _ _ r h => by simp [intrusionlaw09_CaptureFeeds.l0] at h⟩
 | k + 1 => by
  obtain ⟨ih0, ih1⟩ := intrusionlaw09_CaptureFeeds.mono_l k
  refine ⟨?_, ?_⟩
  ·intro y0 y1 y2 y3 y4 y5 y6 y7 y8 y9 y10 y11 y12 y13 y14 y15
   unfold intrusionlaw09_CaptureFeeds.j0
   repeat' first | with_reducible first | apply ih0 | apply ih1 | apply capture_Reader_Feed.mono | apply intrusionlaw09_lives.mono | apply intrusionlaw09_long.mono | apply intrusionref09_Reader_Feed.mono | apply intrusionref09_Same.mono | apply LeO.refl | apply LeO.none | refine LeO.ite ?_ ?_ | refine LeO.bind ?_ (fun _ => ?_)
  intro y0 y1 y2 y3 y4 y5 y6 y7 y8 y9 y10 y11 y12 y13 y14 y15
  unfold intrusionlaw09_CaptureFeeds.l0
  repeat' first | with_reducible first | apply ih0 | apply ih1 | apply capture_Reader_Feed.mono | apply intrusionlaw09_lives.mono | apply intrusionlaw09_long.mono | apply intrusionref09_Reader_Feed.mono | apply intrusionref09_Same.mono | apply LeO.refl | apply LeO.none | refine LeO.ite ?_ ?_ | refine LeO.bind ?_ (fun _ => ?_)
theorem intrusionlaw09_CaptureFeeds.mono : ∀ a0 k, LeO (intrusionlaw09_CaptureFeeds.f k a0) (intrusionlaw09_CaptureFeeds.f (k + 1) a0) := by
 intro a0 k
 obtain ⟨ih0, ih1⟩ := intrusionlaw09_CaptureFeeds.mono_l k
 unfold intrusionlaw09_CaptureFeeds.f
 repeat' first | with_reducible first | apply ih0 | apply ih1 | apply capture_Reader_Feed.mono | apply intrusionlaw09_lives.mono | apply intrusionlaw09_long.mono | apply intrusionref09_Reader_Feed.mono | apply intrusionref09_Same.mono | apply LeO.refl | apply LeO.none | refine LeO.ite ?_ ?_ | refine LeO.bind ?_ (fun _ => ?_)
set_option maxHeartbeats 8000000 in
set_option maxRecDepth 100000 in
theorem intrusionlaw09_CaptureFeeds.calls (k : Nat) (A0 : Option Addr) (c0 : Nat) (l0 : List ByteArray) (r : Bool) (w : World) (hr0 : Kd.C Kd.string w A0 l0.length l0) (hc0 : l0.length ≤ c0) (h : intrusionlaw09_CaptureFeeds.f k l0 = some r) :
  Calls Try.prog 7 #[.slice A0 l0.length c0] w fun e w' => e = .returned (.bool r) ∧ Below w.heap.size w w' := by
 have hu41 := Try.underlying41
 have HR0 := As hr0
 have HC0 := As hc0
 clear hr0 hc0
 have HB := As (Below.refl w.heap.size w)
 have H : ((capture_NewReader.f).bind fun bt451 => ((intrusionlaw09_long.f k l0).bind fun t460 => (if t460 = true then (intrusionlaw09_CaptureFeeds.j0 k l0 true bt451.1 bt451.2.1 bt451.2.2.1 bt451.2.2.2.1 bt451.2.2.2.2.1 bt451.2.2.2.2.2.1 bt451.2.2.2.2.2.2 (⟨#[]⟩ : ByteArray) 0 false false 0 0 false) else (intrusionlaw09_CaptureFeeds.j0 k l0 false bt451.1 bt451.2.1 bt451.2.2.1 bt451.2.2.2.1 bt451.2.2.2.2.1 bt451.2.2.2.2.2.1 bt451.2.2.2.2.2.2 (⟨#[]⟩ : ByteArray) 0 false false 0 0 false)))) = some r := h
 clear h
 replace H := Option.bind_eq_some_iff.mp H
 obtain ⟨⟨t451, t452, t453, t454, t455, t456, t457⟩, A20, H⟩ := H
 replace H : ((intrusionlaw09_long.f k l0).bind fun t460 => (if t460 = true then (intrusionlaw09_CaptureFeeds.j0 k l0 true t451 t452 t453 t454 t455 t456 t457 (⟨#[]⟩ : ByteArray) 0 false false 0 0 false) else (intrusionlaw09_CaptureFeeds.j0 k l0 false t451 t452 t453 t454 t455 t456 t457 (⟨#[]⟩ : ByteArray) 0 false false 0 0 false))) = some r := H
 have A2 := As A20
 clear A20
 have HC3 := As H
 clear H
 go_enter Try.func7, Try.ntmps7
 go_upto_region 2 with (first | ((with_reducible refine gate_callee (f := 20) rfl ?_); refine goesL_ (some 12) rfl rfl Try.func20 (by kernel_rfl) rfl #[] rfl kA ?_; (with_reducible refine (capture_NewReader.calls  t451 t452 t453 t454 t455 t456 t457 w _ ?side1 A2.out).mono ?_); (case side1 => exact kB HB.out); rintro e w4 ⟨g458, rfl, hi, hb, hb2⟩; refine ⟨_, rfl, ?_⟩; replace HB := As (hb); have HI458 := As (hi); (try clear hb); (try clear hb2); (try clear hi)) | ((with_reducible refine gate_dst (N := 14) rfl ?_); refine box_event rfl (N := 14) rfl (cs := #[.string (⟨#[]⟩ : ByteArray), .int .i64 0, .bool false, .bool false, .int .i64 0, .int .i64 0, .bool false]) (t := 41) kG ?_; intro gb459 hg w5 hbox hb; have BK459 := As (hbox); have GW459 := As ((by rw [hg]; exact (below_size (kB1 HB.out (IsS47.ge HI458.out))) : w.heap.size ≤ gb459)); have GE459 := As ((by rw [hg]; exact (below_size (kB1 HB.out (IsS47.ge HI458.out))) : w.heap.size ≤ gb459)); have NB458_459 := As ((by rw [hg]; exact Nat.ne_of_lt (IsS47.lt (show IsS47 w _ g458 t451 t452 t453 t454 t455 t456 t457 from by repeat (first | (with_reducible first | exact HI458.out | apply IsS47.alloc | apply IsS47.drewN | apply IsS47.drew | apply IsS47.set_0 | apply IsS47.set_1 | apply IsS47.set_2 | apply IsS47.set_3 | apply IsS47.set_4 | apply IsS47.set_5 | apply IsS47.set_6) | exact HI458.out))) : g458 ≠ gb459)); have NB459_458 := As ((by rw [hg]; exact Nat.ne_of_gt (IsS47.lt (show IsS47 w _ g458 t451 t452 t453 t454 t455 t456 t457 from by repeat (first | (with_reducible first | exact HI458.out | apply IsS47.alloc | apply IsS47.drewN | apply IsS47.drew | apply IsS47.set_0 | apply IsS47.set_1 | apply IsS47.set_2 | apply IsS47.set_3 | apply IsS47.set_4 | apply IsS47.set_5 | apply IsS47.set_6) | exact HI458.out))) : gb459 ≠ g458)); have HI459 := As ((show IsS41 w w5 gb459 (⟨#[]⟩ : ByteArray) 0 false false 0 0 false from ⟨hbox, (by rw [hg]; exact (below_size (kB1 HB.out (IsS47.ge HI458.out))) : w.heap.size ≤ gb459)⟩)); replace HB := As (below_step (kB1 HB.out (IsS47.ge HI458.out)) hb); replace HI458 := As (IsS47.below (by repeat (first | (with_reducible first | exact HI458.out | apply IsS47.alloc | apply IsS47.drewN | apply IsS47.drew | apply IsS47.set_0 | apply IsS47.set_1 | apply IsS47.set_2 | apply IsS47.set_3 | apply IsS47.set_4 | apply IsS47.set_5 | apply IsS47.set_6) | exact HI458.out)) hb); clear hb hbox hg))
 (try simp only [Act.put, sA, sZ, sS])
 go_cut [20] (fun v20 wc => ∃ (kq : Nat) (x20_2 : Bool), v20 = .bool x20_2 ∧ Aside0 (intrusionlaw09_CaptureFeeds.j0 kq l0 x20_2 t451 t452 t453 t454 t455 t456 t457 (⟨#[]⟩ : ByteArray) 0 false false 0 0 false = some r) ∧ Aside0 (kq ≤ k) ∧ Aside0 (IsS47 w wc g458 t451 t452 t453 t454 t455 t456 t457) ∧ Aside0 (IsS41 w wc gb459 (⟨#[]⟩ : ByteArray) 0 false false 0 0 false) ∧ Aside0 (Below w.heap.size w wc))
 case first =>
  have H := HC3.out
  clear HC3
  replace H := Option.bind_eq_some_iff.mp H
  obtain ⟨t460, A60, H⟩ := H
  replace H : (if t460 = true then (intrusionlaw09_CaptureFeeds.j0 k l0 true t451 t452 t453 t454 t455 t456 t457 (⟨#[]⟩ : ByteArray) 0 false false 0 0 false) else (intrusionlaw09_CaptureFeeds.j0 k l0 false t451 t452 t453 t454 t455 t456 t457 (⟨#[]⟩ : ByteArray) 0 false false 0 0 false)) = some r := H
  have A6 := As A60
  clear A60
  by_cases c7 : t460 = true
  ·subst c7
   have H1 : (intrusionlaw09_CaptureFeeds.j0 k l0 true t451 t452 t453 t454 t455 t456 t457 (⟨#[]⟩ : ByteArray) 0 false false 0 0 false) = some r := by rw [if_pos rfl] at H; exact H
   clear H
   have H := H1
   clear H1
   have H' := As H
   clear H
   go_wp2_with (first | ((with_reducible refine gate_callee (f := 21) rfl ?_); refine goesL_ (some 16) rfl rfl Try.func21 (by kernel_rfl) rfl #[.slice A0 l0.length c0] rfl kA ?_; (with_reducible refine (intrusionlaw09_long.calls k _ _ l0 true _ ?side1 ?side2 A6.out).mono ?_); (case side1 => repeat (first | exact (Kd.C_below HR0.out HB.out) | (with_reducible refine Kd.C_alloc ?_ _) | (with_reducible refine Kd.C_drewN ?_ _) | (with_reducible refine Kd.C_drew ?_))); (case side2 => exact HC0.out); rintro e w' ⟨rfl, ⟨nd, rfl⟩⟩; refine ⟨_, rfl, ?_⟩))
   go_meet
   case rel => exact ⟨_, (true), kS, H', ⟨by first | omega | exact Nat.le_refl _⟩, ⟨by repeat (first | (with_reducible first | exact HI458.out | apply IsS47.alloc | apply IsS47.drewN | apply IsS47.drew | apply IsS47.set_0 | apply IsS47.set_1 | apply IsS47.set_2 | apply IsS47.set_3 | apply IsS47.set_4 | apply IsS47.set_5 | apply IsS47.set_6) | exact HI458.out)⟩, ⟨by repeat (first | (with_reducible first | exact HI459.out | apply IsS41.alloc | apply IsS41.drewN | apply IsS41.drew | apply IsS41.set_0 | apply IsS41.set_1 | apply IsS41.set_2 | apply IsS41.set_3 | apply IsS41.set_4 | apply IsS41.set_5 | apply IsS41.set_6) | exact HI459.out)⟩, ⟨kB2 HB.out (IsS47.ge HI458.out) (IsS41.ge HI459.out)⟩⟩
  replace c7 := Bool.eq_false_iff.mpr c7
  subst c7
  have H1 : (intrusionlaw09_CaptureFeeds.j0 k l0 false t451 t452 t453 t454 t455 t456 t457 (⟨#[]⟩ : ByteArray) 0 false false 0 0 false) = some r := by rw [if_neg (show ¬ (false = true) by decide)] at H; exact H
  clear H
  have H := H1
  clear H1
  have H' := As H
  clear H
  go_wp2_with (first | ((with_reducible refine gate_callee (f := 21) rfl ?_); refine goesL_ (some 16) rfl rfl Try.func21 (by kernel_rfl) rfl #[.slice A0 l0.length c0] rfl kA ?_; (with_reducible refine (intrusionlaw09_long.calls k _ _ l0 false _ ?side1 ?side2 A6.out).mono ?_); (case side1 => repeat (first | exact (Kd.C_below HR0.out HB.out) | (with_reducible refine Kd.C_alloc ?_ _) | (with_reducible refine Kd.C_drewN ?_ _) | (with_reducible refine Kd.C_drew ?_))); (case side2 => exact HC0.out); rintro e w' ⟨rfl, ⟨nd, rfl⟩⟩; refine ⟨_, rfl, ?_⟩))
  go_meet
  case rel => exact ⟨_, (false), kS, H', ⟨by first | omega | exact Nat.le_refl _⟩, ⟨by repeat (first | (with_reducible first | exact HI458.out | apply IsS47.alloc | apply IsS47.drewN | apply IsS47.drew | apply IsS47.set_0 | apply IsS47.set_1 | apply IsS47.set_2 | apply IsS47.set_3 | apply IsS47.set_4 | apply IsS47.set_5 | apply IsS47.set_6) | exact HI458.out)⟩, ⟨by repeat (first | (with_reducible first | exact HI459.out | apply IsS41.alloc | apply IsS41.drewN | apply IsS41.drew | apply IsS41.set_0 | apply IsS41.set_1 | apply IsS41.set_2 | apply IsS41.set_3 | apply IsS41.set_4 | apply IsS41.set_5 | apply IsS41.set_6) | exact HI459.out)⟩, ⟨kB2 HB.out (IsS47.ge HI458.out) (IsS41.ge HI459.out)⟩⟩
 clear HC3
 obtain ⟨kq, x20_2, rfl, HA, HJ2, HI458, HI459, HB⟩ := hcut
 cases kq with
 | zero => exact absurd HA.out (by simp [intrusionlaw09_CaptureFeeds.j0])
 | succ kj2 =>
  have H := HA.out
  clear HA
  simp only [intrusionlaw09_CaptureFeeds.j0] at H
  by_cases c8 : x20_2 = true
  ·subst c8
   have H1 : ((intrusionlaw09_lives.f kj2).bind fun t461 => (some t461)) = some r := by rw [if_pos rfl] at H; exact H
   clear H
   have H := H1
   clear H1
   replace H := Option.bind_eq_some_iff.mp H
   obtain ⟨t461, A90, H⟩ := H
   replace H : (some t461) = some r := H
   have A9 := As A90
   clear A90
   obtain rfl := Option.some.inj H
   go_wp2_with (first | ((with_reducible refine gate_callee (f := 11) rfl ?_); refine goesL_ (some 21) rfl rfl Try.func11 (by kernel_rfl) rfl #[] rfl kA ?_; (with_reducible refine (intrusionlaw09_lives.calls kj2  t461 _ A9.out).mono ?_); rintro e w10 ⟨rfl, hb⟩; refine ⟨_, rfl, ?_⟩; replace HB := As (below_step (kB2 HB.out (IsS47.ge HI458.out) (IsS41.ge HI459.out)) hb); replace HI458 := As (IsS47.below (by repeat (first | (with_reducible first | exact HI458.out | apply IsS47.alloc | apply IsS47.drewN | apply IsS47.drew | apply IsS47.set_0 | apply IsS47.set_1 | apply IsS47.set_2 | apply IsS47.set_3 | apply IsS47.set_4 | apply IsS47.set_5 | apply IsS47.set_6) | exact HI458.out)) hb); replace HI459 := As (IsS41.below (by repeat (first | (with_reducible first | exact HI459.out | apply IsS41.alloc | apply IsS41.drewN | apply IsS41.drew | apply IsS41.set_0 | apply IsS41.set_1 | apply IsS41.set_2 | apply IsS41.set_3 | apply IsS41.set_4 | apply IsS41.set_5 | apply IsS41.set_6) | exact HI459.out)) hb); (try clear hb)))
   go_ret
   exact ⟨kE, by exact kB2 HB.out (IsS47.ge HI458.out) (IsS41.ge HI459.out)⟩
  replace c8 := Bool.eq_false_iff.mpr c8
  subst c8
  have H1 : (intrusionlaw09_CaptureFeeds.l0 kj2 l0 0 t451 t452 t453 t454 t455 t456 t457 (⟨#[]⟩ : ByteArray) 0 false false 0 0 false) = some r := by rw [if_neg (show ¬ (false = true) by decide)] at H; exact H
  clear H
  have H := H1
  clear H1
  have H' := As H
  clear H
  go_wp2
  go_loopg [5] kj2 (fun kq v5 w' => ∃ (x5_2 : Int) (x459000_2 : ByteArray) (x459001_2 : Int) (x459002_2 : Bool) (x459003_2 : Bool) (x459004_2 : Int) (x459005_2 : Int) (x459006_2 : Bool) (x460000_2 : ByteArray) (x460001_2 : Int) (x460002_2 : Bool) (x460003_2 : Bool) (x460004_2 : Int) (x460005_2 : Int) (x460006_2 : Bool), v5 = .int .i64 x5_2 ∧ Aside0 (intrusionlaw09_CaptureFeeds.l0 kq l0 x5_2 x459000_2 x459001_2 x459002_2 x459003_2 x459004_2 x459005_2 x459006_2 x460000_2 x460001_2 x460002_2 x460003_2 x460004_2 x460005_2 x460006_2 = some r) ∧ Aside0 (kq ≤ kj2) ∧ Aside0 (IsS47 w w' g458 x459000_2 x459001_2 x459002_2 x459003_2 x459004_2 x459005_2 x459006_2) ∧ Aside0 (IsS41 w w' gb459 x460000_2 x460001_2 x460002_2 x460003_2 x460004_2 x460005_2 x460006_2) ∧ Aside0 (Below w.heap.size w w'))
  case atStart => exact ⟨(0), (t451), (t452), (t453), (t454), (t455), (t456), (t457), ((⟨#[]⟩ : ByteArray)), (0), (false), (false), (0), (0), (false), kS, H', ⟨Nat.le_refl _⟩, ⟨by repeat (first | (with_reducible first | exact HI458.out | apply IsS47.alloc | apply IsS47.drewN | apply IsS47.drew | apply IsS47.set_0 | apply IsS47.set_1 | apply IsS47.set_2 | apply IsS47.set_3 | apply IsS47.set_4 | apply IsS47.set_5 | apply IsS47.set_6) | exact HI458.out)⟩, ⟨by repeat (first | (with_reducible first | exact HI459.out | apply IsS41.alloc | apply IsS41.drewN | apply IsS41.drew | apply IsS41.set_0 | apply IsS41.set_1 | apply IsS41.set_2 | apply IsS41.set_3 | apply IsS41.set_4 | apply IsS41.set_5 | apply IsS41.set_6) | exact HI459.out)⟩, ⟨kB2 HB.out (IsS47.ge HI458.out) (IsS41.ge HI459.out)⟩⟩
  clear H'
  try clear c8
  obtain ⟨x5_2, x459000_2, x459001_2, x459002_2, x459003_2, x459004_2, x459005_2, x459006_2, x460000_2, x460001_2, x460002_2, x460003_2, x460004_2, x460005_2, x460006_2, rfl, HA, HK2, HI458, HI459, HB⟩ := hrel
  cases gk with
  | zero => exact absurd HA.out (by simp [intrusionlaw09_CaptureFeeds.l0])
  | succ k2 =>
   have H := HA.out
   clear HA
   simp only [intrusionlaw09_CaptureFeeds.l0] at H
   by_cases c11 : x5_2 < (l0.length : Int)
   ·rw [if_pos c11] at H
    have c11b0 : decide (x5_2 < (l0.length : Int)) = true := decide_eq_true c11
    clear c11
    by_cases c12 : 0 ≤ x5_2
    ·rw [if_pos c12] at H
     have c12b0 : decide (0 ≤ x5_2) = true := decide_eq_true c12
     clear c12
     replace H := Option.bind_eq_some_iff.mp H
     obtain ⟨⟨t463, t466, t467, t468, t469, t470, t471, t472, t473⟩, A130, H⟩ := H
     replace H : ((intrusionref09_Reader_Feed.f k2 x460000_2 x460001_2 x460002_2 x460003_2 x460004_2 x460005_2 x460006_2 (rdOf ByteArray.empty l0 x5_2)).bind fun bt475 => ((intrusionref09_Same.f k2 t463 bt475.1).bind fun t486 => (if t486 = true then (if t466 = bt475.2.1 then (intrusionlaw09_CaptureFeeds.l0 k2 l0 (wrap64 (x5_2 + 1)) t467 t468 t469 t470 t471 t472 t473 bt475.2.2.1 bt475.2.2.2.1 bt475.2.2.2.2.1 bt475.2.2.2.2.2.1 bt475.2.2.2.2.2.2.1 bt475.2.2.2.2.2.2.2.1 bt475.2.2.2.2.2.2.2.2) else (none)) else (none)))) = some r := H
     have A13 := As A130
     clear A130
     replace H := Option.bind_eq_some_iff.mp H
     obtain ⟨⟨t475, t478, t479, t480, t481, t482, t483, t484, t485⟩, A140, H⟩ := H
     replace H : ((intrusionref09_Same.f k2 t463 t475).bind fun t486 => (if t486 = true then (if t466 = t478 then (intrusionlaw09_CaptureFeeds.l0 k2 l0 (wrap64 (x5_2 + 1)) t467 t468 t469 t470 t471 t472 t473 t479 t480 t481 t482 t483 t484 t485) else (none)) else (none))) = some r := H
     have A14 := As A140
     clear A140
     replace H := Option.bind_eq_some_iff.mp H
     obtain ⟨t486, A150, H⟩ := H
     replace H : (if t486 = true then (if t466 = t478 then (intrusionlaw09_CaptureFeeds.l0 k2 l0 (wrap64 (x5_2 + 1)) t467 t468 t469 t470 t471 t472 t473 t479 t480 t481 t482 t483 t484 t485) else (none)) else (none)) = some r := H
     have A15 := As A150
     clear A150
     by_cases c16 : t486 = true
     ·subst c16
      have H1 : (if t466 = t478 then (intrusionlaw09_CaptureFeeds.l0 k2 l0 (wrap64 (x5_2 + 1)) t467 t468 t469 t470 t471 t472 t473 t479 t480 t481 t482 t483 t484 t485) else (none)) = some r := by rw [if_pos rfl] at H; exact H
      clear H
      have H := H1
      clear H1
      by_cases c17 : t466 = t478
      ·rw [if_pos c17] at H
       have c17b0 : (t466 == t478) = true := beq_iff_eq.mpr c17
       have c17b1 : (t466 != t478) = false := bne_eq_false_iff_eq.mpr c17
       clear c17
       have H' := As H
       clear H
       have p462 : 0 ≤ (x5_2 : Int) := of_decide_eq_true (by first | (with_reducible assumption) | assumption)
       have q462 : x5_2 < (l0.length : Int) := of_decide_eq_true (by first | (with_reducible assumption) | assumption)
       obtain ⟨ad462, e462, hx462_0⟩ := Kd.at_string HR0.out x5_2 p462 q462
       cases e462
       replace hx462_0 := hcell HB.out hx462_0
       replace p462 := eq_true p462
       replace q462 := eq_true q462
       go_wp2_with (first | ((with_reducible refine gate_callee (f := 22) rfl ?_); refine goesL_ (some 34) rfl rfl Try.func22 (by kernel_rfl) rfl #[.pointer (some ⟨g458, 0, none⟩), .string (rdOf ByteArray.empty l0 x5_2)] rfl kA ?_; (with_reducible refine (capture_Reader_Feed.calls k2 g458 x459000_2 x459001_2 x459002_2 x459003_2 x459004_2 x459005_2 x459006_2 (rdOf ByteArray.empty l0 x5_2) t463 t466 t467 t468 t469 t470 t471 t472 t473 w _ ?side1 ?side2 A13.out).mono ?_); (case side1 => repeat (first | (with_reducible first | exact HI458.out | apply IsS47.alloc | apply IsS47.drewN | apply IsS47.drew | apply IsS47.set_0 | apply IsS47.set_1 | apply IsS47.set_2 | apply IsS47.set_3 | apply IsS47.set_4 | apply IsS47.set_5 | apply IsS47.set_6) | exact HI458.out)); (case side2 => exact kB2 HB.out (IsS47.ge HI458.out) (IsS41.ge HI459.out)); rintro e w18 ⟨v464, rfl, ho0, hi, hb, hk⟩; refine ⟨_, rfl, ?_⟩; have HO465 := As (Kd.R_lower ho0 (below_size (kB2 HB.out (IsS47.ge HI458.out) (IsS41.ge HI459.out)))); replace HI459 := As ((show IsS41 w _ gb459 x460000_2 x460001_2 x460002_2 x460003_2 x460004_2 x460005_2 x460006_2 from ⟨KeepBut.blk hk (show IsS41 w _ gb459 x460000_2 x460001_2 x460002_2 x460003_2 x460004_2 x460005_2 x460006_2 from by repeat (first | (with_reducible first | exact HI459.out | apply IsS41.alloc | apply IsS41.drewN | apply IsS41.drew | apply IsS41.set_0 | apply IsS41.set_1 | apply IsS41.set_2 | apply IsS41.set_3 | apply IsS41.set_4 | apply IsS41.set_5 | apply IsS41.set_6) | exact HI459.out)).1 (fun e_ => by have h1_ := (show IsS41 w _ gb459 x460000_2 x460001_2 x460002_2 x460003_2 x460004_2 x460005_2 x460006_2 from by repeat (first | (with_reducible first | exact HI459.out | apply IsS41.alloc | apply IsS41.drewN | apply IsS41.drew | apply IsS41.set_0 | apply IsS41.set_1 | apply IsS41.set_2 | apply IsS41.set_3 | apply IsS41.set_4 | apply IsS41.set_5 | apply IsS41.set_6) | exact HI459.out)).1; have h2_ := (show IsS47 w _ g458 x459000_2 x459001_2 x459002_2 x459003_2 x459004_2 x459005_2 x459006_2 from by repeat (first | (with_reducible first | exact HI458.out | apply IsS47.alloc | apply IsS47.drewN | apply IsS47.drew | apply IsS47.set_0 | apply IsS47.set_1 | apply IsS47.set_2 | apply IsS47.set_3 | apply IsS47.set_4 | apply IsS47.set_5 | apply IsS47.set_6) | exact HI458.out)).1; rw [e_] at h1_; rw [h1_] at h2_; injection h2_ with h2_; injection h2_ with _ h3_; exact absurd h3_ (by decide)) (by simp), (show IsS41 w _ gb459 x460000_2 x460001_2 x460002_2 x460003_2 x460004_2 x460005_2 x460006_2 from by repeat (first | (with_reducible first | exact HI459.out | apply IsS41.alloc | apply IsS41.drewN | apply IsS41.drew | apply IsS41.set_0 | apply IsS41.set_1 | apply IsS41.set_2 | apply IsS41.set_3 | apply IsS41.set_4 | apply IsS41.set_5 | apply IsS41.set_6) | exact HI459.out)).2⟩)); replace HB := As (hb); replace HI458 := As (hi); (try clear hb); (try clear hk); (try clear hi); (try clear ho0); have p474 : 0 ≤ (x5_2 : Int) := of_decide_eq_true (by first | (with_reducible assumption) | assumption); have q474 : x5_2 < (l0.length : Int) := of_decide_eq_true (by first | (with_reducible assumption) | assumption); obtain ⟨ad474, e474, hx474_0⟩ := Kd.at_string HR0.out x5_2 p474 q474; obtain rfl : ad462 = ad474 := (by injection e474); replace hx474_0 := hcell HB.out hx474_0; replace p474 := eq_true p474; replace q474 := eq_true q474) | ((with_reducible refine gate_callee (f := 23) rfl ?_); refine goesL_ (some 43) rfl rfl Try.func23 (by kernel_rfl) rfl #[.pointer (some ⟨gb459, 0, none⟩), .string (rdOf ByteArray.empty l0 x5_2)] rfl kA ?_; (with_reducible refine (intrusionref09_Reader_Feed.calls k2 gb459 x460000_2 x460001_2 x460002_2 x460003_2 x460004_2 x460005_2 x460006_2 (rdOf ByteArray.empty l0 x5_2) t475 t478 t479 t480 t481 t482 t483 t484 t485 w _ ?side1 ?side2 A14.out).mono ?_); (case side1 => repeat (first | (with_reducible first | exact HI459.out | apply IsS41.alloc | apply IsS41.drewN | apply IsS41.drew | apply IsS41.set_0 | apply IsS41.set_1 | apply IsS41.set_2 | apply IsS41.set_3 | apply IsS41.set_4 | apply IsS41.set_5 | apply IsS41.set_6) | exact HI459.out)); (case side2 => exact kB2 HB.out (IsS47.ge HI458.out) (IsS41.ge HI459.out)); rintro e w19 ⟨v476, rfl, ho0, hi, hb, hk⟩; refine ⟨_, rfl, ?_⟩; have HO477 := As (Kd.R_lower (Kd.R_new' ho0 (Kd.R_lt (kR HO465.out))) (below_size (kB2 HB.out (IsS47.ge HI458.out) (IsS41.ge HI459.out)))); replace HI458 := As ((show IsS47 w _ g458 t467 t468 t469 t470 t471 t472 t473 from ⟨KeepBut.blk hk (show IsS47 w _ g458 t467 t468 t469 t470 t471 t472 t473 from by repeat (first | (with_reducible first | exact HI458.out | apply IsS47.alloc | apply IsS47.drewN | apply IsS47.drew | apply IsS47.set_0 | apply IsS47.set_1 | apply IsS47.set_2 | apply IsS47.set_3 | apply IsS47.set_4 | apply IsS47.set_5 | apply IsS47.set_6) | exact HI458.out)).1 (fun e_ => by have h1_ := (show IsS47 w _ g458 t467 t468 t469 t470 t471 t472 t473 from by repeat (first | (with_reducible first | exact HI458.out | apply IsS47.alloc | apply IsS47.drewN | apply IsS47.drew | apply IsS47.set_0 | apply IsS47.set_1 | apply IsS47.set_2 | apply IsS47.set_3 | apply IsS47.set_4 | apply IsS47.set_5 | apply IsS47.set_6) | exact HI458.out)).1; have h2_ := (show IsS41 w _ gb459 x460000_2 x460001_2 x460002_2 x460003_2 x460004_2 x460005_2 x460006_2 from by repeat (first | (with_reducible first | exact HI459.out | apply IsS41.alloc | apply IsS41.drewN | apply IsS41.drew | apply IsS41.set_0 | apply IsS41.set_1 | apply IsS41.set_2 | apply IsS41.set_3 | apply IsS41.set_4 | apply IsS41.set_5 | apply IsS41.set_6) | exact HI459.out)).1; rw [e_] at h1_; rw [h1_] at h2_; injection h2_ with h2_; injection h2_ with _ h3_; exact absurd h3_ (by decide)) (by simp), (show IsS47 w _ g458 t467 t468 t469 t470 t471 t472 t473 from by repeat (first | (with_reducible first | exact HI458.out | apply IsS47.alloc | apply IsS47.drewN | apply IsS47.drew | apply IsS47.set_0 | apply IsS47.set_1 | apply IsS47.set_2 | apply IsS47.set_3 | apply IsS47.set_4 | apply IsS47.set_5 | apply IsS47.set_6) | exact HI458.out)).2⟩)); replace HO465 := As (Kd.R_mono (Kd.R_told (Kd.R_oldK (IsS41.apart (show IsS41 w _ gb459 x460000_2 x460001_2 x460002_2 x460003_2 x460004_2 x460005_2 x460006_2 from by repeat (first | (with_reducible first | exact HI459.out | apply IsS41.alloc | apply IsS41.drewN | apply IsS41.drew | apply IsS41.set_0 | apply IsS41.set_1 | apply IsS41.set_2 | apply IsS41.set_3 | apply IsS41.set_4 | apply IsS41.set_5 | apply IsS41.set_6) | exact HI459.out)) (kR HO465.out) (by decide)) hk) (Kd.R_base ho0)) (fun _ h_ => h_.1)); replace HB := As (hb); replace HI459 := As (hi); (try clear hb); (try clear hk); (try clear hi); (try clear ho0); obtain ⟨Ao20, co20, eo20⟩ := Kd.R_slice HO465.out; subst eo20; obtain ⟨Ao21, co21, eo21⟩ := Kd.R_slice HO477.out; subst eo21) | ((with_reducible refine gate_callee (f := 14) rfl ?_); refine goesL_ (some 48) rfl rfl Try.func14 (by kernel_rfl) rfl #[.slice Ao20 t463.length co20, .slice Ao21 t475.length co21] rfl kA ?_; (with_reducible refine (intrusionref09_Same.calls k2 _ _ t463 _ _ t475 true _ ?side1 ?side2 ?side3 ?side4 A15.out).mono ?_); (case side1 => repeat (first | exact (Kd.R_reads' HO465.out).2.2 | (with_reducible refine Kd.C_alloc ?_ _) | (with_reducible refine Kd.C_drewN ?_ _) | (with_reducible refine Kd.C_drew ?_))); (case side2 => exact (Kd.R_reads' HO465.out).2.1); (case side3 => repeat (first | exact (Kd.R_reads' HO477.out).2.2 | (with_reducible refine Kd.C_alloc ?_ _) | (with_reducible refine Kd.C_drewN ?_ _) | (with_reducible refine Kd.C_drew ?_))); (case side4 => exact (Kd.R_reads' HO477.out).2.1); rintro e w' ⟨rfl, ⟨nd, rfl⟩⟩; refine ⟨_, rfl, ?_⟩))
       go_roundg k2
       case measure => have := HJ2.out; have := HK2.out; omega
       case rel => exact ⟨(wrap64 (x5_2 + 1)), (t467), (t468), (t469), (t470), (t471), (t472), (t473), (t479), (t480), (t481), (t482), (t483), (t484), (t485), kS, H', ⟨by have := HJ2.out; have := HK2.out; omega⟩, ⟨by repeat (first | (with_reducible first | exact HI458.out | apply IsS47.alloc | apply IsS47.drewN | apply IsS47.drew | apply IsS47.set_0 | apply IsS47.set_1 | apply IsS47.set_2 | apply IsS47.set_3 | apply IsS47.set_4 | apply IsS47.set_5 | apply IsS47.set_6) | exact HI458.out)⟩, ⟨by repeat (first | (with_reducible first | exact HI459.out | apply IsS41.alloc | apply IsS41.drewN | apply IsS41.drew | apply IsS41.set_0 | apply IsS41.set_1 | apply IsS41.set_2 | apply IsS41.set_3 | apply IsS41.set_4 | apply IsS41.set_5 | apply IsS41.set_6) | exact HI459.out)⟩, ⟨kB2 HB.out (IsS47.ge HI458.out) (IsS41.ge HI459.out)⟩⟩
      rw [if_neg c17] at H
      exact absurd H (by simp)
     replace c16 := Bool.eq_false_iff.mpr c16
     subst c16
     have H1 : (none) = some r := by rw [if_neg (show ¬ (false = true) by decide)] at H; exact H
     clear H
     have H := H1
     clear H1
     exact absurd H (by simp)
    rw [if_neg c12] at H
    exact absurd H (by simp)
   rw [if_neg c11] at H
   have c11b0 : decide (x5_2 < (l0.length : Int)) = false := decide_eq_false c11
   clear c11
   replace H := Option.bind_eq_some_iff.mp H
   obtain ⟨⟨t487, t488, t489, t490, t491, t492, t493, t494⟩, A220, H⟩ := H
   replace H : ((intrusionref09_Reader_Close.f x460000_2 x460001_2 x460002_2 x460003_2 x460004_2 x460005_2 x460006_2).bind fun bt495 => (if t487 = bt495.1 then ((capture_Reader_Feed.f k2 t488 t489 t490 t491 t492 t493 t494 (⟨#[]⟩ : ByteArray)).bind fun bt503 => (if (bt503.1.length : Int) = 0 then (if bt503.2.1 = 10 then ((capture_Reader_Close.f bt503.2.2.1 bt503.2.2.2.1 bt503.2.2.2.2.1 bt503.2.2.2.2.2.1 bt503.2.2.2.2.2.2.1 bt503.2.2.2.2.2.2.2.1 bt503.2.2.2.2.2.2.2.2).bind fun bt514 => (if bt514.1 = 10 then ((intrusionlaw09_lives.f k2).bind fun t522 => (some t522)) else (none))) else (none)) else (none))) else (none))) = some r := H
   have A22 := As A220
   clear A220
   replace H := Option.bind_eq_some_iff.mp H
   obtain ⟨⟨t495, t496, t497, t498, t499, t500, t501, t502⟩, A230, H⟩ := H
   replace H : (if t487 = t495 then ((capture_Reader_Feed.f k2 t488 t489 t490 t491 t492 t493 t494 (⟨#[]⟩ : ByteArray)).bind fun bt503 => (if (bt503.1.length : Int) = 0 then (if bt503.2.1 = 10 then ((capture_Reader_Close.f bt503.2.2.1 bt503.2.2.2.1 bt503.2.2.2.2.1 bt503.2.2.2.2.2.1 bt503.2.2.2.2.2.2.1 bt503.2.2.2.2.2.2.2.1 bt503.2.2.2.2.2.2.2.2).bind fun bt514 => (if bt514.1 = 10 then ((intrusionlaw09_lives.f k2).bind fun t522 => (some t522)) else (none))) else (none)) else (none))) else (none)) = some r := H
   have A23 := As A230
   clear A230
   by_cases c24 : t487 = t495
   ·rw [if_pos c24] at H
    have c24b0 : (t487 == t495) = true := beq_iff_eq.mpr c24
    have c24b1 : (t487 != t495) = false := bne_eq_false_iff_eq.mpr c24
    clear c24
    replace H := Option.bind_eq_some_iff.mp H
    obtain ⟨⟨t503, t506, t507, t508, t509, t510, t511, t512, t513⟩, A250, H⟩ := H
    replace H : (if (t503.length : Int) = 0 then (if t506 = 10 then ((capture_Reader_Close.f t507 t508 t509 t510 t511 t512 t513).bind fun bt514 => (if bt514.1 = 10 then ((intrusionlaw09_lives.f k2).bind fun t522 => (some t522)) else (none))) else (none)) else (none)) = some r := H
    have A25 := As A250
    clear A250
    by_cases c26 : (t503.length : Int) = 0
    ·rw [if_pos c26] at H
     have c26b0 : ((t503.length : Int) == 0) = true := beq_iff_eq.mpr c26
     have c26b1 : ((t503.length : Int) != 0) = false := bne_eq_false_iff_eq.mpr c26
     clear c26
     by_cases c27 : t506 = 10
     ·rw [if_pos c27] at H
      have c27b0 : (t506 == 10) = true := beq_iff_eq.mpr c27
      have c27b1 : (t506 != 10) = false := bne_eq_false_iff_eq.mpr c27
      clear c27
      replace H := Option.bind_eq_some_iff.mp H
      obtain ⟨⟨t514, t515, t516, t517, t518, t519, t520, t521⟩, A280, H⟩ := H
      replace H : (if t514 = 10 then ((intrusionlaw09_lives.f k2).bind fun t522 => (some t522)) else (none)) = some r := H
      have A28 := As A280
      clear A280
      by_cases c29 : t514 = 10
      ·rw [if_pos c29] at H
       have c29b0 : (t514 == 10) = true := beq_iff_eq.mpr c29
       have c29b1 : (t514 != 10) = false := bne_eq_false_iff_eq.mpr c29
       clear c29
       replace H := Option.bind_eq_some_iff.mp H
       obtain ⟨t522, A300, H⟩ := H
       replace H : (some t522) = some r := H
       have A30 := As A300
       clear A300
       obtain rfl := Option.some.inj H
       go_wp2_with (first | ((with_reducible refine gate_callee (f := 24) rfl ?_); refine goesL_ (some 56) rfl rfl Try.func24 (by kernel_rfl) rfl #[.pointer (some ⟨g458, 0, none⟩)] rfl kA ?_; (with_reducible refine (capture_Reader_Close.calls g458 x459000_2 x459001_2 x459002_2 x459003_2 x459004_2 x459005_2 x459006_2 t487 t488 t489 t490 t491 t492 t493 t494 w _ ?side1 ?side2 A22.out).mono ?_); (case side1 => repeat (first | (with_reducible first | exact HI458.out | apply IsS47.alloc | apply IsS47.drewN | apply IsS47.drew | apply IsS47.set_0 | apply IsS47.set_1 | apply IsS47.set_2 | apply IsS47.set_3 | apply IsS47.set_4 | apply IsS47.set_5 | apply IsS47.set_6) | exact HI458.out)); (case side2 => exact kB2 HB.out (IsS47.ge HI458.out) (IsS41.ge HI459.out)); rintro e w31 ⟨rfl, hi, hb, hk⟩; refine ⟨_, rfl, ?_⟩; replace HI459 := As ((show IsS41 w _ gb459 x460000_2 x460001_2 x460002_2 x460003_2 x460004_2 x460005_2 x460006_2 from ⟨KeepBut.blk hk (show IsS41 w _ gb459 x460000_2 x460001_2 x460002_2 x460003_2 x460004_2 x460005_2 x460006_2 from by repeat (first | (with_reducible first | exact HI459.out | apply IsS41.alloc | apply IsS41.drewN | apply IsS41.drew | apply IsS41.set_0 | apply IsS41.set_1 | apply IsS41.set_2 | apply IsS41.set_3 | apply IsS41.set_4 | apply IsS41.set_5 | apply IsS41.set_6) | exact HI459.out)).1 (fun e_ => by have h1_ := (show IsS41 w _ gb459 x460000_2 x460001_2 x460002_2 x460003_2 x460004_2 x460005_2 x460006_2 from by repeat (first | (with_reducible first | exact HI459.out | apply IsS41.alloc | apply IsS41.drewN | apply IsS41.drew | apply IsS41.set_0 | apply IsS41.set_1 | apply IsS41.set_2 | apply IsS41.set_3 | apply IsS41.set_4 | apply IsS41.set_5 | apply IsS41.set_6) | exact HI459.out)).1; have h2_ := (show IsS47 w _ g458 x459000_2 x459001_2 x459002_2 x459003_2 x459004_2 x459005_2 x459006_2 from by repeat (first | (with_reducible first | exact HI458.out | apply IsS47.alloc | apply IsS47.drewN | apply IsS47.drew | apply IsS47.set_0 | apply IsS47.set_1 | apply IsS47.set_2 | apply IsS47.set_3 | apply IsS47.set_4 | apply IsS47.set_5 | apply IsS47.set_6) | exact HI458.out)).1; rw [e_] at h1_; rw [h1_] at h2_; injection h2_ with h2_; injection h2_ with _ h3_; exact absurd h3_ (by decide)) (by simp), (show IsS41 w _ gb459 x460000_2 x460001_2 x460002_2 x460003_2 x460004_2 x460005_2 x460006_2 from by repeat (first | (with_reducible first | exact HI459.out | apply IsS41.alloc | apply IsS41.drewN | apply IsS41.drew | apply IsS41.set_0 | apply IsS41.set_1 | apply IsS41.set_2 | apply IsS41.set_3 | apply IsS41.set_4 | apply IsS41.set_5 | apply IsS41.set_6) | exact HI459.out)).2⟩)); replace HB := As (hb); replace HI458 := As (hi); (try clear hb); (try clear hk); (try clear hi)) | ((with_reducible refine gate_callee (f := 25) rfl ?_); refine goesL_ (some 58) rfl rfl Try.func25 (by kernel_rfl) rfl #[.pointer (some ⟨gb459, 0, none⟩)] rfl kA ?_; (with_reducible refine (intrusionref09_Reader_Close.calls gb459 x460000_2 x460001_2 x460002_2 x460003_2 x460004_2 x460005_2 x460006_2 t495 t496 t497 t498 t499 t500 t501 t502 w _ ?side1 ?side2 A23.out).mono ?_); (case side1 => repeat (first | (with_reducible first | exact HI459.out | apply IsS41.alloc | apply IsS41.drewN | apply IsS41.drew | apply IsS41.set_0 | apply IsS41.set_1 | apply IsS41.set_2 | apply IsS41.set_3 | apply IsS41.set_4 | apply IsS41.set_5 | apply IsS41.set_6) | exact HI459.out)); (case side2 => exact kB2 HB.out (IsS47.ge HI458.out) (IsS41.ge HI459.out)); rintro e w32 ⟨rfl, hi, hb, hk⟩; refine ⟨_, rfl, ?_⟩; replace HI458 := As ((show IsS47 w _ g458 t488 t489 t490 t491 t492 t493 t494 from ⟨KeepBut.blk hk (show IsS47 w _ g458 t488 t489 t490 t491 t492 t493 t494 from by repeat (first | (with_reducible first | exact HI458.out | apply IsS47.alloc | apply IsS47.drewN | apply IsS47.drew | apply IsS47.set_0 | apply IsS47.set_1 | apply IsS47.set_2 | apply IsS47.set_3 | apply IsS47.set_4 | apply IsS47.set_5 | apply IsS47.set_6) | exact HI458.out)).1 (fun e_ => by have h1_ := (show IsS47 w _ g458 t488 t489 t490 t491 t492 t493 t494 from by repeat (first | (with_reducible first | exact HI458.out | apply IsS47.alloc | apply IsS47.drewN | apply IsS47.drew | apply IsS47.set_0 | apply IsS47.set_1 | apply IsS47.set_2 | apply IsS47.set_3 | apply IsS47.set_4 | apply IsS47.set_5 | apply IsS47.set_6) | exact HI458.out)).1; have h2_ := (show IsS41 w _ gb459 x460000_2 x460001_2 x460002_2 x460003_2 x460004_2 x460005_2 x460006_2 from by repeat (first | (with_reducible first | exact HI459.out | apply IsS41.alloc | apply IsS41.drewN | apply IsS41.drew | apply IsS41.set_0 | apply IsS41.set_1 | apply IsS41.set_2 | apply IsS41.set_3 | apply IsS41.set_4 | apply IsS41.set_5 | apply IsS41.set_6) | exact HI459.out)).1; rw [e_] at h1_; rw [h1_] at h2_; injection h2_ with h2_; injection h2_ with _ h3_; exact absurd h3_ (by decide)) (by simp), (show IsS47 w _ g458 t488 t489 t490 t491 t492 t493 t494 from by repeat (first | (with_reducible first | exact HI458.out | apply IsS47.alloc | apply IsS47.drewN | apply IsS47.drew | apply IsS47.set_0 | apply IsS47.set_1 | apply IsS47.set_2 | apply IsS47.set_3 | apply IsS47.set_4 | apply IsS47.set_5 | apply IsS47.set_6) | exact HI458.out)).2⟩)); replace HB := As (hb); replace HI459 := As (hi); (try clear hb); (try clear hk); (try clear hi)) | ((with_reducible refine gate_callee (f := 22) rfl ?_); refine goesL_ (some 62) rfl rfl Try.func22 (by kernel_rfl) rfl #[.pointer (some ⟨g458, 0, none⟩), .string (⟨#[]⟩ : ByteArray)] rfl kA ?_; (with_reducible refine (capture_Reader_Feed.calls k2 g458 t488 t489 t490 t491 t492 t493 t494 (⟨#[]⟩ : ByteArray) t503 t506 t507 t508 t509 t510 t511 t512 t513 w _ ?side1 ?side2 A25.out).mono ?_); (case side1 => repeat (first | (with_reducible first | exact HI458.out | apply IsS47.alloc | apply IsS47.drewN | apply IsS47.drew | apply IsS47.set_0 | apply IsS47.set_1 | apply IsS47.set_2 | apply IsS47.set_3 | apply IsS47.set_4 | apply IsS47.set_5 | apply IsS47.set_6) | exact HI458.out)); (case side2 => exact kB2 HB.out (IsS47.ge HI458.out) (IsS41.ge HI459.out)); rintro e w33 ⟨v504, rfl, ho0, hi, hb, hk⟩; refine ⟨_, rfl, ?_⟩; have HO505 := As (Kd.R_lower ho0 (below_size (kB2 HB.out (IsS47.ge HI458.out) (IsS41.ge HI459.out)))); replace HI459 := As ((show IsS41 w _ gb459 t496 t497 t498 t499 t500 t501 t502 from ⟨KeepBut.blk hk (show IsS41 w _ gb459 t496 t497 t498 t499 t500 t501 t502 from by repeat (first | (with_reducible first | exact HI459.out | apply IsS41.alloc | apply IsS41.drewN | apply IsS41.drew | apply IsS41.set_0 | apply IsS41.set_1 | apply IsS41.set_2 | apply IsS41.set_3 | apply IsS41.set_4 | apply IsS41.set_5 | apply IsS41.set_6) | exact HI459.out)).1 (fun e_ => by have h1_ := (show IsS41 w _ gb459 t496 t497 t498 t499 t500 t501 t502 from by repeat (first | (with_reducible first | exact HI459.out | apply IsS41.alloc | apply IsS41.drewN | apply IsS41.drew | apply IsS41.set_0 | apply IsS41.set_1 | apply IsS41.set_2 | apply IsS41.set_3 | apply IsS41.set_4 | apply IsS41.set_5 | apply IsS41.set_6) | exact HI459.out)).1; have h2_ := (show IsS47 w _ g458 t488 t489 t490 t491 t492 t493 t494 from by repeat (first | (with_reducible first | exact HI458.out | apply IsS47.alloc | apply IsS47.drewN | apply IsS47.drew | apply IsS47.set_0 | apply IsS47.set_1 | apply IsS47.set_2 | apply IsS47.set_3 | apply IsS47.set_4 | apply IsS47.set_5 | apply IsS47.set_6) | exact HI458.out)).1; rw [e_] at h1_; rw [h1_] at h2_; injection h2_ with h2_; injection h2_ with _ h3_; exact absurd h3_ (by decide)) (by simp), (show IsS41 w _ gb459 t496 t497 t498 t499 t500 t501 t502 from by repeat (first | (with_reducible first | exact HI459.out | apply IsS41.alloc | apply IsS41.drewN | apply IsS41.drew | apply IsS41.set_0 | apply IsS41.set_1 | apply IsS41.set_2 | apply IsS41.set_3 | apply IsS41.set_4 | apply IsS41.set_5 | apply IsS41.set_6) | exact HI459.out)).2⟩)); replace HB := As (hb); replace HI458 := As (hi); (try clear hb); (try clear hk); (try clear hi); (try clear ho0); obtain ⟨Ao34, co34, eo34⟩ := Kd.R_slice HO505.out; subst eo34) | (go_at_call 24; (with_reducible refine (capture_Reader_Close.calls g458 t507 t508 t509 t510 t511 t512 t513 t514 t515 t516 t517 t518 t519 t520 t521 w _ ?side1 ?side2 A28.out).mono ?_); (case side1 => repeat (first | (with_reducible first | exact HI458.out | apply IsS47.alloc | apply IsS47.drewN | apply IsS47.drew | apply IsS47.set_0 | apply IsS47.set_1 | apply IsS47.set_2 | apply IsS47.set_3 | apply IsS47.set_4 | apply IsS47.set_5 | apply IsS47.set_6) | exact HI458.out)); (case side2 => exact kB2 HB.out (IsS47.ge HI458.out) (IsS41.ge HI459.out)); rintro e w35 ⟨rfl, hi, hb, hk⟩; replace HI459 := As ((show IsS41 w _ gb459 t496 t497 t498 t499 t500 t501 t502 from ⟨KeepBut.blk hk (show IsS41 w _ gb459 t496 t497 t498 t499 t500 t501 t502 from by repeat (first | (with_reducible first | exact HI459.out | apply IsS41.alloc | apply IsS41.drewN | apply IsS41.drew | apply IsS41.set_0 | apply IsS41.set_1 | apply IsS41.set_2 | apply IsS41.set_3 | apply IsS41.set_4 | apply IsS41.set_5 | apply IsS41.set_6) | exact HI459.out)).1 (fun e_ => by have h1_ := (show IsS41 w _ gb459 t496 t497 t498 t499 t500 t501 t502 from by repeat (first | (with_reducible first | exact HI459.out | apply IsS41.alloc | apply IsS41.drewN | apply IsS41.drew | apply IsS41.set_0 | apply IsS41.set_1 | apply IsS41.set_2 | apply IsS41.set_3 | apply IsS41.set_4 | apply IsS41.set_5 | apply IsS41.set_6) | exact HI459.out)).1; have h2_ := (show IsS47 w _ g458 t507 t508 t509 t510 t511 t512 t513 from by repeat (first | (with_reducible first | exact HI458.out | apply IsS47.alloc | apply IsS47.drewN | apply IsS47.drew | apply IsS47.set_0 | apply IsS47.set_1 | apply IsS47.set_2 | apply IsS47.set_3 | apply IsS47.set_4 | apply IsS47.set_5 | apply IsS47.set_6) | exact HI458.out)).1; rw [e_] at h1_; rw [h1_] at h2_; injection h2_ with h2_; injection h2_ with _ h3_; exact absurd h3_ (by decide)) (by simp), (show IsS41 w _ gb459 t496 t497 t498 t499 t500 t501 t502 from by repeat (first | (with_reducible first | exact HI459.out | apply IsS41.alloc | apply IsS41.drewN | apply IsS41.drew | apply IsS41.set_0 | apply IsS41.set_1 | apply IsS41.set_2 | apply IsS41.set_3 | apply IsS41.set_4 | apply IsS41.set_5 | apply IsS41.set_6) | exact HI459.out)).2⟩)); replace HO505 := As (Kd.R_mono (Kd.R_keep (IsS47.apart (show IsS47 w _ g458 t507 t508 t509 t510 t511 t512 t513 from by repeat (first | (with_reducible first | exact HI458.out | apply IsS47.alloc | apply IsS47.drewN | apply IsS47.drew | apply IsS47.set_0 | apply IsS47.set_1 | apply IsS47.set_2 | apply IsS47.set_3 | apply IsS47.set_4 | apply IsS47.set_5 | apply IsS47.set_6) | exact HI458.out)) (kR HO505.out) (by decide)) hk (fun _ h => h.2)) (fun _ h => h.1)); replace HB := As (hb); replace HI458 := As (hi); (try clear hb); (try clear hk); (try clear hi)) | (go_at_call 11; (with_reducible refine (intrusionlaw09_lives.calls k2  t522 _ A30.out).mono ?_); rintro e w36 ⟨rfl, hb⟩; replace HO505 := As (Kd.R_below (kR HO505.out) hb); replace HB := As (below_step (kB2 HB.out (IsS47.ge HI458.out) (IsS41.ge HI459.out)) hb); replace HI458 := As (IsS47.below (by repeat (first | (with_reducible first | exact HI458.out | apply IsS47.alloc | apply IsS47.drewN | apply IsS47.drew | apply IsS47.set_0 | apply IsS47.set_1 | apply IsS47.set_2 | apply IsS47.set_3 | apply IsS47.set_4 | apply IsS47.set_5 | apply IsS47.set_6) | exact HI458.out)) hb); replace HI459 := As (IsS41.below (by repeat (first | (with_reducible first | exact HI459.out | apply IsS41.alloc | apply IsS41.drewN | apply IsS41.drew | apply IsS41.set_0 | apply IsS41.set_1 | apply IsS41.set_2 | apply IsS41.set_3 | apply IsS41.set_4 | apply IsS41.set_5 | apply IsS41.set_6) | exact HI459.out)) hb); (try clear hb); (try clear hk); (try clear hi)))
       go_ret
       exact ⟨kE, by exact kB2 HB.out (IsS47.ge HI458.out) (IsS41.ge HI459.out)⟩
      rw [if_neg c29] at H
      exact absurd H (by simp)
     rw [if_neg c27] at H
     exact absurd H (by simp)
    rw [if_neg c26] at H
    exact absurd H (by simp)
   rw [if_neg c24] at H
   exact absurd H (by simp)

end Go.Proofs.Ytafjmciojeondaa.X
-- short
