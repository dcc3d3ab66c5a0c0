/- Functions and their walks, printed by xprint.py. -/
import Derived.Test.YtobioaommmgehaaZ0
import Derived.Test.YtobioaommmgehaaZ9
import Derived.Test.YtobioaommmgehaaZ10
import Derived.Test.YtobioaommmgehaaZ11
import Derived.Test.YtobioaommmgehaaZ12
import Derived.Test.YtobioaommmgehaaZ13
namespace Go.Proofs.Ytobioaommmgehaa.Z
open Go.RowKit Go.Proofs.YtobioaommmgehaaW.PrintWords Go.Proofs.YtobioaommmgehaaW.PrintLast Go.Proofs.YtobioaommmgehaaW.PrintMore
attribute [local go_sem] max2_int min2_int max_two min_two max_three min_three max_four min_four   -- for this text's walks alone
set_option linter.unusedVariables false
set_option linter.unusedSimpArgs false

/-! ### intrusionlaw11_Ipv4Parts: function 9 -/
mutual
def intrusionlaw11_Ipv4Parts.j0 : Nat → Int → Bool → Int → Int → Int → Int → Bool → Bool → Int → Bool → Int → Int → Bool → Int → Int → List (S50) → ByteArray → Option (Bool)
 | 0, _, _, _, _, _, _, _, _, _, _, _, _, _, _, _, _, _ => none
 | k + 1, x1, x19, b0, b1, b2, b3, b4, b5, b6, b7, b8, b9, b10, b11, b12, b13, b14 => if x19 = true then ((intrusionlaw11_awake.f k).bind fun t533 => (some t533)) else ((ipv4_Split.f k b0 b1 b2 b3 b4 b5 b6 b7 b8 b9 b10 b11 b12 b13 b14 x1).bind fun bt534 => (if bt534.2 = 0 then (intrusionlaw11_Ipv4Parts.l0 k x1 bt534.1 (⟨#[]⟩ : ByteArray) (bt534.1.length : Int) 0 b0 b1 b2 b3 b4 b5 b6 b7 b8 b9 b10 b11 b12 b13 b14) else (if (bt534.1.length : Int) = 0 then ((intrusionlaw11_awake.f k).bind fun t538 => (some t538)) else (none))))
def intrusionlaw11_Ipv4Parts.l0 : Nat → Int → List (S28) → ByteArray → Int → Int → Int → Int → Int → Int → Bool → Bool → Int → Bool → Int → Int → Bool → Int → Int → List (S50) → ByteArray → Option (Bool)
 | 0, _, _, _, _, _, _, _, _, _, _, _, _, _, _, _, _, _, _, _, _ => none
 | k + 1, x1, x5, x7, x36, x37, b0, b1, b2, b3, b4, b5, b6, b7, b8, b9, b10, b11, b12, b13, b14 => if x37 < x36 then (if 0 ≤ x37 then (if x37 < (x5.length : Int) then ((ipv4_Fragment.f ((rd_T28 x5 x37).f0) ((rd_T28 x5 x37).f1) ((rd_T28 x5 x37).f2) ((rd_T28 x5 x37).f3) ((rd_T28 x5 x37).f4) ((rd_T28 x5 x37).f5) ((rd_T28 x5 x37).f6) ((rd_T28 x5 x37).f7.f0) ((rd_T28 x5 x37).f7.f1) ((rd_T28 x5 x37).f7.f2) ((rd_T28 x5 x37).f8.f0) ((rd_T28 x5 x37).f8.f1) ((rd_T28 x5 x37).f8.f2) ((rd_T28 x5 x37).f9) ((rd_T28 x5 x37).f10)).bind fun bt541 => ((ipv4_Encode.f k ((rd_T28 x5 x37).f0) ((rd_T28 x5 x37).f1) ((rd_T28 x5 x37).f2) ((rd_T28 x5 x37).f3) ((rd_T28 x5 x37).f4) ((rd_T28 x5 x37).f5) ((rd_T28 x5 x37).f6) ((rd_T28 x5 x37).f7.f0) ((rd_T28 x5 x37).f7.f1) ((rd_T28 x5 x37).f7.f2) ((rd_T28 x5 x37).f8.f0) ((rd_T28 x5 x37).f8.f1) ((rd_T28 x5 x37).f8.f2) ((rd_T28 x5 x37).f9) ((rd_T28 x5 x37).f10)).bind fun bt555 => (if bt555.2 = 0 then (if bt541.2.2.2.2.2.2.2.2.2.1 = (wrap64 (b6 + (x7.size : Int))) then (if bt541.2.2.2.2.2.2.2.1 = b1 then (if (bt541.2.2.2.2.2.2.2.2.2.2.2.size : Int) > x1 then (none) else (if x37 < (wrap64 ((x5.length : Int) - 1)) then (if (bt541.2.2.2.2.2.2.2.2.2.2.1 != true) = true then (none) else (if x7.size + bt541.2.2.2.2.2.2.2.2.2.2.2.size ≤ 9223372036854775807 then (intrusionlaw11_Ipv4Parts.l0 k x1 x5 (x7 ++ bt541.2.2.2.2.2.2.2.2.2.2.2) x36 (wrap64 (x37 + 1)) b0 b1 b2 b3 b4 b5 b6 b7 b8 b9 b10 b11 b12 b13 b14) else (none))) else (if (bt541.2.2.2.2.2.2.2.2.2.2.1 != b5) = true then (none) else (if x7.size + bt541.2.2.2.2.2.2.2.2.2.2.2.size ≤ 9223372036854775807 then (intrusionlaw11_Ipv4Parts.l0 k x1 x5 (x7 ++ bt541.2.2.2.2.2.2.2.2.2.2.2) x36 (wrap64 (x37 + 1)) b0 b1 b2 b3 b4 b5 b6 b7 b8 b9 b10 b11 b12 b13 b14) else (none))))) else (none)) else (none)) else (none)))) else (none)) else (none)) else (if x7.toList = b14.toList then ((intrusionlaw11_awake.f k).bind fun t539 => (some t539)) else (none))
end
def intrusionlaw11_Ipv4Parts.f (k : Nat) (d0 : Int) (d1 : Int) (d2 : Int) (d3 : Int) (d4 : Bool) (d5 : Bool) (d6 : Int) (d7 : Bool) (d8 : Int) (d9 : Int) (d10 : Bool) (d11 : Int) (d12 : Int) (l0_13 : List (S50)) (d14 : ByteArray) (a1 : Int) : Option (Bool) := (intrusionlaw11_large.f d0 d1 d2 d3 d4 d5 d6 d7 d8 d9 d10 d11 d12 l0_13 d14).bind fun t532 => (if t532 = true then (intrusionlaw11_Ipv4Parts.j0 k a1 true d0 d1 d2 d3 d4 d5 d6 d7 d8 d9 d10 d11 d12 l0_13 d14) else (intrusionlaw11_Ipv4Parts.j0 k a1 (decide ((d14.size : Int) > 3000)) d0 d1 d2 d3 d4 d5 d6 d7 d8 d9 d10 d11 d12 l0_13 d14))
theorem intrusionlaw11_Ipv4Parts.mono_l : ∀ k, (∀ y0 y1 y2 y3 y4 y5 y6 y7 y8 y9 y10 y11 y12 y13 y14 y15 y16, LeO (intrusionlaw11_Ipv4Parts.j0 k y0 y1 y2 y3 y4 y5 y6 y7 y8 y9 y10 y11 y12 y13 y14 y15 y16) (intrusionlaw11_Ipv4Parts.j0 (k + 1) y0 y1 y2 y3 y4 y5 y6 y7 y8 y9 y10 y11 y12 y13 y14 y15 y16)) ∧ (∀ y0 y1 y2 y3 y4 y5 y6 y7 y8 y9 y10 y11 y12 y13 y14 y15 y16 y17 y18 y19, LeO (intrusionlaw11_Ipv4Parts.l0 k y0 y1 y2 y3 y4 y5 y6 y7 y8 y9 y10 y11 y12 y13 y14 y15 y16 y17 y18 y19) (intrusionlaw11_Ipv4Parts.l0 (k + 1) y0 y1 y2 y3 y4 y5 y6 y7 y8 y9 y10 y11 y12 y13 y14 y15 y16 y17 y18 y19))
 | 0 => ⟨fun _ _ _ _ _ _ _ _ _ _ _ _ _ _ _ _ _ r h => by simp [intrusionlaw11_Ipv4Parts.j0] at h, fun _ _ _ _ _ _ _ _ _ _ _ _ _ _ _ _ _ _ _ _ r h => by simp [intrusionlaw11_Ipv4Parts.l0] at h⟩
 | k + 1 => by
  obtain ⟨ih0, ih1⟩ := intrusionlaw11_Ipv4Parts.mono_l k
  refine ⟨?_, ?_⟩
  ·intro y0 y1 y2 y3 y4 y5 y6 y7 y8 y9 y10 y11 y12 y13 y14 y15 y16
   unfold intrusionlaw11_Ipv4Parts.j0
   repeat' first | with_reducible first | apply ih0 | apply ih1 | apply intrusionlaw11_awake.mono | apply ipv4_Encode.mono | apply ipv4_Split.mono | apply LeO.refl | apply LeO.none | refine LeO.ite ?_ ?_ | refine LeO.bind ?_ (fun _ => ?_)
  intro y0 y1 y2 y3 y4 y5 y6 y7 y8 y9 y10 y11 y12 y13 y14 y15 y16 y17 y18 y19
  unfold intrusionlaw11_Ipv4Parts.l0
  repeat' first | with_reducible first | apply ih0 | apply ih1 | apply intrusionlaw11_awake.mono | apply ipv4_Encode.mono | apply ipv4_Split.mono | apply LeO.refl | apply LeO.none | refine LeO.ite ?_ ?_ | refine LeO.bind ?_ (fun _ => ?_)
theorem intrusionlaw11_Ipv4Parts.mono : ∀ a0 a1 a2 a3 a4 a5 a6 a7 a8 a9 a10 a11 a12 a13 a14 a15 k, LeO (intrusionlaw11_Ipv4Parts.f k a0 a1 a2 a3 a4 a5 a6 a7 a8 a9 a10 a11 a12 a13 a14 a15) (intrusionlaw11_Ipv4Parts.f (k + 1) a0 a1 a2 a3 a4 a5 a6 a7 a8 a9 a10 a11 a12 a13 a14 a15) := by
 intro a0 a1 a2 a3 a4 a5 a6 a7 a8 a9 a10 a11 a12 a13 a14 a15 k
 obtain ⟨ih0, ih1⟩ := intrusionlaw11_Ipv4Parts.mono_l k
 unfold intrusionlaw11_Ipv4Parts.f
 repeat' first | with_reducible first | apply ih0 | apply ih1 | apply intrusionlaw11_awake.mono | apply ipv4_Encode.mono | apply ipv4_Split.mono | apply LeO.refl | apply LeO.none | refine LeO.ite ?_ ?_ | refine LeO.bind ?_ (fun _ => ?_)
set_option maxHeartbeats 8000000 in
set_option maxRecDepth 100000 in
theorem intrusionlaw11_Ipv4Parts.calls (k : Nat) (d0 : Int) (d1 : Int) (d2 : Int) (d3 : Int) (d4 : Bool) (d5 : Bool) (d6 : Int) (d7 : Bool) (d8 : Int) (d9 : Int) (d10 : Bool) (d11 : Int) (d12 : Int) (A0_13 : Option Addr) (c0_13 : Nat) (l0_13 : List (S50)) (d14 : ByteArray) (a1 : Int) (r : Bool) (w : World) (hr0_13 : Kd.C k50 w A0_13 l0_13.length l0_13) (hc0_13 : l0_13.length ≤ c0_13) (h : intrusionlaw11_Ipv4Parts.f k d0 d1 d2 d3 d4 d5 d6 d7 d8 d9 d10 d11 d12 l0_13 d14 a1 = some r) :
  Calls Try.prog 9 #[.agg #[.int .i64 d0, .int .i64 d1, .int .i64 d2, .int .i64 d3, .bool d4, .bool d5, .int .i64 d6, .bool d7, .int .u64 d8, .int .u64 d9, .bool d10, .int .u64 d11, .int .u64 d12, .slice A0_13 l0_13.length c0_13, .string d14], .int .i64 a1] w fun e w' => e = .returned (.bool r) ∧ Below w.heap.size w w' := by
 have hu28 := Try.underlying28
 have hu38 := Try.underlying38
 have HR0_13 := As hr0_13
 have HC0_13 := As hc0_13
 clear hr0_13 hc0_13
 have HB := As (Below.refl w.heap.size w)
 have H : ((intrusionlaw11_large.f d0 d1 d2 d3 d4 d5 d6 d7 d8 d9 d10 d11 d12 l0_13 d14).bind fun t532 => (if t532 = true then (intrusionlaw11_Ipv4Parts.j0 k a1 true d0 d1 d2 d3 d4 d5 d6 d7 d8 d9 d10 d11 d12 l0_13 d14) else (intrusionlaw11_Ipv4Parts.j0 k a1 (decide ((d14.size : Int) > 3000)) d0 d1 d2 d3 d4 d5 d6 d7 d8 d9 d10 d11 d12 l0_13 d14))) = some r := h
 clear h
 have HC3 := As H
 clear H
 go_enter Try.func9, Try.ntmps9
 go_upto_region 1 with (first | ((with_reducible refine gate_dst (N := 2) rfl ?_); (try (refine gate_guard (by rfl) ?_; dsimp only)); refine box_event rfl (N := 2) rfl (cs := #[.int .i64 d0, .int .i64 d1, .int .i64 d2, .int .i64 d3, .bool d4, .bool d5, .int .i64 d6, .bool d7, .int .u64 d8, .int .u64 d9, .bool d10, .int .u64 d11, .int .u64 d12, .slice A0_13 l0_13.length c0_13, .string d14]) (t := 28) kG ?_; intro gb531 hg w4 hbox hb; have BK531 := As (hbox); have GW531 := As (gS hg (below_size (kB HB.out))); have GE531 := As (gS hg (below_size (kB HB.out))); replace HB := As (below_step (kB HB.out) hb); clear hb hbox hg))
 (try simp only [Act.put, sA, sZ, sS])
 go_cut [19] (fun v19 wc => ∃ (kq : Nat) (x19_2 : Bool), v19 = .bool x19_2 ∧ Aside0 (intrusionlaw11_Ipv4Parts.j0 kq a1 x19_2 d0 d1 d2 d3 d4 d5 d6 d7 d8 d9 d10 d11 d12 l0_13 d14 = some r) ∧ Aside0 (kq ≤ k) ∧ Aside0 (wc.heap[gb531]? = some (.cells #[.int .i64 d0, .int .i64 d1, .int .i64 d2, .int .i64 d3, .bool d4, .bool d5, .int .i64 d6, .bool d7, .int .u64 d8, .int .u64 d9, .bool d10, .int .u64 d11, .int .u64 d12, (.slice A0_13 l0_13.length c0_13), .string d14] 28 (0, 0))) ∧ Aside0 (Below w.heap.size w wc))
 case first =>
  have H := HC3.out
  clear HC3
  replace H := bS H
  obtain ⟨t532, A5, H⟩ := H
  by_cases c6 : t532 = true
  ·subst c6
   rw [if_pos rfl] at H
   have H' := As H
   clear H
   go_wp2_with (first | ((with_reducible refine gate_dst (N := 12) rfl ?_); (try (refine gate_guard (by rfl) ?_; dsimp only)); refine wpList_load_row rfl 28 _ rfl gb531 rfl 28 _ (0, 0) _ (kb BK531.out) Try.underlying28 rfl (by kernel_rfl) ?_) | ((with_reducible refine gate_callee (f := 14) rfl ?_); refine goesL_ (some 13) rfl rfl Try.func14 (by kernel_rfl) rfl #[.agg #[.int .i64 d0, .int .i64 d1, .int .i64 d2, .int .i64 d3, .bool d4, .bool d5, .int .i64 d6, .bool d7, .int .u64 d8, .int .u64 d9, .bool d10, .int .u64 d11, .int .u64 d12, .slice A0_13 l0_13.length c0_13, .string d14]] rfl kA ?_; (with_reducible refine (intrusionlaw11_large.calls d0 d1 d2 d3 d4 d5 d6 d7 d8 d9 d10 d11 d12 _ _ l0_13 d14 true _ ?side1 ?side2 A5.out).mono ?_); (case side1 => repeat (first | exact (Kd.C_below HR0_13.out HB.out) | (with_reducible refine Kd.C_alloc ?_ _) | (with_reducible refine Kd.C_drewN ?_ _) | (with_reducible refine Kd.C_drew ?_))); (case side2 => exact HC0_13.out); rintro e w7 ⟨rfl, hb⟩; refine ⟨_, rfl, ?_⟩; replace BK531 := As (blk_below (kb BK531.out) hb); replace HB := As (below_step (kB1 HB.out GE531.out) hb); (try clear hb)))
   go_meet
   case rel => exact ⟨_, (true), kS, H', ⟨by first | omega | exact Nat.le_refl _⟩, ⟨kb BK531.out⟩, ⟨kB1 HB.out GE531.out⟩⟩
  replace c6 := Bool.eq_false_iff.mpr c6
  subst c6
  rw [if_neg (show ¬ (false = true) by decide)] at H
  have H' := As H
  clear H
  go_wp2_with (first | ((with_reducible refine gate_dst (N := 12) rfl ?_); (try (refine gate_guard (by rfl) ?_; dsimp only)); refine wpList_load_row rfl 28 _ rfl gb531 rfl 28 _ (0, 0) _ (kb BK531.out) Try.underlying28 rfl (by kernel_rfl) ?_) | ((with_reducible refine gate_callee (f := 14) rfl ?_); refine goesL_ (some 13) rfl rfl Try.func14 (by kernel_rfl) rfl #[.agg #[.int .i64 d0, .int .i64 d1, .int .i64 d2, .int .i64 d3, .bool d4, .bool d5, .int .i64 d6, .bool d7, .int .u64 d8, .int .u64 d9, .bool d10, .int .u64 d11, .int .u64 d12, .slice A0_13 l0_13.length c0_13, .string d14]] rfl kA ?_; (with_reducible refine (intrusionlaw11_large.calls d0 d1 d2 d3 d4 d5 d6 d7 d8 d9 d10 d11 d12 _ _ l0_13 d14 false _ ?side1 ?side2 A5.out).mono ?_); (case side1 => repeat (first | exact (Kd.C_below HR0_13.out HB.out) | (with_reducible refine Kd.C_alloc ?_ _) | (with_reducible refine Kd.C_drewN ?_ _) | (with_reducible refine Kd.C_drew ?_))); (case side2 => exact HC0_13.out); rintro e w8 ⟨rfl, hb⟩; refine ⟨_, rfl, ?_⟩; replace BK531 := As (blk_below (kb BK531.out) hb); replace HB := As (below_step (kB1 HB.out GE531.out) hb); (try clear hb); have hcz9_0 := cells_15 BK531.out; have hfz9_0 := fun j_ => blk_frozen BK531.out j_))
  go_meet
  case rel => exact ⟨_, (decide ((d14.size : Int) > 3000)), kS, H', ⟨by first | omega | exact Nat.le_refl _⟩, ⟨kb BK531.out⟩, ⟨kB1 HB.out GE531.out⟩⟩
 clear HC3
 obtain ⟨kq, x19_2, rfl, HA, HJ2, BK531, HB⟩ := hcut
 cases kq with
 | zero => exact absurd HA.out (by simp [intrusionlaw11_Ipv4Parts.j0])
 | succ kj2 =>
  have H := HA.out
  clear HA
  simp only [intrusionlaw11_Ipv4Parts.j0] at H
  by_cases c10 : x19_2 = true
  ·subst c10
   rw [if_pos rfl] at H
   replace H := bS H
   obtain ⟨t533, A11, H⟩ := H
   obtain rfl := Option.some.inj H
   go_wp2_with (first | ((with_reducible refine gate_callee (f := 10) rfl ?_); refine goesL_ (some 20) rfl rfl Try.func10 (by kernel_rfl) rfl #[] rfl kA ?_; (with_reducible refine (intrusionlaw11_awake.calls kj2  t533 _ A11.out).mono ?_); rintro e w12 ⟨rfl, hb⟩; refine ⟨_, rfl, ?_⟩; replace BK531 := As (blk_below (kb BK531.out) hb); replace HB := As (below_step (kB1 HB.out GE531.out) hb); (try clear hb)))
   go_ret
   exact ⟨kE, by exact kB1 HB.out GE531.out⟩
  replace c10 := Bool.eq_false_iff.mpr c10
  subst c10
  rw [if_neg (show ¬ (false = true) by decide)] at H
  replace H := bS H
  obtain ⟨⟨t534, t537⟩, A13, H⟩ := H
  try dsimp -simprocs only at H
  by_cases c14 : t537 = 0
  ·rw [if_pos c14] at H
   have c14b0 : (t537 == 0) = true := beq_iff_eq.mpr c14
   have c14b1 : (t537 != 0) = false := bne_eq_false_iff_eq.mpr c14
   clear c14
   have H' := As H
   clear H
   go_wp2_with (first | ((with_reducible refine gate_dst (N := 22) rfl ?_); (try (refine gate_guard (by rfl) ?_; dsimp only)); refine wpList_load_row rfl 28 _ rfl gb531 rfl 28 _ (0, 0) _ (kb BK531.out) Try.underlying28 rfl (by kernel_rfl) ?_) | ((with_reducible refine gate_callee (f := 21) rfl ?_); refine goesL_ (some 24) rfl rfl Try.func21 (by kernel_rfl) rfl #[.agg #[.int .i64 d0, .int .i64 d1, .int .i64 d2, .int .i64 d3, .bool d4, .bool d5, .int .i64 d6, .bool d7, .int .u64 d8, .int .u64 d9, .bool d10, .int .u64 d11, .int .u64 d12, .slice A0_13 l0_13.length c0_13, .string d14], .int .i64 a1] rfl kA ?_; (with_reducible refine (ipv4_Split.calls kj2 d0 d1 d2 d3 d4 d5 d6 d7 d8 d9 d10 d11 d12 _ _ l0_13 d14 a1 t534 t537 _ ?side1 ?side2 A13.out).mono ?_); (case side1 => repeat (first | exact (Kd.C_below HR0_13.out HB.out) | (with_reducible refine Kd.C_alloc ?_ _) | (with_reducible refine Kd.C_drewN ?_ _) | (with_reducible refine Kd.C_drew ?_))); (case side2 => exact HC0_13.out); rintro e w15 ⟨v535, rfl, ho0, hb⟩; refine ⟨_, rfl, ?_⟩; have HO536 := As (Kd.S_lower (Kd.S_newB ho0 (kb BK531.out)) (below_size (kB1 HB.out GE531.out))); replace BK531 := As (blk_below (kb BK531.out) hb); replace HB := As (below_step (kB1 HB.out GE531.out) hb); (try clear hb); (try clear ho0); obtain ⟨Ao16, co16, eo16⟩ := Kd.S_slice HO536.out; subst eo16))
   go_loopg [7, 37] kj2 (fun kq v7 v37 w' => ∃ (x7_2 : ByteArray) (x37_2 : Int), v7 = .string x7_2 ∧ v37 = .int .i64 x37_2 ∧ Aside0 (intrusionlaw11_Ipv4Parts.l0 kq a1 t534 x7_2 (t534.length : Int) x37_2 d0 d1 d2 d3 d4 d5 d6 d7 d8 d9 d10 d11 d12 l0_13 d14 = some r) ∧ Aside0 (kq ≤ kj2) ∧ Aside0 (Kd.S k28 28 w' w.heap.size (fun k_ => k_ ≠ gb531) (.slice Ao16 t534.length co16) t534) ∧ Aside0 (w'.heap[gb531]? = some (.cells #[.int .i64 d0, .int .i64 d1, .int .i64 d2, .int .i64 d3, .bool d4, .bool d5, .int .i64 d6, .bool d7, .int .u64 d8, .int .u64 d9, .bool d10, .int .u64 d11, .int .u64 d12, (.slice A0_13 l0_13.length c0_13), .string d14] 28 (0, 0))) ∧ Aside0 (Below w.heap.size w w'))
   case atStart => exact ⟨((⟨#[]⟩ : ByteArray)), (0), kS, kS, H', ⟨Nat.le_refl _⟩, ⟨by (with_reducible repeat (first | apply Kd.S_alloc | apply Kd.S_drewN | apply Kd.S_drew)); exact Kd.S_mono HO536.out (fun _ hk => hk.2)⟩, ⟨kb BK531.out⟩, ⟨kB1 HB.out GE531.out⟩⟩
   clear H'
   try clear c10
   try clear c14
   try clear c14b0
   try clear c14b1
   obtain ⟨x7_2, x37_2, rfl, rfl, HA, HK2, HO_5, BK531, HB⟩ := hrel
   cases gk with
   | zero => exact absurd HA.out (by simp [intrusionlaw11_Ipv4Parts.l0])
   | succ k2 =>
    have H := HA.out
    clear HA
    simp only [intrusionlaw11_Ipv4Parts.l0] at H
    by_cases c17 : x37_2 < (t534.length : Int)
    ·rw [if_pos c17] at H
     have c17b0 : decide (x37_2 < (t534.length : Int)) = true := decide_eq_true c17
     clear c17
     replace H := iS H
     obtain ⟨c18, H⟩ := H
     have c18b0 := decide_eq_true c18
     clear c18
     replace H := iS H
     obtain ⟨c19, H⟩ := H
     have c19b0 := decide_eq_true c19
     clear c19
     replace H := bS H
     obtain ⟨⟨t541, t542, t543, t544, t545, t546, t547, t548, t549, t550, t551, t552⟩, A20, H⟩ := H
     try dsimp -simprocs only at H
     replace H := bS H
     obtain ⟨⟨t555, t556⟩, A21, H⟩ := H
     try dsimp -simprocs only at H
     replace H := iS H
     obtain ⟨c22, H⟩ := H
     have c22b0 : (t556 == 0) = true := beq_iff_eq.mpr c22
     have c22b1 : (t556 != 0) = false := bne_eq_false_iff_eq.mpr c22
     clear c22
     replace H := iS H
     obtain ⟨c23, H⟩ := H
     have c23b0 : (t550 == (wrap64 (d6 + (x7_2.size : Int)))) = true := beq_iff_eq.mpr c23
     have c23b1 : (t550 != (wrap64 (d6 + (x7_2.size : Int)))) = false := bne_eq_false_iff_eq.mpr c23
     clear c23
     replace H := iS H
     obtain ⟨c24, H⟩ := H
     have c24b0 : (t548 == d1) = true := beq_iff_eq.mpr c24
     have c24b1 : (t548 != d1) = false := bne_eq_false_iff_eq.mpr c24
     clear c24
     by_cases c25 : (t552.size : Int) > a1
     ·rw [if_pos c25] at H
      exact absurd H (by simp)
     rw [if_neg c25] at H
     have c25b0 : decide (a1 < (t552.size : Int)) = false := decide_eq_false c25
     clear c25
     by_cases c26 : x37_2 < (wrap64 ((t534.length : Int) - 1))
     ·rw [if_pos c26] at H
      have c26b0 : decide (x37_2 < (wrap64 ((t534.length : Int) - 1))) = true := decide_eq_true c26
      clear c26
      by_cases c27 : (t551 != true) = true
      ·rw [if_pos c27] at H
       exact absurd H (by simp)
      rw [if_neg c27] at H
      have c27b0 : (t551 != true) = false := by simpa using c27
      (try (have c27b1 : decide (t551 = true) = true := by simpa using c27))
      (try (have c27b2 : (t551 == true) = true := by simpa using c27))
      clear c27
      replace H := iS H
      obtain ⟨c28, H⟩ := H
      have c28b0 := eq_true c28
      have c28b1 := decide_eq_true c28
      try have c28b2 := eq_false (Nat.not_lt.2 c28)
      have H' := As H
      clear H
      have p540 : 0 ≤ (x37_2 : Int) := of_decide_eq_true (by first | (with_reducible assumption) | assumption)
      have q540 : x37_2 < (t534.length : Int) := of_decide_eq_true (by first | (with_reducible assumption) | assumption)
      obtain ⟨ad540, A540_13, c540_13, e540, hx540_0, hx540_1, hx540_2, hx540_3, hx540_4, hx540_5, hx540_6, hx540_7, hx540_8, hx540_9, hx540_10, hx540_11, hx540_12, hx540_13, hx540_14, hl540_13, hi540_13⟩ := at_T28 (Kd.S_reads' HO_5.out).2.2 x37_2 p540 q540
      cases e540
      obtain ⟨ce540, hce540, hMe540, hcc540⟩ := Kd.S_get HO_5.out z28 x37_2 p540 (by first | exact q540 | exact of_decide_eq_true (by first | (with_reducible assumption) | assumption) | (have e_ := (Kd.S_reads' HO_5.out).1; omega))
      obtain ⟨ve540_13, rfl, ge540_13⟩ := k28_openM hMe540
      have hv540_13 := hcc540 13 _ rfl
      rw [add_field _ _ 13 (by omega)] at hv540_13
      replace hv540_13 := Option.some.inj (hv540_13.symm.trans hx540_13)
      rw [hv540_13] at ge540_13
      have HL540_13 := As (show Kd.R k50 50 _ _ _ _ ((rd_T28 t534 x37_2).f9) from ge540_13)
      clear hv540_13 ge540_13
      clear hcc540 hce540
      have HR540_13 := As hi540_13
      have HC540_13 := As hl540_13
      clear hi540_13 hl540_13
      replace p540 := eq_true p540
      replace q540 := eq_true q540
      go_wp2_with (first | ((with_reducible refine gate_callee (f := 17) rfl ?_); refine goesL_ (some 44) rfl rfl Try.func17 (by kernel_rfl) rfl #[.agg #[.int .i64 ((rd_T28 t534 x37_2).f0), .int .i64 ((rd_T28 t534 x37_2).f1), .int .i64 ((rd_T28 t534 x37_2).f2), .int .i64 ((rd_T28 t534 x37_2).f3), .bool ((rd_T28 t534 x37_2).f4), .bool ((rd_T28 t534 x37_2).f5), .int .i64 ((rd_T28 t534 x37_2).f6), .bool ((rd_T28 t534 x37_2).f7.f0), .int .u64 ((rd_T28 t534 x37_2).f7.f1), .int .u64 ((rd_T28 t534 x37_2).f7.f2), .bool ((rd_T28 t534 x37_2).f8.f0), .int .u64 ((rd_T28 t534 x37_2).f8.f1), .int .u64 ((rd_T28 t534 x37_2).f8.f2), .slice A540_13 ((rd_T28 t534 x37_2).f9).length c540_13, .string ((rd_T28 t534 x37_2).f10)]] rfl kA ?_; (with_reducible refine (ipv4_Fragment.calls ((rd_T28 t534 x37_2).f0) ((rd_T28 t534 x37_2).f1) ((rd_T28 t534 x37_2).f2) ((rd_T28 t534 x37_2).f3) ((rd_T28 t534 x37_2).f4) ((rd_T28 t534 x37_2).f5) ((rd_T28 t534 x37_2).f6) ((rd_T28 t534 x37_2).f7.f0) ((rd_T28 t534 x37_2).f7.f1) ((rd_T28 t534 x37_2).f7.f2) ((rd_T28 t534 x37_2).f8.f0) ((rd_T28 t534 x37_2).f8.f1) ((rd_T28 t534 x37_2).f8.f2) _ _ ((rd_T28 t534 x37_2).f9) ((rd_T28 t534 x37_2).f10) t541 t542 t543 t544 t545 t546 t547 t548 t549 t550 t551 t552 _ ?side1 ?side2 A20.out).mono ?_); (case side1 => repeat (first | exact (by repeat (first | (with_reducible exact HR540_13.out) | (with_reducible refine Kd.C_alloc ?_ _) | (with_reducible refine Kd.C_drewN ?_ _) | (with_reducible refine Kd.C_drew ?_) | exact HR540_13.out)) | (with_reducible refine Kd.C_alloc ?_ _) | (with_reducible refine Kd.C_drewN ?_ _) | (with_reducible refine Kd.C_drew ?_))); (case side2 => exact HC540_13.out); rintro e w29 ⟨rfl, hb⟩; refine ⟨_, rfl, ?_⟩; replace HO_5 := As (Kd.S_below (by (with_reducible repeat (first | apply Kd.S_alloc | apply Kd.S_drewN | apply Kd.S_drew)); exact HO_5.out) hb); replace HL540_13 := As (Kd.R_below (kR HL540_13.out) hb); replace BK531 := As (blk_below (kb BK531.out) hb); replace HR540_13 := As (Kd.C_below (by repeat (first | (with_reducible exact HR540_13.out) | (with_reducible refine Kd.C_alloc ?_ _) | (with_reducible refine Kd.C_drewN ?_ _) | (with_reducible refine Kd.C_drew ?_) | exact HR540_13.out)) hb); replace HB := As (below_step (kB1 HB.out GE531.out) hb); (try clear hb)) | ((with_reducible refine gate_dst (N := 9) rfl ?_); (try (refine gate_guard (by rfl) ?_; dsimp only)); refine box_event rfl (N := 9) rfl (cs := #[.bool false, .int .u64 0, .int .u64 0, .bool false, .int .u64 0, .int .u64 0, .int .i64 0, .int .i64 0, .int .i64 0, .int .i64 0, .bool false, .string (⟨#[]⟩ : ByteArray)]) (t := 38) kG ?_; intro gb553 hg w30 hbox hb; replace HO_5 := As (Kd.S_below (by (with_reducible repeat (first | apply Kd.S_alloc | apply Kd.S_drewN | apply Kd.S_drew)); exact HO_5.out) hb); replace HL540_13 := As (Kd.R_below (kR HL540_13.out) hb); replace HR540_13 := As (Kd.C_below (by repeat (first | (with_reducible exact HR540_13.out) | (with_reducible refine Kd.C_alloc ?_ _) | (with_reducible refine Kd.C_drewN ?_ _) | (with_reducible refine Kd.C_drew ?_) | exact HR540_13.out)) hb); have BK553 := As (hbox); have GW553 := As (gS hg (below_size (kB1 HB.out GE531.out))); have GE553 := As (gS hg (below_size (kB1 HB.out GE531.out))); replace HB := As (below_step (kB1 HB.out GE531.out) hb); have NB531_553 := As (gN hg (blk_lt (kb BK531.out))); have NB553_531 := As (gM hg (blk_lt (kb BK531.out))); replace BK531 := As (blk_below (kb BK531.out) hb); clear hb hbox hg) | ((with_reducible refine gate_store (t := 38) (p := 9) rfl ?_); refine store_event (t := 38) (p := 9) (v := ?vo_w31) (w1 := ((((((((((((w30.setCell ⟨gb553, 0, none⟩ (.bool t541)).setCell ⟨gb553, 1, none⟩ (.int .u64 t542)).setCell ⟨gb553, 2, none⟩ (.int .u64 t543)).setCell ⟨gb553, 3, none⟩ (.bool t544)).setCell ⟨gb553, 4, none⟩ (.int .u64 t545)).setCell ⟨gb553, 5, none⟩ (.int .u64 t546)).setCell ⟨gb553, 6, none⟩ (.int .i64 t547)).setCell ⟨gb553, 7, none⟩ (.int .i64 t548)).setCell ⟨gb553, 8, none⟩ (.int .i64 t549)).setCell ⟨gb553, 9, none⟩ (.int .i64 t550)).setCell ⟨gb553, 10, none⟩ (.bool t551)).setCell ⟨gb553, 11, none⟩ (.string t552))) ?hg ?ho ?hn ?hr ?_; (case ho => rfl); (case hg => rfl); (case hn => rfl); (case hr => refine store_row_12 gb553 (.bool t541) (.int .u64 t542) (.int .u64 t543) (.bool t544) (.int .u64 t545) (.int .u64 t546) (.int .i64 t547) (.int .i64 t548) (.int .i64 t549) (.int .i64 t550) (.bool t551) (.string t552) (t := 38) (p := 9) (v := _) rfl ?hc2 ?hc3 (t' := 38) (cs := #[.bool false, .int .u64 0, .int .u64 0, .bool false, .int .u64 0, .int .u64 0, .int .i64 0, .int .i64 0, .int .i64 0, .int .i64 0, .bool false, .string (⟨#[]⟩ : ByteArray)]) ?hc4 ?hc5 ?hc6 ?hc7; (case hc2 => rfl); (case hc3 => rfl); (case hc4 => exact (kb BK553.out)); (case hc5 => rfl); (case hc6 => kernel_rfl); (case hc7 => rfl)); intro w31 hw; have n0_ : Aside0 (Kd.S k28 28 w31 w.heap.size (fun k_ => k_ ≠ gb531) (.slice (some ad540) t534.length co16) t534) := ⟨(by rw [hw]; exact (by (with_reducible repeat (first | apply Kd.S_alloc | apply Kd.S_drewN | apply Kd.S_drew)); exact Kd.S_mono (Kd.S_puts_0_12 gb553 (.bool t541) (.int .u64 t542) (.int .u64 t543) (.bool t544) (.int .u64 t545) (.int .u64 t546) (.int .i64 t547) (.int .i64 t548) (.int .i64 t549) (.int .i64 t550) (.bool t551) (.string t552) (Kd.S_types HO_5.out BK553.out (by decide)) (fun _ hk => hk.2)) (fun _ hk => hk.1)))⟩; have n1_ : Aside0 (Kd.R k50 50 w31 w.heap.size (fun k_ => some k_ ≠ (.slice (some ad540) t534.length co16 : Value).ownBlock ∧ k_ ≠ gb531) (.slice A540_13 ((rd_T28 t534 x37_2).f9).length c540_13) ((rd_T28 t534 x37_2).f9)) := ⟨(by rw [hw]; exact (by (with_reducible repeat (first | apply Kd.R_alloc | apply Kd.R_drewN | apply Kd.R_drew)); exact Kd.R_mono (Kd.R_puts_0_12 gb553 (.bool t541) (.int .u64 t542) (.int .u64 t543) (.bool t544) (.int .u64 t545) (.int .u64 t546) (.int .i64 t547) (.int .i64 t548) (.int .i64 t549) (.int .i64 t550) (.bool t551) (.string t552) (Kd.R_types HL540_13.out BK553.out (by decide)) (fun _ hk => hk.2)) (fun _ hk => ⟨hk.1.2, hk.1.1⟩)))⟩; have n2_ : Aside0 (w31.heap[gb531]? = some (.cells #[.int .i64 d0, .int .i64 d1, .int .i64 d2, .int .i64 d3, .bool d4, .bool d5, .int .i64 d6, .bool d7, .int .u64 d8, .int .u64 d9, .bool d10, .int .u64 d11, .int .u64 d12, .slice A0_13 l0_13.length c0_13, .string d14] 28 (0, 0))) := ⟨(by rw [hw]; exact (by refine kb ?_; (iterate 12 (refine blk_far ?_ NB531_553.out _; refine kb ?_)); exact BK531.out))⟩; have n3_ : Aside0 (w31.heap[gb553]? = some (.cells #[.bool t541, .int .u64 t542, .int .u64 t543, .bool t544, .int .u64 t545, .int .u64 t546, .int .i64 t547, .int .i64 t548, .int .i64 t549, .int .i64 t550, .bool t551, .string t552] 38 (0, 0))) := ⟨(by rw [hw]; exact (by refine kb ?_; exact blk_all_12 (kb BK553.out) (by rfl)))⟩; have n4_ : Aside0 (Below w.heap.size w w31) := ⟨(by rw [hw]; exact (kB2 HB.out GE531.out GE553.out))⟩; clear hw; clear HO_5; clear HL540_13; clear BK531; clear BK553; clear HB; have HO_5 := n0_; have HL540_13 := n1_; have BK531 := n2_; have BK553 := n3_; have HB := n4_; clear n0_ n1_ n2_ n3_ n4_; have p554 : 0 ≤ (x37_2 : Int) := of_decide_eq_true (by first | (with_reducible assumption) | assumption); have q554 : x37_2 < (t534.length : Int) := of_decide_eq_true (by first | (with_reducible assumption) | assumption); obtain ⟨ad554, A554_13, c554_13, e554, hx554_0, hx554_1, hx554_2, hx554_3, hx554_4, hx554_5, hx554_6, hx554_7, hx554_8, hx554_9, hx554_10, hx554_11, hx554_12, hx554_13, hx554_14, hl554_13, hi554_13⟩ := at_T28 (Kd.S_reads' HO_5.out).2.2 x37_2 p554 q554; obtain rfl : ad540 = ad554 := (by injection e554); obtain ⟨ce554, hce554, hMe554, hcc554⟩ := Kd.S_get HO_5.out z28 x37_2 p554 (by first | exact q554 | exact of_decide_eq_true (by first | (with_reducible assumption) | assumption) | (have e_ := (Kd.S_reads' HO_5.out).1; omega)); obtain ⟨ve554_13, rfl, ge554_13⟩ := k28_openM hMe554; have hv554_13 := hcc554 13 _ rfl; rw [add_field _ _ 13 (by omega)] at hv554_13; replace hv554_13 := Option.some.inj (hv554_13.symm.trans hx554_13); rw [hv554_13] at ge554_13; have HL554_13 := As (show Kd.R k50 50 _ _ _ _ ((rd_T28 t534 x37_2).f9) from ge554_13); clear hv554_13 ge554_13; clear hcc554 hce554; have HR554_13 := As hi554_13; have HC554_13 := As hl554_13; clear hi554_13 hl554_13; replace p554 := eq_true p554; replace q554 := eq_true q554) | ((with_reducible refine gate_callee (f := 15) rfl ?_); refine goesL_ (some 50) rfl rfl Try.func15 (by kernel_rfl) rfl #[.agg #[.int .i64 ((rd_T28 t534 x37_2).f0), .int .i64 ((rd_T28 t534 x37_2).f1), .int .i64 ((rd_T28 t534 x37_2).f2), .int .i64 ((rd_T28 t534 x37_2).f3), .bool ((rd_T28 t534 x37_2).f4), .bool ((rd_T28 t534 x37_2).f5), .int .i64 ((rd_T28 t534 x37_2).f6), .bool ((rd_T28 t534 x37_2).f7.f0), .int .u64 ((rd_T28 t534 x37_2).f7.f1), .int .u64 ((rd_T28 t534 x37_2).f7.f2), .bool ((rd_T28 t534 x37_2).f8.f0), .int .u64 ((rd_T28 t534 x37_2).f8.f1), .int .u64 ((rd_T28 t534 x37_2).f8.f2), .slice A554_13 ((rd_T28 t534 x37_2).f9).length c554_13, .string ((rd_T28 t534 x37_2).f10)]] rfl kA ?_; (with_reducible refine (ipv4_Encode.calls k2 ((rd_T28 t534 x37_2).f0) ((rd_T28 t534 x37_2).f1) ((rd_T28 t534 x37_2).f2) ((rd_T28 t534 x37_2).f3) ((rd_T28 t534 x37_2).f4) ((rd_T28 t534 x37_2).f5) ((rd_T28 t534 x37_2).f6) ((rd_T28 t534 x37_2).f7.f0) ((rd_T28 t534 x37_2).f7.f1) ((rd_T28 t534 x37_2).f7.f2) ((rd_T28 t534 x37_2).f8.f0) ((rd_T28 t534 x37_2).f8.f1) ((rd_T28 t534 x37_2).f8.f2) _ _ ((rd_T28 t534 x37_2).f9) ((rd_T28 t534 x37_2).f10) t555 t556 _ ?side1 ?side2 A21.out).mono ?_); (case side1 => repeat (first | exact (by repeat (first | (with_reducible exact HR554_13.out) | (with_reducible refine Kd.C_alloc ?_ _) | (with_reducible refine Kd.C_drewN ?_ _) | (with_reducible refine Kd.C_drew ?_) | exact HR554_13.out)) | (with_reducible refine Kd.C_alloc ?_ _) | (with_reducible refine Kd.C_drewN ?_ _) | (with_reducible refine Kd.C_drew ?_))); (case side2 => exact HC554_13.out); rintro e w32 ⟨rfl, hb⟩; refine ⟨_, rfl, ?_⟩; replace HO_5 := As (Kd.S_below (by (with_reducible repeat (first | apply Kd.S_alloc | apply Kd.S_drewN | apply Kd.S_drew)); exact HO_5.out) hb); replace HL540_13 := As (Kd.R_below (kR HL540_13.out) hb); replace HL554_13 := As (Kd.R_below (kR HL554_13.out) hb); replace BK531 := As (blk_below (kb BK531.out) hb); replace BK553 := As (blk_below (kb BK553.out) hb); replace HR554_13 := As (Kd.C_below (by repeat (first | (with_reducible exact HR554_13.out) | (with_reducible refine Kd.C_alloc ?_ _) | (with_reducible refine Kd.C_drewN ?_ _) | (with_reducible refine Kd.C_drew ?_) | exact HR554_13.out)) hb); replace HB := As (below_step (kB2 HB.out GE531.out GE553.out) hb); (try clear hb); have hnb33 := NB553_531.out; have hnc33 := NB531_553.out; have hcz34_0 := cells_12 BK553.out; have hfz34_0 := fun j_ => blk_frozen BK553.out j_; have hcz35_0 := cells_15 BK531.out; have hfz35_0 := fun j_ => blk_frozen BK531.out j_))
      go_roundg k2
      case measure => have := HJ2.out; have := HK2.out; omega
      case rel => exact ⟨(x7_2 ++ t552), (wrap64 (x37_2 + 1)), kS, kS, H', ⟨by have := HJ2.out; have := HK2.out; omega⟩, ⟨by (with_reducible repeat (first | apply Kd.S_alloc | apply Kd.S_drewN | apply Kd.S_drew)); exact HO_5.out⟩, ⟨kb BK531.out⟩, ⟨kB2 HB.out GE531.out GE553.out⟩⟩
     rw [if_neg c26] at H
     have c26b0 : decide (x37_2 < (wrap64 ((t534.length : Int) - 1))) = false := decide_eq_false c26
     clear c26
     by_cases c36 : (t551 != d5) = true
     ·rw [if_pos c36] at H
      exact absurd H (by simp)
     rw [if_neg c36] at H
     have c36b0 : (t551 != d5) = false := by simpa using c36
     (try (have c36b1 : decide (t551 = d5) = true := by simpa using c36))
     (try (have c36b2 : (t551 == d5) = true := by simpa using c36))
     clear c36
     replace H := iS H
     obtain ⟨c37, H⟩ := H
     have c37b0 := eq_true c37
     have c37b1 := decide_eq_true c37
     try have c37b2 := eq_false (Nat.not_lt.2 c37)
     have H' := As H
     clear H
     have p540 : 0 ≤ (x37_2 : Int) := of_decide_eq_true (by first | (with_reducible assumption) | assumption)
     have q540 : x37_2 < (t534.length : Int) := of_decide_eq_true (by first | (with_reducible assumption) | assumption)
     obtain ⟨ad540, A540_13, c540_13, e540, hx540_0, hx540_1, hx540_2, hx540_3, hx540_4, hx540_5, hx540_6, hx540_7, hx540_8, hx540_9, hx540_10, hx540_11, hx540_12, hx540_13, hx540_14, hl540_13, hi540_13⟩ := at_T28 (Kd.S_reads' HO_5.out).2.2 x37_2 p540 q540
     cases e540
     obtain ⟨ce540, hce540, hMe540, hcc540⟩ := Kd.S_get HO_5.out z28 x37_2 p540 (by first | exact q540 | exact of_decide_eq_true (by first | (with_reducible assumption) | assumption) | (have e_ := (Kd.S_reads' HO_5.out).1; omega))
     obtain ⟨ve540_13, rfl, ge540_13⟩ := k28_openM hMe540
     have hv540_13 := hcc540 13 _ rfl
     rw [add_field _ _ 13 (by omega)] at hv540_13
     replace hv540_13 := Option.some.inj (hv540_13.symm.trans hx540_13)
     rw [hv540_13] at ge540_13
     have HL540_13 := As (show Kd.R k50 50 _ _ _ _ ((rd_T28 t534 x37_2).f9) from ge540_13)
     clear hv540_13 ge540_13
     clear hcc540 hce540
     have HR540_13 := As hi540_13
     have HC540_13 := As hl540_13
     clear hi540_13 hl540_13
     replace p540 := eq_true p540
     replace q540 := eq_true q540
     go_wp2_with (first | ((with_reducible refine gate_callee (f := 17) rfl ?_); refine goesL_ (some 44) rfl rfl Try.func17 (by kernel_rfl) rfl #[.agg #[.int .i64 ((rd_T28 t534 x37_2).f0), .int .i64 ((rd_T28 t534 x37_2).f1), .int .i64 ((rd_T28 t534 x37_2).f2), .int .i64 ((rd_T28 t534 x37_2).f3), .bool ((rd_T28 t534 x37_2).f4), .bool ((rd_T28 t534 x37_2).f5), .int .i64 ((rd_T28 t534 x37_2).f6), .bool ((rd_T28 t534 x37_2).f7.f0), .int .u64 ((rd_T28 t534 x37_2).f7.f1), .int .u64 ((rd_T28 t534 x37_2).f7.f2), .bool ((rd_T28 t534 x37_2).f8.f0), .int .u64 ((rd_T28 t534 x37_2).f8.f1), .int .u64 ((rd_T28 t534 x37_2).f8.f2), .slice A540_13 ((rd_T28 t534 x37_2).f9).length c540_13, .string ((rd_T28 t534 x37_2).f10)]] rfl kA ?_; (with_reducible refine (ipv4_Fragment.calls ((rd_T28 t534 x37_2).f0) ((rd_T28 t534 x37_2).f1) ((rd_T28 t534 x37_2).f2) ((rd_T28 t534 x37_2).f3) ((rd_T28 t534 x37_2).f4) ((rd_T28 t534 x37_2).f5) ((rd_T28 t534 x37_2).f6) ((rd_T28 t534 x37_2).f7.f0) ((rd_T28 t534 x37_2).f7.f1) ((rd_T28 t534 x37_2).f7.f2) ((rd_T28 t534 x37_2).f8.f0) ((rd_T28 t534 x37_2).f8.f1) ((rd_T28 t534 x37_2).f8.f2) _ _ ((rd_T28 t534 x37_2).f9) ((rd_T28 t534 x37_2).f10) t541 t542 t543 t544 t545 t546 t547 t548 t549 t550 t551 t552 _ ?side1 ?side2 A20.out).mono ?_); (case side1 => repeat (first | exact (by repeat (first | (with_reducible exact HR540_13.out) | (with_reducible refine Kd.C_alloc ?_ _) | (with_reducible refine Kd.C_drewN ?_ _) | (with_reducible refine Kd.C_drew ?_) | exact HR540_13.out)) | (with_reducible refine Kd.C_alloc ?_ _) | (with_reducible refine Kd.C_drewN ?_ _) | (with_reducible refine Kd.C_drew ?_))); (case side2 => exact HC540_13.out); rintro e w38 ⟨rfl, hb⟩; refine ⟨_, rfl, ?_⟩; replace HO_5 := As (Kd.S_below (by (with_reducible repeat (first | apply Kd.S_alloc | apply Kd.S_drewN | apply Kd.S_drew)); exact HO_5.out) hb); replace HL540_13 := As (Kd.R_below (kR HL540_13.out) hb); replace BK531 := As (blk_below (kb BK531.out) hb); replace HR540_13 := As (Kd.C_below (by repeat (first | (with_reducible exact HR540_13.out) | (with_reducible refine Kd.C_alloc ?_ _) | (with_reducible refine Kd.C_drewN ?_ _) | (with_reducible refine Kd.C_drew ?_) | exact HR540_13.out)) hb); replace HB := As (below_step (kB1 HB.out GE531.out) hb); (try clear hb)) | ((with_reducible refine gate_dst (N := 9) rfl ?_); (try (refine gate_guard (by rfl) ?_; dsimp only)); refine box_event rfl (N := 9) rfl (cs := #[.bool false, .int .u64 0, .int .u64 0, .bool false, .int .u64 0, .int .u64 0, .int .i64 0, .int .i64 0, .int .i64 0, .int .i64 0, .bool false, .string (⟨#[]⟩ : ByteArray)]) (t := 38) kG ?_; intro gb553 hg w39 hbox hb; replace HO_5 := As (Kd.S_below (by (with_reducible repeat (first | apply Kd.S_alloc | apply Kd.S_drewN | apply Kd.S_drew)); exact HO_5.out) hb); replace HL540_13 := As (Kd.R_below (kR HL540_13.out) hb); replace HR540_13 := As (Kd.C_below (by repeat (first | (with_reducible exact HR540_13.out) | (with_reducible refine Kd.C_alloc ?_ _) | (with_reducible refine Kd.C_drewN ?_ _) | (with_reducible refine Kd.C_drew ?_) | exact HR540_13.out)) hb); have BK553 := As (hbox); have GW553 := As (gS hg (below_size (kB1 HB.out GE531.out))); have GE553 := As (gS hg (below_size (kB1 HB.out GE531.out))); replace HB := As (below_step (kB1 HB.out GE531.out) hb); have NB531_553 := As (gN hg (blk_lt (kb BK531.out))); have NB553_531 := As (gM hg (blk_lt (kb BK531.out))); replace BK531 := As (blk_below (kb BK531.out) hb); clear hb hbox hg) | ((with_reducible refine gate_store (t := 38) (p := 9) rfl ?_); refine store_event (t := 38) (p := 9) (v := ?vo_w40) (w1 := ((((((((((((w39.setCell ⟨gb553, 0, none⟩ (.bool t541)).setCell ⟨gb553, 1, none⟩ (.int .u64 t542)).setCell ⟨gb553, 2, none⟩ (.int .u64 t543)).setCell ⟨gb553, 3, none⟩ (.bool t544)).setCell ⟨gb553, 4, none⟩ (.int .u64 t545)).setCell ⟨gb553, 5, none⟩ (.int .u64 t546)).setCell ⟨gb553, 6, none⟩ (.int .i64 t547)).setCell ⟨gb553, 7, none⟩ (.int .i64 t548)).setCell ⟨gb553, 8, none⟩ (.int .i64 t549)).setCell ⟨gb553, 9, none⟩ (.int .i64 t550)).setCell ⟨gb553, 10, none⟩ (.bool t551)).setCell ⟨gb553, 11, none⟩ (.string t552))) ?hg ?ho ?hn ?hr ?_; (case ho => rfl); (case hg => rfl); (case hn => rfl); (case hr => refine store_row_12 gb553 (.bool t541) (.int .u64 t542) (.int .u64 t543) (.bool t544) (.int .u64 t545) (.int .u64 t546) (.int .i64 t547) (.int .i64 t548) (.int .i64 t549) (.int .i64 t550) (.bool t551) (.string t552) (t := 38) (p := 9) (v := _) rfl ?hc2 ?hc3 (t' := 38) (cs := #[.bool false, .int .u64 0, .int .u64 0, .bool false, .int .u64 0, .int .u64 0, .int .i64 0, .int .i64 0, .int .i64 0, .int .i64 0, .bool false, .string (⟨#[]⟩ : ByteArray)]) ?hc4 ?hc5 ?hc6 ?hc7; (case hc2 => rfl); (case hc3 => rfl); (case hc4 => exact (kb BK553.out)); (case hc5 => rfl); (case hc6 => kernel_rfl); (case hc7 => rfl)); intro w40 hw; have n0_ : Aside0 (Kd.S k28 28 w40 w.heap.size (fun k_ => k_ ≠ gb531) (.slice (some ad540) t534.length co16) t534) := ⟨(by rw [hw]; exact (by (with_reducible repeat (first | apply Kd.S_alloc | apply Kd.S_drewN | apply Kd.S_drew)); exact Kd.S_mono (Kd.S_puts_0_12 gb553 (.bool t541) (.int .u64 t542) (.int .u64 t543) (.bool t544) (.int .u64 t545) (.int .u64 t546) (.int .i64 t547) (.int .i64 t548) (.int .i64 t549) (.int .i64 t550) (.bool t551) (.string t552) (Kd.S_types HO_5.out BK553.out (by decide)) (fun _ hk => hk.2)) (fun _ hk => hk.1)))⟩; have n1_ : Aside0 (Kd.R k50 50 w40 w.heap.size (fun k_ => some k_ ≠ (.slice (some ad540) t534.length co16 : Value).ownBlock ∧ k_ ≠ gb531) (.slice A540_13 ((rd_T28 t534 x37_2).f9).length c540_13) ((rd_T28 t534 x37_2).f9)) := ⟨(by rw [hw]; exact (by (with_reducible repeat (first | apply Kd.R_alloc | apply Kd.R_drewN | apply Kd.R_drew)); exact Kd.R_mono (Kd.R_puts_0_12 gb553 (.bool t541) (.int .u64 t542) (.int .u64 t543) (.bool t544) (.int .u64 t545) (.int .u64 t546) (.int .i64 t547) (.int .i64 t548) (.int .i64 t549) (.int .i64 t550) (.bool t551) (.string t552) (Kd.R_types HL540_13.out BK553.out (by decide)) (fun _ hk => hk.2)) (fun _ hk => ⟨hk.1.2, hk.1.1⟩)))⟩; have n2_ : Aside0 (w40.heap[gb531]? = some (.cells #[.int .i64 d0, .int .i64 d1, .int .i64 d2, .int .i64 d3, .bool d4, .bool d5, .int .i64 d6, .bool d7, .int .u64 d8, .int .u64 d9, .bool d10, .int .u64 d11, .int .u64 d12, .slice A0_13 l0_13.length c0_13, .string d14] 28 (0, 0))) := ⟨(by rw [hw]; exact (by refine kb ?_; (iterate 12 (refine blk_far ?_ NB531_553.out _; refine kb ?_)); exact BK531.out))⟩; have n3_ : Aside0 (w40.heap[gb553]? = some (.cells #[.bool t541, .int .u64 t542, .int .u64 t543, .bool t544, .int .u64 t545, .int .u64 t546, .int .i64 t547, .int .i64 t548, .int .i64 t549, .int .i64 t550, .bool t551, .string t552] 38 (0, 0))) := ⟨(by rw [hw]; exact (by refine kb ?_; exact blk_all_12 (kb BK553.out) (by rfl)))⟩; have n4_ : Aside0 (Below w.heap.size w w40) := ⟨(by rw [hw]; exact (kB2 HB.out GE531.out GE553.out))⟩; clear hw; clear HO_5; clear HL540_13; clear BK531; clear BK553; clear HB; have HO_5 := n0_; have HL540_13 := n1_; have BK531 := n2_; have BK553 := n3_; have HB := n4_; clear n0_ n1_ n2_ n3_ n4_; have p554 : 0 ≤ (x37_2 : Int) := of_decide_eq_true (by first | (with_reducible assumption) | assumption); have q554 : x37_2 < (t534.length : Int) := of_decide_eq_true (by first | (with_reducible assumption) | assumption); obtain ⟨ad554, A554_13, c554_13, e554, hx554_0, hx554_1, hx554_2, hx554_3, hx554_4, hx554_5, hx554_6, hx554_7, hx554_8, hx554_9, hx554_10, hx554_11, hx554_12, hx554_13, hx554_14, hl554_13, hi554_13⟩ := at_T28 (Kd.S_reads' HO_5.out).2.2 x37_2 p554 q554; obtain rfl : ad540 = ad554 := (by injection e554); obtain ⟨ce554, hce554, hMe554, hcc554⟩ := Kd.S_get HO_5.out z28 x37_2 p554 (by first | exact q554 | exact of_decide_eq_true (by first | (with_reducible assumption) | assumption) | (have e_ := (Kd.S_reads' HO_5.out).1; omega)); obtain ⟨ve554_13, rfl, ge554_13⟩ := k28_openM hMe554; have hv554_13 := hcc554 13 _ rfl; rw [add_field _ _ 13 (by omega)] at hv554_13; replace hv554_13 := Option.some.inj (hv554_13.symm.trans hx554_13); rw [hv554_13] at ge554_13; have HL554_13 := As (show Kd.R k50 50 _ _ _ _ ((rd_T28 t534 x37_2).f9) from ge554_13); clear hv554_13 ge554_13; clear hcc554 hce554; have HR554_13 := As hi554_13; have HC554_13 := As hl554_13; clear hi554_13 hl554_13; replace p554 := eq_true p554; replace q554 := eq_true q554) | ((with_reducible refine gate_callee (f := 15) rfl ?_); refine goesL_ (some 50) rfl rfl Try.func15 (by kernel_rfl) rfl #[.agg #[.int .i64 ((rd_T28 t534 x37_2).f0), .int .i64 ((rd_T28 t534 x37_2).f1), .int .i64 ((rd_T28 t534 x37_2).f2), .int .i64 ((rd_T28 t534 x37_2).f3), .bool ((rd_T28 t534 x37_2).f4), .bool ((rd_T28 t534 x37_2).f5), .int .i64 ((rd_T28 t534 x37_2).f6), .bool ((rd_T28 t534 x37_2).f7.f0), .int .u64 ((rd_T28 t534 x37_2).f7.f1), .int .u64 ((rd_T28 t534 x37_2).f7.f2), .bool ((rd_T28 t534 x37_2).f8.f0), .int .u64 ((rd_T28 t534 x37_2).f8.f1), .int .u64 ((rd_T28 t534 x37_2).f8.f2), .slice A554_13 ((rd_T28 t534 x37_2).f9).length c554_13, .string ((rd_T28 t534 x37_2).f10)]] rfl kA ?_; (with_reducible refine (ipv4_Encode.calls k2 ((rd_T28 t534 x37_2).f0) ((rd_T28 t534 x37_2).f1) ((rd_T28 t534 x37_2).f2) ((rd_T28 t534 x37_2).f3) ((rd_T28 t534 x37_2).f4) ((rd_T28 t534 x37_2).f5) ((rd_T28 t534 x37_2).f6) ((rd_T28 t534 x37_2).f7.f0) ((rd_T28 t534 x37_2).f7.f1) ((rd_T28 t534 x37_2).f7.f2) ((rd_T28 t534 x37_2).f8.f0) ((rd_T28 t534 x37_2).f8.f1) ((rd_T28 t534 x37_2).f8.f2) _ _ ((rd_T28 t534 x37_2).f9) ((rd_T28 t534 x37_2).f10) t555 t556 _ ?side1 ?side2 A21.out).mono ?_); (case side1 => repeat (first | exact (by repeat (first | (with_reducible exact HR554_13.out) | (with_reducible refine Kd.C_alloc ?_ _) | (with_reducible refine Kd.C_drewN ?_ _) | (with_reducible refine Kd.C_drew ?_) | exact HR554_13.out)) | (with_reducible refine Kd.C_alloc ?_ _) | (with_reducible refine Kd.C_drewN ?_ _) | (with_reducible refine Kd.C_drew ?_))); (case side2 => exact HC554_13.out); rintro e w41 ⟨rfl, hb⟩; refine ⟨_, rfl, ?_⟩; replace HO_5 := As (Kd.S_below (by (with_reducible repeat (first | apply Kd.S_alloc | apply Kd.S_drewN | apply Kd.S_drew)); exact HO_5.out) hb); replace HL540_13 := As (Kd.R_below (kR HL540_13.out) hb); replace HL554_13 := As (Kd.R_below (kR HL554_13.out) hb); replace BK531 := As (blk_below (kb BK531.out) hb); replace BK553 := As (blk_below (kb BK553.out) hb); replace HR554_13 := As (Kd.C_below (by repeat (first | (with_reducible exact HR554_13.out) | (with_reducible refine Kd.C_alloc ?_ _) | (with_reducible refine Kd.C_drewN ?_ _) | (with_reducible refine Kd.C_drew ?_) | exact HR554_13.out)) hb); replace HB := As (below_step (kB2 HB.out GE531.out GE553.out) hb); (try clear hb); have hnb42 := NB553_531.out; have hnc42 := NB531_553.out; have hcz43_0 := cells_12 BK553.out; have hfz43_0 := fun j_ => blk_frozen BK553.out j_; have hcz44_0 := cells_15 BK531.out; have hfz44_0 := fun j_ => blk_frozen BK531.out j_))
     go_roundg k2
     case measure => have := HJ2.out; have := HK2.out; omega
     case rel => exact ⟨(x7_2 ++ t552), (wrap64 (x37_2 + 1)), kS, kS, H', ⟨by have := HJ2.out; have := HK2.out; omega⟩, ⟨by (with_reducible repeat (first | apply Kd.S_alloc | apply Kd.S_drewN | apply Kd.S_drew)); exact HO_5.out⟩, ⟨kb BK531.out⟩, ⟨kB2 HB.out GE531.out GE553.out⟩⟩
    rw [if_neg c17] at H
    have c17b0 : decide (x37_2 < (t534.length : Int)) = false := decide_eq_false c17
    clear c17
    replace H := iS H
    obtain ⟨c45, H⟩ := H
    have c45b0 : (x7_2.toList == d14.toList) = true := beq_iff_eq.mpr c45
    have c45b1 : (x7_2.toList != d14.toList) = false := bne_eq_false_iff_eq.mpr c45
    clear c45
    replace H := bS H
    obtain ⟨t539, A46, H⟩ := H
    obtain rfl := Option.some.inj H
    have hcz47_0 := cells_15 BK531.out
    have hfz47_0 := fun j_ => blk_frozen BK531.out j_
    go_wp2_with (first | (go_at_call 10; (with_reducible refine (intrusionlaw11_awake.calls k2  t539 _ A46.out).mono ?_); rintro e w48 ⟨rfl, hb⟩; replace HO_5 := As (Kd.S_below (by (with_reducible repeat (first | apply Kd.S_alloc | apply Kd.S_drewN | apply Kd.S_drew)); exact HO_5.out) hb); replace BK531 := As (blk_below (kb BK531.out) hb); replace HB := As (below_step (kB1 HB.out GE531.out) hb); (try clear hb)))
    go_ret
    exact ⟨kE, by exact kB1 HB.out GE531.out⟩
  rw [if_neg c14] at H
  have c14b0 : (t537 == 0) = false := beq_eq_false_iff_ne.mpr c14
  have c14b1 : (t537 != 0) = true := bne_iff_ne.mpr c14
  replace H := iS H
  obtain ⟨c49, H⟩ := H
  have c49b0 : ((t534.length : Int) == 0) = true := beq_iff_eq.mpr c49
  have c49b1 : ((t534.length : Int) != 0) = false := bne_eq_false_iff_eq.mpr c49
  clear c49
  replace H := bS H
  obtain ⟨t538, A50, H⟩ := H
  obtain rfl := Option.some.inj H
  go_wp2_with (first | ((with_reducible refine gate_dst (N := 22) rfl ?_); (try (refine gate_guard (by rfl) ?_; dsimp only)); refine wpList_load_row rfl 28 _ rfl gb531 rfl 28 _ (0, 0) _ (kb BK531.out) Try.underlying28 rfl (by kernel_rfl) ?_) | ((with_reducible refine gate_callee (f := 21) rfl ?_); refine goesL_ (some 24) rfl rfl Try.func21 (by kernel_rfl) rfl #[.agg #[.int .i64 d0, .int .i64 d1, .int .i64 d2, .int .i64 d3, .bool d4, .bool d5, .int .i64 d6, .bool d7, .int .u64 d8, .int .u64 d9, .bool d10, .int .u64 d11, .int .u64 d12, .slice A0_13 l0_13.length c0_13, .string d14], .int .i64 a1] rfl kA ?_; (with_reducible refine (ipv4_Split.calls kj2 d0 d1 d2 d3 d4 d5 d6 d7 d8 d9 d10 d11 d12 _ _ l0_13 d14 a1 t534 t537 _ ?side1 ?side2 A13.out).mono ?_); (case side1 => repeat (first | exact (Kd.C_below HR0_13.out HB.out) | (with_reducible refine Kd.C_alloc ?_ _) | (with_reducible refine Kd.C_drewN ?_ _) | (with_reducible refine Kd.C_drew ?_))); (case side2 => exact HC0_13.out); rintro e w51 ⟨v535, rfl, ho0, hb⟩; refine ⟨_, rfl, ?_⟩; have HO536 := As (Kd.S_lower (Kd.S_newB ho0 (kb BK531.out)) (below_size (kB1 HB.out GE531.out))); replace BK531 := As (blk_below (kb BK531.out) hb); replace HB := As (below_step (kB1 HB.out GE531.out) hb); (try clear hb); (try clear ho0); obtain ⟨Ao52, co52, eo52⟩ := Kd.S_slice HO536.out; subst eo52) | (go_at_call 10; (with_reducible refine (intrusionlaw11_awake.calls kj2  t538 _ A50.out).mono ?_); rintro e w53 ⟨rfl, hb⟩; replace HO536 := As (Kd.S_below (by (with_reducible repeat (first | apply Kd.S_alloc | apply Kd.S_drewN | apply Kd.S_drew)); exact HO536.out) hb); replace BK531 := As (blk_below (kb BK531.out) hb); replace HB := As (below_step (kB1 HB.out GE531.out) hb); (try clear hb)))
  go_ret
  exact ⟨kE, by exact kB1 HB.out GE531.out⟩

end Go.Proofs.Ytobioaommmgehaa.Z
-- short
-- short2
