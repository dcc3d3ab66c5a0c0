/- What the functions of the translation that this claim's statement reaches compute, each proved by its walk. Written by xprint.py, a program of this claim's author, run over the kit's printer. -/
import Derived.Test.YtljboandbjahdaaX0
import Derived.Test.YtljboandbjahdaaX6
import Derived.Test.YtljboandbjahdaaX16
namespace Go.Proofs.Ytljboandbjahdaa.X
open Go.RowKit Go.Proofs.YtljboandbjahdaaW.PrintWords Go.Proofs.YtljboandbjahdaaW.PrintLast Go.Proofs.YtljboandbjahdaaW.PrintMore
attribute [local go_sem] max2_int min2_int max_two min_two max_three min_three max_four min_four   -- for this text's walks alone
set_option linter.unusedVariables false
set_option linter.unusedSimpArgs false

/-! ### intrusionref12_Split: function 18 -/
mutual
def intrusionref12_Split.j0 : Nat → Int → Int → Bool → Int → Int → Int → Int → Bool → Int → Int → Bool → Int → Int → List (S60) → Bool → Int → Int → Bool → ByteArray → Option ((List (S28)) × Int)
 | 0, _, _, _, _, _, _, _, _, _, _, _, _, _, _, _, _, _, _, _ => none
 | k + 1, x1, x2, x36, b0, b1, b2, b3, b4, b5, b6, b7, b8, b9, b10, b11, b12, b13, b14, b15 => if x36 = true then (some (([] : List (S28)), 4)) else (if b11 = true then (some (([] : List (S28)), 10)) else (intrusionref12_Split.l0 k x1 x2 ([] : List (S28)) 0 b0 b1 b2 b3 b4 b5 b6 b7 b8 b9 b10 b11 b12 b13 b14 b15))
def intrusionref12_Split.l0 : Nat → Int → Int → List (S28) → Int → Int → Int → Int → Int → Bool → Int → Int → Bool → Int → Int → List (S60) → Bool → Int → Int → Bool → ByteArray → Option ((List (S28)) × Int)
 | 0, _, _, _, _, _, _, _, _, _, _, _, _, _, _, _, _, _, _, _, _ => none
 | k + 1, x1, x2, x10, x11, b0, b1, b2, b3, b4, b5, b6, b7, b8, b9, b10, b11, b12, b13, b14, b15 => if x11 = 0 then (intrusionref12_Split.j2 k x1 x2 x10 x11 true b0 b1 b2 b3 b4 b5 b6 b7 b8 b9 b10 b11 b12 b13 b14 b15) else (intrusionref12_Split.j2 k x1 x2 x10 x11 (decide (x11 < (b15.size : Int))) b0 b1 b2 b3 b4 b5 b6 b7 b8 b9 b10 b11 b12 b13 b14 b15)
def intrusionref12_Split.j2 : Nat → Int → Int → List (S28) → Int → Bool → Int → Int → Int → Int → Bool → Int → Int → Bool → Int → Int → List (S60) → Bool → Int → Int → Bool → ByteArray → Option ((List (S28)) × Int)
 | 0, _, _, _, _, _, _, _, _, _, _, _, _, _, _, _, _, _, _, _, _, _ => none
 | k + 1, x1, x2, x10, x11, x47, b0, b1, b2, b3, b4, b5, b6, b7, b8, b9, b10, b11, b12, b13, b14, b15 => if x47 = true then (if 0 ≤ x11 then (if x11 ≤ (wrap64 (x11 + (mn x1 (wrap64 ((b15.size : Int) - x11))))) then (if (wrap64 (x11 + (mn x1 (wrap64 ((b15.size : Int) - x11))))) ≤ (b15.size : Int) then ((intrusionref12_Encode.f k b0 b1 b2 b3 b4 b5 b6 b7 b8 b9 b10 true x2 x11 (decide ((wrap64 (x11 + (mn x1 (wrap64 ((b15.size : Int) - x11))))) < (b15.size : Int))) (b15.extract (x11 : Int).toNat ((wrap64 (x11 + (mn x1 (wrap64 ((b15.size : Int) - x11))))) : Int).toNat)).bind fun bt490 => (if bt490.2 = 0 then (if x10.length < 925904528653 then (intrusionref12_Split.l0 k x1 x2 (x10 ++ [(⟨b0, b1, b2, b3, (⟨b4, b5, b6⟩ : S25), (⟨b7, b8, b9⟩ : S25), b10, true, x2, x11, decide ((wrap64 (x11 + (mn x1 (wrap64 ((b15.size : Int) - x11))))) < (b15.size : Int)), b15.extract (x11 : Int).toNat ((wrap64 (x11 + (mn x1 (wrap64 ((b15.size : Int) - x11))))) : Int).toNat⟩ : S28)]) (wrap64 (x11 + (mx (mn x1 (wrap64 ((b15.size : Int) - x11))) 1))) b0 b1 b2 b3 b4 b5 b6 b7 b8 b9 b10 b11 b12 b13 b14 b15) else (none)) else (some (([] : List (S28)), bt490.2)))) else (none)) else (none)) else (none)) else (some (x10, 0))
end
def intrusionref12_Split.f (k : Nat) (d0 : Int) (d1 : Int) (d2 : Int) (d3 : Int) (d4 : Bool) (d5 : Int) (d6 : Int) (d7 : Bool) (d8 : Int) (d9 : Int) (l0_10 : List (S60)) (d11 : Bool) (d12 : Int) (d13 : Int) (d14 : Bool) (d15 : ByteArray) (a1 : Int) (a2 : Int) : Option ((List (S28)) × Int) := (intrusionref12_Encode.f k d0 d1 d2 d3 d4 d5 d6 d7 d8 d9 l0_10 d11 d12 d13 d14 d15).bind fun bt487 => (if bt487.2 = 0 then (if a1 < 1 then (intrusionref12_Split.j0 k a1 a2 true d0 d1 d2 d3 d4 d5 d6 d7 d8 d9 l0_10 d11 d12 d13 d14 d15) else (if (Int.tmod a1 8) = 0 then (if a2 < 0 then (intrusionref12_Split.j0 k a1 a2 true d0 d1 d2 d3 d4 d5 d6 d7 d8 d9 l0_10 d11 d12 d13 d14 d15) else (intrusionref12_Split.j0 k a1 a2 (decide (a2 ≥ 4294967296)) d0 d1 d2 d3 d4 d5 d6 d7 d8 d9 l0_10 d11 d12 d13 d14 d15)) else (intrusionref12_Split.j0 k a1 a2 true d0 d1 d2 d3 d4 d5 d6 d7 d8 d9 l0_10 d11 d12 d13 d14 d15))) else (some (([] : List (S28)), bt487.2)))
theorem intrusionref12_Split.mono_l : ∀ k, (∀ y0 y1 y2 y3 y4 y5 y6 y7 y8 y9 y10 y11 y12 y13 y14 y15 y16 y17 y18, LeO (intrusionref12_Split.j0 k y0 y1 y2 y3 y4 y5 y6 y7 y8 y9 y10 y11 y12 y13 y14 y15 y16 y17 y18) (intrusionref12_Split.j0 (k + 1) y0 y1 y2 y3 y4 y5 y6 y7 y8 y9 y10 y11 y12 y13 y14 y15 y16 y17 y18)) ∧ (∀ y0 y1 y2 y3 y4 y5 y6 y7 y8 y9 y10 y11 y12 y13 y14 y15 y16 y17 y18 y19, LeO (intrusionref12_Split.l0 k y0 y1 y2 y3 y4 y5 y6 y7 y8 y9 y10 y11 y12 y13 y14 y15 y16 y17 y18 y19) (intrusionref12_Split.l0 (k + 1) y0 y1 y2 y3 y4 y5 y6 y7 y8 y9 y10 y11 y12 y13 y14 y15 y16 y17 y18 y19)) ∧ (∀ y0 y1 y2 y3 y4 y5 y6 y7 y8 y9 y10 y11 y12 y13 y14 y15 y16 y17 y18 y19 y20, LeO (intrusionref12_Split.j2 k y0 y1 y2 y3 y4 y5 y6 y7 y8 y9 y10 y11 y12 y13 y14 y15 y16 y17 y18 y19 y20) (intrusionref12_Split.j2 (k + 1) y0 y1 y2 y3 y4 y5 y6 y7 y8 y9 y10 y11 y12 y13 y14 y15 y16 y17 y18 y19 y20))
 | 0 => ⟨fun _ _ _ _ _ _ _ _ _ _ _ _ _ _ _ _ _ _ _ r h => by simp [intrusionref12_Split.j0] at h, fun _ _ _ _ _ _ _ _ _ _ _ _ _ _ _ _ _ _ _ _ r h => by simp [intrusionref12_Split.l0] at h, fun _ _ _ _ _ _ _ _ _ _ _ _ _ _ _ _ _ _ _ _ _ r h => by simp [intrusionref12_Split.j2] at h⟩
 | k + 1 => by
  obtain ⟨ih0, ih1, ih2⟩ := intrusionref12_Split.mono_l k
  refine ⟨?_, ?_, ?_⟩
  ·intro y0 y1 y2 y3 y4 y5 y6 y7 y8 y9 y10 y11 y12 y13 y14 y15 y16 y17 y18
   unfold intrusionref12_Split.j0
   repeat' first | with_reducible first | apply ih0 | apply ih1 | apply ih2 | apply intrusionref12_Encode.mono | apply LeO.refl | apply LeO.none | refine LeO.ite ?_ ?_ | refine LeO.bind ?_ (fun _ => ?_)
  ·intro y0 y1 y2 y3 y4 y5 y6 y7 y8 y9 y10 y11 y12 y13 y14 y15 y16 y17 y18 y19
   unfold intrusionref12_Split.l0
   repeat' first | with_reducible first | apply ih0 | apply ih1 | apply ih2 | apply intrusionref12_Encode.mono | apply LeO.refl | apply LeO.none | refine LeO.ite ?_ ?_ | refine LeO.bind ?_ (fun _ => ?_)
  intro y0 y1 y2 y3 y4 y5 y6 y7 y8 y9 y10 y11 y12 y13 y14 y15 y16 y17 y18 y19 y20
  unfold intrusionref12_Split.j2
  repeat' first | with_reducible first | apply ih0 | apply ih1 | apply ih2 | apply intrusionref12_Encode.mono | apply LeO.refl | apply LeO.none | refine LeO.ite ?_ ?_ | refine LeO.bind ?_ (fun _ => ?_)
theorem intrusionref12_Split.mono : ∀ a0 a1 a2 a3 a4 a5 a6 a7 a8 a9 a10 a11 a12 a13 a14 a15 a16 a17 k, LeO (intrusionref12_Split.f k a0 a1 a2 a3 a4 a5 a6 a7 a8 a9 a10 a11 a12 a13 a14 a15 a16 a17) (intrusionref12_Split.f (k + 1) a0 a1 a2 a3 a4 a5 a6 a7 a8 a9 a10 a11 a12 a13 a14 a15 a16 a17) := by
 intro a0 a1 a2 a3 a4 a5 a6 a7 a8 a9 a10 a11 a12 a13 a14 a15 a16 a17 k
 obtain ⟨ih0, ih1, ih2⟩ := intrusionref12_Split.mono_l k
 unfold intrusionref12_Split.f
 repeat' first | with_reducible first | apply ih0 | apply ih1 | apply ih2 | apply intrusionref12_Encode.mono | apply LeO.refl | apply LeO.none | refine LeO.ite ?_ ?_ | refine LeO.bind ?_ (fun _ => ?_)
set_option maxHeartbeats 8000000 in
set_option maxRecDepth 100000 in
theorem intrusionref12_Split.calls (k : Nat) (d0 : Int) (d1 : Int) (d2 : Int) (d3 : Int) (d4 : Bool) (d5 : Int) (d6 : Int) (d7 : Bool) (d8 : Int) (d9 : Int) (P0_10_ : Nat → Prop) (A0_10 : Option Addr) (c0_10 : Nat) (l0_10 : List (S60)) (d11 : Bool) (d12 : Int) (d13 : Int) (d14 : Bool) (d15 : ByteArray) (a1 : Int) (a2 : Int) (r1 : List (S28)) (r2 : Int) (w : World) (hs0_10 : Kd.V k60 60 w w.heap.size (fun k_ => P0_10_ k_) (.slice A0_10 l0_10.length c0_10) l0_10) (h : intrusionref12_Split.f k d0 d1 d2 d3 d4 d5 d6 d7 d8 d9 l0_10 d11 d12 d13 d14 d15 a1 a2 = some (r1, r2)) :
  Calls Try.prog 18 #[.agg #[.int .i64 d0, .int .i64 d1, .int .i64 d2, .int .i64 d3, .bool d4, .int .u64 d5, .int .u64 d6, .bool d7, .int .u64 d8, .int .u64 d9, .slice A0_10 l0_10.length c0_10, .bool d11, .int .i64 d12, .int .i64 d13, .bool d14, .string d15], .int .i64 a1, .int .i64 a2] w fun e w' => ∃ v0_ : Value, e = .returned (.tuple #[v0_, .int .i64 r2]) ∧ Kd.N k28 28 w' w.heap.size (fun k_ => (P0_10_ k_ ∨ w.heap.size ≤ k_)) v0_ r1 ∧ Below w.heap.size w w' := by
 have hu28 := Try.underlying28
 have HO0_10 := As (show Kd.V k60 60 w w.heap.size (fun k_ => (P0_10_ k_ ∨ w.heap.size ≤ k_)) (.slice A0_10 l0_10.length c0_10) l0_10 from Kd.V_mono hs0_10 (fun k_ hk => .inl hk))
 have HB := As (Below.refl w.heap.size w)
 have H : ((intrusionref12_Encode.f k d0 d1 d2 d3 d4 d5 d6 d7 d8 d9 l0_10 d11 d12 d13 d14 d15).bind fun bt487 => (if bt487.2 = 0 then (if a1 < 1 then (intrusionref12_Split.j0 k a1 a2 true d0 d1 d2 d3 d4 d5 d6 d7 d8 d9 l0_10 d11 d12 d13 d14 d15) else (if (Int.tmod a1 8) = 0 then (if a2 < 0 then (intrusionref12_Split.j0 k a1 a2 true d0 d1 d2 d3 d4 d5 d6 d7 d8 d9 l0_10 d11 d12 d13 d14 d15) else (intrusionref12_Split.j0 k a1 a2 (decide (a2 ≥ 4294967296)) d0 d1 d2 d3 d4 d5 d6 d7 d8 d9 l0_10 d11 d12 d13 d14 d15)) else (intrusionref12_Split.j0 k a1 a2 true d0 d1 d2 d3 d4 d5 d6 d7 d8 d9 l0_10 d11 d12 d13 d14 d15))) else (some (([] : List (S28)), bt487.2)))) = some (r1, r2) := h
 clear h
 replace H := Option.bind_eq_some_iff.mp H
 obtain ⟨⟨t487, t488⟩, A40, H⟩ := H
 replace H : (if t488 = 0 then (if a1 < 1 then (intrusionref12_Split.j0 k a1 a2 true d0 d1 d2 d3 d4 d5 d6 d7 d8 d9 l0_10 d11 d12 d13 d14 d15) else (if (Int.tmod a1 8) = 0 then (if a2 < 0 then (intrusionref12_Split.j0 k a1 a2 true d0 d1 d2 d3 d4 d5 d6 d7 d8 d9 l0_10 d11 d12 d13 d14 d15) else (intrusionref12_Split.j0 k a1 a2 (decide (a2 ≥ 4294967296)) d0 d1 d2 d3 d4 d5 d6 d7 d8 d9 l0_10 d11 d12 d13 d14 d15)) else (intrusionref12_Split.j0 k a1 a2 true d0 d1 d2 d3 d4 d5 d6 d7 d8 d9 l0_10 d11 d12 d13 d14 d15))) else (some (([] : List (S28)), t488))) = some (r1, r2) := H
 have A4 := As A40
 clear A40
 by_cases c5 : t488 = 0
 ·rw [if_pos c5] at H
  have c5b0 : (t488 == 0) = true := beq_iff_eq.mpr c5
  have c5b1 : (t488 != 0) = false := bne_eq_false_iff_eq.mpr c5
  clear c5
  have HC6 := As H
  clear H
  go_enter Try.func18, Try.ntmps18
  go_upto_region 4 with (first | ((with_reducible refine gate_dst (N := 3) rfl ?_); (try (refine gate_guard (by rfl) ?_; dsimp only)); refine box_event rfl (N := 3) rfl (cs := #[.int .i64 d0, .int .i64 d1, .int .i64 d2, .int .i64 d3, .bool d4, .int .u64 d5, .int .u64 d6, .bool d7, .int .u64 d8, .int .u64 d9, .slice A0_10 l0_10.length c0_10, .bool d11, .int .i64 d12, .int .i64 d13, .bool d14, .string d15]) (t := 28) kG ?_; intro gb486 hg w7 hbox hb; replace HO0_10 := As (Kd.V_below (Kd.V_elderB (by (with_reducible repeat (first | apply Kd.V_alloc | apply Kd.V_drewN | apply Kd.V_drew)); exact HO0_10.out) gb486 (Nat.le_of_eq hg.symm)) hb); have BK486 := As (hbox); have GW486 := As ((by rw [hg]; exact (below_size (kB HB.out)) : w.heap.size ≤ gb486)); have GE486 := As ((by rw [hg]; exact (below_size (kB HB.out)) : w.heap.size ≤ gb486)); replace HB := As (below_step (kB HB.out) hb); clear hb hbox hg) | ((with_reducible refine gate_dst (N := 15) rfl ?_); (try (refine gate_guard (by rfl) ?_; dsimp only)); refine wpList_load_row rfl 28 _ rfl gb486 rfl 28 _ (0, 0) _ (kb BK486.out) Try.underlying28 rfl (by kernel_rfl) ?_) | ((with_reducible refine gate_callee (f := 16) rfl ?_); refine goesL_ (some 16) rfl rfl Try.func16 (by kernel_rfl) rfl #[.agg #[.int .i64 d0, .int .i64 d1, .int .i64 d2, .int .i64 d3, .bool d4, .int .u64 d5, .int .u64 d6, .bool d7, .int .u64 d8, .int .u64 d9, .slice A0_10 l0_10.length c0_10, .bool d11, .int .i64 d12, .int .i64 d13, .bool d14, .string d15]] rfl kA ?_; (with_reducible refine (intrusionref12_Encode.calls k d0 d1 d2 d3 d4 d5 d6 d7 d8 d9 _ _ l0_10 d11 d12 d13 d14 d15 t487 t488 _ ?side1 ?side2 A4.out).mono ?_); (case side1 => repeat (first | exact (Kd.V_reads' HO0_10.out).2.2 | (with_reducible refine Kd.C_alloc ?_ _) | (with_reducible refine Kd.C_drewN ?_ _) | (with_reducible refine Kd.C_drew ?_))); (case side2 => exact (Kd.V_reads' HO0_10.out).2.1); rintro e w8 ⟨rfl, hb⟩; refine ⟨_, rfl, ?_⟩; replace HO0_10 := As (Kd.V_below (by (with_reducible repeat (first | apply Kd.V_alloc | apply Kd.V_drewN | apply Kd.V_drew)); exact HO0_10.out) hb); replace BK486 := As (blk_below (kb BK486.out) hb); replace HB := As (below_step (kB1 HB.out GE486.out) hb); (try clear hb)))
  (try simp only [Act.put, sA, sZ, sS])
  go_cut [36] (fun v36 wc => ∃ (kq : Nat) (x36_5 : Bool), v36 = .bool x36_5 ∧ Aside0 (intrusionref12_Split.j0 kq a1 a2 x36_5 d0 d1 d2 d3 d4 d5 d6 d7 d8 d9 l0_10 d11 d12 d13 d14 d15 = some (r1, r2)) ∧ Aside0 (kq ≤ k) ∧ Aside0 (Kd.V k60 60 wc w.heap.size (fun k_ => (P0_10_ k_ ∨ w.heap.size ≤ k_) ∧ k_ ≠ gb486) (.slice A0_10 l0_10.length c0_10) l0_10) ∧ Aside0 (wc.heap[gb486]? = some (.cells #[.int .i64 d0, .int .i64 d1, .int .i64 d2, .int .i64 d3, .bool d4, .int .u64 d5, .int .u64 d6, .bool d7, .int .u64 d8, .int .u64 d9, (.slice A0_10 l0_10.length c0_10), .bool d11, .int .i64 d12, .int .i64 d13, .bool d14, .string d15] 28 (0, 0))) ∧ Aside0 (Below w.heap.size w wc))
  case first =>
   have H := HC6.out
   clear HC6
   by_cases c9 : a1 < 1
   ·rw [if_pos c9] at H
    have c9b0 : decide (a1 < 1) = true := decide_eq_true c9
    clear c9
    (first | rw [c9b0] | (simp only [i64_w, i32_w]; rw [c9b0]) | skip)
    have H' := As H
    clear H
    go_wp2
    go_meet
    case rel => exact ⟨_, (true), kS, H', ⟨by first | omega | exact Nat.le_refl _⟩, ⟨by (with_reducible repeat (first | apply Kd.V_alloc | apply Kd.V_drewN | apply Kd.V_drew)); exact HO0_10.out⟩, ⟨kb BK486.out⟩, ⟨kB1 HB.out GE486.out⟩⟩
   rw [if_neg c9] at H
   have c9b0 : decide (a1 < 1) = false := decide_eq_false c9
   clear c9
   (first | rw [c9b0] | (simp only [i64_w, i32_w]; rw [c9b0]) | skip)
   by_cases c10 : (Int.tmod a1 8) = 0
   ·rw [if_pos c10] at H
    have c10b0 : ((Int.tmod a1 8) == 0) = true := beq_iff_eq.mpr c10
    have c10b1 : ((Int.tmod a1 8) != 0) = false := bne_eq_false_iff_eq.mpr c10
    clear c10
    by_cases c11 : a2 < 0
    ·rw [if_pos c11] at H
     have c11b0 : decide (a2 < 0) = true := decide_eq_true c11
     clear c11
     have H' := As H
     clear H
     go_wp2
     go_meet
     case rel => exact ⟨_, (true), kS, H', ⟨by first | omega | exact Nat.le_refl _⟩, ⟨by (with_reducible repeat (first | apply Kd.V_alloc | apply Kd.V_drewN | apply Kd.V_drew)); exact HO0_10.out⟩, ⟨kb BK486.out⟩, ⟨kB1 HB.out GE486.out⟩⟩
    rw [if_neg c11] at H
    have c11b0 : decide (a2 < 0) = false := decide_eq_false c11
    clear c11
    have H' := As H
    clear H
    go_wp2
    go_meet
    case rel => exact ⟨_, (decide (a2 ≥ 4294967296)), kS, H', ⟨by first | omega | exact Nat.le_refl _⟩, ⟨by (with_reducible repeat (first | apply Kd.V_alloc | apply Kd.V_drewN | apply Kd.V_drew)); exact HO0_10.out⟩, ⟨kb BK486.out⟩, ⟨kB1 HB.out GE486.out⟩⟩
   rw [if_neg c10] at H
   have c10b0 : ((Int.tmod a1 8) == 0) = false := beq_eq_false_iff_ne.mpr c10
   have c10b1 : ((Int.tmod a1 8) != 0) = true := bne_iff_ne.mpr c10
   have H' := As H
   clear H
   go_wp2
   go_meet
   case rel => exact ⟨_, (true), kS, H', ⟨by first | omega | exact Nat.le_refl _⟩, ⟨by (with_reducible repeat (first | apply Kd.V_alloc | apply Kd.V_drewN | apply Kd.V_drew)); exact HO0_10.out⟩, ⟨kb BK486.out⟩, ⟨kB1 HB.out GE486.out⟩⟩
  clear HC6
  try clear c5
  try clear c5b0
  try clear c5b1
  obtain ⟨kq, x36_5, rfl, HA, HJ5, HO_487010, BK486, HB⟩ := hcut
  cases kq with
  | zero => exact absurd HA.out (by simp [intrusionref12_Split.j0])
  | succ kj5 =>
   have H := HA.out
   clear HA
   simp only [intrusionref12_Split.j0] at H
   by_cases c12 : x36_5 = true
   ·subst c12
    have H1 : (some (([] : List (S28)), 4)) = some (r1, r2) := by rw [if_pos rfl] at H; exact H
    clear H
    have H := H1
    clear H1
    simp only [Option.some.injEq, Prod.mk.injEq] at H
    obtain ⟨rfl, rfl⟩ := H
    go_wp2
    go_ret2
    exact ⟨_, kE, by first | exact Kd.S_nil _ _ _ _ _ | exact Kd.N_nil _ _ _ _ _ | exact Kd.V_nil _ _ _ _ _ | exact Kd.Q_nil _ _ _ _ _ | exact Kd.R_nil _ _ _ _ _, by exact kB1 HB.out GE486.out⟩
   replace c12 := Bool.eq_false_iff.mpr c12
   subst c12
   have H1 : (if d11 = true then (some (([] : List (S28)), 10)) else (intrusionref12_Split.l0 kj5 a1 a2 ([] : List (S28)) 0 d0 d1 d2 d3 d4 d5 d6 d7 d8 d9 l0_10 d11 d12 d13 d14 d15)) = some (r1, r2) := by rw [if_neg (show ¬ (false = true) by decide)] at H; exact H
   clear H
   have H := H1
   clear H1
   by_cases c13 : d11 = true
   ·subst c13
    have H1 : (some (([] : List (S28)), 10)) = some (r1, r2) := by rw [if_pos rfl] at H; exact H
    clear H
    have H := H1
    clear H1
    simp only [Option.some.injEq, Prod.mk.injEq] at H
    obtain ⟨rfl, rfl⟩ := H
    have hcz14_0 := cells_16 BK486.out
    have hfz14_0 := fun j_ => blk_frozen BK486.out j_
    go_wp2
    go_ret2
    exact ⟨_, kE, by first | exact Kd.S_nil _ _ _ _ _ | exact Kd.N_nil _ _ _ _ _ | exact Kd.V_nil _ _ _ _ _ | exact Kd.Q_nil _ _ _ _ _ | exact Kd.R_nil _ _ _ _ _, by exact kB1 HB.out GE486.out⟩
   replace c13 := Bool.eq_false_iff.mpr c13
   subst c13
   have H1 : (intrusionref12_Split.l0 kj5 a1 a2 ([] : List (S28)) 0 d0 d1 d2 d3 d4 d5 d6 d7 d8 d9 l0_10 false d12 d13 d14 d15) = some (r1, r2) := by rw [if_neg (show ¬ (false = true) by decide)] at H; exact H
   clear H
   have H := H1
   clear H1
   have H' := As H
   clear H
   have hcz15_0 := cells_16 BK486.out
   have hfz15_0 := fun j_ => blk_frozen BK486.out j_
   go_wp2
   go_loopg [10, 11] kj5 (fun kq v10 v11 w' => ∃ (x10_2 : List (S28)) (x11_2 : Int), v11 = .int .i64 x11_2 ∧ Aside0 (intrusionref12_Split.l0 kq a1 a2 x10_2 x11_2 d0 d1 d2 d3 d4 d5 d6 d7 d8 d9 l0_10 false d12 d13 d14 d15 = some (r1, r2)) ∧ Aside0 (kq ≤ kj5) ∧ Aside0 (Kd.N k28 28 w' w.heap.size (fun k_ => (P0_10_ k_ ∨ w.heap.size ≤ k_) ∧ k_ ≠ gb486) v10 x10_2) ∧ Aside0 (Kd.V k60 60 w' w.heap.size (fun k_ => (P0_10_ k_ ∨ w.heap.size ≤ k_) ∧ some k_ ≠ (v10 : Value).ownBlock ∧ k_ ≠ gb486) (.slice A0_10 l0_10.length c0_10) l0_10) ∧ Aside0 (w'.heap[gb486]? = some (.cells #[.int .i64 d0, .int .i64 d1, .int .i64 d2, .int .i64 d3, .bool d4, .int .u64 d5, .int .u64 d6, .bool d7, .int .u64 d8, .int .u64 d9, (.slice A0_10 l0_10.length c0_10), .bool false, .int .i64 d12, .int .i64 d13, .bool d14, .string d15] 28 (0, 0))) ∧ Aside0 (Below w.heap.size w w'))
   case atStart => exact ⟨(([] : List (S28))), (0), kS, H', ⟨Nat.le_refl _⟩, ⟨by first | exact Kd.S_nil _ _ _ _ _ | exact Kd.N_nil _ _ _ _ _ | exact Kd.V_nil _ _ _ _ _ | exact Kd.Q_nil _ _ _ _ _ | exact Kd.R_nil _ _ _ _ _⟩, ⟨by (with_reducible repeat (first | apply Kd.V_alloc | apply Kd.V_drewN | apply Kd.V_drew)); exact Kd.V_mono HO_487010.out (fun _ hk => ⟨hk.1, ⟨(by simp [Value.ownBlock]), hk.2⟩⟩)⟩, ⟨kb BK486.out⟩, ⟨kB1 HB.out GE486.out⟩⟩
   clear H'
   try clear c12
   try clear c13
   try clear hcz15_0
   try clear hfz15_0
   obtain ⟨x10_2, x11_2, rfl, HA, HK2, HO_10, HO_487010, BK486, HB⟩ := hrel
   cases gk with
   | zero => exact absurd HA.out (by simp [intrusionref12_Split.l0])
   | succ k2 =>
    have H := HA.out
    clear HA
    simp only [intrusionref12_Split.l0] at H
    have HC16 := As H
    clear H
    go_upto_region 10 with (fail)
    go_cut [47] (fun v47 wc => ∃ (kq : Nat) (x47_15 : Bool), v47 = .bool x47_15 ∧ Aside0 (intrusionref12_Split.j2 kq a1 a2 x10_2 x11_2 x47_15 d0 d1 d2 d3 d4 d5 d6 d7 d8 d9 l0_10 false d12 d13 d14 d15 = some (r1, r2)) ∧ Aside0 (kq ≤ k2) ∧ Aside0 (Kd.N k28 28 wc w.heap.size (fun k_ => (P0_10_ k_ ∨ w.heap.size ≤ k_) ∧ k_ ≠ gb486) u10 x10_2) ∧ Aside0 (Kd.V k60 60 wc w.heap.size (fun k_ => (P0_10_ k_ ∨ w.heap.size ≤ k_) ∧ some k_ ≠ (u10 : Value).ownBlock ∧ k_ ≠ gb486) (.slice A0_10 l0_10.length c0_10) l0_10) ∧ Aside0 (wc.heap[gb486]? = some (.cells #[.int .i64 d0, .int .i64 d1, .int .i64 d2, .int .i64 d3, .bool d4, .int .u64 d5, .int .u64 d6, .bool d7, .int .u64 d8, .int .u64 d9, (.slice A0_10 l0_10.length c0_10), .bool false, .int .i64 d12, .int .i64 d13, .bool d14, .string d15] 28 (0, 0))) ∧ Aside0 (Below w.heap.size w wc))
    case first =>
     have H := HC16.out
     clear HC16
     by_cases c17 : x11_2 = 0
     ·rw [if_pos c17] at H
      have c17b0 : (x11_2 == 0) = true := beq_iff_eq.mpr c17
      have c17b1 : (x11_2 != 0) = false := bne_eq_false_iff_eq.mpr c17
      clear c17
      (first | rw [c17b0] | (simp only [i64_w, i32_w]; rw [c17b0]) | skip)
      have H' := As H
      clear H
      go_wp2
      go_meet
      case rel => exact ⟨_, (true), kS, H', ⟨by have := HJ5.out; have := HK2.out; first | omega | exact Nat.le_refl _⟩, ⟨by (with_reducible repeat (first | apply Kd.N_alloc | apply Kd.N_drewN | apply Kd.N_drew)); exact HO_10.out⟩, ⟨by (with_reducible repeat (first | apply Kd.V_alloc | apply Kd.V_drewN | apply Kd.V_drew)); exact HO_487010.out⟩, ⟨kb BK486.out⟩, ⟨kB1 HB.out GE486.out⟩⟩
     rw [if_neg c17] at H
     have c17b0 : (x11_2 == 0) = false := beq_eq_false_iff_ne.mpr c17
     have c17b1 : (x11_2 != 0) = true := bne_iff_ne.mpr c17
     (first | rw [c17b0] | (simp only [i64_w, i32_w]; rw [c17b0]) | skip)
     have H' := As H
     clear H
     have hcz18_0 := cells_16 BK486.out
     have hfz18_0 := fun j_ => blk_frozen BK486.out j_
     go_wp2
     go_meet
     case rel => exact ⟨_, (decide (x11_2 < (d15.size : Int))), kS, H', ⟨by have := HJ5.out; have := HK2.out; first | omega | exact Nat.le_refl _⟩, ⟨by (with_reducible repeat (first | apply Kd.N_alloc | apply Kd.N_drewN | apply Kd.N_drew)); exact HO_10.out⟩, ⟨by (with_reducible repeat (first | apply Kd.V_alloc | apply Kd.V_drewN | apply Kd.V_drew)); exact HO_487010.out⟩, ⟨kb BK486.out⟩, ⟨kB1 HB.out GE486.out⟩⟩
    clear HC16
    obtain ⟨kq, x47_15, rfl, HA, HJ15, HO_10, HO_487010, BK486, HB⟩ := hcut
    cases kq with
    | zero => exact absurd HA.out (by simp [intrusionref12_Split.j2])
    | succ kj15 =>
     have H := HA.out
     clear HA
     simp only [intrusionref12_Split.j2] at H
     by_cases c19 : x47_15 = true
     ·subst c19
      have H1 : (if 0 ≤ x11_2 then (if x11_2 ≤ (wrap64 (x11_2 + (mn a1 (wrap64 ((d15.size : Int) - x11_2))))) then (if (wrap64 (x11_2 + (mn a1 (wrap64 ((d15.size : Int) - x11_2))))) ≤ (d15.size : Int) then ((intrusionref12_Encode.f kj15 d0 d1 d2 d3 d4 d5 d6 d7 d8 d9 l0_10 true a2 x11_2 (decide ((wrap64 (x11_2 + (mn a1 (wrap64 ((d15.size : Int) - x11_2))))) < (d15.size : Int))) (d15.extract (x11_2 : Int).toNat ((wrap64 (x11_2 + (mn a1 (wrap64 ((d15.size : Int) - x11_2))))) : Int).toNat)).bind fun bt490 => (if bt490.2 = 0 then (if x10_2.length < 925904528653 then (intrusionref12_Split.l0 kj15 a1 a2 (x10_2 ++ [(⟨d0, d1, d2, d3, (⟨d4, d5, d6⟩ : S25), (⟨d7, d8, d9⟩ : S25), l0_10, true, a2, x11_2, decide ((wrap64 (x11_2 + (mn a1 (wrap64 ((d15.size : Int) - x11_2))))) < (d15.size : Int)), d15.extract (x11_2 : Int).toNat ((wrap64 (x11_2 + (mn a1 (wrap64 ((d15.size : Int) - x11_2))))) : Int).toNat⟩ : S28)]) (wrap64 (x11_2 + (mx (mn a1 (wrap64 ((d15.size : Int) - x11_2))) 1))) d0 d1 d2 d3 d4 d5 d6 d7 d8 d9 l0_10 false d12 d13 d14 d15) else (none)) else (some (([] : List (S28)), bt490.2)))) else (none)) else (none)) else (none)) = some (r1, r2) := by rw [if_pos rfl] at H; exact H
      clear H
      have H := H1
      clear H1
      obtain ⟨ji20, hji20⟩ : ∃ j_ : Int, (mn a1 (wrap64 ((d15.size : Int) - x11_2))) = j_ := ⟨_, rfl⟩
      replace H : (if 0 ≤ x11_2 then (if x11_2 ≤ (wrap64 (x11_2 + (ji20))) then (if (wrap64 (x11_2 + (ji20))) ≤ (d15.size : Int) then ((intrusionref12_Encode.f kj15 d0 d1 d2 d3 d4 d5 d6 d7 d8 d9 l0_10 true a2 x11_2 (decide ((wrap64 (x11_2 + (ji20))) < (d15.size : Int))) (d15.extract (x11_2 : Int).toNat ((wrap64 (x11_2 + (ji20))) : Int).toNat)).bind fun bt490 => (if bt490.2 = 0 then (if x10_2.length < 925904528653 then (intrusionref12_Split.l0 kj15 a1 a2 (x10_2 ++ [(⟨d0, d1, d2, d3, (⟨d4, d5, d6⟩ : S25), (⟨d7, d8, d9⟩ : S25), l0_10, true, a2, x11_2, decide ((wrap64 (x11_2 + (ji20))) < (d15.size : Int)), d15.extract (x11_2 : Int).toNat ((wrap64 (x11_2 + (ji20))) : Int).toNat⟩ : S28)]) (wrap64 (x11_2 + (mx (ji20) 1))) d0 d1 d2 d3 d4 d5 d6 d7 d8 d9 l0_10 false d12 d13 d14 d15) else (none)) else (some (([] : List (S28)), bt490.2)))) else (none)) else (none)) else (none)) = some (r1, r2) := by first | (rw [hji20] at H; exact H) | (simp only [hji20] at H ⊢; exact H)
      have hji20_ : (if (wrap64 ((d15.size : Int) - x11_2)) < a1 then (wrap64 ((d15.size : Int) - x11_2)) else a1) = ji20 := hji20
      by_cases c21 : 0 ≤ x11_2
      ·rw [if_pos c21] at H
       have c21b0 := eq_true c21
       have c21b1 : decide (0 ≤ x11_2) = true := decide_eq_true c21
       clear c21
       by_cases c22 : x11_2 ≤ (wrap64 (x11_2 + (ji20)))
       ·rw [if_pos c22] at H
        have c22b0 := eq_true c22
        have c22b1 : decide (x11_2 ≤ (wrap64 (x11_2 + (ji20)))) = true := decide_eq_true c22
        by_cases c23 : (wrap64 (x11_2 + (ji20))) ≤ (d15.size : Int)
        ·rw [if_pos c23] at H
         have c23b0 := eq_true c23
         have c23b1 : decide ((wrap64 (x11_2 + (ji20))) ≤ (d15.size : Int)) = true := decide_eq_true c23
         replace H := Option.bind_eq_some_iff.mp H
         obtain ⟨⟨t490, t491⟩, A240, H⟩ := H
         replace H : (if t491 = 0 then (if x10_2.length < 925904528653 then (intrusionref12_Split.l0 kj15 a1 a2 (x10_2 ++ [(⟨d0, d1, d2, d3, (⟨d4, d5, d6⟩ : S25), (⟨d7, d8, d9⟩ : S25), l0_10, true, a2, x11_2, decide ((wrap64 (x11_2 + (ji20))) < (d15.size : Int)), d15.extract (x11_2 : Int).toNat ((wrap64 (x11_2 + (ji20))) : Int).toNat⟩ : S28)]) (wrap64 (x11_2 + (mx (ji20) 1))) d0 d1 d2 d3 d4 d5 d6 d7 d8 d9 l0_10 false d12 d13 d14 d15) else (none)) else (some (([] : List (S28)), t491))) = some (r1, r2) := H
         have A24 := As A240
         clear A240
         by_cases c25 : t491 = 0
         ·rw [if_pos c25] at H
          have c25b0 : (t491 == 0) = true := beq_iff_eq.mpr c25
          have c25b1 : (t491 != 0) = false := bne_eq_false_iff_eq.mpr c25
          clear c25
          by_cases c26 : x10_2.length < 925904528653
          ·rw [if_pos c26] at H
           have LMc26 := As c26
           clear c26
           obtain ⟨y492, hy492⟩ : ∃ y_ : List (S28), y_ = (x10_2 ++ [(⟨d0, d1, d2, d3, (⟨d4, d5, d6⟩ : S25), (⟨d7, d8, d9⟩ : S25), l0_10, true, a2, x11_2, decide ((wrap64 (x11_2 + (ji20))) < (d15.size : Int)), d15.extract (x11_2 : Int).toNat ((wrap64 (x11_2 + (ji20))) : Int).toNat⟩ : S28)]) := ⟨_, rfl⟩
           replace H : (intrusionref12_Split.l0 kj15 a1 a2 y492 (wrap64 (x11_2 + (mx (ji20) 1))) d0 d1 d2 d3 d4 d5 d6 d7 d8 d9 l0_10 false d12 d13 d14 d15) = some (r1, r2) := by first | (rw [hy492]; with_reducible exact H) | (have H2_ := (Option.bind_some _ _).symm.trans H; rw [hy492]; with_reducible exact H2_) | (have H2_ := (Option.bind_some _ _).symm.trans H; with_reducible exact H2_) | with_reducible exact H | (rw [hy492]; exact H) | exact H
           have Ny492 := As hy492
           clear hy492
           obtain ⟨ji27, hji27⟩ : ∃ j_ : Int, (mx (ji20) 1) = j_ := ⟨_, rfl⟩
           replace H : (intrusionref12_Split.l0 kj15 a1 a2 y492 (wrap64 (x11_2 + (ji27))) d0 d1 d2 d3 d4 d5 d6 d7 d8 d9 l0_10 false d12 d13 d14 d15) = some (r1, r2) := by first | (rw [hji27] at H; exact H) | (simp only [hji27] at H ⊢; exact H)
           (try rw [hji27] at A24)
           have hji27_ : (if (ji20) < 1 then 1 else (ji20)) = ji27 := hji27
           have H' := As H
           clear H
           have hcz28_0 := cells_16 BK486.out
           have hfz28_0 := fun j_ => blk_frozen BK486.out j_
           go_wp2_with (first | ((with_reducible refine gate_dst (N := 55) rfl ?_); (try (refine gate_guard (by rfl) ?_; dsimp only)); refine wpList_load_row rfl 28 _ rfl gb486 rfl 28 _ (0, 0) _ (kb BK486.out) Try.underlying28 rfl (by kernel_rfl) ?_) | ((with_reducible refine gate_dst (N := 13) rfl ?_); (try (refine gate_guard (by rfl) ?_; dsimp only)); refine box_event rfl (N := 13) rfl (cs := #[.int .i64 0, .int .i64 0, .int .i64 0, .int .i64 0, .bool false, .int .u64 0, .int .u64 0, .bool false, .int .u64 0, .int .u64 0, .slice none 0 0, .bool false, .int .i64 0, .int .i64 0, .bool false, .string (⟨#[]⟩ : ByteArray)]) (t := 28) kG ?_; intro gb489 hg w29 hbox hb; replace HO_10 := As (Kd.N_below (Kd.N_elderB (by (with_reducible repeat (first | apply Kd.N_alloc | apply Kd.N_drewN | apply Kd.N_drew)); exact HO_10.out) gb489 (Nat.le_of_eq hg.symm)) hb); replace HO_487010 := As (Kd.V_below (Kd.V_elderB (by (with_reducible repeat (first | apply Kd.V_alloc | apply Kd.V_drewN | apply Kd.V_drew)); exact HO_487010.out) gb489 (Nat.le_of_eq hg.symm)) hb); have BK489 := As (hbox); have GW489 := As ((by rw [hg]; exact (below_size (kB1 HB.out GE486.out)) : w.heap.size ≤ gb489)); have GE489 := As ((by rw [hg]; exact (below_size (kB1 HB.out GE486.out)) : w.heap.size ≤ gb489)); replace HB := As (below_step (kB1 HB.out GE486.out) hb); have NB486_489 := As ((by rw [hg]; exact Nat.ne_of_lt (blk_lt (kb BK486.out)) : gb486 ≠ gb489)); have NB489_486 := As ((by rw [hg]; exact Nat.ne_of_gt (blk_lt (kb BK486.out)) : gb489 ≠ gb486)); replace BK486 := As (blk_below (kb BK486.out) hb); clear hb hbox hg) | ((with_reducible refine gate_store (t := 28) (p := 13) rfl ?_); refine store_rowev_16 gb489 (.int .i64 d0) (.int .i64 d1) (.int .i64 d2) (.int .i64 d3) (.bool d4) (.int .u64 d5) (.int .u64 d6) (.bool d7) (.int .u64 d8) (.int .u64 d9) (.slice A0_10 l0_10.length c0_10) (.bool false) (.int .i64 d12) (.int .i64 d13) (.bool d14) (.string d15) rfl (t := 28) (p := 13) (v := _) rfl rfl rfl rfl (t' := 28) (kb BK489.out) (by rfl) (by kernel_rfl) (by rfl) ?_; have hnb30 := NB489_486.out; have hnc30 := NB486_489.out; have hcz31_0 := cells_16 BK489.out; have hfz31_0 := fun j_ => blk_frozen BK489.out j_; have hcz32_0 := cells_16 BK486.out; have hfz32_0 := fun j_ => blk_frozen BK486.out j_) | ((with_reducible refine gate_dst (N := 78) rfl ?_); (try (refine gate_guard (by rfl) ?_; dsimp only)); refine wpList_load_row ?hgd 28 _ rfl gb489 rfl 28 #[.int .i64 d0, .int .i64 d1, .int .i64 d2, .int .i64 d3, .bool d4, .int .u64 d5, .int .u64 d6, .bool d7, .int .u64 d8, .int .u64 d9, .slice A0_10 l0_10.length c0_10, .bool true, .int .i64 a2, .int .i64 x11_2, .bool (decide ((wrap64 (x11_2 + (ji20))) < (d15.size : Int))), .string (d15.extract (x11_2 : Int).toNat ((wrap64 (x11_2 + (ji20))) : Int).toNat)] (0, 0) _ (by refine kb ?_; refine blk_put (cs := #[.int .i64 d0, .int .i64 d1, .int .i64 d2, .int .i64 d3, .bool d4, .int .u64 d5, .int .u64 d6, .bool d7, .int .u64 d8, .int .u64 d9, .slice A0_10 l0_10.length c0_10, .bool true, .int .i64 a2, .int .i64 x11_2, .bool (decide ((wrap64 (x11_2 + (ji20))) < (d15.size : Int))), .string d15]) ?_ 15 _ rfl; refine kb ?_; refine blk_put (cs := #[.int .i64 d0, .int .i64 d1, .int .i64 d2, .int .i64 d3, .bool d4, .int .u64 d5, .int .u64 d6, .bool d7, .int .u64 d8, .int .u64 d9, .slice A0_10 l0_10.length c0_10, .bool true, .int .i64 a2, .int .i64 x11_2, .bool d14, .string d15]) ?_ 14 _ rfl; refine kb ?_; refine blk_put (cs := #[.int .i64 d0, .int .i64 d1, .int .i64 d2, .int .i64 d3, .bool d4, .int .u64 d5, .int .u64 d6, .bool d7, .int .u64 d8, .int .u64 d9, .slice A0_10 l0_10.length c0_10, .bool true, .int .i64 a2, .int .i64 d13, .bool d14, .string d15]) ?_ 13 _ rfl; refine kb ?_; refine blk_put (cs := #[.int .i64 d0, .int .i64 d1, .int .i64 d2, .int .i64 d3, .bool d4, .int .u64 d5, .int .u64 d6, .bool d7, .int .u64 d8, .int .u64 d9, .slice A0_10 l0_10.length c0_10, .bool true, .int .i64 d12, .int .i64 d13, .bool d14, .string d15]) ?_ 12 _ rfl; refine kb ?_; refine blk_put (cs := #[.int .i64 d0, .int .i64 d1, .int .i64 d2, .int .i64 d3, .bool d4, .int .u64 d5, .int .u64 d6, .bool d7, .int .u64 d8, .int .u64 d9, .slice A0_10 l0_10.length c0_10, .bool false, .int .i64 d12, .int .i64 d13, .bool d14, .string d15]) ?_ 11 _ rfl; refine kb ?_; exact blk_all_16 (kb BK489.out) (by rfl)) Try.underlying28 rfl (by kernel_rfl) ?_; (case hgd => rfl)) | ((with_reducible refine gate_callee (f := 16) rfl ?_); refine goesL_ (some 79) rfl rfl Try.func16 (by kernel_rfl) rfl #[.agg #[.int .i64 d0, .int .i64 d1, .int .i64 d2, .int .i64 d3, .bool d4, .int .u64 d5, .int .u64 d6, .bool d7, .int .u64 d8, .int .u64 d9, .slice A0_10 l0_10.length c0_10, .bool true, .int .i64 a2, .int .i64 x11_2, .bool (decide ((wrap64 (x11_2 + (ji20))) < (d15.size : Int))), .string (d15.extract (x11_2 : Int).toNat ((wrap64 (x11_2 + (ji20))) : Int).toNat)]] rfl (by (try simp only [List.map_toArray, List.map_cons, List.map_nil]); first | done | (simp only [hji20]; rfl) | rfl | (simp only [List.length_drop, List.length_take]; rfl)) ?_; (with_reducible refine (intrusionref12_Encode.calls kj15 d0 d1 d2 d3 d4 d5 d6 d7 d8 d9 _ _ l0_10 true a2 x11_2 (decide ((wrap64 (x11_2 + (ji20))) < (d15.size : Int))) (d15.extract (x11_2 : Int).toNat ((wrap64 (x11_2 + (ji20))) : Int).toNat) t490 t491 _ ?side1 ?side2 A24.out).mono ?_); (case side1 => refine (Kd.V_reads' (e := 60) (base := w.heap.size) (ok := fun k_ => (((P0_10_ k_ ∨ w.heap.size ≤ k_) ∧ (some k_ ≠ (u10 : Value).ownBlock ∧ k_ ≠ gb486)) ∧ k_ ≠ gb489)) (n := l0_10.length) (c := c0_10) ?_).2.2; exact (by (with_reducible repeat (first | apply Kd.V_alloc | apply Kd.V_drewN | apply Kd.V_drew)); exact (Kd.V_mono (Kd.V_puts_11_5 gb489 (.bool true) (.int .i64 a2) (.int .i64 x11_2) (.bool (decide ((wrap64 (x11_2 + (ji20))) < (d15.size : Int)))) (.string (d15.extract (x11_2 : Int).toNat ((wrap64 (x11_2 + (ji20))) : Int).toNat)) (Kd.V_puts_0_16 gb489 (.int .i64 d0) (.int .i64 d1) (.int .i64 d2) (.int .i64 d3) (.bool d4) (.int .u64 d5) (.int .u64 d6) (.bool d7) (.int .u64 d8) (.int .u64 d9) (.slice A0_10 l0_10.length c0_10) (.bool false) (.int .i64 d12) (.int .i64 d13) (.bool d14) (.string d15) (Kd.V_mono HO_487010.out (fun k_ hk => (⟨hk, hk.2⟩ : _ ∧ k_ ≠ gb489))) (fun _ hk => hk.2)) (fun _ hk => hk.2)) (fun _ h_ => h_.1)))); (case side2 => exact (Kd.V_reads' HO_487010.out).2.1); rintro e w33 ⟨rfl, hb⟩; refine ⟨_, rfl, ?_⟩; replace HO_10 := As (Kd.N_below (by (with_reducible repeat (first | apply Kd.N_alloc | apply Kd.N_drewN | apply Kd.N_drew)); exact (Kd.N_mono (Kd.N_puts_11_5 gb489 (.bool true) (.int .i64 a2) (.int .i64 x11_2) (.bool (decide ((wrap64 (x11_2 + (ji20))) < (d15.size : Int)))) (.string (d15.extract (x11_2 : Int).toNat ((wrap64 (x11_2 + (ji20))) : Int).toNat)) (Kd.N_puts_0_16 gb489 (.int .i64 d0) (.int .i64 d1) (.int .i64 d2) (.int .i64 d3) (.bool d4) (.int .u64 d5) (.int .u64 d6) (.bool d7) (.int .u64 d8) (.int .u64 d9) (.slice A0_10 l0_10.length c0_10) (.bool false) (.int .i64 d12) (.int .i64 d13) (.bool d14) (.string d15) (Kd.N_mono HO_10.out (fun k_ hk => (⟨hk, hk.2⟩ : _ ∧ k_ ≠ gb489))) (fun _ hk => hk.2)) (fun _ hk => hk.2)) (fun _ h_ => h_.1))) hb); replace HO_487010 := As (Kd.V_below (by (with_reducible repeat (first | apply Kd.V_alloc | apply Kd.V_drewN | apply Kd.V_drew)); exact (Kd.V_mono (Kd.V_puts_11_5 gb489 (.bool true) (.int .i64 a2) (.int .i64 x11_2) (.bool (decide ((wrap64 (x11_2 + (ji20))) < (d15.size : Int)))) (.string (d15.extract (x11_2 : Int).toNat ((wrap64 (x11_2 + (ji20))) : Int).toNat)) (Kd.V_puts_0_16 gb489 (.int .i64 d0) (.int .i64 d1) (.int .i64 d2) (.int .i64 d3) (.bool d4) (.int .u64 d5) (.int .u64 d6) (.bool d7) (.int .u64 d8) (.int .u64 d9) (.slice A0_10 l0_10.length c0_10) (.bool false) (.int .i64 d12) (.int .i64 d13) (.bool d14) (.string d15) (Kd.V_mono HO_487010.out (fun k_ hk => (⟨hk, hk.2⟩ : _ ∧ k_ ≠ gb489))) (fun _ hk => hk.2)) (fun _ hk => hk.2)) (fun _ h_ => h_.1))) hb); replace BK486 := As (blk_below (g := gb486) (o := .cells #[.int .i64 d0, .int .i64 d1, .int .i64 d2, .int .i64 d3, .bool d4, .int .u64 d5, .int .u64 d6, .bool d7, .int .u64 d8, .int .u64 d9, .slice A0_10 l0_10.length c0_10, .bool false, .int .i64 d12, .int .i64 d13, .bool d14, .string d15] 28 (0, 0)) (by refine kb ?_; (iterate 21 (refine blk_far ?_ NB486_489.out _; refine kb ?_)); exact BK486.out) hb); replace BK489 := As (blk_below (g := gb489) (o := .cells #[.int .i64 d0, .int .i64 d1, .int .i64 d2, .int .i64 d3, .bool d4, .int .u64 d5, .int .u64 d6, .bool d7, .int .u64 d8, .int .u64 d9, .slice A0_10 l0_10.length c0_10, .bool true, .int .i64 a2, .int .i64 x11_2, .bool (decide ((wrap64 (x11_2 + (ji20))) < (d15.size : Int))), .string (d15.extract (x11_2 : Int).toNat ((wrap64 (x11_2 + (ji20))) : Int).toNat)] 28 (0, 0)) (by refine kb ?_; refine blk_put (cs := #[.int .i64 d0, .int .i64 d1, .int .i64 d2, .int .i64 d3, .bool d4, .int .u64 d5, .int .u64 d6, .bool d7, .int .u64 d8, .int .u64 d9, .slice A0_10 l0_10.length c0_10, .bool true, .int .i64 a2, .int .i64 x11_2, .bool (decide ((wrap64 (x11_2 + (ji20))) < (d15.size : Int))), .string d15]) ?_ 15 _ rfl; refine kb ?_; refine blk_put (cs := #[.int .i64 d0, .int .i64 d1, .int .i64 d2, .int .i64 d3, .bool d4, .int .u64 d5, .int .u64 d6, .bool d7, .int .u64 d8, .int .u64 d9, .slice A0_10 l0_10.length c0_10, .bool true, .int .i64 a2, .int .i64 x11_2, .bool d14, .string d15]) ?_ 14 _ rfl; refine kb ?_; refine blk_put (cs := #[.int .i64 d0, .int .i64 d1, .int .i64 d2, .int .i64 d3, .bool d4, .int .u64 d5, .int .u64 d6, .bool d7, .int .u64 d8, .int .u64 d9, .slice A0_10 l0_10.length c0_10, .bool true, .int .i64 a2, .int .i64 d13, .bool d14, .string d15]) ?_ 13 _ rfl; refine kb ?_; refine blk_put (cs := #[.int .i64 d0, .int .i64 d1, .int .i64 d2, .int .i64 d3, .bool d4, .int .u64 d5, .int .u64 d6, .bool d7, .int .u64 d8, .int .u64 d9, .slice A0_10 l0_10.length c0_10, .bool true, .int .i64 d12, .int .i64 d13, .bool d14, .string d15]) ?_ 12 _ rfl; refine kb ?_; refine blk_put (cs := #[.int .i64 d0, .int .i64 d1, .int .i64 d2, .int .i64 d3, .bool d4, .int .u64 d5, .int .u64 d6, .bool d7, .int .u64 d8, .int .u64 d9, .slice A0_10 l0_10.length c0_10, .bool false, .int .i64 d12, .int .i64 d13, .bool d14, .string d15]) ?_ 11 _ rfl; refine kb ?_; exact blk_all_16 (kb BK489.out) (by rfl)) hb); replace HB := As (below_step (kB2 HB.out GE486.out GE489.out) hb); (try clear hb); (try clear hk)) | ((with_reducible refine gate_dst (N := 86) rfl ?_); (try (refine gate_guard (by rfl) ?_; dsimp only)); refine wpList_load_row rfl 28 _ rfl gb489 rfl 28 _ (0, 0) _ (kb BK489.out) Try.underlying28 rfl (by kernel_rfl) ?_) | ((with_reducible refine gate_builtin (b := .append) (xs := #[.tmp 85, .tmp 87]) rfl ?_); (try (refine gate_guard (by rfl) ?_; dsimp only)); at_builtin; refine Kd.N_append k28 (w0 := w) w.heap.size rfl (.tmp 85) (.tmp 87) 38 28 (.agg #[(.int .i64 0), (.int .i64 0), (.int .i64 0), (.int .i64 0), (.bool false), (.int .u64 0), (.int .u64 0), (.bool false), (.int .u64 0), (.int .u64 0), (.slice none 0 0), (.bool false), (.int .i64 0), (.int .i64 0), (.bool false), (.string ⟨#[]⟩)]) 152 rfl Try.underlying38 info28 rfl (by decide) (by omega) u10 x10_2 (⟨d0, d1, d2, d3, (⟨d4, d5, d6⟩ : S25), (⟨d7, d8, d9⟩ : S25), l0_10, true, a2, x11_2, decide ((wrap64 (x11_2 + (ji20))) < (d15.size : Int)), d15.extract (x11_2 : Int).toNat ((wrap64 (x11_2 + (ji20))) : Int).toNat⟩ : S28) [.int .i64 d0, .int .i64 d1, .int .i64 d2, .int .i64 d3, .bool d4, .int .u64 d5, .int .u64 d6, .bool d7, .int .u64 d8, .int .u64 d9, .slice A0_10 l0_10.length c0_10, .bool true, .int .i64 a2, .int .i64 x11_2, .bool (decide ((wrap64 (x11_2 + (ji20))) < (d15.size : Int))), .string (d15.extract (x11_2 : Int).toNat ((wrap64 (x11_2 + (ji20))) : Int).toNat)] (fun k_ => (P0_10_ k_ ∨ w.heap.size ≤ k_) ∧ k_ ≠ gb486 ∧ k_ ≠ gb489) (fun k_ => ((fun k_ => (P0_10_ k_ ∨ w.heap.size ≤ k_) ∧ k_ ≠ gb486 ∧ k_ ≠ gb489)) k_ ∧ some k_ ≠ (u10 : Value).ownBlock) rfl rfl ?aP (fun _ hk => hk) ?aF ?aO ?aB ?aS ?aL ?_; (case aP => exact (k28_mkF _ _ (⟨d0, d1, d2, d3, (⟨d4, d5, d6⟩ : S25), (⟨d7, d8, d9⟩ : S25), l0_10, true, a2, x11_2, decide ((wrap64 (x11_2 + (ji20))) < (d15.size : Int)), d15.extract (x11_2 : Int).toNat ((wrap64 (x11_2 + (ji20))) : Int).toNat⟩ : S28) (Kd.V_reads' (Kd.V_mono (ok' := (fun k_ => ((fun k_ => (P0_10_ k_ ∨ w.heap.size ≤ k_) ∧ k_ ≠ gb486 ∧ k_ ≠ gb489)) k_ ∧ some k_ ≠ (u10 : Value).ownBlock)) (HO_487010.out) (fun k_ hk => ⟨⟨hk.1.1, ⟨hk.1.2.2, hk.2⟩⟩, hk.1.2.1⟩))).2.1 (Kd.V_F (Kd.V_mono (ok' := (fun k_ => ((fun k_ => (P0_10_ k_ ∨ w.heap.size ≤ k_) ∧ k_ ≠ gb486 ∧ k_ ≠ gb489)) k_ ∧ some k_ ≠ (u10 : Value).ownBlock)) (HO_487010.out) (fun k_ hk => ⟨⟨hk.1.1, ⟨hk.1.2.2, hk.2⟩⟩, hk.1.2.1⟩))))); (case aB => exact (kB2 HB.out GE486.out GE489.out)); (case aF => exact (fun k_ hk => ⟨(.inr (Nat.le_trans (below_size (kB2 HB.out GE486.out GE489.out)) hk)), Kd.freshB (kb BK486.out) k_ hk, Kd.freshB (kb BK489.out) k_ hk⟩)); (case aO => exact (by (with_reducible repeat (first | apply Kd.N_alloc | apply Kd.N_drewN | apply Kd.N_drew)); exact Kd.N_mono HO_10.out (fun _ hk => ⟨hk.1.1, ⟨hk.1.2, hk.2⟩⟩))); (case aS => exact (below_size (kB2 HB.out GE486.out GE489.out))); (case aL => have := LMc26.out; omega); intro v493 w34 ho hb hg hat; rw [← Ny492.out] at ho; replace HO_487010 := As (Kd.V_afterv (ok := (fun k_ => (P0_10_ k_ ∨ w.heap.size ≤ k_) ∧ k_ ≠ gb486 ∧ k_ ≠ gb489)) (by (with_reducible repeat (first | apply Kd.V_alloc | apply Kd.V_drewN | apply Kd.V_drew)); exact Kd.V_mono HO_487010.out (fun _ hk => ⟨⟨hk.1.1, ⟨hk.1.2.2, hk.2⟩⟩, hk.1.2.1⟩)) hg hat); replace BK486 := As (blk_grown (kb BK486.out) hg (Kd.N_away HO_10.out (fun _ hk => hk.1.2))); replace BK489 := As (blk_grown (kb BK489.out) hg (Kd.N_away HO_10.out (fun _ hk => hk.2))); replace HB := As (hb); have HO494 := As (ho); clear HO_10; clear ho hb hg hat))
           go_roundg kj15
           case measure => have := HJ5.out; have := HK2.out; have := HJ15.out; omega
           case rel => exact ⟨(y492), (wrap64 (x11_2 + (ji27))), (by first | rfl | (simp; done) | (simp only [← hji27] <;> (first | rfl | simp)) | (simp [*]; done)), H', ⟨by have := HJ5.out; have := HK2.out; have := HJ15.out; omega⟩, ⟨by (with_reducible repeat (first | apply Kd.N_alloc | apply Kd.N_drewN | apply Kd.N_drew)); exact Kd.N_mono HO494.out (fun _ hk => ⟨hk.1, hk.2.1⟩)⟩, ⟨by (with_reducible repeat (first | apply Kd.V_alloc | apply Kd.V_drewN | apply Kd.V_drew)); exact Kd.V_mono HO_487010.out (fun _ hk => ⟨hk.1.1, ⟨hk.2, hk.1.2.1⟩⟩)⟩, ⟨kb BK486.out⟩, ⟨kB2 HB.out GE486.out GE489.out⟩⟩
          rw [if_neg c26] at H
          exact absurd H (by simp)
         rw [if_neg c25] at H
         have c25b0 : (t491 == 0) = false := beq_eq_false_iff_ne.mpr c25
         have c25b1 : (t491 != 0) = true := bne_iff_ne.mpr c25
         simp only [Option.some.injEq, Prod.mk.injEq] at H
         obtain ⟨rfl, rfl⟩ := H
         have hcz35_0 := cells_16 BK486.out
         have hfz35_0 := fun j_ => blk_frozen BK486.out j_
         go_wp2_with (first | ((with_reducible refine gate_dst (N := 55) rfl ?_); (try (refine gate_guard (by rfl) ?_; dsimp only)); refine wpList_load_row rfl 28 _ rfl gb486 rfl 28 _ (0, 0) _ (kb BK486.out) Try.underlying28 rfl (by kernel_rfl) ?_) | ((with_reducible refine gate_dst (N := 13) rfl ?_); (try (refine gate_guard (by rfl) ?_; dsimp only)); refine box_event rfl (N := 13) rfl (cs := #[.int .i64 0, .int .i64 0, .int .i64 0, .int .i64 0, .bool false, .int .u64 0, .int .u64 0, .bool false, .int .u64 0, .int .u64 0, .slice none 0 0, .bool false, .int .i64 0, .int .i64 0, .bool false, .string (⟨#[]⟩ : ByteArray)]) (t := 28) kG ?_; intro gb489 hg w36 hbox hb; replace HO_10 := As (Kd.N_below (Kd.N_elderB (by (with_reducible repeat (first | apply Kd.N_alloc | apply Kd.N_drewN | apply Kd.N_drew)); exact HO_10.out) gb489 (Nat.le_of_eq hg.symm)) hb); replace HO_487010 := As (Kd.V_below (Kd.V_elderB (by (with_reducible repeat (first | apply Kd.V_alloc | apply Kd.V_drewN | apply Kd.V_drew)); exact HO_487010.out) gb489 (Nat.le_of_eq hg.symm)) hb); have BK489 := As (hbox); have GW489 := As ((by rw [hg]; exact (below_size (kB1 HB.out GE486.out)) : w.heap.size ≤ gb489)); have GE489 := As ((by rw [hg]; exact (below_size (kB1 HB.out GE486.out)) : w.heap.size ≤ gb489)); replace HB := As (below_step (kB1 HB.out GE486.out) hb); have NB486_489 := As ((by rw [hg]; exact Nat.ne_of_lt (blk_lt (kb BK486.out)) : gb486 ≠ gb489)); have NB489_486 := As ((by rw [hg]; exact Nat.ne_of_gt (blk_lt (kb BK486.out)) : gb489 ≠ gb486)); replace BK486 := As (blk_below (kb BK486.out) hb); clear hb hbox hg) | ((with_reducible refine gate_store (t := 28) (p := 13) rfl ?_); refine store_rowev_16 gb489 (.int .i64 d0) (.int .i64 d1) (.int .i64 d2) (.int .i64 d3) (.bool d4) (.int .u64 d5) (.int .u64 d6) (.bool d7) (.int .u64 d8) (.int .u64 d9) (.slice A0_10 l0_10.length c0_10) (.bool false) (.int .i64 d12) (.int .i64 d13) (.bool d14) (.string d15) rfl (t := 28) (p := 13) (v := _) rfl rfl rfl rfl (t' := 28) (kb BK489.out) (by rfl) (by kernel_rfl) (by rfl) ?_; have hnb37 := NB489_486.out; have hnc37 := NB486_489.out; have hcz38_0 := cells_16 BK489.out; have hfz38_0 := fun j_ => blk_frozen BK489.out j_; have hcz39_0 := cells_16 BK486.out; have hfz39_0 := fun j_ => blk_frozen BK486.out j_) | ((with_reducible refine gate_dst (N := 78) rfl ?_); (try (refine gate_guard (by rfl) ?_; dsimp only)); refine wpList_load_row ?hgd 28 _ rfl gb489 rfl 28 #[.int .i64 d0, .int .i64 d1, .int .i64 d2, .int .i64 d3, .bool d4, .int .u64 d5, .int .u64 d6, .bool d7, .int .u64 d8, .int .u64 d9, .slice A0_10 l0_10.length c0_10, .bool true, .int .i64 a2, .int .i64 x11_2, .bool (decide ((wrap64 (x11_2 + (ji20))) < (d15.size : Int))), .string (d15.extract (x11_2 : Int).toNat ((wrap64 (x11_2 + (ji20))) : Int).toNat)] (0, 0) _ (by refine kb ?_; refine blk_put (cs := #[.int .i64 d0, .int .i64 d1, .int .i64 d2, .int .i64 d3, .bool d4, .int .u64 d5, .int .u64 d6, .bool d7, .int .u64 d8, .int .u64 d9, .slice A0_10 l0_10.length c0_10, .bool true, .int .i64 a2, .int .i64 x11_2, .bool (decide ((wrap64 (x11_2 + (ji20))) < (d15.size : Int))), .string d15]) ?_ 15 _ rfl; refine kb ?_; refine blk_put (cs := #[.int .i64 d0, .int .i64 d1, .int .i64 d2, .int .i64 d3, .bool d4, .int .u64 d5, .int .u64 d6, .bool d7, .int .u64 d8, .int .u64 d9, .slice A0_10 l0_10.length c0_10, .bool true, .int .i64 a2, .int .i64 x11_2, .bool d14, .string d15]) ?_ 14 _ rfl; refine kb ?_; refine blk_put (cs := #[.int .i64 d0, .int .i64 d1, .int .i64 d2, .int .i64 d3, .bool d4, .int .u64 d5, .int .u64 d6, .bool d7, .int .u64 d8, .int .u64 d9, .slice A0_10 l0_10.length c0_10, .bool true, .int .i64 a2, .int .i64 d13, .bool d14, .string d15]) ?_ 13 _ rfl; refine kb ?_; refine blk_put (cs := #[.int .i64 d0, .int .i64 d1, .int .i64 d2, .int .i64 d3, .bool d4, .int .u64 d5, .int .u64 d6, .bool d7, .int .u64 d8, .int .u64 d9, .slice A0_10 l0_10.length c0_10, .bool true, .int .i64 d12, .int .i64 d13, .bool d14, .string d15]) ?_ 12 _ rfl; refine kb ?_; refine blk_put (cs := #[.int .i64 d0, .int .i64 d1, .int .i64 d2, .int .i64 d3, .bool d4, .int .u64 d5, .int .u64 d6, .bool d7, .int .u64 d8, .int .u64 d9, .slice A0_10 l0_10.length c0_10, .bool false, .int .i64 d12, .int .i64 d13, .bool d14, .string d15]) ?_ 11 _ rfl; refine kb ?_; exact blk_all_16 (kb BK489.out) (by rfl)) Try.underlying28 rfl (by kernel_rfl) ?_; (case hgd => rfl)) | ((with_reducible refine gate_callee (f := 16) rfl ?_); refine goesL_ (some 79) rfl rfl Try.func16 (by kernel_rfl) rfl #[.agg #[.int .i64 d0, .int .i64 d1, .int .i64 d2, .int .i64 d3, .bool d4, .int .u64 d5, .int .u64 d6, .bool d7, .int .u64 d8, .int .u64 d9, .slice A0_10 l0_10.length c0_10, .bool true, .int .i64 a2, .int .i64 x11_2, .bool (decide ((wrap64 (x11_2 + (ji20))) < (d15.size : Int))), .string (d15.extract (x11_2 : Int).toNat ((wrap64 (x11_2 + (ji20))) : Int).toNat)]] rfl (by (try simp only [List.map_toArray, List.map_cons, List.map_nil]); first | done | (simp only [hji20]; rfl) | rfl | (simp only [List.length_drop, List.length_take]; rfl)) ?_; (with_reducible refine (intrusionref12_Encode.calls kj15 d0 d1 d2 d3 d4 d5 d6 d7 d8 d9 _ _ l0_10 true a2 x11_2 (decide ((wrap64 (x11_2 + (ji20))) < (d15.size : Int))) (d15.extract (x11_2 : Int).toNat ((wrap64 (x11_2 + (ji20))) : Int).toNat) t490 t491 _ ?side1 ?side2 A24.out).mono ?_); (case side1 => refine (Kd.V_reads' (e := 60) (base := w.heap.size) (ok := fun k_ => (((P0_10_ k_ ∨ w.heap.size ≤ k_) ∧ (some k_ ≠ (u10 : Value).ownBlock ∧ k_ ≠ gb486)) ∧ k_ ≠ gb489)) (n := l0_10.length) (c := c0_10) ?_).2.2; exact (by (with_reducible repeat (first | apply Kd.V_alloc | apply Kd.V_drewN | apply Kd.V_drew)); exact (Kd.V_mono (Kd.V_puts_11_5 gb489 (.bool true) (.int .i64 a2) (.int .i64 x11_2) (.bool (decide ((wrap64 (x11_2 + (ji20))) < (d15.size : Int)))) (.string (d15.extract (x11_2 : Int).toNat ((wrap64 (x11_2 + (ji20))) : Int).toNat)) (Kd.V_puts_0_16 gb489 (.int .i64 d0) (.int .i64 d1) (.int .i64 d2) (.int .i64 d3) (.bool d4) (.int .u64 d5) (.int .u64 d6) (.bool d7) (.int .u64 d8) (.int .u64 d9) (.slice A0_10 l0_10.length c0_10) (.bool false) (.int .i64 d12) (.int .i64 d13) (.bool d14) (.string d15) (Kd.V_mono HO_487010.out (fun k_ hk => (⟨hk, hk.2⟩ : _ ∧ k_ ≠ gb489))) (fun _ hk => hk.2)) (fun _ hk => hk.2)) (fun _ h_ => h_.1)))); (case side2 => exact (Kd.V_reads' HO_487010.out).2.1); rintro e w40 ⟨rfl, hb⟩; refine ⟨_, rfl, ?_⟩; replace HO_10 := As (Kd.N_below (by (with_reducible repeat (first | apply Kd.N_alloc | apply Kd.N_drewN | apply Kd.N_drew)); exact (Kd.N_mono (Kd.N_puts_11_5 gb489 (.bool true) (.int .i64 a2) (.int .i64 x11_2) (.bool (decide ((wrap64 (x11_2 + (ji20))) < (d15.size : Int)))) (.string (d15.extract (x11_2 : Int).toNat ((wrap64 (x11_2 + (ji20))) : Int).toNat)) (Kd.N_puts_0_16 gb489 (.int .i64 d0) (.int .i64 d1) (.int .i64 d2) (.int .i64 d3) (.bool d4) (.int .u64 d5) (.int .u64 d6) (.bool d7) (.int .u64 d8) (.int .u64 d9) (.slice A0_10 l0_10.length c0_10) (.bool false) (.int .i64 d12) (.int .i64 d13) (.bool d14) (.string d15) (Kd.N_mono HO_10.out (fun k_ hk => (⟨hk, hk.2⟩ : _ ∧ k_ ≠ gb489))) (fun _ hk => hk.2)) (fun _ hk => hk.2)) (fun _ h_ => h_.1))) hb); replace HO_487010 := As (Kd.V_below (by (with_reducible repeat (first | apply Kd.V_alloc | apply Kd.V_drewN | apply Kd.V_drew)); exact (Kd.V_mono (Kd.V_puts_11_5 gb489 (.bool true) (.int .i64 a2) (.int .i64 x11_2) (.bool (decide ((wrap64 (x11_2 + (ji20))) < (d15.size : Int)))) (.string (d15.extract (x11_2 : Int).toNat ((wrap64 (x11_2 + (ji20))) : Int).toNat)) (Kd.V_puts_0_16 gb489 (.int .i64 d0) (.int .i64 d1) (.int .i64 d2) (.int .i64 d3) (.bool d4) (.int .u64 d5) (.int .u64 d6) (.bool d7) (.int .u64 d8) (.int .u64 d9) (.slice A0_10 l0_10.length c0_10) (.bool false) (.int .i64 d12) (.int .i64 d13) (.bool d14) (.string d15) (Kd.V_mono HO_487010.out (fun k_ hk => (⟨hk, hk.2⟩ : _ ∧ k_ ≠ gb489))) (fun _ hk => hk.2)) (fun _ hk => hk.2)) (fun _ h_ => h_.1))) hb); replace BK486 := As (blk_below (g := gb486) (o := .cells #[.int .i64 d0, .int .i64 d1, .int .i64 d2, .int .i64 d3, .bool d4, .int .u64 d5, .int .u64 d6, .bool d7, .int .u64 d8, .int .u64 d9, .slice A0_10 l0_10.length c0_10, .bool false, .int .i64 d12, .int .i64 d13, .bool d14, .string d15] 28 (0, 0)) (by refine kb ?_; (iterate 21 (refine blk_far ?_ NB486_489.out _; refine kb ?_)); exact BK486.out) hb); replace BK489 := As (blk_below (g := gb489) (o := .cells #[.int .i64 d0, .int .i64 d1, .int .i64 d2, .int .i64 d3, .bool d4, .int .u64 d5, .int .u64 d6, .bool d7, .int .u64 d8, .int .u64 d9, .slice A0_10 l0_10.length c0_10, .bool true, .int .i64 a2, .int .i64 x11_2, .bool (decide ((wrap64 (x11_2 + (ji20))) < (d15.size : Int))), .string (d15.extract (x11_2 : Int).toNat ((wrap64 (x11_2 + (ji20))) : Int).toNat)] 28 (0, 0)) (by refine kb ?_; refine blk_put (cs := #[.int .i64 d0, .int .i64 d1, .int .i64 d2, .int .i64 d3, .bool d4, .int .u64 d5, .int .u64 d6, .bool d7, .int .u64 d8, .int .u64 d9, .slice A0_10 l0_10.length c0_10, .bool true, .int .i64 a2, .int .i64 x11_2, .bool (decide ((wrap64 (x11_2 + (ji20))) < (d15.size : Int))), .string d15]) ?_ 15 _ rfl; refine kb ?_; refine blk_put (cs := #[.int .i64 d0, .int .i64 d1, .int .i64 d2, .int .i64 d3, .bool d4, .int .u64 d5, .int .u64 d6, .bool d7, .int .u64 d8, .int .u64 d9, .slice A0_10 l0_10.length c0_10, .bool true, .int .i64 a2, .int .i64 x11_2, .bool d14, .string d15]) ?_ 14 _ rfl; refine kb ?_; refine blk_put (cs := #[.int .i64 d0, .int .i64 d1, .int .i64 d2, .int .i64 d3, .bool d4, .int .u64 d5, .int .u64 d6, .bool d7, .int .u64 d8, .int .u64 d9, .slice A0_10 l0_10.length c0_10, .bool true, .int .i64 a2, .int .i64 d13, .bool d14, .string d15]) ?_ 13 _ rfl; refine kb ?_; refine blk_put (cs := #[.int .i64 d0, .int .i64 d1, .int .i64 d2, .int .i64 d3, .bool d4, .int .u64 d5, .int .u64 d6, .bool d7, .int .u64 d8, .int .u64 d9, .slice A0_10 l0_10.length c0_10, .bool true, .int .i64 d12, .int .i64 d13, .bool d14, .string d15]) ?_ 12 _ rfl; refine kb ?_; refine blk_put (cs := #[.int .i64 d0, .int .i64 d1, .int .i64 d2, .int .i64 d3, .bool d4, .int .u64 d5, .int .u64 d6, .bool d7, .int .u64 d8, .int .u64 d9, .slice A0_10 l0_10.length c0_10, .bool false, .int .i64 d12, .int .i64 d13, .bool d14, .string d15]) ?_ 11 _ rfl; refine kb ?_; exact blk_all_16 (kb BK489.out) (by rfl)) hb); replace HB := As (below_step (kB2 HB.out GE486.out GE489.out) hb); (try clear hb); (try clear hk)))
         go_ret2
         exact ⟨_, by first | rfl | (simp [errW_none, errW_some] <;> rfl) | (simp only [← hji20]; first | rfl | (simp [errW_none, errW_some] <;> rfl)) | (simp [*, errW_none, errW_some] <;> rfl), by first | exact Kd.S_nil _ _ _ _ _ | exact Kd.N_nil _ _ _ _ _ | exact Kd.V_nil _ _ _ _ _ | exact Kd.Q_nil _ _ _ _ _ | exact Kd.R_nil _ _ _ _ _, by exact kB2 HB.out GE486.out GE489.out⟩
        rw [if_neg c23] at H
        exact absurd H (by simp)
       rw [if_neg c22] at H
       exact absurd H (by simp)
      rw [if_neg c21] at H
      exact absurd H (by simp)
     replace c19 := Bool.eq_false_iff.mpr c19
     subst c19
     have H1 : (some (x10_2, 0)) = some (r1, r2) := by rw [if_neg (show ¬ (false = true) by decide)] at H; exact H
     clear H
     have H := H1
     clear H1
     simp only [Option.some.injEq, Prod.mk.injEq] at H
     obtain ⟨rfl, rfl⟩ := H
     go_wp2
     go_ret2
     exact ⟨_, kE, by (with_reducible repeat (first | apply Kd.N_alloc | apply Kd.N_drewN | apply Kd.N_drew)); exact Kd.N_mono HO_10.out (fun _ hk => hk.1), by exact kB1 HB.out GE486.out⟩
 rw [if_neg c5] at H
 have c5b0 : (t488 == 0) = false := beq_eq_false_iff_ne.mpr c5
 have c5b1 : (t488 != 0) = true := bne_iff_ne.mpr c5
 simp only [Option.some.injEq, Prod.mk.injEq] at H
 obtain ⟨rfl, rfl⟩ := H
 go_enter Try.func18, Try.ntmps18
 go_wp2_with (first | ((with_reducible refine gate_dst (N := 3) rfl ?_); (try (refine gate_guard (by rfl) ?_; dsimp only)); refine box_event rfl (N := 3) rfl (cs := #[.int .i64 d0, .int .i64 d1, .int .i64 d2, .int .i64 d3, .bool d4, .int .u64 d5, .int .u64 d6, .bool d7, .int .u64 d8, .int .u64 d9, .slice A0_10 l0_10.length c0_10, .bool d11, .int .i64 d12, .int .i64 d13, .bool d14, .string d15]) (t := 28) kG ?_; intro gb486 hg w41 hbox hb; replace HO0_10 := As (Kd.V_below (Kd.V_elderB (by (with_reducible repeat (first | apply Kd.V_alloc | apply Kd.V_drewN | apply Kd.V_drew)); exact HO0_10.out) gb486 (Nat.le_of_eq hg.symm)) hb); have BK486 := As (hbox); have GW486 := As ((by rw [hg]; exact (below_size (kB HB.out)) : w.heap.size ≤ gb486)); have GE486 := As ((by rw [hg]; exact (below_size (kB HB.out)) : w.heap.size ≤ gb486)); replace HB := As (below_step (kB HB.out) hb); clear hb hbox hg) | ((with_reducible refine gate_dst (N := 15) rfl ?_); (try (refine gate_guard (by rfl) ?_; dsimp only)); refine wpList_load_row rfl 28 _ rfl gb486 rfl 28 _ (0, 0) _ (kb BK486.out) Try.underlying28 rfl (by kernel_rfl) ?_) | ((with_reducible refine gate_callee (f := 16) rfl ?_); refine goesL_ (some 16) rfl rfl Try.func16 (by kernel_rfl) rfl #[.agg #[.int .i64 d0, .int .i64 d1, .int .i64 d2, .int .i64 d3, .bool d4, .int .u64 d5, .int .u64 d6, .bool d7, .int .u64 d8, .int .u64 d9, .slice A0_10 l0_10.length c0_10, .bool d11, .int .i64 d12, .int .i64 d13, .bool d14, .string d15]] rfl kA ?_; (with_reducible refine (intrusionref12_Encode.calls k d0 d1 d2 d3 d4 d5 d6 d7 d8 d9 _ _ l0_10 d11 d12 d13 d14 d15 t487 t488 _ ?side1 ?side2 A4.out).mono ?_); (case side1 => repeat (first | exact (Kd.V_reads' HO0_10.out).2.2 | (with_reducible refine Kd.C_alloc ?_ _) | (with_reducible refine Kd.C_drewN ?_ _) | (with_reducible refine Kd.C_drew ?_))); (case side2 => exact (Kd.V_reads' HO0_10.out).2.1); rintro e w42 ⟨rfl, hb⟩; refine ⟨_, rfl, ?_⟩; replace HO0_10 := As (Kd.V_below (by (with_reducible repeat (first | apply Kd.V_alloc | apply Kd.V_drewN | apply Kd.V_drew)); exact HO0_10.out) hb); replace BK486 := As (blk_below (kb BK486.out) hb); replace HB := As (below_step (kB1 HB.out GE486.out) hb); (try clear hb)))
 go_ret2
 exact ⟨_, kE, by first | exact Kd.S_nil _ _ _ _ _ | exact Kd.N_nil _ _ _ _ _ | exact Kd.V_nil _ _ _ _ _ | exact Kd.Q_nil _ _ _ _ _ | exact Kd.R_nil _ _ _ _ _, by exact kB1 HB.out GE486.out⟩

/-! ### intrusionref12_All: function 19 -/
def intrusionref12_All.l0 : Nat → List (S28) → List (S28) → Int → Option (Bool)
 | 0, _, _, _ => none
 | k + 1, x0, x1, x5 => if x5 < (x0.length : Int) then (if 0 ≤ x5 then (if x5 < (x1.length : Int) then ((intrusionref12_Same.f k ((rd_T28 x0 x5).f0) ((rd_T28 x0 x5).f1) ((rd_T28 x0 x5).f2) ((rd_T28 x0 x5).f3) ((rd_T28 x0 x5).f4.f0) ((rd_T28 x0 x5).f4.f1) ((rd_T28 x0 x5).f4.f2) ((rd_T28 x0 x5).f5.f0) ((rd_T28 x0 x5).f5.f1) ((rd_T28 x0 x5).f5.f2) ((rd_T28 x0 x5).f6) ((rd_T28 x0 x5).f7) ((rd_T28 x0 x5).f8) ((rd_T28 x0 x5).f9) ((rd_T28 x0 x5).f10) ((rd_T28 x0 x5).f11) ((rd_T28 x1 x5).f0) ((rd_T28 x1 x5).f1) ((rd_T28 x1 x5).f2) ((rd_T28 x1 x5).f3) ((rd_T28 x1 x5).f4.f0) ((rd_T28 x1 x5).f4.f1) ((rd_T28 x1 x5).f4.f2) ((rd_T28 x1 x5).f5.f0) ((rd_T28 x1 x5).f5.f1) ((rd_T28 x1 x5).f5.f2) ((rd_T28 x1 x5).f6) ((rd_T28 x1 x5).f7) ((rd_T28 x1 x5).f8) ((rd_T28 x1 x5).f9) ((rd_T28 x1 x5).f10) ((rd_T28 x1 x5).f11)).bind fun t497 => (if t497 = true then (intrusionref12_All.l0 k x0 x1 (wrap64 (x5 + 1))) else (some false))) else (none)) else (none)) else (some true)
def intrusionref12_All.f (k : Nat) (l0 : List (S28)) (l1 : List (S28)) : Option (Bool) := if (l0.length : Int) = (l1.length : Int) then (intrusionref12_All.l0 k l0 l1 0) else (some false)
theorem intrusionref12_All.mono_l : ∀ k, (∀ y0 y1 y2, LeO (intrusionref12_All.l0 k y0 y1 y2) (intrusionref12_All.l0 (k + 1) y0 y1 y2))
 | 0 => fun _ _ _ r h => by simp [intrusionref12_All.l0] at h
 | k + 1 => by
  have ih0 := intrusionref12_All.mono_l k
  intro y0 y1 y2
  unfold intrusionref12_All.l0
  repeat' first | with_reducible first | apply ih0 | apply intrusionref12_Same.mono | apply LeO.refl | apply LeO.none | refine LeO.ite ?_ ?_ | refine LeO.bind ?_ (fun _ => ?_)
theorem intrusionref12_All.mono : ∀ a0 a1 k, LeO (intrusionref12_All.f k a0 a1) (intrusionref12_All.f (k + 1) a0 a1) := by
 intro a0 a1 k
 have ih0 := intrusionref12_All.mono_l k
 unfold intrusionref12_All.f
 repeat' first | with_reducible first | apply ih0 | apply intrusionref12_Same.mono | apply LeO.refl | apply LeO.none | refine LeO.ite ?_ ?_ | refine LeO.bind ?_ (fun _ => ?_)
def intrusionref12_All.T6 : Bool × List (List Nat × List Nat) := (true, [([], []), ([], []), ([0, 1], [0, 1]), ([2], [2]), ([], []), ([], []), ([4, 5], [4, 5]), ([6], [6]), ([3, 7], [3, 7]), ([8], [8])])
def intrusionref12_All.B6 : List Nat := [0, 0, 3, 7, 0, 0, 48, 112, 255, 511]
theorem intrusionref12_All.tab6 : rtab .any (opsOf Try.f19 6) = intrusionref12_All.T6 := by kernel_rfl
theorem intrusionref12_All.bits6 : waitsOk intrusionref12_All.T6.2 intrusionref12_All.B6 = true := by kernel_rfl
set_option maxHeartbeats 8000000 in
set_option maxRecDepth 100000 in
theorem intrusionref12_All.calls (k : Nat) (A0 : Option Addr) (c0 : Nat) (l0 : List (S28)) (A1 : Option Addr) (c1 : Nat) (l1 : List (S28)) (r : Bool) (w : World) (hr0 : Kd.C k28 w A0 l0.length l0) (hc0 : l0.length ≤ c0) (hr1 : Kd.C k28 w A1 l1.length l1) (hc1 : l1.length ≤ c1) (h : intrusionref12_All.f k l0 l1 = some r) :
  Calls Try.prog 19 #[.slice A0 l0.length c0, .slice A1 l1.length c1] w fun e w' => e = .returned (.bool r) ∧ Below w.heap.size w w' := by
 have hu28 := Try.underlying28
 have HR0 := As hr0
 have HC0 := As hc0
 clear hr0 hc0
 have HR1 := As hr1
 have HC1 := As hc1
 clear hr1 hc1
 have HB := As (Below.refl w.heap.size w)
 have H : (if (l0.length : Int) = (l1.length : Int) then (intrusionref12_All.l0 k l0 l1 0) else (some false)) = some r := h
 clear h
 by_cases c3 : (l0.length : Int) = (l1.length : Int)
 ·rw [if_pos c3] at H
  have c3b0 : ((l0.length : Int) == (l1.length : Int)) = true := beq_iff_eq.mpr c3
  have c3b1 : ((l0.length : Int) != (l1.length : Int)) = false := bne_eq_false_iff_eq.mpr c3
  have c3b2 : (l0.length == l1.length) = true := by first | simpa using c3 | (simp at c3 ⊢; omega)
  clear c3
  have H' := As H
  clear H
  go_enter Try.func19, Try.ntmps19
  go_wp2
  go_loopg [5] k (fun kq v5 w' => ∃ (x5_1 : Int), v5 = .int .i64 x5_1 ∧ Aside0 (intrusionref12_All.l0 kq l0 l1 x5_1 = some r) ∧ Aside0 (kq ≤ k) ∧ Aside0 (Below w.heap.size w w'))
  case atStart => exact ⟨(0), kS, H', ⟨Nat.le_refl _⟩, ⟨kB HB.out⟩⟩
  clear H'
  try clear c1
  try clear c3
  try clear c3b0
  try clear c3b1
  try clear c3b2
  obtain ⟨x5_1, rfl, HA, HK1, HB⟩ := hrel
  cases gk with
  | zero => exact absurd HA.out (by simp [intrusionref12_All.l0])
  | succ k1 =>
   have H := HA.out
   clear HA
   simp only [intrusionref12_All.l0] at H
   by_cases c4 : x5_1 < (l0.length : Int)
   ·rw [if_pos c4] at H
    have c4b0 : decide (x5_1 < (l0.length : Int)) = true := decide_eq_true c4
    clear c4
    by_cases c5 : 0 ≤ x5_1
    ·rw [if_pos c5] at H
     have c5b0 : decide (0 ≤ x5_1) = true := decide_eq_true c5
     clear c5
     by_cases c6 : x5_1 < (l1.length : Int)
     ·rw [if_pos c6] at H
      have c6b0 : decide (x5_1 < (l1.length : Int)) = true := decide_eq_true c6
      clear c6
      replace H := Option.bind_eq_some_iff.mp H
      obtain ⟨t497, A70, H⟩ := H
      replace H : (if t497 = true then (intrusionref12_All.l0 k1 l0 l1 (wrap64 (x5_1 + 1))) else (some false)) = some r := H
      have A7 := As A70
      clear A70
      by_cases c8 : t497 = true
      ·subst c8
       have H1 : (intrusionref12_All.l0 k1 l0 l1 (wrap64 (x5_1 + 1))) = some r := by rw [if_pos rfl] at H; exact H
       clear H
       have H := H1
       clear H1
       have H' := As H
       clear H
       try go_wp2
       replace HB := As (below_drew1 HB.out)
       have p495 : 0 ≤ (x5_1 : Int) := of_decide_eq_true (by first | (with_reducible assumption) | assumption)
       have q495 : x5_1 < (l0.length : Int) := of_decide_eq_true (by first | (with_reducible assumption) | assumption)
       obtain ⟨ad495, A495_10, c495_10, e495, hx495_0, hx495_1, hx495_2, hx495_3, hx495_4, hx495_5, hx495_6, hx495_7, hx495_8, hx495_9, hx495_10, hx495_11, hx495_12, hx495_13, hx495_14, hx495_15, hl495_10, hi495_10⟩ := at_T28 HR0.out x5_1 p495 q495
       have hw495_15 := hx495_15
       have hw495_14 := hx495_14
       have hw495_13 := hx495_13
       have hw495_12 := hx495_12
       have hw495_11 := hx495_11
       have hw495_10 := hx495_10
       have hw495_9 := hx495_9
       have hw495_8 := hx495_8
       have hw495_7 := hx495_7
       have hw495_6 := hx495_6
       have hw495_5 := hx495_5
       have hw495_4 := hx495_4
       have hw495_3 := hx495_3
       have hw495_2 := hx495_2
       have hw495_1 := hx495_1
       have hw495_0 := hx495_0
       cases e495
       replace hx495_0 := hcell HB.out hx495_0
       replace hx495_1 := hcell HB.out hx495_1
       replace hx495_2 := hcell HB.out hx495_2
       replace hx495_3 := hcell HB.out hx495_3
       replace hx495_4 := hcell HB.out hx495_4
       replace hx495_5 := hcell HB.out hx495_5
       replace hx495_6 := hcell HB.out hx495_6
       replace hx495_7 := hcell HB.out hx495_7
       replace hx495_8 := hcell HB.out hx495_8
       replace hx495_9 := hcell HB.out hx495_9
       replace hx495_10 := hcell HB.out hx495_10
       replace hx495_11 := hcell HB.out hx495_11
       replace hx495_12 := hcell HB.out hx495_12
       replace hx495_13 := hcell HB.out hx495_13
       replace hx495_14 := hcell HB.out hx495_14
       replace hx495_15 := hcell HB.out hx495_15
       have HR495_10 := As hi495_10
       have HC495_10 := As hl495_10
       clear hi495_10 hl495_10
       replace p495 := eq_true p495
       replace q495 := eq_true q495
       have p496 : 0 ≤ (x5_1 : Int) := of_decide_eq_true (by first | (with_reducible assumption) | assumption)
       have q496 : x5_1 < (l1.length : Int) := of_decide_eq_true (by first | (with_reducible assumption) | assumption)
       obtain ⟨ad496, A496_10, c496_10, e496, hx496_0, hx496_1, hx496_2, hx496_3, hx496_4, hx496_5, hx496_6, hx496_7, hx496_8, hx496_9, hx496_10, hx496_11, hx496_12, hx496_13, hx496_14, hx496_15, hl496_10, hi496_10⟩ := at_T28 HR1.out x5_1 p496 q496
       have hw496_15 := hx496_15
       have hw496_14 := hx496_14
       have hw496_13 := hx496_13
       have hw496_12 := hx496_12
       have hw496_11 := hx496_11
       have hw496_10 := hx496_10
       have hw496_9 := hx496_9
       have hw496_8 := hx496_8
       have hw496_7 := hx496_7
       have hw496_6 := hx496_6
       have hw496_5 := hx496_5
       have hw496_4 := hx496_4
       have hw496_3 := hx496_3
       have hw496_2 := hx496_2
       have hw496_1 := hx496_1
       have hw496_0 := hx496_0
       cases e496
       replace hx496_0 := hcell HB.out hx496_0
       replace hx496_1 := hcell HB.out hx496_1
       replace hx496_2 := hcell HB.out hx496_2
       replace hx496_3 := hcell HB.out hx496_3
       replace hx496_4 := hcell HB.out hx496_4
       replace hx496_5 := hcell HB.out hx496_5
       replace hx496_6 := hcell HB.out hx496_6
       replace hx496_7 := hcell HB.out hx496_7
       replace hx496_8 := hcell HB.out hx496_8
       replace hx496_9 := hcell HB.out hx496_9
       replace hx496_10 := hcell HB.out hx496_10
       replace hx496_11 := hcell HB.out hx496_11
       replace hx496_12 := hcell HB.out hx496_12
       replace hx496_13 := hcell HB.out hx496_13
       replace hx496_14 := hcell HB.out hx496_14
       replace hx496_15 := hcell HB.out hx496_15
       have HR496_10 := As hi496_10
       have HC496_10 := As hl496_10
       clear hi496_10 hl496_10
       replace p496 := eq_true p496
       replace q496 := eq_true q496
       refine start_ (n := 10) (S := fun w' => w'.cell? (ad495.add ((x5_1).toNat * 16)) = some (.int .i64 ((rd_T28 l0 x5_1).f0)) ∧ w'.cell? ⟨(ad495.add ((x5_1).toNat * 16)).block, (ad495.add ((x5_1).toNat * 16)).off + 1, none⟩ = some (.int .i64 ((rd_T28 l0 x5_1).f1)) ∧ w'.cell? ⟨(ad495.add ((x5_1).toNat * 16)).block, (ad495.add ((x5_1).toNat * 16)).off + 2, none⟩ = some (.int .i64 ((rd_T28 l0 x5_1).f2)) ∧ w'.cell? ⟨(ad495.add ((x5_1).toNat * 16)).block, (ad495.add ((x5_1).toNat * 16)).off + 3, none⟩ = some (.int .i64 ((rd_T28 l0 x5_1).f3)) ∧ w'.cell? ⟨(ad495.add ((x5_1).toNat * 16)).block, (ad495.add ((x5_1).toNat * 16)).off + 4, none⟩ = some (.bool ((rd_T28 l0 x5_1).f4.f0)) ∧ w'.cell? ⟨(ad495.add ((x5_1).toNat * 16)).block, (ad495.add ((x5_1).toNat * 16)).off + 5, none⟩ = some (.int .u64 ((rd_T28 l0 x5_1).f4.f1)) ∧ w'.cell? ⟨(ad495.add ((x5_1).toNat * 16)).block, (ad495.add ((x5_1).toNat * 16)).off + 6, none⟩ = some (.int .u64 ((rd_T28 l0 x5_1).f4.f2)) ∧ w'.cell? ⟨(ad495.add ((x5_1).toNat * 16)).block, (ad495.add ((x5_1).toNat * 16)).off + 7, none⟩ = some (.bool ((rd_T28 l0 x5_1).f5.f0)) ∧ w'.cell? ⟨(ad495.add ((x5_1).toNat * 16)).block, (ad495.add ((x5_1).toNat * 16)).off + 8, none⟩ = some (.int .u64 ((rd_T28 l0 x5_1).f5.f1)) ∧ w'.cell? ⟨(ad495.add ((x5_1).toNat * 16)).block, (ad495.add ((x5_1).toNat * 16)).off + 9, none⟩ = some (.int .u64 ((rd_T28 l0 x5_1).f5.f2)) ∧ w'.cell? ⟨(ad495.add ((x5_1).toNat * 16)).block, (ad495.add ((x5_1).toNat * 16)).off + 10, none⟩ = some (.slice A495_10 ((rd_T28 l0 x5_1).f6).length c495_10) ∧ w'.cell? ⟨(ad495.add ((x5_1).toNat * 16)).block, (ad495.add ((x5_1).toNat * 16)).off + 11, none⟩ = some (.bool ((rd_T28 l0 x5_1).f7)) ∧ w'.cell? ⟨(ad495.add ((x5_1).toNat * 16)).block, (ad495.add ((x5_1).toNat * 16)).off + 12, none⟩ = some (.int .i64 ((rd_T28 l0 x5_1).f8)) ∧ w'.cell? ⟨(ad495.add ((x5_1).toNat * 16)).block, (ad495.add ((x5_1).toNat * 16)).off + 13, none⟩ = some (.int .i64 ((rd_T28 l0 x5_1).f9)) ∧ w'.cell? ⟨(ad495.add ((x5_1).toNat * 16)).block, (ad495.add ((x5_1).toNat * 16)).off + 14, none⟩ = some (.bool ((rd_T28 l0 x5_1).f10)) ∧ w'.cell? ⟨(ad495.add ((x5_1).toNat * 16)).block, (ad495.add ((x5_1).toNat * 16)).off + 15, none⟩ = some (.string ((rd_T28 l0 x5_1).f11)) ∧ w'.cell? (ad496.add ((x5_1).toNat * 16)) = some (.int .i64 ((rd_T28 l1 x5_1).f0)) ∧ w'.cell? ⟨(ad496.add ((x5_1).toNat * 16)).block, (ad496.add ((x5_1).toNat * 16)).off + 1, none⟩ = some (.int .i64 ((rd_T28 l1 x5_1).f1)) ∧ w'.cell? ⟨(ad496.add ((x5_1).toNat * 16)).block, (ad496.add ((x5_1).toNat * 16)).off + 2, none⟩ = some (.int .i64 ((rd_T28 l1 x5_1).f2)) ∧ w'.cell? ⟨(ad496.add ((x5_1).toNat * 16)).block, (ad496.add ((x5_1).toNat * 16)).off + 3, none⟩ = some (.int .i64 ((rd_T28 l1 x5_1).f3)) ∧ w'.cell? ⟨(ad496.add ((x5_1).toNat * 16)).block, (ad496.add ((x5_1).toNat * 16)).off + 4, none⟩ = some (.bool ((rd_T28 l1 x5_1).f4.f0)) ∧ w'.cell? ⟨(ad496.add ((x5_1).toNat * 16)).block, (ad496.add ((x5_1).toNat * 16)).off + 5, none⟩ = some (.int .u64 ((rd_T28 l1 x5_1).f4.f1)) ∧ w'.cell? ⟨(ad496.add ((x5_1).toNat * 16)).block, (ad496.add ((x5_1).toNat * 16)).off + 6, none⟩ = some (.int .u64 ((rd_T28 l1 x5_1).f4.f2)) ∧ w'.cell? ⟨(ad496.add ((x5_1).toNat * 16)).block, (ad496.add ((x5_1).toNat * 16)).off + 7, none⟩ = some (.bool ((rd_T28 l1 x5_1).f5.f0)) ∧ w'.cell? ⟨(ad496.add ((x5_1).toNat * 16)).block, (ad496.add ((x5_1).toNat * 16)).off + 8, none⟩ = some (.int .u64 ((rd_T28 l1 x5_1).f5.f1)) ∧ w'.cell? ⟨(ad496.add ((x5_1).toNat * 16)).block, (ad496.add ((x5_1).toNat * 16)).off + 9, none⟩ = some (.int .u64 ((rd_T28 l1 x5_1).f5.f2)) ∧ w'.cell? ⟨(ad496.add ((x5_1).toNat * 16)).block, (ad496.add ((x5_1).toNat * 16)).off + 10, none⟩ = some (.slice A496_10 ((rd_T28 l1 x5_1).f6).length c496_10) ∧ w'.cell? ⟨(ad496.add ((x5_1).toNat * 16)).block, (ad496.add ((x5_1).toNat * 16)).off + 11, none⟩ = some (.bool ((rd_T28 l1 x5_1).f7)) ∧ w'.cell? ⟨(ad496.add ((x5_1).toNat * 16)).block, (ad496.add ((x5_1).toNat * 16)).off + 12, none⟩ = some (.int .i64 ((rd_T28 l1 x5_1).f8)) ∧ w'.cell? ⟨(ad496.add ((x5_1).toNat * 16)).block, (ad496.add ((x5_1).toNat * 16)).off + 13, none⟩ = some (.int .i64 ((rd_T28 l1 x5_1).f9)) ∧ w'.cell? ⟨(ad496.add ((x5_1).toNat * 16)).block, (ad496.add ((x5_1).toNat * 16)).off + 14, none⟩ = some (.bool ((rd_T28 l1 x5_1).f10)) ∧ w'.cell? ⟨(ad496.add ((x5_1).toNat * 16)).block, (ad496.add ((x5_1).toNat * 16)).off + 15, none⟩ = some (.string ((rd_T28 l1 x5_1).f11))) (ds := []) #[false, false, false, false, false, false, false, false, false, false] (by kernel_rfl) rfl rfl ⟨(hcell HB.out hw495_0), (hcell HB.out hw495_1), (hcell HB.out hw495_2), (hcell HB.out hw495_3), (hcell HB.out hw495_4), (hcell HB.out hw495_5), (hcell HB.out hw495_6), (hcell HB.out hw495_7), (hcell HB.out hw495_8), (hcell HB.out hw495_9), (hcell HB.out hw495_10), (hcell HB.out hw495_11), (hcell HB.out hw495_12), (hcell HB.out hw495_13), (hcell HB.out hw495_14), (hcell HB.out hw495_15), (hcell HB.out hw496_0), (hcell HB.out hw496_1), (hcell HB.out hw496_2), (hcell HB.out hw496_3), (hcell HB.out hw496_4), (hcell HB.out hw496_5), (hcell HB.out hw496_6), (hcell HB.out hw496_7), (hcell HB.out hw496_8), (hcell HB.out hw496_9), (hcell HB.out hw496_10), (hcell HB.out hw496_11), (hcell HB.out hw496_12), (hcell HB.out hw496_13), (hcell HB.out hw496_14), (hcell HB.out hw496_15)⟩ (fun hHeld => ?_); refine with_tabW intrusionref12_All.tab6 intrusionref12_All.bits6 (fun HT_ HW_ => ?_)
       generalize wr.drew = w9 at HB HR495_10 HR496_10 hx495_0 hx495_1 hx495_10 hx495_11 hx495_12 hx495_13 hx495_14 hx495_15 hx495_2 hx495_3 hx495_4 hx495_5 hx495_6 hx495_7 hx495_8 hx495_9 hx496_0 hx496_1 hx496_10 hx496_11 hx496_12 hx496_13 hx496_14 hx496_15 hx496_2 hx496_3 hx496_4 hx496_5 hx496_6 hx496_7 hx496_8 hx496_9 hHeld ⊢
       refine kP 0 17 #[true, false, false, false, false, false, false, false, false, false] ?_ (any_of HT_.out (by kernel_rfl))
       refine kP 1 18 #[true, true, false, false, false, false, false, false, false, false] ?_ (any_of HT_.out (by kernel_rfl))
       refine kP 2 19 #[true, true, true, false, false, false, false, false, false, false] ?_ (any_of HT_.out (by kernel_rfl))
       refine kP 4 21 #[true, true, true, false, true, false, false, false, false, false] ?_ (any_of HT_.out (by kernel_rfl))
       refine kP 5 22 #[true, true, true, false, true, true, false, false, false, false] ?_ (any_of HT_.out (by kernel_rfl))
       refine kP 6 23 #[true, true, true, false, true, true, true, false, false, false] ?_ (any_of HT_.out (by kernel_rfl))
       refine take_ (i := 3) (N := some 20) (v := ?_) (a' := ?_) #[true, true, true, true, true, true, true, false, false, false] rfl rfl (take_ofW HT_.out HW_.out (by kernel_rfl)) (fun _ _ _ h => h) (Or.inl ⟨by rfl, ?_⟩) hHeld ?_ ?_
       rotate_left
       ·rintro w' ⟨s0, s1, s2, s3, s4, s5, s6, s7, s8, s9, s10, s11, s12, s13, s14, s15, s16, s17, s18, s19, s20, s21, s22, s23, s24, s25, s26, s27, s28, s29, s30, s31⟩
        go_simp
        with_reducible rfl
       rotate_left
       ·simp only [Act.put, sA, sZ, sS, i64_w, i32_w]
        rfl
       refine take_ (i := 7) (N := some 24) (v := ?_) (a' := ?_) #[true, true, true, true, true, true, true, true, false, false] rfl rfl (take_ofW HT_.out HW_.out (by kernel_rfl)) (fun _ _ _ h => h) (Or.inl ⟨by rfl, ?_⟩) hHeld ?_ ?_
       rotate_left
       ·rintro w' ⟨s0, s1, s2, s3, s4, s5, s6, s7, s8, s9, s10, s11, s12, s13, s14, s15, s16, s17, s18, s19, s20, s21, s22, s23, s24, s25, s26, s27, s28, s29, s30, s31⟩
        go_simp
        with_reducible rfl
       rotate_left
       ·simp only [Act.put, sA, sZ, sS, i64_w, i32_w]
        rfl
       refine one_ (i := 8) (N := some 25) #[true, true, true, true, true, true, true, true, true, false] rfl rfl (one_of HT_.out (by kernel_rfl)) (by decide) (fun K hK => ?_)
       refine goes_ Try.func13 (by kernel_rfl) rfl #[.agg #[.int .i64 ((rd_T28 l0 x5_1).f0), .int .i64 ((rd_T28 l0 x5_1).f1), .int .i64 ((rd_T28 l0 x5_1).f2), .int .i64 ((rd_T28 l0 x5_1).f3), .bool ((rd_T28 l0 x5_1).f4.f0), .int .u64 ((rd_T28 l0 x5_1).f4.f1), .int .u64 ((rd_T28 l0 x5_1).f4.f2), .bool ((rd_T28 l0 x5_1).f5.f0), .int .u64 ((rd_T28 l0 x5_1).f5.f1), .int .u64 ((rd_T28 l0 x5_1).f5.f2), .slice A495_10 ((rd_T28 l0 x5_1).f6).length c495_10, .bool ((rd_T28 l0 x5_1).f7), .int .i64 ((rd_T28 l0 x5_1).f8), .int .i64 ((rd_T28 l0 x5_1).f9), .bool ((rd_T28 l0 x5_1).f10), .string ((rd_T28 l0 x5_1).f11)], .agg #[.int .i64 ((rd_T28 l1 x5_1).f0), .int .i64 ((rd_T28 l1 x5_1).f1), .int .i64 ((rd_T28 l1 x5_1).f2), .int .i64 ((rd_T28 l1 x5_1).f3), .bool ((rd_T28 l1 x5_1).f4.f0), .int .u64 ((rd_T28 l1 x5_1).f4.f1), .int .u64 ((rd_T28 l1 x5_1).f4.f2), .bool ((rd_T28 l1 x5_1).f5.f0), .int .u64 ((rd_T28 l1 x5_1).f5.f1), .int .u64 ((rd_T28 l1 x5_1).f5.f2), .slice A496_10 ((rd_T28 l1 x5_1).f6).length c496_10, .bool ((rd_T28 l1 x5_1).f7), .int .i64 ((rd_T28 l1 x5_1).f8), .int .i64 ((rd_T28 l1 x5_1).f9), .bool ((rd_T28 l1 x5_1).f10), .string ((rd_T28 l1 x5_1).f11)]] (by rfl) rfl rfl kA ?_
       with_reducible refine (intrusionref12_Same.calls k1 ((rd_T28 l0 x5_1).f0) ((rd_T28 l0 x5_1).f1) ((rd_T28 l0 x5_1).f2) ((rd_T28 l0 x5_1).f3) ((rd_T28 l0 x5_1).f4.f0) ((rd_T28 l0 x5_1).f4.f1) ((rd_T28 l0 x5_1).f4.f2) ((rd_T28 l0 x5_1).f5.f0) ((rd_T28 l0 x5_1).f5.f1) ((rd_T28 l0 x5_1).f5.f2) _ _ ((rd_T28 l0 x5_1).f6) ((rd_T28 l0 x5_1).f7) ((rd_T28 l0 x5_1).f8) ((rd_T28 l0 x5_1).f9) ((rd_T28 l0 x5_1).f10) ((rd_T28 l0 x5_1).f11) ((rd_T28 l1 x5_1).f0) ((rd_T28 l1 x5_1).f1) ((rd_T28 l1 x5_1).f2) ((rd_T28 l1 x5_1).f3) ((rd_T28 l1 x5_1).f4.f0) ((rd_T28 l1 x5_1).f4.f1) ((rd_T28 l1 x5_1).f4.f2) ((rd_T28 l1 x5_1).f5.f0) ((rd_T28 l1 x5_1).f5.f1) ((rd_T28 l1 x5_1).f5.f2) _ _ ((rd_T28 l1 x5_1).f6) ((rd_T28 l1 x5_1).f7) ((rd_T28 l1 x5_1).f8) ((rd_T28 l1 x5_1).f9) ((rd_T28 l1 x5_1).f10) ((rd_T28 l1 x5_1).f11) true _ ?side1 ?side2 ?side3 ?side4 A7.out).mono ?_
       (case side1 => repeat (first | exact (Kd.C_below HR495_10.out HB.out) | (with_reducible refine Kd.C_alloc ?_ _) | (with_reducible refine Kd.C_drewN ?_ _) | (with_reducible refine Kd.C_drew ?_)))
       (case side2 => exact HC495_10.out)
       (case side3 => repeat (first | exact (Kd.C_below HR496_10.out HB.out) | (with_reducible refine Kd.C_alloc ?_ _) | (with_reducible refine Kd.C_drewN ?_ _) | (with_reducible refine Kd.C_drew ?_)))
       (case side4 => exact HC496_10.out)
       rintro e w10 ⟨rfl, hb⟩
       refine ⟨_, rfl, ?_⟩
       replace HB := As (below_step (kB HB.out) hb)
       (try clear hb)
       (try clear hb2)
       (try clear hk)
       (try clear hi)
       refine hK.out _ _ ⟨(hcell HB.out hw495_0), (hcell HB.out hw495_1), (hcell HB.out hw495_2), (hcell HB.out hw495_3), (hcell HB.out hw495_4), (hcell HB.out hw495_5), (hcell HB.out hw495_6), (hcell HB.out hw495_7), (hcell HB.out hw495_8), (hcell HB.out hw495_9), (hcell HB.out hw495_10), (hcell HB.out hw495_11), (hcell HB.out hw495_12), (hcell HB.out hw495_13), (hcell HB.out hw495_14), (hcell HB.out hw495_15), (hcell HB.out hw496_0), (hcell HB.out hw496_1), (hcell HB.out hw496_2), (hcell HB.out hw496_3), (hcell HB.out hw496_4), (hcell HB.out hw496_5), (hcell HB.out hw496_6), (hcell HB.out hw496_7), (hcell HB.out hw496_8), (hcell HB.out hw496_9), (hcell HB.out hw496_10), (hcell HB.out hw496_11), (hcell HB.out hw496_12), (hcell HB.out hw496_13), (hcell HB.out hw496_14), (hcell HB.out hw496_15)⟩ (fun hHeld => ?_)
       clear hK K
       refine norm_ (a' := ?_) ?_ ?_
       rotate_left
       ·show Act.put _ (some 25) _ = _
        simp only [Act.put, sA, sZ, sS, i64_w, i32_w]
        rfl
       refine kP 9 26 #[true, true, true, true, true, true, true, true, true, true] ?_ (any_of HT_.out (by kernel_rfl))
       refine done_ (done_of HT_.out (by kernel_rfl)) ?_
       try go_wp2
       go_roundg k1
       case measure => have := HK1.out; omega
       case rel => exact ⟨(wrap64 (x5_1 + 1)), kS, H', ⟨by have := HK1.out; omega⟩, ⟨kB HB.out⟩⟩
      replace c8 := Bool.eq_false_iff.mpr c8
      subst c8
      have H1 : (some false) = some r := by rw [if_neg (show ¬ (false = true) by decide)] at H; exact H
      clear H
      have H := H1
      clear H1
      obtain rfl := Option.some.inj H
      try go_wp2
      replace HB := As (below_drew1 HB.out)
      have p495 : 0 ≤ (x5_1 : Int) := of_decide_eq_true (by first | (with_reducible assumption) | assumption)
      have q495 : x5_1 < (l0.length : Int) := of_decide_eq_true (by first | (with_reducible assumption) | assumption)
      obtain ⟨ad495, A495_10, c495_10, e495, hx495_0, hx495_1, hx495_2, hx495_3, hx495_4, hx495_5, hx495_6, hx495_7, hx495_8, hx495_9, hx495_10, hx495_11, hx495_12, hx495_13, hx495_14, hx495_15, hl495_10, hi495_10⟩ := at_T28 HR0.out x5_1 p495 q495
      have hw495_15 := hx495_15
      have hw495_14 := hx495_14
      have hw495_13 := hx495_13
      have hw495_12 := hx495_12
      have hw495_11 := hx495_11
      have hw495_10 := hx495_10
      have hw495_9 := hx495_9
      have hw495_8 := hx495_8
      have hw495_7 := hx495_7
      have hw495_6 := hx495_6
      have hw495_5 := hx495_5
      have hw495_4 := hx495_4
      have hw495_3 := hx495_3
      have hw495_2 := hx495_2
      have hw495_1 := hx495_1
      have hw495_0 := hx495_0
      cases e495
      replace hx495_0 := hcell HB.out hx495_0
      replace hx495_1 := hcell HB.out hx495_1
      replace hx495_2 := hcell HB.out hx495_2
      replace hx495_3 := hcell HB.out hx495_3
      replace hx495_4 := hcell HB.out hx495_4
      replace hx495_5 := hcell HB.out hx495_5
      replace hx495_6 := hcell HB.out hx495_6
      replace hx495_7 := hcell HB.out hx495_7
      replace hx495_8 := hcell HB.out hx495_8
      replace hx495_9 := hcell HB.out hx495_9
      replace hx495_10 := hcell HB.out hx495_10
      replace hx495_11 := hcell HB.out hx495_11
      replace hx495_12 := hcell HB.out hx495_12
      replace hx495_13 := hcell HB.out hx495_13
      replace hx495_14 := hcell HB.out hx495_14
      replace hx495_15 := hcell HB.out hx495_15
      have HR495_10 := As hi495_10
      have HC495_10 := As hl495_10
      clear hi495_10 hl495_10
      replace p495 := eq_true p495
      replace q495 := eq_true q495
      have p496 : 0 ≤ (x5_1 : Int) := of_decide_eq_true (by first | (with_reducible assumption) | assumption)
      have q496 : x5_1 < (l1.length : Int) := of_decide_eq_true (by first | (with_reducible assumption) | assumption)
      obtain ⟨ad496, A496_10, c496_10, e496, hx496_0, hx496_1, hx496_2, hx496_3, hx496_4, hx496_5, hx496_6, hx496_7, hx496_8, hx496_9, hx496_10, hx496_11, hx496_12, hx496_13, hx496_14, hx496_15, hl496_10, hi496_10⟩ := at_T28 HR1.out x5_1 p496 q496
      have hw496_15 := hx496_15
      have hw496_14 := hx496_14
      have hw496_13 := hx496_13
      have hw496_12 := hx496_12
      have hw496_11 := hx496_11
      have hw496_10 := hx496_10
      have hw496_9 := hx496_9
      have hw496_8 := hx496_8
      have hw496_7 := hx496_7
      have hw496_6 := hx496_6
      have hw496_5 := hx496_5
      have hw496_4 := hx496_4
      have hw496_3 := hx496_3
      have hw496_2 := hx496_2
      have hw496_1 := hx496_1
      have hw496_0 := hx496_0
      cases e496
      replace hx496_0 := hcell HB.out hx496_0
      replace hx496_1 := hcell HB.out hx496_1
      replace hx496_2 := hcell HB.out hx496_2
      replace hx496_3 := hcell HB.out hx496_3
      replace hx496_4 := hcell HB.out hx496_4
      replace hx496_5 := hcell HB.out hx496_5
      replace hx496_6 := hcell HB.out hx496_6
      replace hx496_7 := hcell HB.out hx496_7
      replace hx496_8 := hcell HB.out hx496_8
      replace hx496_9 := hcell HB.out hx496_9
      replace hx496_10 := hcell HB.out hx496_10
      replace hx496_11 := hcell HB.out hx496_11
      replace hx496_12 := hcell HB.out hx496_12
      replace hx496_13 := hcell HB.out hx496_13
      replace hx496_14 := hcell HB.out hx496_14
      replace hx496_15 := hcell HB.out hx496_15
      have HR496_10 := As hi496_10
      have HC496_10 := As hl496_10
      clear hi496_10 hl496_10
      replace p496 := eq_true p496
      replace q496 := eq_true q496
      refine start_ (n := 10) (S := fun w' => w'.cell? (ad495.add ((x5_1).toNat * 16)) = some (.int .i64 ((rd_T28 l0 x5_1).f0)) ∧ w'.cell? ⟨(ad495.add ((x5_1).toNat * 16)).block, (ad495.add ((x5_1).toNat * 16)).off + 1, none⟩ = some (.int .i64 ((rd_T28 l0 x5_1).f1)) ∧ w'.cell? ⟨(ad495.add ((x5_1).toNat * 16)).block, (ad495.add ((x5_1).toNat * 16)).off + 2, none⟩ = some (.int .i64 ((rd_T28 l0 x5_1).f2)) ∧ w'.cell? ⟨(ad495.add ((x5_1).toNat * 16)).block, (ad495.add ((x5_1).toNat * 16)).off + 3, none⟩ = some (.int .i64 ((rd_T28 l0 x5_1).f3)) ∧ w'.cell? ⟨(ad495.add ((x5_1).toNat * 16)).block, (ad495.add ((x5_1).toNat * 16)).off + 4, none⟩ = some (.bool ((rd_T28 l0 x5_1).f4.f0)) ∧ w'.cell? ⟨(ad495.add ((x5_1).toNat * 16)).block, (ad495.add ((x5_1).toNat * 16)).off + 5, none⟩ = some (.int .u64 ((rd_T28 l0 x5_1).f4.f1)) ∧ w'.cell? ⟨(ad495.add ((x5_1).toNat * 16)).block, (ad495.add ((x5_1).toNat * 16)).off + 6, none⟩ = some (.int .u64 ((rd_T28 l0 x5_1).f4.f2)) ∧ w'.cell? ⟨(ad495.add ((x5_1).toNat * 16)).block, (ad495.add ((x5_1).toNat * 16)).off + 7, none⟩ = some (.bool ((rd_T28 l0 x5_1).f5.f0)) ∧ w'.cell? ⟨(ad495.add ((x5_1).toNat * 16)).block, (ad495.add ((x5_1).toNat * 16)).off + 8, none⟩ = some (.int .u64 ((rd_T28 l0 x5_1).f5.f1)) ∧ w'.cell? ⟨(ad495.add ((x5_1).toNat * 16)).block, (ad495.add ((x5_1).toNat * 16)).off + 9, none⟩ = some (.int .u64 ((rd_T28 l0 x5_1).f5.f2)) ∧ w'.cell? ⟨(ad495.add ((x5_1).toNat * 16)).block, (ad495.add ((x5_1).toNat * 16)).off + 10, none⟩ = some (.slice A495_10 ((rd_T28 l0 x5_1).f6).length c495_10) ∧ w'.cell? ⟨(ad495.add ((x5_1).toNat * 16)).block, (ad495.add ((x5_1).toNat * 16)).off + 11, none⟩ = some (.bool ((rd_T28 l0 x5_1).f7)) ∧ w'.cell? ⟨(ad495.add ((x5_1).toNat * 16)).block, (ad495.add ((x5_1).toNat * 16)).off + 12, none⟩ = some (.int .i64 ((rd_T28 l0 x5_1).f8)) ∧ w'.cell? ⟨(ad495.add ((x5_1).toNat * 16)).block, (ad495.add ((x5_1).toNat * 16)).off + 13, none⟩ = some (.int .i64 ((rd_T28 l0 x5_1).f9)) ∧ w'.cell? ⟨(ad495.add ((x5_1).toNat * 16)).block, (ad495.add ((x5_1).toNat * 16)).off + 14, none⟩ = some (.bool ((rd_T28 l0 x5_1).f10)) ∧ w'.cell? ⟨(ad495.add ((x5_1).toNat * 16)).block, (ad495.add ((x5_1).toNat * 16)).off + 15, none⟩ = some (.string ((rd_T28 l0 x5_1).f11)) ∧ w'.cell? (ad496.add ((x5_1).toNat * 16)) = some (.int .i64 ((rd_T28 l1 x5_1).f0)) ∧ w'.cell? ⟨(ad496.add ((x5_1).toNat * 16)).block, (ad496.add ((x5_1).toNat * 16)).off + 1, none⟩ = some (.int .i64 ((rd_T28 l1 x5_1).f1)) ∧ w'.cell? ⟨(ad496.add ((x5_1).toNat * 16)).block, (ad496.add ((x5_1).toNat * 16)).off + 2, none⟩ = some (.int .i64 ((rd_T28 l1 x5_1).f2)) ∧ w'.cell? ⟨(ad496.add ((x5_1).toNat * 16)).block, (ad496.add ((x5_1).toNat * 16)).off + 3, none⟩ = some (.int .i64 ((rd_T28 l1 x5_1).f3)) ∧ w'.cell? ⟨(ad496.add ((x5_1).toNat * 16)).block, (ad496.add ((x5_1).toNat * 16)).off + 4, none⟩ = some (.bool ((rd_T28 l1 x5_1).f4.f0)) ∧ w'.cell? ⟨(ad496.add ((x5_1).toNat * 16)).block, (ad496.add ((x5_1).toNat * 16)).off + 5, none⟩ = some (.int .u64 ((rd_T28 l1 x5_1).f4.f1)) ∧ w'.cell? ⟨(ad496.add ((x5_1).toNat * 16)).block, (ad496.add ((x5_1).toNat * 16)).off + 6, none⟩ = some (.int .u64 ((rd_T28 l1 x5_1).f4.f2)) ∧ w'.cell? ⟨(ad496.add ((x5_1).toNat * 16)).block, (ad496.add ((x5_1).toNat * 16)).off + 7, none⟩ = some (.bool ((rd_T28 l1 x5_1).f5.f0)) ∧ w'.cell? ⟨(ad496.add ((x5_1).toNat * 16)).block, (ad496.add ((x5_1).toNat * 16)).off + 8, none⟩ = some (.int .u64 ((rd_T28 l1 x5_1).f5.f1)) ∧ w'.cell? ⟨(ad496.add ((x5_1).toNat * 16)).block, (ad496.add ((x5_1).toNat * 16)).off + 9, none⟩ = some (.int .u64 ((rd_T28 l1 x5_1).f5.f2)) ∧ w'.cell? ⟨(ad496.add ((x5_1).toNat * 16)).block, (ad496.add ((x5_1).toNat * 16)).off + 10, none⟩ = some (.slice A496_10 ((rd_T28 l1 x5_1).f6).length c496_10) ∧ w'.cell? ⟨(ad496.add ((x5_1).toNat * 16)).block, (ad496.add ((x5_1).toNat * 16)).off + 11, none⟩ = some (.bool ((rd_T28 l1 x5_1).f7)) ∧ w'.cell? ⟨(ad496.add ((x5_1).toNat * 16)).block, (ad496.add ((x5_1).toNat * 16)).off + 12, none⟩ = some (.int .i64 ((rd_T28 l1 x5_1).f8)) ∧ w'.cell? ⟨(ad496.add ((x5_1).toNat * 16)).block, (ad496.add ((x5_1).toNat * 16)).off + 13, none⟩ = some (.int .i64 ((rd_T28 l1 x5_1).f9)) ∧ w'.cell? ⟨(ad496.add ((x5_1).toNat * 16)).block, (ad496.add ((x5_1).toNat * 16)).off + 14, none⟩ = some (.bool ((rd_T28 l1 x5_1).f10)) ∧ w'.cell? ⟨(ad496.add ((x5_1).toNat * 16)).block, (ad496.add ((x5_1).toNat * 16)).off + 15, none⟩ = some (.string ((rd_T28 l1 x5_1).f11))) (ds := []) #[false, false, false, false, false, false, false, false, false, false] (by kernel_rfl) rfl rfl ⟨(hcell HB.out hw495_0), (hcell HB.out hw495_1), (hcell HB.out hw495_2), (hcell HB.out hw495_3), (hcell HB.out hw495_4), (hcell HB.out hw495_5), (hcell HB.out hw495_6), (hcell HB.out hw495_7), (hcell HB.out hw495_8), (hcell HB.out hw495_9), (hcell HB.out hw495_10), (hcell HB.out hw495_11), (hcell HB.out hw495_12), (hcell HB.out hw495_13), (hcell HB.out hw495_14), (hcell HB.out hw495_15), (hcell HB.out hw496_0), (hcell HB.out hw496_1), (hcell HB.out hw496_2), (hcell HB.out hw496_3), (hcell HB.out hw496_4), (hcell HB.out hw496_5), (hcell HB.out hw496_6), (hcell HB.out hw496_7), (hcell HB.out hw496_8), (hcell HB.out hw496_9), (hcell HB.out hw496_10), (hcell HB.out hw496_11), (hcell HB.out hw496_12), (hcell HB.out hw496_13), (hcell HB.out hw496_14), (hcell HB.out hw496_15)⟩ (fun hHeld => ?_); refine with_tabW intrusionref12_All.tab6 intrusionref12_All.bits6 (fun HT_ HW_ => ?_)
      generalize wr.drew = w11 at HB HR495_10 HR496_10 hx495_0 hx495_1 hx495_10 hx495_11 hx495_12 hx495_13 hx495_14 hx495_15 hx495_2 hx495_3 hx495_4 hx495_5 hx495_6 hx495_7 hx495_8 hx495_9 hx496_0 hx496_1 hx496_10 hx496_11 hx496_12 hx496_13 hx496_14 hx496_15 hx496_2 hx496_3 hx496_4 hx496_5 hx496_6 hx496_7 hx496_8 hx496_9 hHeld ⊢
      refine kP 0 17 #[true, false, false, false, false, false, false, false, false, false] ?_ (any_of HT_.out (by kernel_rfl))
      refine kP 1 18 #[true, true, false, false, false, false, false, false, false, false] ?_ (any_of HT_.out (by kernel_rfl))
      refine kP 2 19 #[true, true, true, false, false, false, false, false, false, false] ?_ (any_of HT_.out (by kernel_rfl))
      refine kP 4 21 #[true, true, true, false, true, false, false, false, false, false] ?_ (any_of HT_.out (by kernel_rfl))
      refine kP 5 22 #[true, true, true, false, true, true, false, false, false, false] ?_ (any_of HT_.out (by kernel_rfl))
      refine kP 6 23 #[true, true, true, false, true, true, true, false, false, false] ?_ (any_of HT_.out (by kernel_rfl))
      refine take_ (i := 3) (N := some 20) (v := ?_) (a' := ?_) #[true, true, true, true, true, true, true, false, false, false] rfl rfl (take_ofW HT_.out HW_.out (by kernel_rfl)) (fun _ _ _ h => h) (Or.inl ⟨by rfl, ?_⟩) hHeld ?_ ?_
      rotate_left
      ·rintro w' ⟨s0, s1, s2, s3, s4, s5, s6, s7, s8, s9, s10, s11, s12, s13, s14, s15, s16, s17, s18, s19, s20, s21, s22, s23, s24, s25, s26, s27, s28, s29, s30, s31⟩
       go_simp
       with_reducible rfl
      rotate_left
      ·simp only [Act.put, sA, sZ, sS, i64_w, i32_w]
       rfl
      refine take_ (i := 7) (N := some 24) (v := ?_) (a' := ?_) #[true, true, true, true, true, true, true, true, false, false] rfl rfl (take_ofW HT_.out HW_.out (by kernel_rfl)) (fun _ _ _ h => h) (Or.inl ⟨by rfl, ?_⟩) hHeld ?_ ?_
      rotate_left
      ·rintro w' ⟨s0, s1, s2, s3, s4, s5, s6, s7, s8, s9, s10, s11, s12, s13, s14, s15, s16, s17, s18, s19, s20, s21, s22, s23, s24, s25, s26, s27, s28, s29, s30, s31⟩
       go_simp
       with_reducible rfl
      rotate_left
      ·simp only [Act.put, sA, sZ, sS, i64_w, i32_w]
       rfl
      refine one_ (i := 8) (N := some 25) #[true, true, true, true, true, true, true, true, true, false] rfl rfl (one_of HT_.out (by kernel_rfl)) (by decide) (fun K hK => ?_)
      refine goes_ Try.func13 (by kernel_rfl) rfl #[.agg #[.int .i64 ((rd_T28 l0 x5_1).f0), .int .i64 ((rd_T28 l0 x5_1).f1), .int .i64 ((rd_T28 l0 x5_1).f2), .int .i64 ((rd_T28 l0 x5_1).f3), .bool ((rd_T28 l0 x5_1).f4.f0), .int .u64 ((rd_T28 l0 x5_1).f4.f1), .int .u64 ((rd_T28 l0 x5_1).f4.f2), .bool ((rd_T28 l0 x5_1).f5.f0), .int .u64 ((rd_T28 l0 x5_1).f5.f1), .int .u64 ((rd_T28 l0 x5_1).f5.f2), .slice A495_10 ((rd_T28 l0 x5_1).f6).length c495_10, .bool ((rd_T28 l0 x5_1).f7), .int .i64 ((rd_T28 l0 x5_1).f8), .int .i64 ((rd_T28 l0 x5_1).f9), .bool ((rd_T28 l0 x5_1).f10), .string ((rd_T28 l0 x5_1).f11)], .agg #[.int .i64 ((rd_T28 l1 x5_1).f0), .int .i64 ((rd_T28 l1 x5_1).f1), .int .i64 ((rd_T28 l1 x5_1).f2), .int .i64 ((rd_T28 l1 x5_1).f3), .bool ((rd_T28 l1 x5_1).f4.f0), .int .u64 ((rd_T28 l1 x5_1).f4.f1), .int .u64 ((rd_T28 l1 x5_1).f4.f2), .bool ((rd_T28 l1 x5_1).f5.f0), .int .u64 ((rd_T28 l1 x5_1).f5.f1), .int .u64 ((rd_T28 l1 x5_1).f5.f2), .slice A496_10 ((rd_T28 l1 x5_1).f6).length c496_10, .bool ((rd_T28 l1 x5_1).f7), .int .i64 ((rd_T28 l1 x5_1).f8), .int .i64 ((rd_T28 l1 x5_1).f9), .bool ((rd_T28 l1 x5_1).f10), .string ((rd_T28 l1 x5_1).f11)]] (by rfl) rfl rfl kA ?_
      with_reducible refine (intrusionref12_Same.calls k1 ((rd_T28 l0 x5_1).f0) ((rd_T28 l0 x5_1).f1) ((rd_T28 l0 x5_1).f2) ((rd_T28 l0 x5_1).f3) ((rd_T28 l0 x5_1).f4.f0) ((rd_T28 l0 x5_1).f4.f1) ((rd_T28 l0 x5_1).f4.f2) ((rd_T28 l0 x5_1).f5.f0) ((rd_T28 l0 x5_1).f5.f1) ((rd_T28 l0 x5_1).f5.f2) _ _ ((rd_T28 l0 x5_1).f6) ((rd_T28 l0 x5_1).f7) ((rd_T28 l0 x5_1).f8) ((rd_T28 l0 x5_1).f9) ((rd_T28 l0 x5_1).f10) ((rd_T28 l0 x5_1).f11) ((rd_T28 l1 x5_1).f0) ((rd_T28 l1 x5_1).f1) ((rd_T28 l1 x5_1).f2) ((rd_T28 l1 x5_1).f3) ((rd_T28 l1 x5_1).f4.f0) ((rd_T28 l1 x5_1).f4.f1) ((rd_T28 l1 x5_1).f4.f2) ((rd_T28 l1 x5_1).f5.f0) ((rd_T28 l1 x5_1).f5.f1) ((rd_T28 l1 x5_1).f5.f2) _ _ ((rd_T28 l1 x5_1).f6) ((rd_T28 l1 x5_1).f7) ((rd_T28 l1 x5_1).f8) ((rd_T28 l1 x5_1).f9) ((rd_T28 l1 x5_1).f10) ((rd_T28 l1 x5_1).f11) false _ ?side1 ?side2 ?side3 ?side4 A7.out).mono ?_
      (case side1 => repeat (first | exact (Kd.C_below HR495_10.out HB.out) | (with_reducible refine Kd.C_alloc ?_ _) | (with_reducible refine Kd.C_drewN ?_ _) | (with_reducible refine Kd.C_drew ?_)))
      (case side2 => exact HC495_10.out)
      (case side3 => repeat (first | exact (Kd.C_below HR496_10.out HB.out) | (with_reducible refine Kd.C_alloc ?_ _) | (with_reducible refine Kd.C_drewN ?_ _) | (with_reducible refine Kd.C_drew ?_)))
      (case side4 => exact HC496_10.out)
      rintro e w12 ⟨rfl, hb⟩
      refine ⟨_, rfl, ?_⟩
      replace HB := As (below_step (kB HB.out) hb)
      (try clear hb)
      (try clear hb2)
      (try clear hk)
      (try clear hi)
      refine hK.out _ _ ⟨(hcell HB.out hw495_0), (hcell HB.out hw495_1), (hcell HB.out hw495_2), (hcell HB.out hw495_3), (hcell HB.out hw495_4), (hcell HB.out hw495_5), (hcell HB.out hw495_6), (hcell HB.out hw495_7), (hcell HB.out hw495_8), (hcell HB.out hw495_9), (hcell HB.out hw495_10), (hcell HB.out hw495_11), (hcell HB.out hw495_12), (hcell HB.out hw495_13), (hcell HB.out hw495_14), (hcell HB.out hw495_15), (hcell HB.out hw496_0), (hcell HB.out hw496_1), (hcell HB.out hw496_2), (hcell HB.out hw496_3), (hcell HB.out hw496_4), (hcell HB.out hw496_5), (hcell HB.out hw496_6), (hcell HB.out hw496_7), (hcell HB.out hw496_8), (hcell HB.out hw496_9), (hcell HB.out hw496_10), (hcell HB.out hw496_11), (hcell HB.out hw496_12), (hcell HB.out hw496_13), (hcell HB.out hw496_14), (hcell HB.out hw496_15)⟩ (fun hHeld => ?_)
      clear hK K
      refine norm_ (a' := ?_) ?_ ?_
      rotate_left
      ·show Act.put _ (some 25) _ = _
       simp only [Act.put, sA, sZ, sS, i64_w, i32_w]
       rfl
      refine kP 9 26 #[true, true, true, true, true, true, true, true, true, true] ?_ (any_of HT_.out (by kernel_rfl))
      refine done_ (done_of HT_.out (by kernel_rfl)) ?_
      try go_wp2
      go_ret
      exact ⟨kE, by exact kB HB.out⟩
     rw [if_neg c6] at H
     exact absurd H (by simp)
    rw [if_neg c5] at H
    exact absurd H (by simp)
   rw [if_neg c4] at H
   have c4b0 : decide (x5_1 < (l0.length : Int)) = false := decide_eq_false c4
   clear c4
   obtain rfl := Option.some.inj H
   go_wp2
   go_ret
   exact ⟨kE, by exact kB HB.out⟩
 rw [if_neg c3] at H
 have c3b0 : ((l0.length : Int) == (l1.length : Int)) = false := beq_eq_false_iff_ne.mpr c3
 have c3b1 : ((l0.length : Int) != (l1.length : Int)) = true := bne_iff_ne.mpr c3
 have c3b2 : (l0.length == l1.length) = false := by first | simpa using c3 | (simp at c3 ⊢; omega)
 obtain rfl := Option.some.inj H
 go_enter Try.func19, Try.ntmps19
 go_wp2
 go_ret
 exact ⟨kE, by exact kB HB.out⟩

end Go.Proofs.Ytljboandbjahdaa.X
-- short
