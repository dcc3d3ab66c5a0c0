/- Functions and their walks, printed by xprint.py. -/
import Derived.Test.YtafjmciojeondaaX0
import Derived.Test.YtafjmciojeondaaX11
namespace Go.Proofs.Ytafjmciojeondaa.X
open Go.RowKit Go.Proofs.YtafjmciojeondaaW.PrintWords Go.Proofs.YtafjmciojeondaaW.PrintLast Go.Proofs.YtafjmciojeondaaW.PrintMore
attribute [local go_sem] max2_int min2_int max_two min_two max_three min_three max_four min_four   -- for this text's walks alone
set_option linter.unusedVariables false
set_option linter.unusedSimpArgs false

/-! ### intrusionref09_Reader_Close: function 25 -/
def intrusionref09_Reader_Close.f (s0_0 : ByteArray) (s0_1 : Int) (s0_2 : Bool) (s0_3 : Bool) (s0_4 : Int) (s0_5 : Int) (s0_6 : Bool) : Option (Int × ByteArray × Int × Bool × Bool × Int × Int × Bool) := if s0_6 = true then (some (10, s0_0, s0_1, s0_2, s0_3, s0_4, s0_5, s0_6)) else (if s0_2 = true then (if s0_1 < (s0_0.size : Int) then (some (1, s0_0, s0_1, s0_2, s0_3, s0_4, s0_5, true)) else (some (0, s0_0, s0_1, s0_2, s0_3, s0_4, s0_5, true))) else (some (1, s0_0, s0_1, s0_2, s0_3, s0_4, s0_5, true)))
set_option maxHeartbeats 8000000 in
set_option maxRecDepth 100000 in
theorem intrusionref09_Reader_Close.calls (g : Nat) (s0_0 : ByteArray) (s0_1 : Int) (s0_2 : Bool) (s0_3 : Bool) (s0_4 : Int) (s0_5 : Int) (s0_6 : Bool) (r1 : Int) (r2 : ByteArray) (r3 : Int) (r4 : Bool) (r5 : Bool) (r6 : Int) (r7 : Int) (r8 : Bool) (w0 w : World) (hI : IsS41 w0 w g s0_0 s0_1 s0_2 s0_3 s0_4 s0_5 s0_6) (hB : Below w0.heap.size w0 w) (h : intrusionref09_Reader_Close.f s0_0 s0_1 s0_2 s0_3 s0_4 s0_5 s0_6 = some (r1, r2, r3, r4, r5, r6, r7, r8)) :
  Calls Try.prog 25 #[.pointer (some ⟨g, 0, none⟩)] w fun e w' => e = .returned (.int .i64 r1) ∧ IsS41 w0 w' g r2 r3 r4 r5 r6 r7 r8 ∧ Below w0.heap.size w0 w' ∧ KeepBut w w' g none := by
 have HI0 := As hI
 have HK := As (KeepBut.refl w g none)
 have HL := As hB.size
 clear hI
 have HW0 := As hB.size
 have HB := As hB
 clear hB
 have H : (if s0_6 = true then (some (10, s0_0, s0_1, s0_2, s0_3, s0_4, s0_5, s0_6)) else (if s0_2 = true then (if s0_1 < (s0_0.size : Int) then (some (1, s0_0, s0_1, s0_2, s0_3, s0_4, s0_5, true)) else (some (0, s0_0, s0_1, s0_2, s0_3, s0_4, s0_5, true))) else (some (1, s0_0, s0_1, s0_2, s0_3, s0_4, s0_5, true)))) = some (r1, r2, r3, r4, r5, r6, r7, r8) := h
 clear h
 by_cases c2 : s0_6 = true
 ·subst c2
  have H1 : (some (10, s0_0, s0_1, s0_2, s0_3, s0_4, s0_5, true)) = some (r1, r2, r3, r4, r5, r6, r7, r8) := by rw [if_pos rfl] at H; exact H
  clear H
  have H := H1
  clear H1
  simp only [Option.some.injEq, Prod.mk.injEq] at H
  obtain ⟨rfl, rfl, rfl, rfl, rfl, rfl, rfl, rfl⟩ := H
  obtain ⟨HGz3, hgz3⟩ := HI0.out
  have hcz3_0 := cellS41_0 HGz3
  have hcz3_1 := cellS41_1 HGz3
  have hcz3_2 := cellS41_2 HGz3
  have hcz3_3 := cellS41_3 HGz3
  have hcz3_4 := cellS41_4 HGz3
  have hcz3_5 := cellS41_5 HGz3
  have hcz3_6 := cellS41_6 HGz3
  have hfz3_0 := blk_frozen HGz3 0
  have hfz3_1 := blk_frozen HGz3 1
  have hfz3_2 := blk_frozen HGz3 2
  have hfz3_3 := blk_frozen HGz3 3
  have hfz3_4 := blk_frozen HGz3 4
  have hfz3_5 := blk_frozen HGz3 5
  have hfz3_6 := blk_frozen HGz3 6
  clear HGz3 hgz3
  go_enter Try.func25, Try.ntmps25
  go_wp2
  repeat (go_quiet (fail); try go_wp2)
  go_ret
  exact ⟨kE, by repeat (first | (with_reducible first | exact HI0.out | apply IsS41.alloc | apply IsS41.drewN | apply IsS41.drew | apply IsS41.set_0 | apply IsS41.set_1 | apply IsS41.set_2 | apply IsS41.set_3 | apply IsS41.set_4 | apply IsS41.set_5 | apply IsS41.set_6) | exact HI0.out), by exact kB1 HB.out (IsS41.ge HI0.out), by repeat (first | (with_reducible first | exact HK.out | apply KeepBut.set_ | apply keep_drewN | apply keep_drew | apply keep_alloc) | exact HK.out)⟩
 replace c2 := Bool.eq_false_iff.mpr c2
 subst c2
 have H1 : (if s0_2 = true then (if s0_1 < (s0_0.size : Int) then (some (1, s0_0, s0_1, s0_2, s0_3, s0_4, s0_5, true)) else (some (0, s0_0, s0_1, s0_2, s0_3, s0_4, s0_5, true))) else (some (1, s0_0, s0_1, s0_2, s0_3, s0_4, s0_5, true))) = some (r1, r2, r3, r4, r5, r6, r7, r8) := by rw [if_neg (show ¬ (false = true) by decide)] at H; exact H
 clear H
 have H := H1
 clear H1
 by_cases c4 : s0_2 = true
 ·subst c4
  have H1 : (if s0_1 < (s0_0.size : Int) then (some (1, s0_0, s0_1, true, s0_3, s0_4, s0_5, true)) else (some (0, s0_0, s0_1, true, s0_3, s0_4, s0_5, true))) = some (r1, r2, r3, r4, r5, r6, r7, r8) := by rw [if_pos rfl] at H; exact H
  clear H
  have H := H1
  clear H1
  by_cases c5 : s0_1 < (s0_0.size : Int)
  ·rw [if_pos c5] at H
   have c5b0 : decide (s0_1 < (s0_0.size : Int)) = true := decide_eq_true c5
   clear c5
   simp only [Option.some.injEq, Prod.mk.injEq] at H
   obtain ⟨rfl, rfl, rfl, rfl, rfl, rfl, rfl, rfl⟩ := H
   obtain ⟨HGz6, hgz6⟩ := HI0.out
   have hcz6_0 := cellS41_0 HGz6
   have hcz6_1 := cellS41_1 HGz6
   have hcz6_2 := cellS41_2 HGz6
   have hcz6_3 := cellS41_3 HGz6
   have hcz6_4 := cellS41_4 HGz6
   have hcz6_5 := cellS41_5 HGz6
   have hcz6_6 := cellS41_6 HGz6
   have hfz6_0 := blk_frozen HGz6 0
   have hfz6_1 := blk_frozen HGz6 1
   have hfz6_2 := blk_frozen HGz6 2
   have hfz6_3 := blk_frozen HGz6 3
   have hfz6_4 := blk_frozen HGz6 4
   have hfz6_5 := blk_frozen HGz6 5
   have hfz6_6 := blk_frozen HGz6 6
   clear HGz6 hgz6
   go_enter Try.func25, Try.ntmps25
   go_wp2
   repeat (go_quiet (fail); try go_wp2)
   go_ret
   exact ⟨kE, by repeat (first | (with_reducible first | exact HI0.out | apply IsS41.alloc | apply IsS41.drewN | apply IsS41.drew | apply IsS41.set_0 | apply IsS41.set_1 | apply IsS41.set_2 | apply IsS41.set_3 | apply IsS41.set_4 | apply IsS41.set_5 | apply IsS41.set_6) | exact HI0.out), by exact kB1 HB.out (IsS41.ge HI0.out), by repeat (first | (with_reducible first | exact HK.out | apply KeepBut.set_ | apply keep_drewN | apply keep_drew | apply keep_alloc) | exact HK.out)⟩
  rw [if_neg c5] at H
  have c5b0 : decide (s0_1 < (s0_0.size : Int)) = false := decide_eq_false c5
  clear c5
  simp only [Option.some.injEq, Prod.mk.injEq] at H
  obtain ⟨rfl, rfl, rfl, rfl, rfl, rfl, rfl, rfl⟩ := H
  obtain ⟨HGz7, hgz7⟩ := HI0.out
  have hcz7_0 := cellS41_0 HGz7
  have hcz7_1 := cellS41_1 HGz7
  have hcz7_2 := cellS41_2 HGz7
  have hcz7_3 := cellS41_3 HGz7
  have hcz7_4 := cellS41_4 HGz7
  have hcz7_5 := cellS41_5 HGz7
  have hcz7_6 := cellS41_6 HGz7
  have hfz7_0 := blk_frozen HGz7 0
  have hfz7_1 := blk_frozen HGz7 1
  have hfz7_2 := blk_frozen HGz7 2
  have hfz7_3 := blk_frozen HGz7 3
  have hfz7_4 := blk_frozen HGz7 4
  have hfz7_5 := blk_frozen HGz7 5
  have hfz7_6 := blk_frozen HGz7 6
  clear HGz7 hgz7
  go_enter Try.func25, Try.ntmps25
  go_wp2
  repeat (go_quiet (fail); try go_wp2)
  go_ret
  exact ⟨kE, by repeat (first | (with_reducible first | exact HI0.out | apply IsS41.alloc | apply IsS41.drewN | apply IsS41.drew | apply IsS41.set_0 | apply IsS41.set_1 | apply IsS41.set_2 | apply IsS41.set_3 | apply IsS41.set_4 | apply IsS41.set_5 | apply IsS41.set_6) | exact HI0.out), by exact kB1 HB.out (IsS41.ge HI0.out), by repeat (first | (with_reducible first | exact HK.out | apply KeepBut.set_ | apply keep_drewN | apply keep_drew | apply keep_alloc) | exact HK.out)⟩
 replace c4 := Bool.eq_false_iff.mpr c4
 subst c4
 have H1 : (some (1, s0_0, s0_1, false, s0_3, s0_4, s0_5, true)) = some (r1, r2, r3, r4, r5, r6, r7, r8) := by rw [if_neg (show ¬ (false = true) by decide)] at H; exact H
 clear H
 have H := H1
 clear H1
 simp only [Option.some.injEq, Prod.mk.injEq] at H
 obtain ⟨rfl, rfl, rfl, rfl, rfl, rfl, rfl, rfl⟩ := H
 obtain ⟨HGz8, hgz8⟩ := HI0.out
 have hcz8_0 := cellS41_0 HGz8
 have hcz8_1 := cellS41_1 HGz8
 have hcz8_2 := cellS41_2 HGz8
 have hcz8_3 := cellS41_3 HGz8
 have hcz8_4 := cellS41_4 HGz8
 have hcz8_5 := cellS41_5 HGz8
 have hcz8_6 := cellS41_6 HGz8
 have hfz8_0 := blk_frozen HGz8 0
 have hfz8_1 := blk_frozen HGz8 1
 have hfz8_2 := blk_frozen HGz8 2
 have hfz8_3 := blk_frozen HGz8 3
 have hfz8_4 := blk_frozen HGz8 4
 have hfz8_5 := blk_frozen HGz8 5
 have hfz8_6 := blk_frozen HGz8 6
 clear HGz8 hgz8
 go_enter Try.func25, Try.ntmps25
 go_wp2
 repeat (go_quiet (fail); try go_wp2)
 go_ret
 exact ⟨kE, by repeat (first | (with_reducible first | exact HI0.out | apply IsS41.alloc | apply IsS41.drewN | apply IsS41.drew | apply IsS41.set_0 | apply IsS41.set_1 | apply IsS41.set_2 | apply IsS41.set_3 | apply IsS41.set_4 | apply IsS41.set_5 | apply IsS41.set_6) | exact HI0.out), by exact kB1 HB.out (IsS41.ge HI0.out), by repeat (first | (with_reducible first | exact HK.out | apply KeepBut.set_ | apply keep_drewN | apply keep_drew | apply keep_alloc) | exact HK.out)⟩

end Go.Proofs.Ytafjmciojeondaa.X
-- short
