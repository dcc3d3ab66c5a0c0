/- Functions and their walks, printed by xprint.py. -/
import Derived.Test.YtocobalkikkhlaaDoorX0
import Derived.Test.YtocobalkikkhlaaDoorX4
import Derived.Test.YtocobalkikkhlaaDoorX5
import Derived.Test.YtocobalkikkhlaaDoorX6
import Derived.Test.YtocobalkikkhlaaDoorX9
namespace Go.Proofs.YtocobalkikkhlaaDoor.X
open Go.RowKit Go.Proofs.YtocobalkikkhlaaDoorW.PrintWords Go.Proofs.YtocobalkikkhlaaDoorW.PrintLast Go.Proofs.YtocobalkikkhlaaDoorW.PrintMore
attribute [local go_sem] max2_int min2_int max_two min_two max_three min_three max_four min_four   -- for this text's walks alone
set_option linter.unusedVariables false
set_option linter.unusedSimpArgs false

/-! ### tunnel_vxlan: function 82 -/
def tunnel_vxlan.j0 : Nat → Bool → Bool → Int → Int → Bool → Int → Int → Int → Int → ByteArray → Option (Int × ByteArray × Int)
 | 0, _, _, _, _, _, _, _, _, _, _ => none
 | k + 1, x20, x259000, x259001, x259002, x259003, x259004, x259005, x259006, x259007, x259008 => if x20 = true then (some (0, (⟨#[]⟩ : ByteArray), 0)) else ((udp_Decode.f k x259000 x259001 x259002 x259003 x259004 x259005 x259008).bind fun bt261 => (if bt261.2.2.2 = 0 then (if (bt261.2.2.1.size : Int) < 8 then (some (0, (⟨#[]⟩ : ByteArray), 1)) else (if 0 ≤ 4 then (if 4 ≤ (bt261.2.2.1.size : Int) then (if (bt261.2.2.1.extract 0 4).toList = ([8, 0, 0, 0] : List UInt8) then (if 7 < (bt261.2.2.1.size : Int) then (if (bt bt261.2.2.1 7) = 0 then (if 8 ≤ (bt261.2.2.1.size : Int) then (some (3, bt261.2.2.1.extract 8 bt261.2.2.1.size, 0)) else (none)) else (some (0, (⟨#[]⟩ : ByteArray), 2))) else (none)) else (some (0, (⟨#[]⟩ : ByteArray), 2))) else (none)) else (none))) else (some (0, (⟨#[]⟩ : ByteArray), bt261.2.2.2))))
def tunnel_vxlan.f (k : Nat) (b0 : Bool) (b1 : Int) (b2 : Int) (b3 : Bool) (b4 : Int) (b5 : Int) (b6 : Int) (b7 : Int) (b8 : ByteArray) : Option (Int × ByteArray × Int) := (field_Get.f k b8 2 2).bind fun bt259 => (if bt259.2 = 0 then (tunnel_vxlan.j0 k (bt259.1 != 4789) b0 b1 b2 b3 b4 b5 b6 b7 b8) else (tunnel_vxlan.j0 k true b0 b1 b2 b3 b4 b5 b6 b7 b8))
theorem tunnel_vxlan.mono_l : ∀ k, (∀ y0 y1 y2 y3 y4 y5 y6 y7 y8 y9, LeO (tunnel_vxlan.j0 k y0 y1 y2 y3 y4 y5 y6 y7 y8 y9) (tunnel_vxlan.j0 (k + 1) y0 y1 y2 y3 y4 y5 y6 y7 y8 y9))
 | 0 => fun _ _ _ _ _ _ _ _ _ _ r h => by simp [tunnel_vxlan.j0] at h
 | k + 1 => by
  have ih0 := tunnel_vxlan.mono_l k
  intro y0 y1 y2 y3 y4 y5 y6 y7 y8 y9
  unfold tunnel_vxlan.j0
  repeat' first | with_reducible first | apply ih0 | apply field_Get.mono | apply udp_Decode.mono | apply LeO.refl | apply LeO.none | refine LeO.ite ?_ ?_ | refine LeO.bind ?_ (fun _ => ?_)
theorem tunnel_vxlan.mono : ∀ a0 a1 a2 a3 a4 a5 a6 a7 a8 k, LeO (tunnel_vxlan.f k a0 a1 a2 a3 a4 a5 a6 a7 a8) (tunnel_vxlan.f (k + 1) a0 a1 a2 a3 a4 a5 a6 a7 a8) := by
 intro a0 a1 a2 a3 a4 a5 a6 a7 a8 k
 have ih0 := tunnel_vxlan.mono_l k
 unfold tunnel_vxlan.f
 repeat' first | with_reducible first | apply ih0 | apply field_Get.mono | apply udp_Decode.mono | apply LeO.refl | apply LeO.none | refine LeO.ite ?_ ?_ | refine LeO.bind ?_ (fun _ => ?_)
set_option maxHeartbeats 8000000 in
set_option maxRecDepth 100000 in
theorem tunnel_vxlan.calls (k : Nat) (b0 : Bool) (b1 : Int) (b2 : Int) (b3 : Bool) (b4 : Int) (b5 : Int) (b6 : Int) (b7 : Int) (b8 : ByteArray) (r1 : Int) (r2 : ByteArray) (r3 : Int) (w : World) (hLd : Laid w) (h : tunnel_vxlan.f k b0 b1 b2 b3 b4 b5 b6 b7 b8 = some (r1, r2, r3)) :
  Calls Tryd.prog 82 #[.agg #[.bool b0, .int .u64 b1, .int .u64 b2, .bool b3, .int .u64 b4, .int .u64 b5, .int .i64 b6, .int .i64 b7, .string b8]] w fun e w' => e = .returned (.tuple #[.int .i64 r1, .string r2, .int .i64 r3]) ∧ Below w.heap.size w w' := by
 have hu30 := Tryd.underlying30
 have hu24 := Tryd.underlying24
 have hu85 := Tryd.underlying85
 have HLD := As hLd
 clear hLd
 have HB := As (Below.refl w.heap.size w)
 have H : ((field_Get.f k b8 2 2).bind fun bt259 => (if bt259.2 = 0 then (tunnel_vxlan.j0 k (bt259.1 != 4789) b0 b1 b2 b3 b4 b5 b6 b7 b8) else (tunnel_vxlan.j0 k true b0 b1 b2 b3 b4 b5 b6 b7 b8))) = some (r1, r2, r3) := h
 clear h
 replace H := Option.bind_eq_some_iff.mp H
 obtain ⟨⟨t259, t260⟩, A20, H⟩ := H
 replace H : (if t260 = 0 then (tunnel_vxlan.j0 k (t259 != 4789) b0 b1 b2 b3 b4 b5 b6 b7 b8) else (tunnel_vxlan.j0 k true b0 b1 b2 b3 b4 b5 b6 b7 b8)) = some (r1, r2, r3) := H
 have A2 := As A20
 clear A20
 have HC3 := As H
 clear H
 go_enter Tryd.func82, Tryd.ntmps82
 go_upto_region 2 with (first | ((with_reducible refine gate_dst (N := 1) rfl ?_); refine box_event rfl (N := 1) rfl (cs := #[.bool b0, .int .u64 b1, .int .u64 b2, .bool b3, .int .u64 b4, .int .u64 b5, .int .i64 b6, .int .i64 b7, .string b8]) (t := 30) kG ?_; intro gb258 hg w4 hbox hb; have BK258 := As (hbox); have GW258 := As ((by rw [hg]; exact (below_size (kB HB.out)) : w.heap.size ≤ gb258)); have GE258 := As ((by rw [hg]; exact (below_size (kB HB.out)) : w.heap.size ≤ gb258)); replace HB := As (below_step (kB HB.out) hb); clear hb hbox hg; have hcz5_0 := cells_9 BK258.out; have hfz5_0 := fun j_ => blk_frozen BK258.out j_) | (go_at_call 109; (with_reducible refine (field_Get.calls k b8 2 2 t259 t260 _ A2.out).mono ?_); rintro e w6 ⟨rfl, hb⟩; replace BK258 := As (blk_below (kb BK258.out) hb); replace HB := As (below_step (kB1 HB.out GE258.out) hb); (try clear hb)))
 repeat (go_quiet (first | ((with_reducible refine gate_dst (N := 1) rfl ?_); refine box_event rfl (N := 1) rfl (cs := #[.bool b0, .int .u64 b1, .int .u64 b2, .bool b3, .int .u64 b4, .int .u64 b5, .int .i64 b6, .int .i64 b7, .string b8]) (t := 30) kG ?_; intro gb258 hg w4 hbox hb; have BK258 := As (hbox); have GW258 := As ((by rw [hg]; exact (below_size (kB HB.out)) : w.heap.size ≤ gb258)); have GE258 := As ((by rw [hg]; exact (below_size (kB HB.out)) : w.heap.size ≤ gb258)); replace HB := As (below_step (kB HB.out) hb); clear hb hbox hg; have hcz5_0 := cells_9 BK258.out; have hfz5_0 := fun j_ => blk_frozen BK258.out j_) | (go_at_call 109; (with_reducible refine (field_Get.calls k b8 2 2 t259 t260 _ A2.out).mono ?_); rintro e w6 ⟨rfl, hb⟩; replace BK258 := As (blk_below (kb BK258.out) hb); replace HB := As (below_step (kB1 HB.out GE258.out) hb); (try clear hb))); go_upto_region 2 with (first | ((with_reducible refine gate_dst (N := 1) rfl ?_); refine box_event rfl (N := 1) rfl (cs := #[.bool b0, .int .u64 b1, .int .u64 b2, .bool b3, .int .u64 b4, .int .u64 b5, .int .i64 b6, .int .i64 b7, .string b8]) (t := 30) kG ?_; intro gb258 hg w4 hbox hb; have BK258 := As (hbox); have GW258 := As ((by rw [hg]; exact (below_size (kB HB.out)) : w.heap.size ≤ gb258)); have GE258 := As ((by rw [hg]; exact (below_size (kB HB.out)) : w.heap.size ≤ gb258)); replace HB := As (below_step (kB HB.out) hb); clear hb hbox hg; have hcz5_0 := cells_9 BK258.out; have hfz5_0 := fun j_ => blk_frozen BK258.out j_) | (go_at_call 109; (with_reducible refine (field_Get.calls k b8 2 2 t259 t260 _ A2.out).mono ?_); rintro e w6 ⟨rfl, hb⟩; replace BK258 := As (blk_below (kb BK258.out) hb); replace HB := As (below_step (kB1 HB.out GE258.out) hb); (try clear hb))))
 (try simp only [Act.put, sA, sZ, sS])
 go_cut [20] (fun v20 wc => ∃ (kq : Nat) (x20_2 : Bool), v20 = .bool x20_2 ∧ Aside0 (tunnel_vxlan.j0 kq x20_2 b0 b1 b2 b3 b4 b5 b6 b7 b8 = some (r1, r2, r3)) ∧ Aside0 (kq ≤ k) ∧ Aside0 (wc.heap[gb258]? = some (.cells #[.bool b0, .int .u64 b1, .int .u64 b2, .bool b3, .int .u64 b4, .int .u64 b5, .int .i64 b6, .int .i64 b7, .string b8] 30 (0, 0))) ∧ Aside0 (Below w.heap.size w wc))
 case first =>
  have H := HC3.out
  clear HC3
  by_cases c7 : t260 = 0
  ·rw [if_pos c7] at H
   have c7b0 : (t260 == 0) = true := beq_iff_eq.mpr c7
   have c7b1 : (t260 != 0) = false := bne_eq_false_iff_eq.mpr c7
   clear c7
   (first | rw [c7b0] | (simp only [i64_w, i32_w]; rw [c7b0]) | skip)
   have H' := As H
   clear H
   go_wp2
   repeat (go_quiet (fail); try go_wp2)
   go_meet
   case rel => exact ⟨_, ((t259 != 4789)), kS, H', ⟨by first | omega | exact Nat.le_refl _⟩, ⟨kb BK258.out⟩, ⟨kB1 HB.out GE258.out⟩⟩
  rw [if_neg c7] at H
  have c7b0 : (t260 == 0) = false := beq_eq_false_iff_ne.mpr c7
  have c7b1 : (t260 != 0) = true := bne_iff_ne.mpr c7
  (first | rw [c7b0] | (simp only [i64_w, i32_w]; rw [c7b0]) | skip)
  have H' := As H
  clear H
  go_wp2
  repeat (go_quiet (fail); try go_wp2)
  go_meet
  case rel => exact ⟨_, (true), kS, H', ⟨by first | omega | exact Nat.le_refl _⟩, ⟨kb BK258.out⟩, ⟨kB1 HB.out GE258.out⟩⟩
 clear HC3
 try clear hcz5_0
 try clear hfz5_0
 obtain ⟨kq, x20_2, rfl, HA, HJ2, BK258, HB⟩ := hcut
 cases kq with
 | zero => exact absurd HA.out (by simp [tunnel_vxlan.j0])
 | succ kj2 =>
  have H := HA.out
  clear HA
  simp only [tunnel_vxlan.j0] at H
  by_cases c8 : x20_2 = true
  ·subst c8
   have H1 : (some (0, (⟨#[]⟩ : ByteArray), 0)) = some (r1, r2, r3) := by rw [if_pos rfl] at H; exact H
   clear H
   have H := H1
   clear H1
   simp only [Option.some.injEq, Prod.mk.injEq] at H
   obtain ⟨rfl, rfl, rfl⟩ := H
   go_wp2
   repeat (go_quiet (fail); try go_wp2)
   go_ret3
   exact ⟨kE, by exact kB1 HB.out GE258.out⟩
  replace c8 := Bool.eq_false_iff.mpr c8
  subst c8
  have H1 : ((udp_Decode.f kj2 b0 b1 b2 b3 b4 b5 b8).bind fun bt261 => (if bt261.2.2.2 = 0 then (if (bt261.2.2.1.size : Int) < 8 then (some (0, (⟨#[]⟩ : ByteArray), 1)) else (if 0 ≤ 4 then (if 4 ≤ (bt261.2.2.1.size : Int) then (if (bt261.2.2.1.extract 0 4).toList = ([8, 0, 0, 0] : List UInt8) then (if 7 < (bt261.2.2.1.size : Int) then (if (bt bt261.2.2.1 7) = 0 then (if 8 ≤ (bt261.2.2.1.size : Int) then (some (3, bt261.2.2.1.extract 8 bt261.2.2.1.size, 0)) else (none)) else (some (0, (⟨#[]⟩ : ByteArray), 2))) else (none)) else (some (0, (⟨#[]⟩ : ByteArray), 2))) else (none)) else (none))) else (some (0, (⟨#[]⟩ : ByteArray), bt261.2.2.2)))) = some (r1, r2, r3) := by rw [if_neg (show ¬ (false = true) by decide)] at H; exact H
  clear H
  have H := H1
  clear H1
  replace H := Option.bind_eq_some_iff.mp H
  obtain ⟨⟨t261, t262, t263, t264⟩, A90, H⟩ := H
  replace H : (if t264 = 0 then (if (t263.size : Int) < 8 then (some (0, (⟨#[]⟩ : ByteArray), 1)) else (if 0 ≤ 4 then (if 4 ≤ (t263.size : Int) then (if (t263.extract 0 4).toList = ([8, 0, 0, 0] : List UInt8) then (if 7 < (t263.size : Int) then (if (bt t263 7) = 0 then (if 8 ≤ (t263.size : Int) then (some (3, t263.extract 8 t263.size, 0)) else (none)) else (some (0, (⟨#[]⟩ : ByteArray), 2))) else (none)) else (some (0, (⟨#[]⟩ : ByteArray), 2))) else (none)) else (none))) else (some (0, (⟨#[]⟩ : ByteArray), t264))) = some (r1, r2, r3) := H
  have A9 := As A90
  clear A90
  by_cases c10 : t264 = 0
  ·rw [if_pos c10] at H
   have c10b0 : (t264 == 0) = true := beq_iff_eq.mpr c10
   have c10b1 : (t264 != 0) = false := bne_eq_false_iff_eq.mpr c10
   clear c10
   by_cases c11 : (t263.size : Int) < 8
   ·rw [if_pos c11] at H
    have c11b0 : decide ((t263.size : Int) < 8) = true := decide_eq_true c11
    have c11b1 : decide (t263.size < 8) = true := decide_eq_true (by omega)
    clear c11
    simp only [Option.some.injEq, Prod.mk.injEq] at H
    obtain ⟨rfl, rfl, rfl⟩ := H
    have hcz12_0 := cells_9 BK258.out
    have hfz12_0 := fun j_ => blk_frozen BK258.out j_
    go_wp2_with (first | (go_at_call 111; (with_reducible refine (udp_Decode.calls kj2 b0 b1 b2 b3 b4 b5 b8 t261 t262 t263 t264 _ ?side1 A9.out).mono ?_); (case side1 => exact laid_below HLD.out (kB1 HB.out GE258.out)); rintro e w13 ⟨rfl, hb⟩; replace BK258 := As (blk_below (kb BK258.out) hb); replace HB := As (below_step (kB1 HB.out GE258.out) hb); (try clear hb)) | ((with_reducible refine gate_dst (N := 7) rfl ?_); refine box_event rfl (N := 7) rfl (cs := #[.int .i64 0, .int .i64 0, .string (⟨#[]⟩ : ByteArray)]) (t := 85) kG ?_; intro gb265 hg w14 hbox hb; have BK265 := As (hbox); have GW265 := As ((by rw [hg]; exact (below_size (kB1 HB.out GE258.out)) : w.heap.size ≤ gb265)); have GE265 := As ((by rw [hg]; exact (below_size (kB1 HB.out GE258.out)) : w.heap.size ≤ gb265)); replace HB := As (below_step (kB1 HB.out GE258.out) hb); have NB258_265 := As ((by rw [hg]; exact Nat.ne_of_lt (blk_lt (kb BK258.out)) : gb258 ≠ gb265)); have NB265_258 := As ((by rw [hg]; exact Nat.ne_of_gt (blk_lt (kb BK258.out)) : gb265 ≠ gb258)); replace BK258 := As (blk_below (kb BK258.out) hb); clear hb hbox hg; have hnb15 := NB265_258.out; have hnc15 := NB258_265.out; have hcz16_0 := cells_3 BK265.out; have hfz16_0 := fun j_ => blk_frozen BK265.out j_))
    repeat (go_quiet (first | (go_at_call 111; (with_reducible refine (udp_Decode.calls kj2 b0 b1 b2 b3 b4 b5 b8 t261 t262 t263 t264 _ ?side1 A9.out).mono ?_); (case side1 => exact laid_below HLD.out (kB1 HB.out GE258.out)); rintro e w13 ⟨rfl, hb⟩; replace BK258 := As (blk_below (kb BK258.out) hb); replace HB := As (below_step (kB1 HB.out GE258.out) hb); (try clear hb)) | ((with_reducible refine gate_dst (N := 7) rfl ?_); refine box_event rfl (N := 7) rfl (cs := #[.int .i64 0, .int .i64 0, .string (⟨#[]⟩ : ByteArray)]) (t := 85) kG ?_; intro gb265 hg w14 hbox hb; have BK265 := As (hbox); have GW265 := As ((by rw [hg]; exact (below_size (kB1 HB.out GE258.out)) : w.heap.size ≤ gb265)); have GE265 := As ((by rw [hg]; exact (below_size (kB1 HB.out GE258.out)) : w.heap.size ≤ gb265)); replace HB := As (below_step (kB1 HB.out GE258.out) hb); have NB258_265 := As ((by rw [hg]; exact Nat.ne_of_lt (blk_lt (kb BK258.out)) : gb258 ≠ gb265)); have NB265_258 := As ((by rw [hg]; exact Nat.ne_of_gt (blk_lt (kb BK258.out)) : gb265 ≠ gb258)); replace BK258 := As (blk_below (kb BK258.out) hb); clear hb hbox hg; have hnb15 := NB265_258.out; have hnc15 := NB258_265.out; have hcz16_0 := cells_3 BK265.out; have hfz16_0 := fun j_ => blk_frozen BK265.out j_)); try go_wp2_with (first | (go_at_call 111; (with_reducible refine (udp_Decode.calls kj2 b0 b1 b2 b3 b4 b5 b8 t261 t262 t263 t264 _ ?side1 A9.out).mono ?_); (case side1 => exact laid_below HLD.out (kB1 HB.out GE258.out)); rintro e w13 ⟨rfl, hb⟩; replace BK258 := As (blk_below (kb BK258.out) hb); replace HB := As (below_step (kB1 HB.out GE258.out) hb); (try clear hb)) | ((with_reducible refine gate_dst (N := 7) rfl ?_); refine box_event rfl (N := 7) rfl (cs := #[.int .i64 0, .int .i64 0, .string (⟨#[]⟩ : ByteArray)]) (t := 85) kG ?_; intro gb265 hg w14 hbox hb; have BK265 := As (hbox); have GW265 := As ((by rw [hg]; exact (below_size (kB1 HB.out GE258.out)) : w.heap.size ≤ gb265)); have GE265 := As ((by rw [hg]; exact (below_size (kB1 HB.out GE258.out)) : w.heap.size ≤ gb265)); replace HB := As (below_step (kB1 HB.out GE258.out) hb); have NB258_265 := As ((by rw [hg]; exact Nat.ne_of_lt (blk_lt (kb BK258.out)) : gb258 ≠ gb265)); have NB265_258 := As ((by rw [hg]; exact Nat.ne_of_gt (blk_lt (kb BK258.out)) : gb265 ≠ gb258)); replace BK258 := As (blk_below (kb BK258.out) hb); clear hb hbox hg; have hnb15 := NB265_258.out; have hnc15 := NB258_265.out; have hcz16_0 := cells_3 BK265.out; have hfz16_0 := fun j_ => blk_frozen BK265.out j_)))
    go_ret3
    exact ⟨kE, by exact kB2 HB.out GE258.out GE265.out⟩
   rw [if_neg c11] at H
   have c11b0 : decide ((t263.size : Int) < 8) = false := decide_eq_false c11
   have c11b1 : decide (t263.size < 8) = false := decide_eq_false (by omega)
   clear c11
   by_cases c17 : 0 ≤ 4
   ·rw [if_pos c17] at H
    have c17b0 := eq_true c17
    have c17b1 : decide (0 ≤ 4) = true := decide_eq_true c17
    clear c17
    by_cases c18 : 4 ≤ (t263.size : Int)
    ·rw [if_pos c18] at H
     have c18b0 := eq_true c18
     have c18b1 : decide (4 ≤ (t263.size : Int)) = true := decide_eq_true c18
     clear c18
     by_cases c19 : (t263.extract 0 4).toList = ([8, 0, 0, 0] : List UInt8)
     ·rw [if_pos c19] at H
      have c19b0 : ((t263.extract 0 4).toList == ([8, 0, 0, 0] : List UInt8)) = true := beq_iff_eq.mpr c19
      have c19b1 : ((t263.extract 0 4).toList != ([8, 0, 0, 0] : List UInt8)) = false := bne_eq_false_iff_eq.mpr c19
      clear c19
      by_cases c20 : 7 < (t263.size : Int)
      ·rw [if_pos c20] at H
       have c20b0 : decide (7 < (t263.size : Int)) = true := decide_eq_true c20
       have c20b1 : decide (7 < t263.size) = true := decide_eq_true (by omega)
       clear c20
       by_cases c22 : (bt t263 7) = 0
       ·rw [if_pos c22] at H
        have c22b0 : ((bt t263 7) == 0) = true := beq_iff_eq.mpr c22
        have c22b1 : ((bt t263 7) != 0) = false := bne_eq_false_iff_eq.mpr c22
        clear c22
        by_cases c23 : 8 ≤ (t263.size : Int)
        ·rw [if_pos c23] at H
         have c23b0 := eq_true c23
         have c23b1 : decide (8 ≤ (t263.size : Int)) = true := decide_eq_true c23
         clear c23
         simp only [Option.some.injEq, Prod.mk.injEq] at H
         obtain ⟨rfl, rfl, rfl⟩ := H
         have hcz24_0 := cells_9 BK258.out
         have hfz24_0 := fun j_ => blk_frozen BK258.out j_
         go_wp2_with (first | (go_at_call 111; (with_reducible refine (udp_Decode.calls kj2 b0 b1 b2 b3 b4 b5 b8 t261 t262 t263 t264 _ ?side1 A9.out).mono ?_); (case side1 => exact laid_below HLD.out (kB1 HB.out GE258.out)); rintro e w25 ⟨rfl, hb⟩; replace BK258 := As (blk_below (kb BK258.out) hb); replace HB := As (below_step (kB1 HB.out GE258.out) hb); (try clear hb)) | ((with_reducible refine gate_dst (N := 7) rfl ?_); refine box_event rfl (N := 7) rfl (cs := #[.int .i64 0, .int .i64 0, .string (⟨#[]⟩ : ByteArray)]) (t := 85) kG ?_; intro gb265 hg w26 hbox hb; have BK265 := As (hbox); have GW265 := As ((by rw [hg]; exact (below_size (kB1 HB.out GE258.out)) : w.heap.size ≤ gb265)); have GE265 := As ((by rw [hg]; exact (below_size (kB1 HB.out GE258.out)) : w.heap.size ≤ gb265)); replace HB := As (below_step (kB1 HB.out GE258.out) hb); have NB258_265 := As ((by rw [hg]; exact Nat.ne_of_lt (blk_lt (kb BK258.out)) : gb258 ≠ gb265)); have NB265_258 := As ((by rw [hg]; exact Nat.ne_of_gt (blk_lt (kb BK258.out)) : gb265 ≠ gb258)); replace BK258 := As (blk_below (kb BK258.out) hb); clear hb hbox hg; have hnb27 := NB265_258.out; have hnc27 := NB258_265.out; have hcz28_0 := cells_3 BK265.out; have hfz28_0 := fun j_ => blk_frozen BK265.out j_; have p21 : 0 ≤ (7 : Int) := (by omega); have q21 : 7 < t263.size := (by have : (7 : Int) < (t263.size : Int) := of_decide_eq_true (by first | (with_reducible assumption) | assumption); omega); have hx21 : ∀ h : 7 < t263.size, ((t263[7]'h).toNat : Int) = bt t263 7 := bt_at t263 7; clear p21; have qi21 : (7 < (t263.size : Int)) = True := eq_true (of_decide_eq_true (by first | (with_reducible assumption) | assumption)); replace q21 := eq_true q21))
         repeat (go_quiet (first | (go_at_call 111; (with_reducible refine (udp_Decode.calls kj2 b0 b1 b2 b3 b4 b5 b8 t261 t262 t263 t264 _ ?side1 A9.out).mono ?_); (case side1 => exact laid_below HLD.out (kB1 HB.out GE258.out)); rintro e w25 ⟨rfl, hb⟩; replace BK258 := As (blk_below (kb BK258.out) hb); replace HB := As (below_step (kB1 HB.out GE258.out) hb); (try clear hb)) | ((with_reducible refine gate_dst (N := 7) rfl ?_); refine box_event rfl (N := 7) rfl (cs := #[.int .i64 0, .int .i64 0, .string (⟨#[]⟩ : ByteArray)]) (t := 85) kG ?_; intro gb265 hg w26 hbox hb; have BK265 := As (hbox); have GW265 := As ((by rw [hg]; exact (below_size (kB1 HB.out GE258.out)) : w.heap.size ≤ gb265)); have GE265 := As ((by rw [hg]; exact (below_size (kB1 HB.out GE258.out)) : w.heap.size ≤ gb265)); replace HB := As (below_step (kB1 HB.out GE258.out) hb); have NB258_265 := As ((by rw [hg]; exact Nat.ne_of_lt (blk_lt (kb BK258.out)) : gb258 ≠ gb265)); have NB265_258 := As ((by rw [hg]; exact Nat.ne_of_gt (blk_lt (kb BK258.out)) : gb265 ≠ gb258)); replace BK258 := As (blk_below (kb BK258.out) hb); clear hb hbox hg; have hnb27 := NB265_258.out; have hnc27 := NB258_265.out; have hcz28_0 := cells_3 BK265.out; have hfz28_0 := fun j_ => blk_frozen BK265.out j_; have p21 : 0 ≤ (7 : Int) := (by omega); have q21 : 7 < t263.size := (by have : (7 : Int) < (t263.size : Int) := of_decide_eq_true (by first | (with_reducible assumption) | assumption); omega); have hx21 : ∀ h : 7 < t263.size, ((t263[7]'h).toNat : Int) = bt t263 7 := bt_at t263 7; clear p21; have qi21 : (7 < (t263.size : Int)) = True := eq_true (of_decide_eq_true (by first | (with_reducible assumption) | assumption)); replace q21 := eq_true q21)); try go_wp2_with (first | (go_at_call 111; (with_reducible refine (udp_Decode.calls kj2 b0 b1 b2 b3 b4 b5 b8 t261 t262 t263 t264 _ ?side1 A9.out).mono ?_); (case side1 => exact laid_below HLD.out (kB1 HB.out GE258.out)); rintro e w25 ⟨rfl, hb⟩; replace BK258 := As (blk_below (kb BK258.out) hb); replace HB := As (below_step (kB1 HB.out GE258.out) hb); (try clear hb)) | ((with_reducible refine gate_dst (N := 7) rfl ?_); refine box_event rfl (N := 7) rfl (cs := #[.int .i64 0, .int .i64 0, .string (⟨#[]⟩ : ByteArray)]) (t := 85) kG ?_; intro gb265 hg w26 hbox hb; have BK265 := As (hbox); have GW265 := As ((by rw [hg]; exact (below_size (kB1 HB.out GE258.out)) : w.heap.size ≤ gb265)); have GE265 := As ((by rw [hg]; exact (below_size (kB1 HB.out GE258.out)) : w.heap.size ≤ gb265)); replace HB := As (below_step (kB1 HB.out GE258.out) hb); have NB258_265 := As ((by rw [hg]; exact Nat.ne_of_lt (blk_lt (kb BK258.out)) : gb258 ≠ gb265)); have NB265_258 := As ((by rw [hg]; exact Nat.ne_of_gt (blk_lt (kb BK258.out)) : gb265 ≠ gb258)); replace BK258 := As (blk_below (kb BK258.out) hb); clear hb hbox hg; have hnb27 := NB265_258.out; have hnc27 := NB258_265.out; have hcz28_0 := cells_3 BK265.out; have hfz28_0 := fun j_ => blk_frozen BK265.out j_; have p21 : 0 ≤ (7 : Int) := (by omega); have q21 : 7 < t263.size := (by have : (7 : Int) < (t263.size : Int) := of_decide_eq_true (by first | (with_reducible assumption) | assumption); omega); have hx21 : ∀ h : 7 < t263.size, ((t263[7]'h).toNat : Int) = bt t263 7 := bt_at t263 7; clear p21; have qi21 : (7 < (t263.size : Int)) = True := eq_true (of_decide_eq_true (by first | (with_reducible assumption) | assumption)); replace q21 := eq_true q21)))
         go_ret3
         exact ⟨kE, by exact kB2 HB.out GE258.out GE265.out⟩
        rw [if_neg c23] at H
        exact absurd H (by simp)
       rw [if_neg c22] at H
       have c22b0 : ((bt t263 7) == 0) = false := beq_eq_false_iff_ne.mpr c22
       have c22b1 : ((bt t263 7) != 0) = true := bne_iff_ne.mpr c22
       simp only [Option.some.injEq, Prod.mk.injEq] at H
       obtain ⟨rfl, rfl, rfl⟩ := H
       have hcz29_0 := cells_9 BK258.out
       have hfz29_0 := fun j_ => blk_frozen BK258.out j_
       go_wp2_with (first | (go_at_call 111; (with_reducible refine (udp_Decode.calls kj2 b0 b1 b2 b3 b4 b5 b8 t261 t262 t263 t264 _ ?side1 A9.out).mono ?_); (case side1 => exact laid_below HLD.out (kB1 HB.out GE258.out)); rintro e w30 ⟨rfl, hb⟩; replace BK258 := As (blk_below (kb BK258.out) hb); replace HB := As (below_step (kB1 HB.out GE258.out) hb); (try clear hb)) | ((with_reducible refine gate_dst (N := 7) rfl ?_); refine box_event rfl (N := 7) rfl (cs := #[.int .i64 0, .int .i64 0, .string (⟨#[]⟩ : ByteArray)]) (t := 85) kG ?_; intro gb265 hg w31 hbox hb; have BK265 := As (hbox); have GW265 := As ((by rw [hg]; exact (below_size (kB1 HB.out GE258.out)) : w.heap.size ≤ gb265)); have GE265 := As ((by rw [hg]; exact (below_size (kB1 HB.out GE258.out)) : w.heap.size ≤ gb265)); replace HB := As (below_step (kB1 HB.out GE258.out) hb); have NB258_265 := As ((by rw [hg]; exact Nat.ne_of_lt (blk_lt (kb BK258.out)) : gb258 ≠ gb265)); have NB265_258 := As ((by rw [hg]; exact Nat.ne_of_gt (blk_lt (kb BK258.out)) : gb265 ≠ gb258)); replace BK258 := As (blk_below (kb BK258.out) hb); clear hb hbox hg; have hnb32 := NB265_258.out; have hnc32 := NB258_265.out; have hcz33_0 := cells_3 BK265.out; have hfz33_0 := fun j_ => blk_frozen BK265.out j_; have p21 : 0 ≤ (7 : Int) := (by omega); have q21 : 7 < t263.size := (by have : (7 : Int) < (t263.size : Int) := of_decide_eq_true (by first | (with_reducible assumption) | assumption); omega); have hx21 : ∀ h : 7 < t263.size, ((t263[7]'h).toNat : Int) = bt t263 7 := bt_at t263 7; clear p21; have qi21 : (7 < (t263.size : Int)) = True := eq_true (of_decide_eq_true (by first | (with_reducible assumption) | assumption)); replace q21 := eq_true q21))
       repeat (go_quiet (first | (go_at_call 111; (with_reducible refine (udp_Decode.calls kj2 b0 b1 b2 b3 b4 b5 b8 t261 t262 t263 t264 _ ?side1 A9.out).mono ?_); (case side1 => exact laid_below HLD.out (kB1 HB.out GE258.out)); rintro e w30 ⟨rfl, hb⟩; replace BK258 := As (blk_below (kb BK258.out) hb); replace HB := As (below_step (kB1 HB.out GE258.out) hb); (try clear hb)) | ((with_reducible refine gate_dst (N := 7) rfl ?_); refine box_event rfl (N := 7) rfl (cs := #[.int .i64 0, .int .i64 0, .string (⟨#[]⟩ : ByteArray)]) (t := 85) kG ?_; intro gb265 hg w31 hbox hb; have BK265 := As (hbox); have GW265 := As ((by rw [hg]; exact (below_size (kB1 HB.out GE258.out)) : w.heap.size ≤ gb265)); have GE265 := As ((by rw [hg]; exact (below_size (kB1 HB.out GE258.out)) : w.heap.size ≤ gb265)); replace HB := As (below_step (kB1 HB.out GE258.out) hb); have NB258_265 := As ((by rw [hg]; exact Nat.ne_of_lt (blk_lt (kb BK258.out)) : gb258 ≠ gb265)); have NB265_258 := As ((by rw [hg]; exact Nat.ne_of_gt (blk_lt (kb BK258.out)) : gb265 ≠ gb258)); replace BK258 := As (blk_below (kb BK258.out) hb); clear hb hbox hg; have hnb32 := NB265_258.out; have hnc32 := NB258_265.out; have hcz33_0 := cells_3 BK265.out; have hfz33_0 := fun j_ => blk_frozen BK265.out j_; have p21 : 0 ≤ (7 : Int) := (by omega); have q21 : 7 < t263.size := (by have : (7 : Int) < (t263.size : Int) := of_decide_eq_true (by first | (with_reducible assumption) | assumption); omega); have hx21 : ∀ h : 7 < t263.size, ((t263[7]'h).toNat : Int) = bt t263 7 := bt_at t263 7; clear p21; have qi21 : (7 < (t263.size : Int)) = True := eq_true (of_decide_eq_true (by first | (with_reducible assumption) | assumption)); replace q21 := eq_true q21)); try go_wp2_with (first | (go_at_call 111; (with_reducible refine (udp_Decode.calls kj2 b0 b1 b2 b3 b4 b5 b8 t261 t262 t263 t264 _ ?side1 A9.out).mono ?_); (case side1 => exact laid_below HLD.out (kB1 HB.out GE258.out)); rintro e w30 ⟨rfl, hb⟩; replace BK258 := As (blk_below (kb BK258.out) hb); replace HB := As (below_step (kB1 HB.out GE258.out) hb); (try clear hb)) | ((with_reducible refine gate_dst (N := 7) rfl ?_); refine box_event rfl (N := 7) rfl (cs := #[.int .i64 0, .int .i64 0, .string (⟨#[]⟩ : ByteArray)]) (t := 85) kG ?_; intro gb265 hg w31 hbox hb; have BK265 := As (hbox); have GW265 := As ((by rw [hg]; exact (below_size (kB1 HB.out GE258.out)) : w.heap.size ≤ gb265)); have GE265 := As ((by rw [hg]; exact (below_size (kB1 HB.out GE258.out)) : w.heap.size ≤ gb265)); replace HB := As (below_step (kB1 HB.out GE258.out) hb); have NB258_265 := As ((by rw [hg]; exact Nat.ne_of_lt (blk_lt (kb BK258.out)) : gb258 ≠ gb265)); have NB265_258 := As ((by rw [hg]; exact Nat.ne_of_gt (blk_lt (kb BK258.out)) : gb265 ≠ gb258)); replace BK258 := As (blk_below (kb BK258.out) hb); clear hb hbox hg; have hnb32 := NB265_258.out; have hnc32 := NB258_265.out; have hcz33_0 := cells_3 BK265.out; have hfz33_0 := fun j_ => blk_frozen BK265.out j_; have p21 : 0 ≤ (7 : Int) := (by omega); have q21 : 7 < t263.size := (by have : (7 : Int) < (t263.size : Int) := of_decide_eq_true (by first | (with_reducible assumption) | assumption); omega); have hx21 : ∀ h : 7 < t263.size, ((t263[7]'h).toNat : Int) = bt t263 7 := bt_at t263 7; clear p21; have qi21 : (7 < (t263.size : Int)) = True := eq_true (of_decide_eq_true (by first | (with_reducible assumption) | assumption)); replace q21 := eq_true q21)))
       go_ret3
       exact ⟨kE, by exact kB2 HB.out GE258.out GE265.out⟩
      rw [if_neg c20] at H
      exact absurd H (by simp)
     rw [if_neg c19] at H
     have c19b0 : ((t263.extract 0 4).toList == ([8, 0, 0, 0] : List UInt8)) = false := beq_eq_false_iff_ne.mpr c19
     have c19b1 : ((t263.extract 0 4).toList != ([8, 0, 0, 0] : List UInt8)) = true := bne_iff_ne.mpr c19
     simp only [Option.some.injEq, Prod.mk.injEq] at H
     obtain ⟨rfl, rfl, rfl⟩ := H
     have hcz34_0 := cells_9 BK258.out
     have hfz34_0 := fun j_ => blk_frozen BK258.out j_
     go_wp2_with (first | (go_at_call 111; (with_reducible refine (udp_Decode.calls kj2 b0 b1 b2 b3 b4 b5 b8 t261 t262 t263 t264 _ ?side1 A9.out).mono ?_); (case side1 => exact laid_below HLD.out (kB1 HB.out GE258.out)); rintro e w35 ⟨rfl, hb⟩; replace BK258 := As (blk_below (kb BK258.out) hb); replace HB := As (below_step (kB1 HB.out GE258.out) hb); (try clear hb)) | ((with_reducible refine gate_dst (N := 7) rfl ?_); refine box_event rfl (N := 7) rfl (cs := #[.int .i64 0, .int .i64 0, .string (⟨#[]⟩ : ByteArray)]) (t := 85) kG ?_; intro gb265 hg w36 hbox hb; have BK265 := As (hbox); have GW265 := As ((by rw [hg]; exact (below_size (kB1 HB.out GE258.out)) : w.heap.size ≤ gb265)); have GE265 := As ((by rw [hg]; exact (below_size (kB1 HB.out GE258.out)) : w.heap.size ≤ gb265)); replace HB := As (below_step (kB1 HB.out GE258.out) hb); have NB258_265 := As ((by rw [hg]; exact Nat.ne_of_lt (blk_lt (kb BK258.out)) : gb258 ≠ gb265)); have NB265_258 := As ((by rw [hg]; exact Nat.ne_of_gt (blk_lt (kb BK258.out)) : gb265 ≠ gb258)); replace BK258 := As (blk_below (kb BK258.out) hb); clear hb hbox hg; have hnb37 := NB265_258.out; have hnc37 := NB258_265.out; have hcz38_0 := cells_3 BK265.out; have hfz38_0 := fun j_ => blk_frozen BK265.out j_))
     repeat (go_quiet (first | (go_at_call 111; (with_reducible refine (udp_Decode.calls kj2 b0 b1 b2 b3 b4 b5 b8 t261 t262 t263 t264 _ ?side1 A9.out).mono ?_); (case side1 => exact laid_below HLD.out (kB1 HB.out GE258.out)); rintro e w35 ⟨rfl, hb⟩; replace BK258 := As (blk_below (kb BK258.out) hb); replace HB := As (below_step (kB1 HB.out GE258.out) hb); (try clear hb)) | ((with_reducible refine gate_dst (N := 7) rfl ?_); refine box_event rfl (N := 7) rfl (cs := #[.int .i64 0, .int .i64 0, .string (⟨#[]⟩ : ByteArray)]) (t := 85) kG ?_; intro gb265 hg w36 hbox hb; have BK265 := As (hbox); have GW265 := As ((by rw [hg]; exact (below_size (kB1 HB.out GE258.out)) : w.heap.size ≤ gb265)); have GE265 := As ((by rw [hg]; exact (below_size (kB1 HB.out GE258.out)) : w.heap.size ≤ gb265)); replace HB := As (below_step (kB1 HB.out GE258.out) hb); have NB258_265 := As ((by rw [hg]; exact Nat.ne_of_lt (blk_lt (kb BK258.out)) : gb258 ≠ gb265)); have NB265_258 := As ((by rw [hg]; exact Nat.ne_of_gt (blk_lt (kb BK258.out)) : gb265 ≠ gb258)); replace BK258 := As (blk_below (kb BK258.out) hb); clear hb hbox hg; have hnb37 := NB265_258.out; have hnc37 := NB258_265.out; have hcz38_0 := cells_3 BK265.out; have hfz38_0 := fun j_ => blk_frozen BK265.out j_)); try go_wp2_with (first | (go_at_call 111; (with_reducible refine (udp_Decode.calls kj2 b0 b1 b2 b3 b4 b5 b8 t261 t262 t263 t264 _ ?side1 A9.out).mono ?_); (case side1 => exact laid_below HLD.out (kB1 HB.out GE258.out)); rintro e w35 ⟨rfl, hb⟩; replace BK258 := As (blk_below (kb BK258.out) hb); replace HB := As (below_step (kB1 HB.out GE258.out) hb); (try clear hb)) | ((with_reducible refine gate_dst (N := 7) rfl ?_); refine box_event rfl (N := 7) rfl (cs := #[.int .i64 0, .int .i64 0, .string (⟨#[]⟩ : ByteArray)]) (t := 85) kG ?_; intro gb265 hg w36 hbox hb; have BK265 := As (hbox); have GW265 := As ((by rw [hg]; exact (below_size (kB1 HB.out GE258.out)) : w.heap.size ≤ gb265)); have GE265 := As ((by rw [hg]; exact (below_size (kB1 HB.out GE258.out)) : w.heap.size ≤ gb265)); replace HB := As (below_step (kB1 HB.out GE258.out) hb); have NB258_265 := As ((by rw [hg]; exact Nat.ne_of_lt (blk_lt (kb BK258.out)) : gb258 ≠ gb265)); have NB265_258 := As ((by rw [hg]; exact Nat.ne_of_gt (blk_lt (kb BK258.out)) : gb265 ≠ gb258)); replace BK258 := As (blk_below (kb BK258.out) hb); clear hb hbox hg; have hnb37 := NB265_258.out; have hnc37 := NB258_265.out; have hcz38_0 := cells_3 BK265.out; have hfz38_0 := fun j_ => blk_frozen BK265.out j_)))
     go_ret3
     exact ⟨kE, by exact kB2 HB.out GE258.out GE265.out⟩
    rw [if_neg c18] at H
    exact absurd H (by simp)
   rw [if_neg c17] at H
   exact absurd H (by simp)
  rw [if_neg c10] at H
  have c10b0 : (t264 == 0) = false := beq_eq_false_iff_ne.mpr c10
  have c10b1 : (t264 != 0) = true := bne_iff_ne.mpr c10
  simp only [Option.some.injEq, Prod.mk.injEq] at H
  obtain ⟨rfl, rfl, rfl⟩ := H
  have hcz39_0 := cells_9 BK258.out
  have hfz39_0 := fun j_ => blk_frozen BK258.out j_
  go_wp2_with (first | (go_at_call 111; (with_reducible refine (udp_Decode.calls kj2 b0 b1 b2 b3 b4 b5 b8 t261 t262 t263 t264 _ ?side1 A9.out).mono ?_); (case side1 => exact laid_below HLD.out (kB1 HB.out GE258.out)); rintro e w40 ⟨rfl, hb⟩; replace BK258 := As (blk_below (kb BK258.out) hb); replace HB := As (below_step (kB1 HB.out GE258.out) hb); (try clear hb)) | ((with_reducible refine gate_dst (N := 7) rfl ?_); refine box_event rfl (N := 7) rfl (cs := #[.int .i64 0, .int .i64 0, .string (⟨#[]⟩ : ByteArray)]) (t := 85) kG ?_; intro gb265 hg w41 hbox hb; have BK265 := As (hbox); have GW265 := As ((by rw [hg]; exact (below_size (kB1 HB.out GE258.out)) : w.heap.size ≤ gb265)); have GE265 := As ((by rw [hg]; exact (below_size (kB1 HB.out GE258.out)) : w.heap.size ≤ gb265)); replace HB := As (below_step (kB1 HB.out GE258.out) hb); have NB258_265 := As ((by rw [hg]; exact Nat.ne_of_lt (blk_lt (kb BK258.out)) : gb258 ≠ gb265)); have NB265_258 := As ((by rw [hg]; exact Nat.ne_of_gt (blk_lt (kb BK258.out)) : gb265 ≠ gb258)); replace BK258 := As (blk_below (kb BK258.out) hb); clear hb hbox hg; have hnb42 := NB265_258.out; have hnc42 := NB258_265.out; have hcz43_0 := cells_3 BK265.out; have hfz43_0 := fun j_ => blk_frozen BK265.out j_))
  repeat (go_quiet (first | (go_at_call 111; (with_reducible refine (udp_Decode.calls kj2 b0 b1 b2 b3 b4 b5 b8 t261 t262 t263 t264 _ ?side1 A9.out).mono ?_); (case side1 => exact laid_below HLD.out (kB1 HB.out GE258.out)); rintro e w40 ⟨rfl, hb⟩; replace BK258 := As (blk_below (kb BK258.out) hb); replace HB := As (below_step (kB1 HB.out GE258.out) hb); (try clear hb)) | ((with_reducible refine gate_dst (N := 7) rfl ?_); refine box_event rfl (N := 7) rfl (cs := #[.int .i64 0, .int .i64 0, .string (⟨#[]⟩ : ByteArray)]) (t := 85) kG ?_; intro gb265 hg w41 hbox hb; have BK265 := As (hbox); have GW265 := As ((by rw [hg]; exact (below_size (kB1 HB.out GE258.out)) : w.heap.size ≤ gb265)); have GE265 := As ((by rw [hg]; exact (below_size (kB1 HB.out GE258.out)) : w.heap.size ≤ gb265)); replace HB := As (below_step (kB1 HB.out GE258.out) hb); have NB258_265 := As ((by rw [hg]; exact Nat.ne_of_lt (blk_lt (kb BK258.out)) : gb258 ≠ gb265)); have NB265_258 := As ((by rw [hg]; exact Nat.ne_of_gt (blk_lt (kb BK258.out)) : gb265 ≠ gb258)); replace BK258 := As (blk_below (kb BK258.out) hb); clear hb hbox hg; have hnb42 := NB265_258.out; have hnc42 := NB258_265.out; have hcz43_0 := cells_3 BK265.out; have hfz43_0 := fun j_ => blk_frozen BK265.out j_)); try go_wp2_with (first | (go_at_call 111; (with_reducible refine (udp_Decode.calls kj2 b0 b1 b2 b3 b4 b5 b8 t261 t262 t263 t264 _ ?side1 A9.out).mono ?_); (case side1 => exact laid_below HLD.out (kB1 HB.out GE258.out)); rintro e w40 ⟨rfl, hb⟩; replace BK258 := As (blk_below (kb BK258.out) hb); replace HB := As (below_step (kB1 HB.out GE258.out) hb); (try clear hb)) | ((with_reducible refine gate_dst (N := 7) rfl ?_); refine box_event rfl (N := 7) rfl (cs := #[.int .i64 0, .int .i64 0, .string (⟨#[]⟩ : ByteArray)]) (t := 85) kG ?_; intro gb265 hg w41 hbox hb; have BK265 := As (hbox); have GW265 := As ((by rw [hg]; exact (below_size (kB1 HB.out GE258.out)) : w.heap.size ≤ gb265)); have GE265 := As ((by rw [hg]; exact (below_size (kB1 HB.out GE258.out)) : w.heap.size ≤ gb265)); replace HB := As (below_step (kB1 HB.out GE258.out) hb); have NB258_265 := As ((by rw [hg]; exact Nat.ne_of_lt (blk_lt (kb BK258.out)) : gb258 ≠ gb265)); have NB265_258 := As ((by rw [hg]; exact Nat.ne_of_gt (blk_lt (kb BK258.out)) : gb265 ≠ gb258)); replace BK258 := As (blk_below (kb BK258.out) hb); clear hb hbox hg; have hnb42 := NB265_258.out; have hnc42 := NB258_265.out; have hcz43_0 := cells_3 BK265.out; have hfz43_0 := fun j_ => blk_frozen BK265.out j_)))
  go_ret3
  exact ⟨kE, by exact kB2 HB.out GE258.out GE265.out⟩

/-! ### tunnel_Inner: function 18 -/
theorem push5 (h : Array Obj) (a b c d e : Obj) : (((((h.push a).push b).push c).push d).push e)[h.size]? = some a ∧ (((((h.push a).push b).push c).push d).push e)[h.size + 1]? = some b ∧ (((((h.push a).push b).push c).push d).push e)[h.size + 2]? = some c ∧
    (((((h.push a).push b).push c).push d).push e)[h.size + 3]? = some d ∧ (((((h.push a).push b).push c).push d).push e)[h.size + 4]? = some e := by
  refine ⟨?_, ?_, ?_, ?_, ?_⟩
  all_goals simp only [Array.getElem?_push, Array.size_push]
  all_goals repeat' split
  all_goals first | rfl | omega | exact absurd trivial (by assumption)
theorem run_func (fn : Fn) (first cap : Array Value) (w : World) : (Instr.makeFunc fn first cap).run Tryd.prog w = .ok (.func fn first cap) w := rfl
def waysRow (g : Nat) : Array Value := #[.int .i64 4, .func (.func 110) #[] #[.pointer (some ⟨g, 0, none⟩), .pointer (some ⟨g + 1, 0, none⟩)], .int .i64 41, .func (.func 110) #[] #[.pointer (some ⟨g + 2, 0, none⟩), .pointer (some ⟨g + 3, 0, none⟩)], .int .i64 47, .func (.func 81) #[] #[], .int .i64 17, .func (.func 82) #[] #[]]
/-- The rows that Inner reads: its argument's, and the tunnels'. -/
def InnerRows (b g : Nat) (D : Array Value) (W : World) : Prop := W.heap[b]? = some (.cells D 30 (0, 0)) ∧ W.heap[g]? = some (.cells #[.int .u8 4] 5 (0, 0)) ∧ W.heap[g + 1]? = some (.cells #[.int .i64 1] 3 (0, 0)) ∧ W.heap[g + 2]? = some (.cells #[.int .u8 6] 5 (0, 0)) ∧ W.heap[g + 3]? = some (.cells #[.int .i64 2] 3 (0, 0)) ∧ W.heap[g + 4]? = some (.cells (waysRow g) 76 (0, 0))
theorem InnerRows.below {b g : Nat} {D : Array Value} {w W : World} (h : InnerRows b g D w) (hb : Below w.heap.size w W) : InnerRows b g D W := ⟨blk_below h.1 hb, blk_below h.2.1 hb, blk_below h.2.2.1 hb, blk_below h.2.2.2.1 hb, blk_below h.2.2.2.2.1 hb, blk_below h.2.2.2.2.2 hb⟩
theorem past_cell {W : World} {a : Go.Addr} {v : Value} (h : W.cell? a = some v) (o : Obj) : (W.alloc o).cell? a = some v := ((below_alloc (Below.refl _ _) o).cell (World.block_lt_of_cell? W a h)).trans h
set_option maxHeartbeats 4000000 in
set_option maxRecDepth 100000 in
theorem ways_any (w : World) : Calls Tryd.prog 43 #[] w fun e w' => ∃ g, e = .returned (.slice (some ⟨g + 4, 0, none⟩) 4 4) ∧ Below w.heap.size w w' ∧
    w'.heap[g]? = some (.cells #[.int .u8 4] 5 (0, 0)) ∧ w'.heap[g + 1]? = some (.cells #[.int .i64 1] 3 (0, 0)) ∧ w'.heap[g + 2]? = some (.cells #[.int .u8 6] 5 (0, 0)) ∧ w'.heap[g + 3]? = some (.cells #[.int .i64 2] 3 (0, 0)) ∧
    w'.heap[g + 4]? = some (.cells (waysRow g) 76 (0, 0)) := by
  have hmf := run_func
  go_enter Tryd.func43, Tryd.ntmps43
  go_wp2
  go_ret
  have h5 := push5 w.heap (.cells #[.int .u8 4] 5) (.cells #[.int .i64 1] 3) (.cells #[.int .u8 6] 5) (.cells #[.int .i64 2] 3) (.cells (waysRow w.heap.size) 76)
  exact ⟨w.heap.size, rfl, below_alloc (below_alloc (below_alloc (below_alloc (below_alloc (Below.refl _ _) _) _) _) _) _, h5.1, h5.2.1, h5.2.2.1, h5.2.2.2.1, h5.2.2.2.2⟩
def plO (v kind : Int) (s : ByteArray) : Option (Int × ByteArray × Int) := if s.toList = ([] : List UInt8) then some (0, (⟨#[]⟩ : ByteArray), 1) else if 0 < (s.size : Int) then (if bt s 0 / 16 = v then some (kind, s, 0) else some (0, (⟨#[]⟩ : ByteArray), 2)) else none
set_option maxHeartbeats 4000000 in
set_option maxRecDepth 100000 in
theorem plain_any (b0 : Bool) (b1 : Int) (b2 : Int) (b3 : Bool) (b4 : Int) (b5 : Int) (b6 : Int) (b7 : Int) (b8 : ByteArray) (v kind : Int) (g h : Nat) (r1 : Int) (r2 : ByteArray) (r3 : Int) (w : World) (hf : plO v kind b8 = some (r1, r2, r3)) (hg : w.heap[g]? = some (.cells #[.int .u8 v] 5 (0, 0))) (hh : w.heap[h]? = some (.cells #[.int .i64 kind] 3 (0, 0))) :
    Calls Tryd.prog 110 #[.agg #[.bool b0, .int .u64 b1, .int .u64 b2, .bool b3, .int .u64 b4, .int .u64 b5, .int .i64 b6, .int .i64 b7, .string b8], .pointer (some ⟨g, 0, none⟩), .pointer (some ⟨h, 0, none⟩)] w fun e w' => e = .returned (.tuple #[.int .i64 r1, .string r2, .int .i64 r3]) ∧ Below w.heap.size w w' := by
  have hu30 := Tryd.underlying30
  have G1 : ∀ o, (w.alloc o).cell? ⟨g, 0, none⟩ = some (.int .u8 v) := past_cell ((blk_cell hg 0).trans rfl)
  have H1 : ∀ o, (w.alloc o).cell? ⟨h, 0, none⟩ = some (.int .i64 kind) := past_cell ((blk_cell hh 0).trans rfl)
  clear hg hh
  unfold plO at hf
  by_cases c4 : b8.toList = ([] : List UInt8)
  · rw [if_pos c4] at hf
    have c4b0 : (b8.toList == ([] : List UInt8)) = true := beq_iff_eq.mpr c4
    have c4b1 : (b8.toList != ([] : List UInt8)) = false := bne_eq_false_iff_eq.mpr c4
    simp only [Option.some.injEq, Prod.mk.injEq] at hf
    obtain ⟨rfl, rfl, rfl⟩ := hf
    clear c4
    go_enter Tryd.func110, Tryd.ntmps110
    go_wp2
    go_ret3
    exact ⟨rfl, below_alloc (Below.refl _ _) _⟩
  rw [if_neg c4] at hf
  have c4b0 : (b8.toList == ([] : List UInt8)) = false := beq_eq_false_iff_ne.mpr c4
  have c4b1 : (b8.toList != ([] : List UInt8)) = true := bne_iff_ne.mpr c4
  by_cases hp : 0 < (b8.size : Int)
  · rw [if_pos hp] at hf
    have qz : 0 < b8.size := by omega
    have hx6 : ∀ h : 0 < b8.size, ((b8[0]'h).toNat : Int) = bt b8 0 := bt_at b8 0
    have qi6 : (0 < (b8.size : Int)) = True := eq_true hp
    have q6 := eq_true qz
    by_cases c7 : bt b8 0 / 16 = v
    · rw [if_pos c7] at hf
      have c7b0 : (bt b8 0 / 16 == v) = true := beq_iff_eq.mpr c7
      have c7b1 : (bt b8 0 / 16 != v) = false := bne_eq_false_iff_eq.mpr c7
      simp only [Option.some.injEq, Prod.mk.injEq] at hf
      obtain ⟨rfl, rfl, rfl⟩ := hf
      clear c4 c7 hp qz
      go_enter Tryd.func110, Tryd.ntmps110
      go_wp2
      go_region
      all_goals (try go_wp2)
      all_goals go_region
      all_goals (try go_wp2)
      all_goals go_ret3
      all_goals exact ⟨rfl, below_drew1 (below_drew1 (below_alloc (Below.refl _ _) _))⟩
    rw [if_neg c7] at hf
    have c7b0 : (bt b8 0 / 16 == v) = false := beq_eq_false_iff_ne.mpr c7
    have c7b1 : (bt b8 0 / 16 != v) = true := bne_iff_ne.mpr c7
    simp only [Option.some.injEq, Prod.mk.injEq] at hf
    obtain ⟨rfl, rfl, rfl⟩ := hf
    clear c4 c7 hp qz
    go_enter Tryd.func110, Tryd.ntmps110
    go_wp2
    go_region
    all_goals (try go_wp2)
    all_goals go_ret3
    all_goals exact ⟨rfl, below_drew1 (below_alloc (Below.refl _ _) _)⟩
  rw [if_neg hp] at hf
  cases hf
def tunnel_Inner.f (k : Nat) (b0 : Bool) (b1 : Int) (b2 : Int) (b3 : Bool) (b4 : Int) (b5 : Int) (b6 : Int) (b7 : Int) (b8 : ByteArray) : Option (Int × ByteArray × Int) := if 4 = b6 then plO 4 1 b8 else if 41 = b6 then plO 6 2 b8 else if 47 = b6 then tunnel_gre.f k b0 b1 b2 b3 b4 b5 b6 b7 b8 else if 17 = b6 then tunnel_vxlan.f k b0 b1 b2 b3 b4 b5 b6 b7 b8 else some (0, (⟨#[]⟩ : ByteArray), 0)
theorem tunnel_Inner.mono : ∀ b0 b1 b2 b3 b4 b5 b6 b7 b8 k, LeO (tunnel_Inner.f k b0 b1 b2 b3 b4 b5 b6 b7 b8) (tunnel_Inner.f (k + 1) b0 b1 b2 b3 b4 b5 b6 b7 b8) := by
  intro b0 b1 b2 b3 b4 b5 b6 b7 b8 k
  unfold tunnel_Inner.f
  exact LeO.ite (LeO.refl _) (LeO.ite (LeO.refl _) (LeO.ite (tunnel_gre.mono b0 b1 b2 b3 b4 b5 b6 b7 b8 k) (LeO.ite (tunnel_vxlan.mono b0 b1 b2 b3 b4 b5 b6 b7 b8 k) (LeO.refl _))))
set_option maxHeartbeats 8000000 in
set_option maxRecDepth 100000 in
theorem tunnel_Inner.calls (k : Nat) (b0 : Bool) (b1 : Int) (b2 : Int) (b3 : Bool) (b4 : Int) (b5 : Int) (b6 : Int) (b7 : Int) (b8 : ByteArray) (r1 : Int) (r2 : ByteArray) (r3 : Int) (w : World) (hLd : Laid w) (h : tunnel_Inner.f k b0 b1 b2 b3 b4 b5 b6 b7 b8 = some (r1, r2, r3)) :
    Calls Tryd.prog 18 #[.agg #[.bool b0, .int .u64 b1, .int .u64 b2, .bool b3, .int .u64 b4, .int .u64 b5, .int .i64 b6, .int .i64 b7, .string b8]] w fun e w' => e = .returned (.tuple #[.int .i64 r1, .string r2, .int .i64 r3]) ∧ Below w.heap.size w w' := by
  have hu30 := Tryd.underlying30
  have H := As h
  have HLD := As hLd
  clear h hLd
  have HB := As (Below.refl w.heap.size w)
  unfold tunnel_Inner.f at H
  go_enter Tryd.func18, Tryd.ntmps18
  go_wp2_with (first | ((with_reducible refine gate_dst (N := 1) rfl ?_); refine box_event rfl (N := 1) rfl (cs := #[.bool b0, .int .u64 b1, .int .u64 b2, .bool b3, .int .u64 b4, .int .u64 b5, .int .i64 b6, .int .i64 b7, .string b8]) (t := 30) kG ?_; intro b hgb w0 hbox hb0; have HB0 := As (below_step HB.out hb0); have BK := As hbox; have GE := As (show w.heap.size ≤ b by rw [hgb]; exact Nat.le_refl _); clear hgb hb0 hbox) | (go_at_call 43; refine (ways_any _).mono ?_; rintro e w1 ⟨g, rfl, hb, k0, k1, k2, k3, k4⟩; have HB1 := As (below_step HB0.out hb); have HR := As (show InnerRows b g #[.bool b0, .int .u64 b1, .int .u64 b2, .bool b3, .int .u64 b4, .int .u64 b5, .int .i64 b6, .int .i64 b7, .string b8] w1 from ⟨blk_below BK.out hb, k0, k1, k2, k3, k4⟩); clear hb k0 k1 k2 k3 k4))
  clear HB HB0 BK
  go_loopg [9] 4 (fun kq v9 w' => ∃ i : Int, v9 = .int .i64 i ∧ Aside0 (0 ≤ i ∧ i + kq = 4) ∧ Aside0 ((0 < i → (4 : Int) ≠ b6) ∧ (1 < i → (41 : Int) ≠ b6) ∧ (2 < i → (47 : Int) ≠ b6) ∧ (3 < i → (17 : Int) ≠ b6)) ∧ Aside0 (InnerRows b g #[.bool b0, .int .u64 b1, .int .u64 b2, .bool b3, .int .u64 b4, .int .u64 b5, .int .i64 b6, .int .i64 b7, .string b8] w') ∧ Aside0 (Below w.heap.size w w'))
  case atStart => exact ⟨0, rfl, ⟨by omega⟩, ⟨by omega, by omega, by omega, by omega⟩, HR, HB1⟩
  clear HB1 HR
  obtain ⟨i, rfl, HK, HN, HR, HB⟩ := hrel
  have D0 : ∀ o, (wr.alloc o).cell? ⟨b, 0, none⟩ = some (.bool b0) := past_cell ((blk_cell HR.out.1 0).trans rfl)
  have D1 : ∀ o, (wr.alloc o).cell? ⟨b, 1, none⟩ = some (.int .u64 b1) := past_cell ((blk_cell HR.out.1 1).trans rfl)
  have D2 : ∀ o, (wr.alloc o).cell? ⟨b, 2, none⟩ = some (.int .u64 b2) := past_cell ((blk_cell HR.out.1 2).trans rfl)
  have D3 : ∀ o, (wr.alloc o).cell? ⟨b, 3, none⟩ = some (.bool b3) := past_cell ((blk_cell HR.out.1 3).trans rfl)
  have D4 : ∀ o, (wr.alloc o).cell? ⟨b, 4, none⟩ = some (.int .u64 b4) := past_cell ((blk_cell HR.out.1 4).trans rfl)
  have D5 : ∀ o, (wr.alloc o).cell? ⟨b, 5, none⟩ = some (.int .u64 b5) := past_cell ((blk_cell HR.out.1 5).trans rfl)
  have D6 : ∀ o, (wr.alloc o).cell? ⟨b, 6, none⟩ = some (.int .i64 b6) := past_cell ((blk_cell HR.out.1 6).trans rfl)
  have D7 : ∀ o, (wr.alloc o).cell? ⟨b, 7, none⟩ = some (.int .i64 b7) := past_cell ((blk_cell HR.out.1 7).trans rfl)
  have D8 : ∀ o, (wr.alloc o).cell? ⟨b, 8, none⟩ = some (.string b8) := past_cell ((blk_cell HR.out.1 8).trans rfl)
  rcases (show i = 0 ∨ i = 1 ∨ i = 2 ∨ i = 3 ∨ i = 4 by have := HK.out; omega) with rfl | rfl | rfl | rfl | rfl
  · have x0 : wr.cell? ⟨g + 4, 0, none⟩ = some (.int .i64 4) := (blk_cell HR.out.2.2.2.2.2 0).trans rfl
    have x1 : wr.cell? ⟨g + 4, 1, none⟩ = some (.func (.func 110) #[] #[.pointer (some ⟨g, 0, none⟩), .pointer (some ⟨g + 1, 0, none⟩)]) := (blk_cell HR.out.2.2.2.2.2 1).trans rfl
    by_cases c : (4 : Int) = b6
    · have cb0 : ((4 : Int) == b6) = true := beq_iff_eq.mpr c
      have H1 : plO 4 1 b8 = some (r1, r2, r3) := by have q_ := H.out; rw [if_pos c] at q_; exact q_
      clear c
      go_wp2_with (first | (go_at_call 110; refine (plain_any b0 b1 b2 b3 b4 b5 b6 b7 b8 4 1 g (g + 1) r1 r2 r3 _ H1 (kb HR.out.2.1) (kb HR.out.2.2.1)).mono ?_; rintro e w2 ⟨rfl, hb⟩))
      all_goals (try go_wp2)
      all_goals go_ret3
      all_goals exact ⟨rfl, by repeat (first | exact below_step (kB HB.out) hb | apply below_drew1)⟩
    have cb0 : ((4 : Int) == b6) = false := beq_eq_false_iff_ne.mpr c
    go_wp2
    go_roundg (gk - 1)
    case measure => have := HK.out; omega
    case rel => exact ⟨1, by first | rfl | (simp; done), ⟨by have := HK.out; omega⟩, ⟨fun _ => c, fun h_ => absurd h_ (by omega), fun h_ => absurd h_ (by omega), fun h_ => absurd h_ (by omega)⟩, ⟨HR.out.below (kB (Below.refl wr.heap.size wr))⟩, ⟨kB HB.out⟩⟩
  · have x0 : wr.cell? ⟨g + 4, 2, none⟩ = some (.int .i64 41) := (blk_cell HR.out.2.2.2.2.2 2).trans rfl
    have x1 : wr.cell? ⟨g + 4, 3, none⟩ = some (.func (.func 110) #[] #[.pointer (some ⟨g + 2, 0, none⟩), .pointer (some ⟨g + 3, 0, none⟩)]) := (blk_cell HR.out.2.2.2.2.2 3).trans rfl
    by_cases c : (41 : Int) = b6
    · have cb0 : ((41 : Int) == b6) = true := beq_iff_eq.mpr c
      have H1 : plO 6 2 b8 = some (r1, r2, r3) := by have q_ := H.out; rw [if_neg (HN.out.1 (by omega)), if_pos c] at q_; exact q_
      clear c
      go_wp2_with (first | (go_at_call 110; refine (plain_any b0 b1 b2 b3 b4 b5 b6 b7 b8 6 2 (g + 2) (g + 3) r1 r2 r3 _ H1 (kb HR.out.2.2.2.1) (kb HR.out.2.2.2.2.1)).mono ?_; rintro e w2 ⟨rfl, hb⟩))
      all_goals (try go_wp2)
      all_goals go_ret3
      all_goals exact ⟨rfl, by repeat (first | exact below_step (kB HB.out) hb | apply below_drew1)⟩
    have cb0 : ((41 : Int) == b6) = false := beq_eq_false_iff_ne.mpr c
    go_wp2
    go_roundg (gk - 1)
    case measure => have := HK.out; omega
    case rel => exact ⟨2, by first | rfl | (simp; done), ⟨by have := HK.out; omega⟩, ⟨fun _ => HN.out.1 (by omega), fun _ => c, fun h_ => absurd h_ (by omega), fun h_ => absurd h_ (by omega)⟩, ⟨HR.out.below (kB (Below.refl wr.heap.size wr))⟩, ⟨kB HB.out⟩⟩
  · have x0 : wr.cell? ⟨g + 4, 4, none⟩ = some (.int .i64 47) := (blk_cell HR.out.2.2.2.2.2 4).trans rfl
    have x1 : wr.cell? ⟨g + 4, 5, none⟩ = some (.func (.func 81) #[] #[]) := (blk_cell HR.out.2.2.2.2.2 5).trans rfl
    by_cases c : (47 : Int) = b6
    · have cb0 : ((47 : Int) == b6) = true := beq_iff_eq.mpr c
      have H1 : tunnel_gre.f k b0 b1 b2 b3 b4 b5 b6 b7 b8 = some (r1, r2, r3) := by have q_ := H.out; rw [if_neg (HN.out.1 (by omega)), if_neg (HN.out.2.1 (by omega)), if_pos c] at q_; exact q_
      clear c
      go_wp2_with (first | (go_at_call 81; refine (tunnel_gre.calls k b0 b1 b2 b3 b4 b5 b6 b7 b8 r1 r2 r3 _ H1).mono ?_; rintro e w2 ⟨rfl, hb⟩))
      all_goals (try go_wp2)
      all_goals go_ret3
      all_goals exact ⟨rfl, by repeat (first | exact below_step (kB HB.out) hb | apply below_drew1)⟩
    have cb0 : ((47 : Int) == b6) = false := beq_eq_false_iff_ne.mpr c
    go_wp2
    go_roundg (gk - 1)
    case measure => have := HK.out; omega
    case rel => exact ⟨3, by first | rfl | (simp; done), ⟨by have := HK.out; omega⟩, ⟨fun _ => HN.out.1 (by omega), fun _ => HN.out.2.1 (by omega), fun _ => c, fun h_ => absurd h_ (by omega)⟩, ⟨HR.out.below (kB (Below.refl wr.heap.size wr))⟩, ⟨kB HB.out⟩⟩
  · have x0 : wr.cell? ⟨g + 4, 6, none⟩ = some (.int .i64 17) := (blk_cell HR.out.2.2.2.2.2 6).trans rfl
    have x1 : wr.cell? ⟨g + 4, 7, none⟩ = some (.func (.func 82) #[] #[]) := (blk_cell HR.out.2.2.2.2.2 7).trans rfl
    by_cases c : (17 : Int) = b6
    · have cb0 : ((17 : Int) == b6) = true := beq_iff_eq.mpr c
      have H1 : tunnel_vxlan.f k b0 b1 b2 b3 b4 b5 b6 b7 b8 = some (r1, r2, r3) := by have q_ := H.out; rw [if_neg (HN.out.1 (by omega)), if_neg (HN.out.2.1 (by omega)), if_neg (HN.out.2.2.1 (by omega)), if_pos c] at q_; exact q_
      clear c
      go_wp2_with (first | (go_at_call 82; refine (tunnel_vxlan.calls k b0 b1 b2 b3 b4 b5 b6 b7 b8 r1 r2 r3 _ (laid_below HLD.out (kB HB.out)) H1).mono ?_; rintro e w2 ⟨rfl, hb⟩))
      all_goals (try go_wp2)
      all_goals go_ret3
      all_goals exact ⟨rfl, by repeat (first | exact below_step (kB HB.out) hb | apply below_drew1)⟩
    have cb0 : ((17 : Int) == b6) = false := beq_eq_false_iff_ne.mpr c
    go_wp2
    go_roundg (gk - 1)
    case measure => have := HK.out; omega
    case rel => exact ⟨4, by first | rfl | (simp; done), ⟨by have := HK.out; omega⟩, ⟨fun _ => HN.out.1 (by omega), fun _ => HN.out.2.1 (by omega), fun _ => HN.out.2.2.1 (by omega), fun _ => c⟩, ⟨HR.out.below (kB (Below.refl wr.heap.size wr))⟩, ⟨kB HB.out⟩⟩
  have H1 : some ((0 : Int), (⟨#[]⟩ : ByteArray), (0 : Int)) = some (r1, r2, r3) := by have q_ := H.out; rw [if_neg (HN.out.1 (by omega)), if_neg (HN.out.2.1 (by omega)), if_neg (HN.out.2.2.1 (by omega)), if_neg (HN.out.2.2.2 (by omega))] at q_; exact q_
  simp only [Option.some.injEq, Prod.mk.injEq] at H1
  obtain ⟨rfl, rfl, rfl⟩ := H1
  go_wp2
  go_ret3
  exact ⟨rfl, kB HB.out⟩

/-! ### intrusionlaw17_awake: function 11 -/
def intrusionlaw17_awake.f (k : Nat)  : Option (Bool) := (tunnel_Inner.f k false 0 167772161 false 0 167772161 47 0 (⟨#[0, 0, 8, 0, 69]⟩ : ByteArray)).bind fun bt267 => ((tunnel_WrapGre.f k false 0 167772161 false 0 167772161 3 (⟨#[120, 121]⟩ : ByteArray) 1 false).bind fun bt270 => ((tunnel_WrapGre.f k false 0 167772161 false 0 167772161 3 (⟨#[120, 121]⟩ : ByteArray) 1 true).bind fun bt281 => (if bt267.2.2 = 0 then (if bt270.2.2.2.2.2.2.2.2.2 = 0 then (if bt281.2.2.2.2.2.2.2.2.2 = 0 then (if (bt270.2.2.2.2.2.2.2.2.1.size : Int) < 4 then (none) else (if (bt281.2.2.2.2.2.2.2.2.1.size : Int) < 4 then (none) else ((tunnel_Inner.f k bt281.1 bt281.2.1 bt281.2.2.1 bt281.2.2.2.1 bt281.2.2.2.2.1 bt281.2.2.2.2.2.1 bt281.2.2.2.2.2.2.1 bt281.2.2.2.2.2.2.2.1 bt281.2.2.2.2.2.2.2.2.1).bind fun bt292 => (if bt267.1 = 1 then (if bt267.2.1.toList = ([69] : List UInt8) then (if 0 ≤ 4 then (if 4 ≤ (bt270.2.2.2.2.2.2.2.2.1.size : Int) then (if (bt270.2.2.2.2.2.2.2.2.1.extract 0 4).toList = ([32, 0, 101, 88] : List UInt8) then (if 4 ≤ (bt281.2.2.2.2.2.2.2.2.1.size : Int) then (if (bt281.2.2.2.2.2.2.2.2.1.extract 0 4).toList = ([160, 0, 101, 88] : List UInt8) then (if bt292.1 = 3 then (if bt292.2.1.toList = ([120, 121] : List UInt8) then (if bt292.2.2 = 0 then (some (bt270.2.2.2.2.2.2.2.1 == 64)) else (none)) else (none)) else (none)) else (none)) else (none)) else (none)) else (none)) else (none)) else (none)) else (none))))) else (none)) else (none)) else (none))))
theorem intrusionlaw17_awake.mono : ∀ k, LeO (intrusionlaw17_awake.f k ) (intrusionlaw17_awake.f (k + 1) ) := by
 intro  k
 unfold intrusionlaw17_awake.f
 repeat' first | with_reducible first | apply tunnel_Inner.mono | apply tunnel_WrapGre.mono | apply LeO.refl | apply LeO.none | refine LeO.ite ?_ ?_ | refine LeO.bind ?_ (fun _ => ?_)
set_option maxHeartbeats 8000000 in
set_option maxRecDepth 100000 in
theorem intrusionlaw17_awake.calls (k : Nat)  (r : Bool) (w : World) (hLd : Laid w) (h : intrusionlaw17_awake.f k  = some r) :
  Calls Tryd.prog 11 #[] w fun e w' => e = .returned (.bool r) ∧ Below w.heap.size w w' := by
 have hu24 := Tryd.underlying24
 have hu30 := Tryd.underlying30
 have HLD := As hLd
 clear hLd
 have HB := As (Below.refl w.heap.size w)
 have H : ((tunnel_Inner.f k false 0 167772161 false 0 167772161 47 0 (⟨#[0, 0, 8, 0, 69]⟩ : ByteArray)).bind fun bt267 => ((tunnel_WrapGre.f k false 0 167772161 false 0 167772161 3 (⟨#[120, 121]⟩ : ByteArray) 1 false).bind fun bt270 => ((tunnel_WrapGre.f k false 0 167772161 false 0 167772161 3 (⟨#[120, 121]⟩ : ByteArray) 1 true).bind fun bt281 => (if bt267.2.2 = 0 then (if bt270.2.2.2.2.2.2.2.2.2 = 0 then (if bt281.2.2.2.2.2.2.2.2.2 = 0 then (if (bt270.2.2.2.2.2.2.2.2.1.size : Int) < 4 then (none) else (if (bt281.2.2.2.2.2.2.2.2.1.size : Int) < 4 then (none) else ((tunnel_Inner.f k bt281.1 bt281.2.1 bt281.2.2.1 bt281.2.2.2.1 bt281.2.2.2.2.1 bt281.2.2.2.2.2.1 bt281.2.2.2.2.2.2.1 bt281.2.2.2.2.2.2.2.1 bt281.2.2.2.2.2.2.2.2.1).bind fun bt292 => (if bt267.1 = 1 then (if bt267.2.1.toList = ([69] : List UInt8) then (if 0 ≤ 4 then (if 4 ≤ (bt270.2.2.2.2.2.2.2.2.1.size : Int) then (if (bt270.2.2.2.2.2.2.2.2.1.extract 0 4).toList = ([32, 0, 101, 88] : List UInt8) then (if 4 ≤ (bt281.2.2.2.2.2.2.2.2.1.size : Int) then (if (bt281.2.2.2.2.2.2.2.2.1.extract 0 4).toList = ([160, 0, 101, 88] : List UInt8) then (if bt292.1 = 3 then (if bt292.2.1.toList = ([120, 121] : List UInt8) then (if bt292.2.2 = 0 then (some (bt270.2.2.2.2.2.2.2.1 == 64)) else (none)) else (none)) else (none)) else (none)) else (none)) else (none)) else (none)) else (none)) else (none)) else (none))))) else (none)) else (none)) else (none))))) = some r := h
 clear h
 replace H := Option.bind_eq_some_iff.mp H
 obtain ⟨⟨t267, t268, t269⟩, A10, H⟩ := H
 replace H : ((tunnel_WrapGre.f k false 0 167772161 false 0 167772161 3 (⟨#[120, 121]⟩ : ByteArray) 1 false).bind fun bt270 => ((tunnel_WrapGre.f k false 0 167772161 false 0 167772161 3 (⟨#[120, 121]⟩ : ByteArray) 1 true).bind fun bt281 => (if t269 = 0 then (if bt270.2.2.2.2.2.2.2.2.2 = 0 then (if bt281.2.2.2.2.2.2.2.2.2 = 0 then (if (bt270.2.2.2.2.2.2.2.2.1.size : Int) < 4 then (none) else (if (bt281.2.2.2.2.2.2.2.2.1.size : Int) < 4 then (none) else ((tunnel_Inner.f k bt281.1 bt281.2.1 bt281.2.2.1 bt281.2.2.2.1 bt281.2.2.2.2.1 bt281.2.2.2.2.2.1 bt281.2.2.2.2.2.2.1 bt281.2.2.2.2.2.2.2.1 bt281.2.2.2.2.2.2.2.2.1).bind fun bt292 => (if t267 = 1 then (if t268.toList = ([69] : List UInt8) then (if 0 ≤ 4 then (if 4 ≤ (bt270.2.2.2.2.2.2.2.2.1.size : Int) then (if (bt270.2.2.2.2.2.2.2.2.1.extract 0 4).toList = ([32, 0, 101, 88] : List UInt8) then (if 4 ≤ (bt281.2.2.2.2.2.2.2.2.1.size : Int) then (if (bt281.2.2.2.2.2.2.2.2.1.extract 0 4).toList = ([160, 0, 101, 88] : List UInt8) then (if bt292.1 = 3 then (if bt292.2.1.toList = ([120, 121] : List UInt8) then (if bt292.2.2 = 0 then (some (bt270.2.2.2.2.2.2.2.1 == 64)) else (none)) else (none)) else (none)) else (none)) else (none)) else (none)) else (none)) else (none)) else (none)) else (none))))) else (none)) else (none)) else (none)))) = some r := H
 have A1 := As A10
 clear A10
 replace H := Option.bind_eq_some_iff.mp H
 obtain ⟨⟨t270, t271, t272, t273, t274, t275, t276, t277, t278, t279⟩, A20, H⟩ := H
 replace H : ((tunnel_WrapGre.f k false 0 167772161 false 0 167772161 3 (⟨#[120, 121]⟩ : ByteArray) 1 true).bind fun bt281 => (if t269 = 0 then (if t279 = 0 then (if bt281.2.2.2.2.2.2.2.2.2 = 0 then (if (t278.size : Int) < 4 then (none) else (if (bt281.2.2.2.2.2.2.2.2.1.size : Int) < 4 then (none) else ((tunnel_Inner.f k bt281.1 bt281.2.1 bt281.2.2.1 bt281.2.2.2.1 bt281.2.2.2.2.1 bt281.2.2.2.2.2.1 bt281.2.2.2.2.2.2.1 bt281.2.2.2.2.2.2.2.1 bt281.2.2.2.2.2.2.2.2.1).bind fun bt292 => (if t267 = 1 then (if t268.toList = ([69] : List UInt8) then (if 0 ≤ 4 then (if 4 ≤ (t278.size : Int) then (if (t278.extract 0 4).toList = ([32, 0, 101, 88] : List UInt8) then (if 4 ≤ (bt281.2.2.2.2.2.2.2.2.1.size : Int) then (if (bt281.2.2.2.2.2.2.2.2.1.extract 0 4).toList = ([160, 0, 101, 88] : List UInt8) then (if bt292.1 = 3 then (if bt292.2.1.toList = ([120, 121] : List UInt8) then (if bt292.2.2 = 0 then (some (t277 == 64)) else (none)) else (none)) else (none)) else (none)) else (none)) else (none)) else (none)) else (none)) else (none)) else (none))))) else (none)) else (none)) else (none))) = some r := H
 have A2 := As A20
 clear A20
 replace H := Option.bind_eq_some_iff.mp H
 obtain ⟨⟨t281, t282, t283, t284, t285, t286, t287, t288, t289, t290⟩, A30, H⟩ := H
 replace H : (if t269 = 0 then (if t279 = 0 then (if t290 = 0 then (if (t278.size : Int) < 4 then (none) else (if (t289.size : Int) < 4 then (none) else ((tunnel_Inner.f k t281 t282 t283 t284 t285 t286 t287 t288 t289).bind fun bt292 => (if t267 = 1 then (if t268.toList = ([69] : List UInt8) then (if 0 ≤ 4 then (if 4 ≤ (t278.size : Int) then (if (t278.extract 0 4).toList = ([32, 0, 101, 88] : List UInt8) then (if 4 ≤ (t289.size : Int) then (if (t289.extract 0 4).toList = ([160, 0, 101, 88] : List UInt8) then (if bt292.1 = 3 then (if bt292.2.1.toList = ([120, 121] : List UInt8) then (if bt292.2.2 = 0 then (some (t277 == 64)) else (none)) else (none)) else (none)) else (none)) else (none)) else (none)) else (none)) else (none)) else (none)) else (none))))) else (none)) else (none)) else (none)) = some r := H
 have A3 := As A30
 clear A30
 by_cases c4 : t269 = 0
 ·rw [if_pos c4] at H
  have c4b0 : (t269 == 0) = true := beq_iff_eq.mpr c4
  have c4b1 : (t269 != 0) = false := bne_eq_false_iff_eq.mpr c4
  clear c4
  by_cases c5 : t279 = 0
  ·rw [if_pos c5] at H
   have c5b0 : (t279 == 0) = true := beq_iff_eq.mpr c5
   have c5b1 : (t279 != 0) = false := bne_eq_false_iff_eq.mpr c5
   clear c5
   by_cases c6 : t290 = 0
   ·rw [if_pos c6] at H
    have c6b0 : (t290 == 0) = true := beq_iff_eq.mpr c6
    have c6b1 : (t290 != 0) = false := bne_eq_false_iff_eq.mpr c6
    clear c6
    by_cases c7 : (t278.size : Int) < 4
    ·rw [if_pos c7] at H
     exact absurd H (by simp)
    rw [if_neg c7] at H
    have c7b0 : decide ((t278.size : Int) < 4) = false := decide_eq_false c7
    have c7b1 : decide (t278.size < 4) = false := decide_eq_false (by omega)
    clear c7
    by_cases c8 : (t289.size : Int) < 4
    ·rw [if_pos c8] at H
     exact absurd H (by simp)
    rw [if_neg c8] at H
    have c8b0 : decide ((t289.size : Int) < 4) = false := decide_eq_false c8
    have c8b1 : decide (t289.size < 4) = false := decide_eq_false (by omega)
    clear c8
    replace H := Option.bind_eq_some_iff.mp H
    obtain ⟨⟨t292, t293, t294⟩, A90, H⟩ := H
    replace H : (if t267 = 1 then (if t268.toList = ([69] : List UInt8) then (if 0 ≤ 4 then (if 4 ≤ (t278.size : Int) then (if (t278.extract 0 4).toList = ([32, 0, 101, 88] : List UInt8) then (if 4 ≤ (t289.size : Int) then (if (t289.extract 0 4).toList = ([160, 0, 101, 88] : List UInt8) then (if t292 = 3 then (if t293.toList = ([120, 121] : List UInt8) then (if t294 = 0 then (some (t277 == 64)) else (none)) else (none)) else (none)) else (none)) else (none)) else (none)) else (none)) else (none)) else (none)) else (none)) = some r := H
    have A9 := As A90
    clear A90
    by_cases c10 : t267 = 1
    ·rw [if_pos c10] at H
     have c10b0 : (t267 == 1) = true := beq_iff_eq.mpr c10
     have c10b1 : (t267 != 1) = false := bne_eq_false_iff_eq.mpr c10
     clear c10
     by_cases c11 : t268.toList = ([69] : List UInt8)
     ·rw [if_pos c11] at H
      have c11b0 : (t268.toList == ([69] : List UInt8)) = true := beq_iff_eq.mpr c11
      have c11b1 : (t268.toList != ([69] : List UInt8)) = false := bne_eq_false_iff_eq.mpr c11
      clear c11
      by_cases c12 : 0 ≤ 4
      ·rw [if_pos c12] at H
       have c12b0 := eq_true c12
       have c12b1 : decide (0 ≤ 4) = true := decide_eq_true c12
       clear c12
       by_cases c13 : 4 ≤ (t278.size : Int)
       ·rw [if_pos c13] at H
        have c13b0 := eq_true c13
        have c13b1 : decide (4 ≤ (t278.size : Int)) = true := decide_eq_true c13
        clear c13
        by_cases c14 : (t278.extract 0 4).toList = ([32, 0, 101, 88] : List UInt8)
        ·rw [if_pos c14] at H
         have c14b0 : ((t278.extract 0 4).toList == ([32, 0, 101, 88] : List UInt8)) = true := beq_iff_eq.mpr c14
         have c14b1 : ((t278.extract 0 4).toList != ([32, 0, 101, 88] : List UInt8)) = false := bne_eq_false_iff_eq.mpr c14
         clear c14
         have c15b0 := eq_true (of_decide_eq_true (by first | (with_reducible assumption) | assumption) : 0 ≤ 4)
         by_cases c16 : 4 ≤ (t289.size : Int)
         ·rw [if_pos c16] at H
          have c16b0 := eq_true c16
          have c16b1 : decide (4 ≤ (t289.size : Int)) = true := decide_eq_true c16
          clear c16
          by_cases c17 : (t289.extract 0 4).toList = ([160, 0, 101, 88] : List UInt8)
          ·rw [if_pos c17] at H
           have c17b0 : ((t289.extract 0 4).toList == ([160, 0, 101, 88] : List UInt8)) = true := beq_iff_eq.mpr c17
           have c17b1 : ((t289.extract 0 4).toList != ([160, 0, 101, 88] : List UInt8)) = false := bne_eq_false_iff_eq.mpr c17
           clear c17
           by_cases c18 : t292 = 3
           ·rw [if_pos c18] at H
            have c18b0 : (t292 == 3) = true := beq_iff_eq.mpr c18
            have c18b1 : (t292 != 3) = false := bne_eq_false_iff_eq.mpr c18
            clear c18
            by_cases c19 : t293.toList = ([120, 121] : List UInt8)
            ·rw [if_pos c19] at H
             have c19b0 : (t293.toList == ([120, 121] : List UInt8)) = true := beq_iff_eq.mpr c19
             have c19b1 : (t293.toList != ([120, 121] : List UInt8)) = false := bne_eq_false_iff_eq.mpr c19
             clear c19
             by_cases c20 : t294 = 0
             ·rw [if_pos c20] at H
              have c20b0 : (t294 == 0) = true := beq_iff_eq.mpr c20
              have c20b1 : (t294 != 0) = false := bne_eq_false_iff_eq.mpr c20
              clear c20
              obtain rfl := Option.some.inj H
              go_enter Tryd.func11, Tryd.ntmps11
              go_wp2_with (first | ((with_reducible refine gate_dst (N := 1) rfl ?_); (try (refine gate_guard (by rfl) ?_; dsimp only)); refine box_event rfl (N := 1) rfl (cs := #[.bool false, .int .u64 0, .int .u64 0]) (t := 24) kG ?_; intro gb266 hg w21 hbox hb; have BK266 := As (hbox); have GW266 := As ((by rw [hg]; exact (below_size (kB HB.out)) : w.heap.size ≤ gb266)); have GE266 := As ((by rw [hg]; exact (below_size (kB HB.out)) : w.heap.size ≤ gb266)); replace HB := As (below_step (kB HB.out) hb); clear hb hbox hg; have hcz22_0 := cells_3 BK266.out; have hfz22_0 := fun j_ => blk_frozen BK266.out j_) | ((with_reducible refine gate_callee (f := 18) rfl ?_); refine goesL_ (some 17) rfl rfl Tryd.func18 (by kernel_rfl) rfl #[.agg #[.bool false, .int .u64 0, .int .u64 167772161, .bool false, .int .u64 0, .int .u64 167772161, .int .i64 47, .int .i64 0, .string (⟨#[0, 0, 8, 0, 69]⟩ : ByteArray)]] rfl kA ?_; (with_reducible refine (tunnel_Inner.calls k false 0 167772161 false 0 167772161 47 0 (⟨#[0, 0, 8, 0, 69]⟩ : ByteArray) t267 t268 t269 _ ?side1 A1.out).mono ?_); (case side1 => exact laid_below HLD.out (kB1 HB.out GE266.out)); rintro e w23 ⟨rfl, hb⟩; refine ⟨_, rfl, ?_⟩; replace BK266 := As (blk_below (g := gb266) (o := .cells #[.bool false, .int .u64 0, .int .u64 167772161] 24 (0, 0)) (by refine kb ?_; exact blk_all_3 (kb BK266.out) (by rfl)) hb); replace HB := As (below_step (kB1 HB.out GE266.out) hb); (try clear hb); have hcz24_0 := cells_3 BK266.out; have hfz24_0 := fun j_ => blk_frozen BK266.out j_) | ((with_reducible refine gate_callee (f := 12) rfl ?_); refine goesL_ (some 24) rfl rfl Tryd.func12 (by kernel_rfl) rfl #[.agg #[.bool false, .int .u64 0, .int .u64 167772161], .agg #[.bool false, .int .u64 0, .int .u64 167772161], .int .i64 3, .string (⟨#[120, 121]⟩ : ByteArray), .int .u32 1, .bool false] rfl kA ?_; (with_reducible refine (tunnel_WrapGre.calls k false 0 167772161 false 0 167772161 3 (⟨#[120, 121]⟩ : ByteArray) 1 false t270 t271 t272 t273 t274 t275 t276 t277 t278 t279 _ A2.out).mono ?_); rintro e w25 ⟨rfl, hb⟩; refine ⟨_, rfl, ?_⟩; replace BK266 := As (blk_below (kb BK266.out) hb); replace HB := As (below_step (kB1 HB.out GE266.out) hb); (try clear hb)) | ((with_reducible refine gate_dst (N := 5) rfl ?_); (try (refine gate_guard (by rfl) ?_; dsimp only)); refine box_event rfl (N := 5) rfl (cs := #[.bool false, .int .u64 0, .int .u64 0, .bool false, .int .u64 0, .int .u64 0, .int .i64 0, .int .i64 0, .string (⟨#[]⟩ : ByteArray)]) (t := 30) kG ?_; intro gb280 hg w26 hbox hb; have BK280 := As (hbox); have GW280 := As ((by rw [hg]; exact (below_size (kB1 HB.out GE266.out)) : w.heap.size ≤ gb280)); have GE280 := As ((by rw [hg]; exact (below_size (kB1 HB.out GE266.out)) : w.heap.size ≤ gb280)); replace HB := As (below_step (kB1 HB.out GE266.out) hb); have NB266_280 := As ((by rw [hg]; exact Nat.ne_of_lt (blk_lt (kb BK266.out)) : gb266 ≠ gb280)); have NB280_266 := As ((by rw [hg]; exact Nat.ne_of_gt (blk_lt (kb BK266.out)) : gb280 ≠ gb266)); replace BK266 := As (blk_below (kb BK266.out) hb); clear hb hbox hg) | ((with_reducible refine gate_store (t := 30) (p := 5) rfl ?_); refine store_rowev_9 gb280 (.bool t270) (.int .u64 t271) (.int .u64 t272) (.bool t273) (.int .u64 t274) (.int .u64 t275) (.int .i64 t276) (.int .i64 t277) (.string t278) rfl (t := 30) (p := 5) (v := _) rfl rfl rfl rfl (t' := 30) (kb BK280.out) (by rfl) (by kernel_rfl) (by rfl) ?_; have hnb27 := NB266_280.out; have hnc27 := NB280_266.out; have hcz28_0 := cells_3 BK266.out; have hfz28_0 := fun j_ => blk_frozen BK266.out j_) | ((with_reducible refine gate_callee (f := 12) rfl ?_); refine goesL_ (some 30) rfl rfl Tryd.func12 (by kernel_rfl) rfl #[.agg #[.bool false, .int .u64 0, .int .u64 167772161], .agg #[.bool false, .int .u64 0, .int .u64 167772161], .int .i64 3, .string (⟨#[120, 121]⟩ : ByteArray), .int .u32 1, .bool true] rfl kA ?_; (with_reducible refine (tunnel_WrapGre.calls k false 0 167772161 false 0 167772161 3 (⟨#[120, 121]⟩ : ByteArray) 1 true t281 t282 t283 t284 t285 t286 t287 t288 t289 t290 _ A3.out).mono ?_); rintro e w29 ⟨rfl, hb⟩; refine ⟨_, rfl, ?_⟩; replace BK266 := As (blk_below (g := gb266) (o := .cells #[.bool false, .int .u64 0, .int .u64 167772161] 24 (0, 0)) (by refine kb ?_; (iterate 9 (refine blk_far ?_ NB266_280.out _; refine kb ?_)); exact BK266.out) hb); replace BK280 := As (blk_below (g := gb280) (o := .cells #[.bool t270, .int .u64 t271, .int .u64 t272, .bool t273, .int .u64 t274, .int .u64 t275, .int .i64 t276, .int .i64 t277, .string t278] 30 (0, 0)) (by refine kb ?_; exact blk_all_9 (kb BK280.out) (by rfl)) hb); replace HB := As (below_step (kB2 HB.out GE266.out GE280.out) hb); (try clear hb)) | ((with_reducible refine gate_dst (N := 7) rfl ?_); (try (refine gate_guard (by rfl) ?_; dsimp only)); refine box_event rfl (N := 7) rfl (cs := #[.bool false, .int .u64 0, .int .u64 0, .bool false, .int .u64 0, .int .u64 0, .int .i64 0, .int .i64 0, .string (⟨#[]⟩ : ByteArray)]) (t := 30) kG ?_; intro gb291 hg w30 hbox hb; have BK291 := As (hbox); have GW291 := As ((by rw [hg]; exact (below_size (kB2 HB.out GE266.out GE280.out)) : w.heap.size ≤ gb291)); have GE291 := As ((by rw [hg]; exact (below_size (kB2 HB.out GE266.out GE280.out)) : w.heap.size ≤ gb291)); replace HB := As (below_step (kB2 HB.out GE266.out GE280.out) hb); have NB266_291 := As ((by rw [hg]; exact Nat.ne_of_lt (blk_lt (kb BK266.out)) : gb266 ≠ gb291)); have NB291_266 := As ((by rw [hg]; exact Nat.ne_of_gt (blk_lt (kb BK266.out)) : gb291 ≠ gb266)); replace BK266 := As (blk_below (kb BK266.out) hb); have NB280_291 := As ((by rw [hg]; exact Nat.ne_of_lt (blk_lt (kb BK280.out)) : gb280 ≠ gb291)); have NB291_280 := As ((by rw [hg]; exact Nat.ne_of_gt (blk_lt (kb BK280.out)) : gb291 ≠ gb280)); replace BK280 := As (blk_below (kb BK280.out) hb); clear hb hbox hg) | ((with_reducible refine gate_store (t := 30) (p := 7) rfl ?_); refine store_rowev_9 gb291 (.bool t281) (.int .u64 t282) (.int .u64 t283) (.bool t284) (.int .u64 t285) (.int .u64 t286) (.int .i64 t287) (.int .i64 t288) (.string t289) rfl (t := 30) (p := 7) (v := _) rfl rfl rfl rfl (t' := 30) (kb BK291.out) (by rfl) (by kernel_rfl) (by rfl) ?_; have hnb31 := NB280_291.out; have hnc31 := NB291_280.out; have hcz32_0 := cells_9 BK280.out; have hfz32_0 := fun j_ => blk_frozen BK280.out j_; have hnb33 := NB291_266.out; have hnc33 := NB266_291.out; have hcz34_0 := cells_9 BK291.out; have hfz34_0 := fun j_ => blk_frozen BK291.out j_) | ((with_reducible refine gate_dst (N := 56) rfl ?_); (try (refine gate_guard (by rfl) ?_; dsimp only)); refine wpList_load_row ?hgd 30 _ rfl gb291 rfl 30 #[.bool t281, .int .u64 t282, .int .u64 t283, .bool t284, .int .u64 t285, .int .u64 t286, .int .i64 t287, .int .i64 t288, .string t289] (0, 0) _ (by refine kb ?_; exact blk_all_9 (kb BK291.out) (by rfl)) Tryd.underlying30 rfl (by kernel_rfl) ?_; (case hgd => rfl)) | ((with_reducible refine gate_callee (f := 18) rfl ?_); refine goesL_ (some 57) rfl rfl Tryd.func18 (by kernel_rfl) rfl #[.agg #[.bool t281, .int .u64 t282, .int .u64 t283, .bool t284, .int .u64 t285, .int .u64 t286, .int .i64 t287, .int .i64 t288, .string t289]] rfl kA ?_; (with_reducible refine (tunnel_Inner.calls k t281 t282 t283 t284 t285 t286 t287 t288 t289 t292 t293 t294 _ ?side1 A9.out).mono ?_); (case side1 => exact laid_below HLD.out (kB3 HB.out GE266.out GE280.out GE291.out)); rintro e w35 ⟨rfl, hb⟩; refine ⟨_, rfl, ?_⟩; replace BK266 := As (blk_below (g := gb266) (o := .cells #[.bool false, .int .u64 0, .int .u64 167772161] 24 (0, 0)) (by refine kb ?_; (iterate 9 (refine blk_far ?_ NB266_291.out _; refine kb ?_)); exact BK266.out) hb); replace BK280 := As (blk_below (g := gb280) (o := .cells #[.bool t270, .int .u64 t271, .int .u64 t272, .bool t273, .int .u64 t274, .int .u64 t275, .int .i64 t276, .int .i64 t277, .string t278] 30 (0, 0)) (by refine kb ?_; (iterate 9 (refine blk_far ?_ NB280_291.out _; refine kb ?_)); exact BK280.out) hb); replace BK291 := As (blk_below (g := gb291) (o := .cells #[.bool t281, .int .u64 t282, .int .u64 t283, .bool t284, .int .u64 t285, .int .u64 t286, .int .i64 t287, .int .i64 t288, .string t289] 30 (0, 0)) (by refine kb ?_; exact blk_all_9 (kb BK291.out) (by rfl)) hb); replace HB := As (below_step (kB3 HB.out GE266.out GE280.out GE291.out) hb); (try clear hb); have hcz36_0 := cells_9 BK280.out; have hfz36_0 := fun j_ => blk_frozen BK280.out j_; have hcz37_0 := cells_9 BK291.out; have hfz37_0 := fun j_ => blk_frozen BK291.out j_))
              go_ret
              exact ⟨kE, by exact kB3 HB.out GE266.out GE280.out GE291.out⟩
             rw [if_neg c20] at H
             exact absurd H (by simp)
            rw [if_neg c19] at H
            exact absurd H (by simp)
           rw [if_neg c18] at H
           exact absurd H (by simp)
          rw [if_neg c17] at H
          exact absurd H (by simp)
         rw [if_neg c16] at H
         exact absurd H (by simp)
        rw [if_neg c14] at H
        exact absurd H (by simp)
       rw [if_neg c13] at H
       exact absurd H (by simp)
      rw [if_neg c12] at H
      exact absurd H (by simp)
     rw [if_neg c11] at H
     exact absurd H (by simp)
    rw [if_neg c10] at H
    exact absurd H (by simp)
   rw [if_neg c6] at H
   exact absurd H (by simp)
  rw [if_neg c5] at H
  exact absurd H (by simp)
 rw [if_neg c4] at H
 exact absurd H (by simp)

/-! ### ethernet_tagged: function 86 -/
def ethernet_tagged.f (a0 : Int) : Option (Bool) := if 0 < 2 then (if a0 = (rd TAB0 0) then (some true) else (if 1 < 2 then (some (a0 == (rd TAB0 1))) else (none))) else (none)
set_option maxHeartbeats 8000000 in
set_option maxRecDepth 100000 in
theorem ethernet_tagged.calls (a0 : Int) (r : Bool) (w : World) (hLd : Laid w) (h : ethernet_tagged.f a0 = some r) :
  Calls Tryd.prog 86 #[.int .i64 a0] w fun e w' => e = .returned (.bool r) ∧ Drawn0 w w' := by
 have HLD := As hLd
 clear hLd
 have HG0 := As (laid_C0 HLD.out)
 have H : (if 0 < 2 then (if a0 = (rd TAB0 0) then (some true) else (if 1 < 2 then (some (a0 == (rd TAB0 1))) else (none))) else (none)) = some r := h
 clear h
 by_cases c2 : 0 < 2
 ·rw [if_pos c2] at H
  have c2b0 : decide (0 < 2) = true := decide_eq_true c2
  clear c2
  by_cases c3 : a0 = (rd TAB0 0)
  ·rw [if_pos c3] at H
   have c3b0 : (a0 == (rd TAB0 0)) = true := beq_iff_eq.mpr c3
   have c3b1 : (a0 != (rd TAB0 0)) = false := bne_eq_false_iff_eq.mpr c3
   clear c3
   obtain rfl := Option.some.inj H
   have p295 : 0 ≤ (0 : Int) := (by omega)
   have q295 : 0 < (TAB0.length : Int) := of_decide_eq_true (by first | (with_reducible assumption) | assumption)
   obtain ⟨ad295, e295, hx295_0⟩ := Kd.at_int HG0.out 0 p295 q295
   obtain rfl : (⟨0, 0, none⟩ : Addr) = ad295 := (by injection e295)
   (first | simp only [add_plain] at hx295_0 | simp only [add_at] at hx295_0 | simp only [Addr.add, Nat.zero_add] at hx295_0 | skip)
   have qi295 : (0 < TAB0.length) = True := eq_true (by omega)
   (try rw [show ((0 : Int)).toNat = 0 from rfl] at hx295_0)
   (try rw [Addr.add_zero'] at hx295_0)
   replace p295 := eq_true p295
   replace q295 := eq_true q295
   go_enter Tryd.func86, Tryd.ntmps86
   go_wp2
   go_ret
   exact ⟨by first | rfl | (simp; done) | (simp [*]; done), by repeat (first | exact Drawn0.refl _ | apply Drawn0.step)⟩
  rw [if_neg c3] at H
  have c3b0 : (a0 == (rd TAB0 0)) = false := beq_eq_false_iff_ne.mpr c3
  have c3b1 : (a0 != (rd TAB0 0)) = true := bne_iff_ne.mpr c3
  by_cases c4 : 1 < 2
  ·rw [if_pos c4] at H
   have c4b0 : decide (1 < 2) = true := decide_eq_true c4
   clear c4
   obtain rfl := Option.some.inj H
   have p295 : 0 ≤ (0 : Int) := (by omega)
   have q295 : 0 < (TAB0.length : Int) := of_decide_eq_true (by first | (with_reducible assumption) | assumption)
   obtain ⟨ad295, e295, hx295_0⟩ := Kd.at_int HG0.out 0 p295 q295
   obtain rfl : (⟨0, 0, none⟩ : Addr) = ad295 := (by injection e295)
   (first | simp only [add_plain] at hx295_0 | simp only [add_at] at hx295_0 | simp only [Addr.add, Nat.zero_add] at hx295_0 | skip)
   have qi295 : (0 < TAB0.length) = True := eq_true (by omega)
   (try rw [show ((0 : Int)).toNat = 0 from rfl] at hx295_0)
   (try rw [Addr.add_zero'] at hx295_0)
   replace p295 := eq_true p295
   replace q295 := eq_true q295
   have p296 : 0 ≤ (1 : Int) := (by omega)
   have q296 : 1 < (TAB0.length : Int) := of_decide_eq_true (by first | (with_reducible assumption) | assumption)
   obtain ⟨ad296, e296, hx296_0⟩ := Kd.at_int HG0.out 1 p296 q296
   obtain rfl : (⟨0, 0, none⟩ : Addr) = ad296 := (by injection e296)
   (first | simp only [add_plain] at hx296_0 | simp only [add_at] at hx296_0 | simp only [Addr.add, Nat.zero_add] at hx296_0 | skip)
   have qi296 : (1 < TAB0.length) = True := eq_true (by omega)
   (try rw [show ((1 : Int)).toNat = 1 from rfl] at hx296_0)
   replace p296 := eq_true p296
   replace q296 := eq_true q296
   go_enter Tryd.func86, Tryd.ntmps86
   go_wp2
   go_ret
   exact ⟨by first | rfl | (simp; done) | (simp [*]; done), by repeat (first | exact Drawn0.refl _ | apply Drawn0.step)⟩
  rw [if_neg c4] at H
  exact absurd H (by simp)
 rw [if_neg c2] at H
 exact absurd H (by simp)

end Go.Proofs.YtocobalkikkhlaaDoor.X
-- short
