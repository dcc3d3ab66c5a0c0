/- Functions and their walks, printed by xprint.py. -/
import Derived.Test.YtobioaommmgehaaZ0
import Derived.Test.YtobioaommmgehaaZ1
import Derived.Test.YtobioaommmgehaaZ2
import Derived.Test.YtobioaommmgehaaZ4
import Derived.Test.YtobioaommmgehaaZ5
namespace Go.Proofs.Ytobioaommmgehaa.Z
open Go.RowKit Go.Proofs.YtobioaommmgehaaW.PrintWords Go.Proofs.YtobioaommmgehaaW.PrintLast Go.Proofs.YtobioaommmgehaaW.PrintMore
attribute [local go_sem] max2_int min2_int max_two min_two max_three min_three max_four min_four   -- for this text's walks alone
set_option linter.unusedVariables false
set_option linter.unusedSimpArgs false

attribute [local go_sem high] eqA25 eqA50
/-! ### ipv4_Decode: function 11 -/
mutual
def ipv4_Decode.j0 : Nat → ByteArray → Int → Bool → Option (Int × Int × Int × Int × Bool × Bool × Int × Bool × Int × Int × Bool × Int × Int × (List (S50)) × ByteArray × Int)
 | 0, _, _, _ => none
 | k + 1, x0, x4, x27 => if x27 = true then (some (0, 0, 0, 0, false, false, 0, false, 0, 0, false, 0, 0, ([] : List (S50)), (⟨#[]⟩ : ByteArray), 2)) else ((field_NewReader.f x0).bind fun bt136 => ((field_Reader_Int.f k bt136.1 bt136.2.1 bt136.2.2 1).bind fun bt140 => ((field_Reader_Int.f k bt140.2.1 bt140.2.2.1 bt140.2.2.2 1).bind fun bt144 => ((field_Reader_Int.f k bt144.2.1 bt144.2.2.1 bt144.2.2.2 2).bind fun bt149 => ((field_Reader_Int.f k bt149.2.1 bt149.2.2.1 bt149.2.2.2 2).bind fun bt153 => ((field_Reader_Int.f k bt153.2.1 bt153.2.2.1 bt153.2.2.2 2).bind fun bt157 => ((field_Reader_Int.f k bt157.2.1 bt157.2.2.1 bt157.2.2.2 1).bind fun bt161 => ((field_Reader_Int.f k bt161.2.1 bt161.2.2.1 bt161.2.2.2 1).bind fun bt165 => ((field_Reader_Int.f k bt165.2.1 bt165.2.2.1 bt165.2.2.2 2).bind fun bt169 => (if x4 > (x0.size : Int) then (ipv4_Decode.j1 k x0 x4 bt149.1 bt157.1 true bt169.2.1 bt169.2.2.1 bt169.2.2.2 bt144.1 bt153.1 bt161.1 bt165.1 false false 0 false 0 0 false 0 0 (⟨#[]⟩ : ByteArray)) else (ipv4_Decode.j1 k x0 x4 bt149.1 bt157.1 (decide (bt149.1 > (x0.size : Int))) bt169.2.1 bt169.2.2.1 bt169.2.2.2 bt144.1 bt153.1 bt161.1 bt165.1 false false 0 false 0 0 false 0 0 (⟨#[]⟩ : ByteArray))))))))))))
def ipv4_Decode.j1 : Nat → ByteArray → Int → Int → Int → Bool → ByteArray → Int → Int → Int → Int → Int → Int → Bool → Bool → Int → Bool → Int → Int → Bool → Int → Int → ByteArray → Option (Int × Int × Int × Int × Bool × Bool × Int × Bool × Int × Int × Bool × Int × Int × (List (S50)) × ByteArray × Int)
 | 0, _, _, _, _, _, _, _, _, _, _, _, _, _, _, _, _, _, _, _, _, _, _ => none
 | k + 1, x0, x4, x7, x8, x51, x140000, x140001, x140002, x149000, x149001, x149002, x149003, x149004, x149005, x149006, x149007, x149008, x149009, x149010, x149011, x149012, x149014 => if x51 = true then (some (0, 0, 0, 0, false, false, 0, false, 0, 0, false, 0, 0, ([] : List (S50)), (⟨#[]⟩ : ByteArray), 1)) else (if x7 < x4 then (some (0, 0, 0, 0, false, false, 0, false, 0, 0, false, 0, 0, ([] : List (S50)), (⟨#[]⟩ : ByteArray), 2)) else (if 0 ≤ x4 then (if x4 ≤ (x0.size : Int) then ((checksum_Sum.f k (x0.extract 0 (x4 : Int).toNat)).bind fun t173 => (if t173 = 0 then ((field_Reader_Take.f x140000 x140001 x140002 4).bind fun bt174 => ((address_FromBytes.f k bt174.1).bind fun bt178 => ((field_Reader_Take.f bt174.2.1 bt174.2.2.1 bt174.2.2.2 4).bind fun bt182 => ((address_FromBytes.f k bt182.1).bind fun bt186 => (if 20 ≤ x4 then ((ipv4_options.f k (x0.extract 20 (x4 : Int).toNat)).bind fun bt190 => (if bt190.2 = true then (if (Go.bits .and .i64 x8 32768) = 0 then (if x4 ≤ x7 then (if x7 ≤ (x0.size : Int) then (some (x149000, x149001, x149002, x149003, ((Go.bits .and .i64 x8 16384) != 0), ((Go.bits .and .i64 x8 8192) != 0), wrap64 (8 * (Go.bits .and .i64 x8 8191)), bt178.1, bt178.2.1, bt178.2.2.1, bt186.1, bt186.2.1, bt186.2.2.1, bt190.1, x0.extract (x4 : Int).toNat (x7 : Int).toNat, 0)) else (none)) else (none)) else (some (0, 0, 0, 0, false, false, 0, false, 0, 0, false, 0, 0, ([] : List (S50)), (⟨#[]⟩ : ByteArray), 2))) else (some (0, 0, 0, 0, false, false, 0, false, 0, 0, false, 0, 0, ([] : List (S50)), (⟨#[]⟩ : ByteArray), 2)))) else (none)))))) else (some (0, 0, 0, 0, false, false, 0, false, 0, 0, false, 0, 0, ([] : List (S50)), (⟨#[]⟩ : ByteArray), 8)))) else (none)) else (none)))
end
def ipv4_Decode.f (k : Nat) (a0 : ByteArray) : Option (Int × Int × Int × Int × Bool × Bool × Int × Bool × Int × Int × Bool × Int × Int × (List (S50)) × ByteArray × Int) := if (a0.size : Int) < 20 then (some (0, 0, 0, 0, false, false, 0, false, 0, 0, false, 0, 0, ([] : List (S50)), (⟨#[]⟩ : ByteArray), 1)) else (if 0 < (a0.size : Int) then (if ((bt a0 0) / 16) = 4 then (ipv4_Decode.j0 k a0 (wrap64 (4 * (wrap64 (Go.bits .and .u8 (bt a0 0) 15)))) (decide ((wrap64 (4 * (wrap64 (Go.bits .and .u8 (bt a0 0) 15)))) < 20))) else (ipv4_Decode.j0 k a0 (wrap64 (4 * (wrap64 (Go.bits .and .u8 (bt a0 0) 15)))) true)) else (none))
theorem ipv4_Decode.mono_l : ∀ k, (∀ y0 y1 y2, LeO (ipv4_Decode.j0 k y0 y1 y2) (ipv4_Decode.j0 (k + 1) y0 y1 y2)) ∧ (∀ y0 y1 y2 y3 y4 y5 y6 y7 y8 y9 y10 y11 y12 y13 y14 y15 y16 y17 y18 y19 y20 y21, LeO (ipv4_Decode.j1 k y0 y1 y2 y3 y4 y5 y6 y7 y8 y9 y10 y11 y12 y13 y14 y15 y16 y17 y18 y19 y20 y21) (ipv4_Decode.j1 (k + 1) y0 y1 y2 y3 y4 y5 y6 y7 y8 y9 y10 y11 y12 y13 y14 y15 y16 y17 y18 y19 y20 y21))
 | 0 => ⟨fun _ _ _ r h => by simp [ipv4_Decode.j0] at h, fun _ _ _ _ _ _ _ _ _ _ _ _ _ _ _ _ _ _ _ _ _ _ r h => by simp [ipv4_Decode.j1] at h⟩
 | k + 1 => by
  obtain ⟨ih0, ih1⟩ := ipv4_Decode.mono_l k
  refine ⟨?_, ?_⟩
  ·intro y0 y1 y2
   unfold ipv4_Decode.j0
   repeat' first | with_reducible first | apply ih0 | apply ih1 | apply address_FromBytes.mono | apply checksum_Sum.mono | apply field_Reader_Int.mono | apply ipv4_options.mono | apply LeO.refl | apply LeO.none | refine LeO.ite ?_ ?_ | refine LeO.bind ?_ (fun _ => ?_)
  intro y0 y1 y2 y3 y4 y5 y6 y7 y8 y9 y10 y11 y12 y13 y14 y15 y16 y17 y18 y19 y20 y21
  unfold ipv4_Decode.j1
  repeat' first | with_reducible first | apply ih0 | apply ih1 | apply address_FromBytes.mono | apply checksum_Sum.mono | apply field_Reader_Int.mono | apply ipv4_options.mono | apply LeO.refl | apply LeO.none | refine LeO.ite ?_ ?_ | refine LeO.bind ?_ (fun _ => ?_)
theorem ipv4_Decode.mono : ∀ a0 k, LeO (ipv4_Decode.f k a0) (ipv4_Decode.f (k + 1) a0) := by
 intro a0 k
 obtain ⟨ih0, ih1⟩ := ipv4_Decode.mono_l k
 unfold ipv4_Decode.f
 repeat' first | with_reducible first | apply ih0 | apply ih1 | apply address_FromBytes.mono | apply checksum_Sum.mono | apply field_Reader_Int.mono | apply ipv4_options.mono | apply LeO.refl | apply LeO.none | refine LeO.ite ?_ ?_ | refine LeO.bind ?_ (fun _ => ?_)
set_option maxHeartbeats 8000000 in
set_option maxRecDepth 100000 in
theorem ipv4_Decode.calls (k : Nat) (a0 : ByteArray) (r1 : Int) (r2 : Int) (r3 : Int) (r4 : Int) (r5 : Bool) (r6 : Bool) (r7 : Int) (r8 : Bool) (r9 : Int) (r10 : Int) (r11 : Bool) (r12 : Int) (r13 : Int) (r14 : List (S50)) (r15 : ByteArray) (r16 : Int) (w : World) (h : ipv4_Decode.f k a0 = some (r1, r2, r3, r4, r5, r6, r7, r8, r9, r10, r11, r12, r13, r14, r15, r16)) :
  Calls Try.prog 11 #[.string a0] w fun e w' => ∃ v13_ : Value, e = .returned (.tuple #[.agg #[.int .i64 r1, .int .i64 r2, .int .i64 r3, .int .i64 r4, .bool r5, .bool r6, .int .i64 r7, .bool r8, .int .u64 r9, .int .u64 r10, .bool r11, .int .u64 r12, .int .u64 r13, v13_, .string r15], .int .i64 r16]) ∧ Kd.R k50 50 w' w.heap.size (fun _ => True) v13_ r14 ∧ Below w.heap.size w w' := by
 have hu28 := Try.underlying28
 have hu25 := Try.underlying25
 have HB := As (Below.refl w.heap.size w)
 have H : (if (a0.size : Int) < 20 then (some (0, 0, 0, 0, false, false, 0, false, 0, 0, false, 0, 0, ([] : List (S50)), (⟨#[]⟩ : ByteArray), 1)) else (if 0 < (a0.size : Int) then (if ((bt a0 0) / 16) = 4 then (ipv4_Decode.j0 k a0 (wrap64 (4 * (wrap64 (Go.bits .and .u8 (bt a0 0) 15)))) (decide ((wrap64 (4 * (wrap64 (Go.bits .and .u8 (bt a0 0) 15)))) < 20))) else (ipv4_Decode.j0 k a0 (wrap64 (4 * (wrap64 (Go.bits .and .u8 (bt a0 0) 15)))) true)) else (none))) = some (r1, r2, r3, r4, r5, r6, r7, r8, r9, r10, r11, r12, r13, r14, r15, r16) := h
 clear h
 by_cases c2 : (a0.size : Int) < 20
 ·rw [if_pos c2] at H
  have c2b0 : decide ((a0.size : Int) < 20) = true := decide_eq_true c2
  have c2b1 : decide (a0.size < 20) = true := decide_eq_true (by omega)
  clear c2
  simp only [Option.some.injEq, Prod.mk.injEq] at H
  obtain ⟨rfl, rfl, rfl, rfl, rfl, rfl, rfl, rfl, rfl, rfl, rfl, rfl, rfl, rfl, rfl, rfl⟩ := H
  go_enter Try.func11, Try.ntmps11
  go_wp2_with (first | ((with_reducible refine gate_dst (N := 2) rfl ?_); (try (refine gate_guard (by rfl) ?_; dsimp only)); refine box_event rfl (N := 2) rfl (cs := #[.int .i64 0, .int .i64 0, .int .i64 0, .int .i64 0, .bool false, .bool false, .int .i64 0, .bool false, .int .u64 0, .int .u64 0, .bool false, .int .u64 0, .int .u64 0, .slice none 0 0, .string (⟨#[]⟩ : ByteArray)]) (t := 28) kG ?_; intro gb135 hg w3 hbox hb; have BK135 := As (hbox); have GW135 := As (gS hg (below_size (kB HB.out))); have GE135 := As (gS hg (below_size (kB HB.out))); replace HB := As (below_step (kB HB.out) hb); clear hb hbox hg) | ((with_reducible refine gate_store (t := 28) (p := 2) rfl ?_); refine store_rowev_15 gb135 (.int .i64 0) (.int .i64 0) (.int .i64 0) (.int .i64 0) (.bool false) (.bool false) (.int .i64 0) (.bool false) (.int .u64 0) (.int .u64 0) (.bool false) (.int .u64 0) (.int .u64 0) (.slice none 0 0) (.string (⟨#[]⟩ : ByteArray)) rfl (t := 28) (p := 2) (v := _) rfl rfl rfl rfl (t' := 28) (kb BK135.out) (by rfl) (by kernel_rfl) (by rfl) ?_))
  refine bodyPost_ret (results_ct rfl _ _ gb135 28 #[.int .i64 0, .int .i64 0, .int .i64 0, .int .i64 0, .bool false, .bool false, .int .i64 0, .bool false, .int .u64 0, .int .u64 0, .bool false, .int .u64 0, .int .u64 0, .slice none 0 0, .string (⟨#[]⟩ : ByteArray)] (0, 0) _ rfl (by refine kb ?_; exact blk_all_15 (kb BK135.out) (by rfl)) Try.underlying28 rfl (by kernel_rfl)) rfl ?_
  exact ⟨_, kE, by first | exact Kd.R_nil _ _ _ _ _ | exact Kd.N_nil _ _ _ _ _ | exact Kd.V_nil _ _ _ _ _ | exact Kd.Q_nil _ _ _ _ _ | exact Kd.S_nil _ _ _ _ _, by exact kB1 HB.out GE135.out⟩
 rw [if_neg c2] at H
 have c2b0 : decide ((a0.size : Int) < 20) = false := decide_eq_false c2
 have c2b1 : decide (a0.size < 20) = false := decide_eq_false (by omega)
 clear c2
 replace H := iS H
 obtain ⟨c4, H⟩ := H
 have c4b0 := decide_eq_true c4
 have c4b1 : decide (0 < a0.size) = true := decide_eq_true (by omega)
 clear c4
 have HC6 := As H
 clear H
 go_enter Try.func11, Try.ntmps11
 go_upto_region 4 with (first | ((with_reducible refine gate_dst (N := 2) rfl ?_); (try (refine gate_guard (by rfl) ?_; dsimp only)); refine box_event rfl (N := 2) rfl (cs := #[.int .i64 0, .int .i64 0, .int .i64 0, .int .i64 0, .bool false, .bool false, .int .i64 0, .bool false, .int .u64 0, .int .u64 0, .bool false, .int .u64 0, .int .u64 0, .slice none 0 0, .string (⟨#[]⟩ : ByteArray)]) (t := 28) kG ?_; intro gb135 hg w7 hbox hb; have BK135 := As (hbox); have GW135 := As (gS hg (below_size (kB HB.out))); have GE135 := As (gS hg (below_size (kB HB.out))); replace HB := As (below_step (kB HB.out) hb); clear hb hbox hg; have p5 : 0 ≤ (0 : Int) := (by omega); have q5 : 0 < a0.size := (by have : (0 : Int) < (a0.size : Int) := of_decide_eq_true (by first | (with_reducible assumption) | assumption); omega); have hx5 : ∀ h : 0 < a0.size, ((a0[0]'h).toNat : Int) = bt a0 0 := bt_at a0 0; clear p5; have qi5 : (0 < (a0.size : Int)) = True := eq_true (of_decide_eq_true (by first | (with_reducible assumption) | assumption)); replace q5 := eq_true q5))
 (try simp only [Act.put, sA, sZ, sS])
 go_cut [27] (fun v27 wc => ∃ (kq : Nat) (x27_5 : Bool), v27 = .bool x27_5 ∧ Aside0 (ipv4_Decode.j0 kq a0 (wrap64 (4 * (wrap64 (Go.bits .and .u8 (bt a0 0) 15)))) x27_5 = some (r1, r2, r3, r4, r5, r6, r7, r8, r9, r10, r11, r12, r13, r14, r15, r16)) ∧ Aside0 (kq ≤ k) ∧ Aside0 (wc.heap[gb135]? = some (.cells #[.int .i64 0, .int .i64 0, .int .i64 0, .int .i64 0, .bool false, .bool false, .int .i64 0, .bool false, .int .u64 0, .int .u64 0, .bool false, .int .u64 0, .int .u64 0, (.slice none 0 0), .string (⟨#[]⟩ : ByteArray)] 28 (0, 0))) ∧ Aside0 (Below w.heap.size w wc))
 case first =>
  have H := HC6.out
  clear HC6
  by_cases c9 : ((bt a0 0) / 16) = 4
  ·rw [if_pos c9] at H
   have c9b0 : (((bt a0 0) / 16) == 4) = true := beq_iff_eq.mpr c9
   have c9b1 : (((bt a0 0) / 16) != 4) = false := bne_eq_false_iff_eq.mpr c9
   clear c9
   (first | rw [c9b0] | (simp only [i64_w, i32_w]; rw [c9b0]) | skip)
   have H' := As H
   clear H
   have p8 : 0 ≤ (0 : Int) := (by omega)
   have q8 : 0 < a0.size := (by have : (0 : Int) < (a0.size : Int) := of_decide_eq_true (by first | (with_reducible assumption) | assumption); omega)
   have hx8 : ∀ h : 0 < a0.size, ((a0[0]'h).toNat : Int) = bt a0 0 := bt_at a0 0
   clear p8
   have qi8 : (0 < (a0.size : Int)) = True := eq_true (of_decide_eq_true (by first | (with_reducible assumption) | assumption))
   replace q8 := eq_true q8
   go_wp2
   go_meet
   case rel => exact ⟨_, (decide ((wrap64 (4 * (wrap64 (Go.bits .and .u8 (bt a0 0) 15)))) < 20)), kS, H', ⟨by first | omega | exact Nat.le_refl _⟩, ⟨kb BK135.out⟩, ⟨kB1 HB.out GE135.out⟩⟩
  rw [if_neg c9] at H
  have c9b0 : (((bt a0 0) / 16) == 4) = false := beq_eq_false_iff_ne.mpr c9
  have c9b1 : (((bt a0 0) / 16) != 4) = true := bne_iff_ne.mpr c9
  (first | rw [c9b0] | (simp only [i64_w, i32_w]; rw [c9b0]) | skip)
  have H' := As H
  clear H
  have p8 : 0 ≤ (0 : Int) := (by omega)
  have q8 : 0 < a0.size := (by have : (0 : Int) < (a0.size : Int) := of_decide_eq_true (by first | (with_reducible assumption) | assumption); omega)
  have hx8 : ∀ h : 0 < a0.size, ((a0[0]'h).toNat : Int) = bt a0 0 := bt_at a0 0
  clear p8
  have qi8 : (0 < (a0.size : Int)) = True := eq_true (of_decide_eq_true (by first | (with_reducible assumption) | assumption))
  replace q8 := eq_true q8
  go_wp2
  go_meet
  case rel => exact ⟨_, (true), kS, H', ⟨by first | omega | exact Nat.le_refl _⟩, ⟨kb BK135.out⟩, ⟨kB1 HB.out GE135.out⟩⟩
 clear HC6
 try clear c2
 try clear c2b0
 try clear c2b1
 try clear c4
 try clear c4b0
 try clear c4b1
 try clear p5
 try clear q5
 try clear hx5
 try clear qi5
 obtain ⟨kq, x27_5, rfl, HA, HJ5, BK135, HB⟩ := hcut
 cases kq with
 | zero => exact absurd HA.out (by simp [ipv4_Decode.j0])
 | succ kj5 =>
  have H := HA.out
  clear HA
  simp only [ipv4_Decode.j0] at H
  by_cases c10 : x27_5 = true
  ·subst c10
   rw [if_pos rfl] at H
   simp only [Option.some.injEq, Prod.mk.injEq] at H
   obtain ⟨rfl, rfl, rfl, rfl, rfl, rfl, rfl, rfl, rfl, rfl, rfl, rfl, rfl, rfl, rfl, rfl⟩ := H
   go_wp2_with (first | ((with_reducible refine gate_store (t := 28) (p := 2) rfl ?_); refine store_rowev_15 gb135 (.int .i64 0) (.int .i64 0) (.int .i64 0) (.int .i64 0) (.bool false) (.bool false) (.int .i64 0) (.bool false) (.int .u64 0) (.int .u64 0) (.bool false) (.int .u64 0) (.int .u64 0) (.slice none 0 0) (.string (⟨#[]⟩ : ByteArray)) rfl (t := 28) (p := 2) (v := _) rfl rfl rfl rfl (t' := 28) (kb BK135.out) (by rfl) (by kernel_rfl) (by rfl) ?_))
   refine bodyPost_ret (results_ct rfl _ _ gb135 28 #[.int .i64 0, .int .i64 0, .int .i64 0, .int .i64 0, .bool false, .bool false, .int .i64 0, .bool false, .int .u64 0, .int .u64 0, .bool false, .int .u64 0, .int .u64 0, .slice none 0 0, .string (⟨#[]⟩ : ByteArray)] (0, 0) _ rfl (by refine kb ?_; exact blk_all_15 (kb BK135.out) (by rfl)) Try.underlying28 rfl (by kernel_rfl)) rfl ?_
   exact ⟨_, kE, by first | exact Kd.R_nil _ _ _ _ _ | exact Kd.N_nil _ _ _ _ _ | exact Kd.V_nil _ _ _ _ _ | exact Kd.Q_nil _ _ _ _ _ | exact Kd.S_nil _ _ _ _ _, by exact kB1 HB.out GE135.out⟩
  replace c10 := Bool.eq_false_iff.mpr c10
  subst c10
  rw [if_neg (show ¬ (false = true) by decide)] at H
  replace H := bS H
  obtain ⟨⟨t136, t137, t138⟩, A11, H⟩ := H
  try dsimp -simprocs only at H
  replace H := bS H
  obtain ⟨⟨t140, t141, t142, t143⟩, A12, H⟩ := H
  try dsimp -simprocs only at H
  replace H := bS H
  obtain ⟨⟨t144, t145, t146, t147⟩, A13, H⟩ := H
  try dsimp -simprocs only at H
  replace H := bS H
  obtain ⟨⟨t149, t150, t151, t152⟩, A14, H⟩ := H
  try dsimp -simprocs only at H
  replace H := bS H
  obtain ⟨⟨t153, t154, t155, t156⟩, A15, H⟩ := H
  try dsimp -simprocs only at H
  replace H := bS H
  obtain ⟨⟨t157, t158, t159, t160⟩, A16, H⟩ := H
  try dsimp -simprocs only at H
  replace H := bS H
  obtain ⟨⟨t161, t162, t163, t164⟩, A17, H⟩ := H
  try dsimp -simprocs only at H
  replace H := bS H
  obtain ⟨⟨t165, t166, t167, t168⟩, A18, H⟩ := H
  try dsimp -simprocs only at H
  replace H := bS H
  obtain ⟨⟨t169, t170, t171, t172⟩, A19, H⟩ := H
  try dsimp -simprocs only at H
  have HC20 := As H
  clear H
  go_upto_region 14 with (first | ((with_reducible refine gate_callee (f := 25) rfl ?_); refine goesL_ (some 30) rfl rfl Try.func25 (by kernel_rfl) rfl #[.string a0] rfl kA ?_; (with_reducible refine (field_NewReader.calls a0 t136 t137 t138 w _ ?side1 A11.out).mono ?_); (case side1 => exact kB1 HB.out GE135.out); rintro e w21 ⟨g139, rfl, hi, hb, hb2⟩; refine ⟨_, rfl, ?_⟩; replace HB := As (hb); have HI139 := As (hi); have NB139_135 := As (IsS77.ne_blk hi (blk_below (kb BK135.out) hb2) (by decide)); have NB135_139 := As (Ne.symm (IsS77.ne_blk hi (blk_below (kb BK135.out) hb2) (by decide))); replace BK135 := As (blk_below (kb BK135.out) hb2); (try clear hb); (try clear hb2); (try clear hi)) | ((with_reducible refine gate_callee (f := 26) rfl ?_); refine goesL_ (some 32) rfl rfl Try.func26 (by kernel_rfl) rfl #[.pointer (some ⟨g139, 0, none⟩), .int .i64 1] rfl kA ?_; (with_reducible refine (field_Reader_Int.calls kj5 g139 t136 t137 t138 1 t140 t141 t142 t143 w _ ?side1 ?side2 A12.out).mono ?_); (case side1 => repeat (first | (with_reducible first | exact HI139.out | apply IsS77.alloc | apply IsS77.drewN | apply IsS77.drew | apply IsS77.set_0 | apply IsS77.set_1 | apply IsS77.set_2 | refine IsS77.far ?_ NB139_135.out _) | exact HI139.out)); (case side2 => exact kB2 HB.out (IsS77.ge HI139.out) GE135.out); rintro e w22 ⟨rfl, hi, hb, hk⟩; refine ⟨_, rfl, ?_⟩; replace BK135 := As (KeepBut.blk hk (kb BK135.out) NB135_139.out (by simp)); replace HB := As (hb); replace HI139 := As (hi); (try clear hb); (try clear hk); (try clear hi)) | ((with_reducible refine gate_callee (f := 26) rfl ?_); refine goesL_ (some 34) rfl rfl Try.func26 (by kernel_rfl) rfl #[.pointer (some ⟨g139, 0, none⟩), .int .i64 1] rfl kA ?_; (with_reducible refine (field_Reader_Int.calls kj5 g139 t141 t142 t143 1 t144 t145 t146 t147 w _ ?side1 ?side2 A13.out).mono ?_); (case side1 => repeat (first | (with_reducible first | exact HI139.out | apply IsS77.alloc | apply IsS77.drewN | apply IsS77.drew | apply IsS77.set_0 | apply IsS77.set_1 | apply IsS77.set_2 | refine IsS77.far ?_ NB139_135.out _) | exact HI139.out)); (case side2 => exact kB2 HB.out (IsS77.ge HI139.out) GE135.out); rintro e w23 ⟨rfl, hi, hb, hk⟩; refine ⟨_, rfl, ?_⟩; replace BK135 := As (KeepBut.blk hk (kb BK135.out) NB135_139.out (by simp)); replace HB := As (hb); replace HI139 := As (hi); (try clear hb); (try clear hk); (try clear hi)) | ((with_reducible refine gate_dst (N := 6) rfl ?_); (try (refine gate_guard (by rfl) ?_; dsimp only)); refine box_event rfl (N := 6) rfl (cs := #[.int .i64 0, .int .i64 0, .int .i64 0, .int .i64 0, .bool false, .bool false, .int .i64 0, .bool false, .int .u64 0, .int .u64 0, .bool false, .int .u64 0, .int .u64 0, .slice none 0 0, .string (⟨#[]⟩ : ByteArray)]) (t := 28) kG ?_; intro gb148 hg w24 hbox hb; have BK148 := As (hbox); have GW148 := As (gS hg (below_size (kB2 HB.out (IsS77.ge HI139.out) GE135.out))); have GE148 := As (gS hg (below_size (kB2 HB.out (IsS77.ge HI139.out) GE135.out))); replace HB := As (below_step (kB2 HB.out (IsS77.ge HI139.out) GE135.out) hb); have NB135_148 := As (gN hg (blk_lt (kb BK135.out))); have NB148_135 := As (gM hg (blk_lt (kb BK135.out))); replace BK135 := As (blk_below (kb BK135.out) hb); have NB139_148 := As ((by rw [hg]; exact Nat.ne_of_lt (IsS77.lt (show IsS77 w _ g139 t145 t146 t147 from by repeat (first | (with_reducible first | exact HI139.out | apply IsS77.alloc | apply IsS77.drewN | apply IsS77.drew | apply IsS77.set_0 | apply IsS77.set_1 | apply IsS77.set_2 | refine IsS77.far ?_ NB139_135.out _) | exact HI139.out))) : g139 ≠ gb148)); have NB148_139 := As ((by rw [hg]; exact Nat.ne_of_gt (IsS77.lt (show IsS77 w _ g139 t145 t146 t147 from by repeat (first | (with_reducible first | exact HI139.out | apply IsS77.alloc | apply IsS77.drewN | apply IsS77.drew | apply IsS77.set_0 | apply IsS77.set_1 | apply IsS77.set_2 | refine IsS77.far ?_ NB139_135.out _) | exact HI139.out))) : gb148 ≠ g139)); replace HI139 := As (IsS77.below (by repeat (first | (with_reducible first | exact HI139.out | apply IsS77.alloc | apply IsS77.drewN | apply IsS77.drew | apply IsS77.set_0 | apply IsS77.set_1 | apply IsS77.set_2 | refine IsS77.far ?_ NB139_135.out _) | exact HI139.out)) hb); clear hb hbox hg) | ((with_reducible refine gate_store (t := 28) (p := 6) rfl ?_); refine store_rowev_15 gb148 (.int .i64 t144) (.int .i64 0) (.int .i64 0) (.int .i64 0) (.bool false) (.bool false) (.int .i64 0) (.bool false) (.int .u64 0) (.int .u64 0) (.bool false) (.int .u64 0) (.int .u64 0) (.slice none 0 0) (.string (⟨#[]⟩ : ByteArray)) rfl (t := 28) (p := 6) (v := _) rfl rfl rfl rfl (t' := 28) (kb BK148.out) (by rfl) (by kernel_rfl) (by rfl) ?_) | ((with_reducible refine gate_callee (f := 26) rfl ?_); refine goesL_ (some 37) rfl rfl Try.func26 (by kernel_rfl) rfl #[.pointer (some ⟨g139, 0, none⟩), .int .i64 2] rfl kA ?_; (with_reducible refine (field_Reader_Int.calls kj5 g139 t145 t146 t147 2 t149 t150 t151 t152 w _ ?side1 ?side2 A14.out).mono ?_); (case side1 => repeat (first | (with_reducible first | exact HI139.out | apply IsS77.alloc | apply IsS77.drewN | apply IsS77.drew | apply IsS77.set_0 | apply IsS77.set_1 | apply IsS77.set_2 | refine IsS77.far ?_ NB139_135.out _ | refine IsS77.far ?_ NB139_148.out _) | exact HI139.out)); (case side2 => exact kB3 HB.out (IsS77.ge HI139.out) GE135.out GE148.out); rintro e w25 ⟨rfl, hi, hb, hk⟩; refine ⟨_, rfl, ?_⟩; replace BK135 := As (KeepBut.blk hk (g' := gb135) (o := .cells #[.int .i64 0, .int .i64 0, .int .i64 0, .int .i64 0, .bool false, .bool false, .int .i64 0, .bool false, .int .u64 0, .int .u64 0, .bool false, .int .u64 0, .int .u64 0, .slice none 0 0, .string (⟨#[]⟩ : ByteArray)] 28 (0, 0)) (by refine kb ?_; (iterate 15 (refine blk_far ?_ NB135_148.out _; refine kb ?_)); exact BK135.out) NB135_139.out (by simp)); replace BK148 := As (KeepBut.blk hk (g' := gb148) (o := .cells #[.int .i64 t144, .int .i64 0, .int .i64 0, .int .i64 0, .bool false, .bool false, .int .i64 0, .bool false, .int .u64 0, .int .u64 0, .bool false, .int .u64 0, .int .u64 0, .slice none 0 0, .string (⟨#[]⟩ : ByteArray)] 28 (0, 0)) (by refine kb ?_; exact blk_all_15 (kb BK148.out) (by rfl)) NB148_139.out (by simp)); replace HB := As (hb); replace HI139 := As (hi); (try clear hb); (try clear hk); (try clear hi)) | ((with_reducible refine gate_callee (f := 26) rfl ?_); refine goesL_ (some 39) rfl rfl Try.func26 (by kernel_rfl) rfl #[.pointer (some ⟨g139, 0, none⟩), .int .i64 2] rfl kA ?_; (with_reducible refine (field_Reader_Int.calls kj5 g139 t150 t151 t152 2 t153 t154 t155 t156 w _ ?side1 ?side2 A15.out).mono ?_); (case side1 => repeat (first | (with_reducible first | exact HI139.out | apply IsS77.alloc | apply IsS77.drewN | apply IsS77.drew | apply IsS77.set_0 | apply IsS77.set_1 | apply IsS77.set_2 | refine IsS77.far ?_ NB139_135.out _ | refine IsS77.far ?_ NB139_148.out _) | exact HI139.out)); (case side2 => exact kB3 HB.out (IsS77.ge HI139.out) GE135.out GE148.out); rintro e w26 ⟨rfl, hi, hb, hk⟩; refine ⟨_, rfl, ?_⟩; replace BK135 := As (KeepBut.blk hk (kb BK135.out) NB135_139.out (by simp)); replace BK148 := As (KeepBut.blk hk (kb BK148.out) NB148_139.out (by simp)); replace HB := As (hb); replace HI139 := As (hi); (try clear hb); (try clear hk); (try clear hi); have hnb27 := NB148_135.out; have hnc27 := NB135_148.out; have hnb28 := NB148_139.out; have hnc28 := NB139_148.out; have hcz29_0 := cells_15 BK148.out; have hfz29_0 := fun j_ => blk_frozen BK148.out j_) | ((with_reducible refine gate_callee (f := 26) rfl ?_); refine goesL_ (some 42) rfl rfl Try.func26 (by kernel_rfl) rfl #[.pointer (some ⟨g139, 0, none⟩), .int .i64 2] rfl kA ?_; (with_reducible refine (field_Reader_Int.calls kj5 g139 t154 t155 t156 2 t157 t158 t159 t160 w _ ?side1 ?side2 A16.out).mono ?_); (case side1 => repeat (first | (with_reducible first | exact HI139.out | apply IsS77.alloc | apply IsS77.drewN | apply IsS77.drew | apply IsS77.set_0 | apply IsS77.set_1 | apply IsS77.set_2 | refine IsS77.far ?_ NB139_135.out _ | refine IsS77.far ?_ NB139_148.out _) | exact HI139.out)); (case side2 => exact kB3 HB.out (IsS77.ge HI139.out) GE135.out GE148.out); rintro e w30 ⟨rfl, hi, hb, hk⟩; refine ⟨_, rfl, ?_⟩; replace BK135 := As (KeepBut.blk hk (g' := gb135) (o := .cells #[.int .i64 0, .int .i64 0, .int .i64 0, .int .i64 0, .bool false, .bool false, .int .i64 0, .bool false, .int .u64 0, .int .u64 0, .bool false, .int .u64 0, .int .u64 0, .slice none 0 0, .string (⟨#[]⟩ : ByteArray)] 28 (0, 0)) (by refine kb ?_; refine blk_far ?_ NB135_148.out _; exact kb BK135.out) NB135_139.out (by simp)); replace BK148 := As (KeepBut.blk hk (g' := gb148) (o := .cells #[.int .i64 t144, .int .i64 t153, .int .i64 0, .int .i64 0, .bool false, .bool false, .int .i64 0, .bool false, .int .u64 0, .int .u64 0, .bool false, .int .u64 0, .int .u64 0, .slice none 0 0, .string (⟨#[]⟩ : ByteArray)] 28 (0, 0)) (by refine kb ?_; refine blk_put (cs := #[.int .i64 t144, .int .i64 0, .int .i64 0, .int .i64 0, .bool false, .bool false, .int .i64 0, .bool false, .int .u64 0, .int .u64 0, .bool false, .int .u64 0, .int .u64 0, .slice none 0 0, .string (⟨#[]⟩ : ByteArray)]) ?_ 1 _ rfl; exact kb BK148.out) NB148_139.out (by simp)); replace HB := As (hb); replace HI139 := As (hi); (try clear hb); (try clear hk); (try clear hi)) | ((with_reducible refine gate_callee (f := 26) rfl ?_); refine goesL_ (some 44) rfl rfl Try.func26 (by kernel_rfl) rfl #[.pointer (some ⟨g139, 0, none⟩), .int .i64 1] rfl kA ?_; (with_reducible refine (field_Reader_Int.calls kj5 g139 t158 t159 t160 1 t161 t162 t163 t164 w _ ?side1 ?side2 A17.out).mono ?_); (case side1 => repeat (first | (with_reducible first | exact HI139.out | apply IsS77.alloc | apply IsS77.drewN | apply IsS77.drew | apply IsS77.set_0 | apply IsS77.set_1 | apply IsS77.set_2 | refine IsS77.far ?_ NB139_135.out _ | refine IsS77.far ?_ NB139_148.out _) | exact HI139.out)); (case side2 => exact kB3 HB.out (IsS77.ge HI139.out) GE135.out GE148.out); rintro e w31 ⟨rfl, hi, hb, hk⟩; refine ⟨_, rfl, ?_⟩; replace BK135 := As (KeepBut.blk hk (kb BK135.out) NB135_139.out (by simp)); replace BK148 := As (KeepBut.blk hk (kb BK148.out) NB148_139.out (by simp)); replace HB := As (hb); replace HI139 := As (hi); (try clear hb); (try clear hk); (try clear hi)) | ((with_reducible refine gate_callee (f := 26) rfl ?_); refine goesL_ (some 46) rfl rfl Try.func26 (by kernel_rfl) rfl #[.pointer (some ⟨g139, 0, none⟩), .int .i64 1] rfl kA ?_; (with_reducible refine (field_Reader_Int.calls kj5 g139 t162 t163 t164 1 t165 t166 t167 t168 w _ ?side1 ?side2 A18.out).mono ?_); (case side1 => repeat (first | (with_reducible first | exact HI139.out | apply IsS77.alloc | apply IsS77.drewN | apply IsS77.drew | apply IsS77.set_0 | apply IsS77.set_1 | apply IsS77.set_2 | refine IsS77.far ?_ NB139_135.out _ | refine IsS77.far ?_ NB139_148.out _) | exact HI139.out)); (case side2 => exact kB3 HB.out (IsS77.ge HI139.out) GE135.out GE148.out); rintro e w32 ⟨rfl, hi, hb, hk⟩; refine ⟨_, rfl, ?_⟩; replace BK135 := As (KeepBut.blk hk (kb BK135.out) NB135_139.out (by simp)); replace BK148 := As (KeepBut.blk hk (kb BK148.out) NB148_139.out (by simp)); replace HB := As (hb); replace HI139 := As (hi); (try clear hb); (try clear hk); (try clear hi); have hcz33_0 := cells_15 BK148.out; have hfz33_0 := fun j_ => blk_frozen BK148.out j_) | ((with_reducible refine gate_callee (f := 26) rfl ?_); refine goesL_ (some 50) rfl rfl Try.func26 (by kernel_rfl) rfl #[.pointer (some ⟨g139, 0, none⟩), .int .i64 2] rfl kA ?_; (with_reducible refine (field_Reader_Int.calls kj5 g139 t166 t167 t168 2 t169 t170 t171 t172 w _ ?side1 ?side2 A19.out).mono ?_); (case side1 => repeat (first | (with_reducible first | exact HI139.out | apply IsS77.alloc | apply IsS77.drewN | apply IsS77.drew | apply IsS77.set_0 | apply IsS77.set_1 | apply IsS77.set_2 | refine IsS77.far ?_ NB139_135.out _ | refine IsS77.far ?_ NB139_148.out _) | exact HI139.out)); (case side2 => exact kB3 HB.out (IsS77.ge HI139.out) GE135.out GE148.out); rintro e w34 ⟨rfl, hi, hb, hk⟩; refine ⟨_, rfl, ?_⟩; replace BK135 := As (KeepBut.blk hk (g' := gb135) (o := .cells #[.int .i64 0, .int .i64 0, .int .i64 0, .int .i64 0, .bool false, .bool false, .int .i64 0, .bool false, .int .u64 0, .int .u64 0, .bool false, .int .u64 0, .int .u64 0, .slice none 0 0, .string (⟨#[]⟩ : ByteArray)] 28 (0, 0)) (by refine kb ?_; refine blk_far ?_ NB135_148.out _; refine kb ?_; refine blk_far ?_ NB135_148.out _; exact kb BK135.out) NB135_139.out (by simp)); replace BK148 := As (KeepBut.blk hk (g' := gb148) (o := .cells #[.int .i64 t144, .int .i64 t153, .int .i64 t161, .int .i64 t165, .bool false, .bool false, .int .i64 0, .bool false, .int .u64 0, .int .u64 0, .bool false, .int .u64 0, .int .u64 0, .slice none 0 0, .string (⟨#[]⟩ : ByteArray)] 28 (0, 0)) (by refine kb ?_; refine blk_put (cs := #[.int .i64 t144, .int .i64 t153, .int .i64 t161, .int .i64 0, .bool false, .bool false, .int .i64 0, .bool false, .int .u64 0, .int .u64 0, .bool false, .int .u64 0, .int .u64 0, .slice none 0 0, .string (⟨#[]⟩ : ByteArray)]) ?_ 3 _ rfl; refine kb ?_; refine blk_put (cs := #[.int .i64 t144, .int .i64 t153, .int .i64 0, .int .i64 0, .bool false, .bool false, .int .i64 0, .bool false, .int .u64 0, .int .u64 0, .bool false, .int .u64 0, .int .u64 0, .slice none 0 0, .string (⟨#[]⟩ : ByteArray)]) ?_ 2 _ rfl; exact kb BK148.out) NB148_139.out (by simp)); replace HB := As (hb); replace HI139 := As (hi); (try clear hb); (try clear hk); (try clear hi)))
  (try simp only [Act.put, sA, sZ, sS])
  go_cut [51] (fun v51 wc => ∃ (kq : Nat) (x51_19 : Bool), v51 = .bool x51_19 ∧ Aside0 (ipv4_Decode.j1 kq a0 (wrap64 (4 * (wrap64 (Go.bits .and .u8 (bt a0 0) 15)))) t149 t157 x51_19 t170 t171 t172 t144 t153 t161 t165 false false 0 false 0 0 false 0 0 (⟨#[]⟩ : ByteArray) = some (r1, r2, r3, r4, r5, r6, r7, r8, r9, r10, r11, r12, r13, r14, r15, r16)) ∧ Aside0 (kq ≤ kj5) ∧ Aside0 (wc.heap[gb135]? = some (.cells #[.int .i64 0, .int .i64 0, .int .i64 0, .int .i64 0, .bool false, .bool false, .int .i64 0, .bool false, .int .u64 0, .int .u64 0, .bool false, .int .u64 0, .int .u64 0, (.slice none 0 0), .string (⟨#[]⟩ : ByteArray)] 28 (0, 0))) ∧ Aside0 (wc.heap[gb148]? = some (.cells #[.int .i64 t144, .int .i64 t153, .int .i64 t161, .int .i64 t165, .bool false, .bool false, .int .i64 0, .bool false, .int .u64 0, .int .u64 0, .bool false, .int .u64 0, .int .u64 0, (.slice none 0 0), .string (⟨#[]⟩ : ByteArray)] 28 (0, 0))) ∧ Aside0 (IsS77 w wc g139 t170 t171 t172) ∧ Aside0 (Below w.heap.size w wc))
  case first =>
   have H := HC20.out
   clear HC20
   by_cases c35 : (wrap64 (4 * (wrap64 (Go.bits .and .u8 (bt a0 0) 15)))) > (a0.size : Int)
   ·rw [if_pos c35] at H
    have c35b0 : decide ((a0.size : Int) < (wrap64 (4 * (wrap64 (Go.bits .and .u8 (bt a0 0) 15))))) = true := decide_eq_true c35
    clear c35
    (first | rw [c35b0] | (simp only [i64_w, i32_w]; rw [c35b0]) | skip)
    have H' := As H
    clear H
    go_wp2
    go_meet
    case rel => exact ⟨_, (true), kS, H', ⟨by have := HJ5.out; first | omega | exact Nat.le_refl _⟩, ⟨kb BK135.out⟩, ⟨kb BK148.out⟩, ⟨by repeat (first | (with_reducible first | exact HI139.out | apply IsS77.alloc | apply IsS77.drewN | apply IsS77.drew | apply IsS77.set_0 | apply IsS77.set_1 | apply IsS77.set_2 | refine IsS77.far ?_ NB139_135.out _ | refine IsS77.far ?_ NB139_148.out _) | exact HI139.out)⟩, ⟨kB3 HB.out (IsS77.ge HI139.out) GE135.out GE148.out⟩⟩
   rw [if_neg c35] at H
   have c35b0 : decide ((a0.size : Int) < (wrap64 (4 * (wrap64 (Go.bits .and .u8 (bt a0 0) 15))))) = false := decide_eq_false c35
   clear c35
   (first | rw [c35b0] | (simp only [i64_w, i32_w]; rw [c35b0]) | skip)
   have H' := As H
   clear H
   go_wp2
   go_meet
   case rel => exact ⟨_, (decide (t149 > (a0.size : Int))), kS, H', ⟨by have := HJ5.out; first | omega | exact Nat.le_refl _⟩, ⟨kb BK135.out⟩, ⟨kb BK148.out⟩, ⟨by repeat (first | (with_reducible first | exact HI139.out | apply IsS77.alloc | apply IsS77.drewN | apply IsS77.drew | apply IsS77.set_0 | apply IsS77.set_1 | apply IsS77.set_2 | refine IsS77.far ?_ NB139_135.out _ | refine IsS77.far ?_ NB139_148.out _) | exact HI139.out)⟩, ⟨kB3 HB.out (IsS77.ge HI139.out) GE135.out GE148.out⟩⟩
  clear HC20
  try clear c10
  try clear hcz29_0
  try clear hcz33_0
  try clear hfz29_0
  try clear hfz33_0
  obtain ⟨kq, x51_19, rfl, HA, HJ19, BK135, BK148, HI139, HB⟩ := hcut
  cases kq with
  | zero => exact absurd HA.out (by simp [ipv4_Decode.j1])
  | succ kj19 =>
   have H := HA.out
   clear HA
   simp only [ipv4_Decode.j1] at H
   by_cases c36 : x51_19 = true
   ·subst c36
    rw [if_pos rfl] at H
    simp only [Option.some.injEq, Prod.mk.injEq] at H
    obtain ⟨rfl, rfl, rfl, rfl, rfl, rfl, rfl, rfl, rfl, rfl, rfl, rfl, rfl, rfl, rfl, rfl⟩ := H
    go_wp2_with (first | ((with_reducible refine gate_store (t := 28) (p := 2) rfl ?_); refine store_rowev_15 gb135 (.int .i64 0) (.int .i64 0) (.int .i64 0) (.int .i64 0) (.bool false) (.bool false) (.int .i64 0) (.bool false) (.int .u64 0) (.int .u64 0) (.bool false) (.int .u64 0) (.int .u64 0) (.slice none 0 0) (.string (⟨#[]⟩ : ByteArray)) rfl (t := 28) (p := 2) (v := _) rfl rfl rfl rfl (t' := 28) (kb BK135.out) (by rfl) (by kernel_rfl) (by rfl) ?_))
    refine bodyPost_ret (results_ct rfl _ _ gb135 28 #[.int .i64 0, .int .i64 0, .int .i64 0, .int .i64 0, .bool false, .bool false, .int .i64 0, .bool false, .int .u64 0, .int .u64 0, .bool false, .int .u64 0, .int .u64 0, .slice none 0 0, .string (⟨#[]⟩ : ByteArray)] (0, 0) _ rfl (by refine kb ?_; exact blk_all_15 (kb BK135.out) (by rfl)) Try.underlying28 rfl (by kernel_rfl)) rfl ?_
    exact ⟨_, kE, by first | exact Kd.R_nil _ _ _ _ _ | exact Kd.N_nil _ _ _ _ _ | exact Kd.V_nil _ _ _ _ _ | exact Kd.Q_nil _ _ _ _ _ | exact Kd.S_nil _ _ _ _ _, by exact kB3 HB.out (IsS77.ge HI139.out) GE135.out GE148.out⟩
   replace c36 := Bool.eq_false_iff.mpr c36
   subst c36
   rw [if_neg (show ¬ (false = true) by decide)] at H
   by_cases c37 : t149 < (wrap64 (4 * (wrap64 (Go.bits .and .u8 (bt a0 0) 15))))
   ·rw [if_pos c37] at H
    have c37b0 : decide (t149 < (wrap64 (4 * (wrap64 (Go.bits .and .u8 (bt a0 0) 15))))) = true := decide_eq_true c37
    clear c37
    simp only [Option.some.injEq, Prod.mk.injEq] at H
    obtain ⟨rfl, rfl, rfl, rfl, rfl, rfl, rfl, rfl, rfl, rfl, rfl, rfl, rfl, rfl, rfl, rfl⟩ := H
    go_wp2_with (first | ((with_reducible refine gate_store (t := 28) (p := 2) rfl ?_); refine store_rowev_15 gb135 (.int .i64 0) (.int .i64 0) (.int .i64 0) (.int .i64 0) (.bool false) (.bool false) (.int .i64 0) (.bool false) (.int .u64 0) (.int .u64 0) (.bool false) (.int .u64 0) (.int .u64 0) (.slice none 0 0) (.string (⟨#[]⟩ : ByteArray)) rfl (t := 28) (p := 2) (v := _) rfl rfl rfl rfl (t' := 28) (kb BK135.out) (by rfl) (by kernel_rfl) (by rfl) ?_))
    refine bodyPost_ret (results_ct rfl _ _ gb135 28 #[.int .i64 0, .int .i64 0, .int .i64 0, .int .i64 0, .bool false, .bool false, .int .i64 0, .bool false, .int .u64 0, .int .u64 0, .bool false, .int .u64 0, .int .u64 0, .slice none 0 0, .string (⟨#[]⟩ : ByteArray)] (0, 0) _ rfl (by refine kb ?_; exact blk_all_15 (kb BK135.out) (by rfl)) Try.underlying28 rfl (by kernel_rfl)) rfl ?_
    exact ⟨_, kE, by first | exact Kd.R_nil _ _ _ _ _ | exact Kd.N_nil _ _ _ _ _ | exact Kd.V_nil _ _ _ _ _ | exact Kd.Q_nil _ _ _ _ _ | exact Kd.S_nil _ _ _ _ _, by exact kB3 HB.out (IsS77.ge HI139.out) GE135.out GE148.out⟩
   rw [if_neg c37] at H
   have c37b0 : decide (t149 < (wrap64 (4 * (wrap64 (Go.bits .and .u8 (bt a0 0) 15))))) = false := decide_eq_false c37
   clear c37
   obtain ⟨ji38, hji38⟩ : ∃ j_ : Int, (wrap64 (4 * (wrap64 (Go.bits .and .u8 (bt a0 0) 15)))) = j_ := ⟨_, rfl⟩
   replace H : (if 0 ≤ (ji38) then (if (ji38) ≤ (a0.size : Int) then ((checksum_Sum.f kj19 (a0.extract 0 ((ji38) : Int).toNat)).bind fun t173 => (if t173 = 0 then ((field_Reader_Take.f t170 t171 t172 4).bind fun bt174 => ((address_FromBytes.f kj19 bt174.1).bind fun bt178 => ((field_Reader_Take.f bt174.2.1 bt174.2.2.1 bt174.2.2.2 4).bind fun bt182 => ((address_FromBytes.f kj19 bt182.1).bind fun bt186 => (if 20 ≤ (ji38) then ((ipv4_options.f kj19 (a0.extract 20 ((ji38) : Int).toNat)).bind fun bt190 => (if bt190.2 = true then (if (Go.bits .and .i64 t157 32768) = 0 then (if (ji38) ≤ t149 then (if t149 ≤ (a0.size : Int) then (some (t144, t153, t161, t165, ((Go.bits .and .i64 t157 16384) != 0), ((Go.bits .and .i64 t157 8192) != 0), wrap64 (8 * (Go.bits .and .i64 t157 8191)), bt178.1, bt178.2.1, bt178.2.2.1, bt186.1, bt186.2.1, bt186.2.2.1, bt190.1, a0.extract ((ji38) : Int).toNat (t149 : Int).toNat, 0)) else (none)) else (none)) else (some (0, 0, 0, 0, false, false, 0, false, 0, 0, false, 0, 0, ([] : List (S50)), (⟨#[]⟩ : ByteArray), 2))) else (some (0, 0, 0, 0, false, false, 0, false, 0, 0, false, 0, 0, ([] : List (S50)), (⟨#[]⟩ : ByteArray), 2)))) else (none)))))) else (some (0, 0, 0, 0, false, false, 0, false, 0, 0, false, 0, 0, ([] : List (S50)), (⟨#[]⟩ : ByteArray), 8)))) else (none)) else (none)) = some (r1, r2, r3, r4, r5, r6, r7, r8, r9, r10, r11, r12, r13, r14, r15, r16) := by first | (rw [hji38] at H; exact H) | (simp only [hji38] at H ⊢; exact H)
   (try rw [hji38] at c37b0)
   have hji38w : (IntKind.i64.wrap (4 * (wrap64 (Go.bits .and .u8 (bt a0 0) 15)))) = ji38 := (i64_w _).trans hji38
   replace H := iS H
   obtain ⟨c39, H⟩ := H
   have c39b0 := eq_true c39
   have c39b1 := decide_eq_true c39
   clear c39
   replace H := iS H
   obtain ⟨c40, H⟩ := H
   have c40b0 := eq_true c40
   have c40b1 := decide_eq_true c40
   clear c40
   replace H := bS H
   obtain ⟨t173, A41, H⟩ := H
   by_cases c42 : t173 = 0
   ·rw [if_pos c42] at H
    have c42b0 : (t173 == 0) = true := beq_iff_eq.mpr c42
    have c42b1 : (t173 != 0) = false := bne_eq_false_iff_eq.mpr c42
    clear c42
    replace H := bS H
    obtain ⟨⟨t174, t175, t176, t177⟩, A43, H⟩ := H
    try dsimp -simprocs only at H
    replace H := bS H
    obtain ⟨⟨t178, t179, t180, t181⟩, A44, H⟩ := H
    try dsimp -simprocs only at H
    replace H := bS H
    obtain ⟨⟨t182, t183, t184, t185⟩, A45, H⟩ := H
    try dsimp -simprocs only at H
    replace H := bS H
    obtain ⟨⟨t186, t187, t188, t189⟩, A46, H⟩ := H
    try dsimp -simprocs only at H
    replace H := iS H
    obtain ⟨c47, H⟩ := H
    have c47b0 := eq_true c47
    have c47b1 := decide_eq_true c47
    clear c47
    have c48b0 := eq_true (of_decide_eq_true (by first | (with_reducible assumption) | assumption) : (ji38) ≤ (a0.size : Int))
    replace H := bS H
    obtain ⟨⟨t190, t191⟩, A49, H⟩ := H
    try dsimp -simprocs only at H
    by_cases c50 : t191 = true
    ·subst c50
     rw [if_pos rfl] at H
     by_cases c51 : (Go.bits .and .i64 t157 32768) = 0
     ·rw [if_pos c51] at H
      have c51b0 : ((Go.bits .and .i64 t157 32768) == 0) = true := beq_iff_eq.mpr c51
      have c51b1 : ((Go.bits .and .i64 t157 32768) != 0) = false := bne_eq_false_iff_eq.mpr c51
      clear c51
      have c52b0 := eq_true (of_decide_eq_true (by first | (with_reducible assumption) | assumption) : 0 ≤ (ji38))
      replace H := iS H
      obtain ⟨c53, H⟩ := H
      have c53b0 := eq_true c53
      have c53b1 := decide_eq_true c53
      clear c53
      replace H := iS H
      obtain ⟨c54, H⟩ := H
      have c54b0 := eq_true c54
      have c54b1 := decide_eq_true c54
      clear c54
      simp only [Option.some.injEq, Prod.mk.injEq] at H
      obtain ⟨rfl, rfl, rfl, rfl, rfl, rfl, rfl, rfl, rfl, rfl, rfl, rfl, rfl, rfl, rfl, rfl⟩ := H
      go_wp2_with (first | ((with_reducible refine gate_callee (f := 23) rfl ?_); refine goesL_ (some 72) rfl rfl Try.func23 (by kernel_rfl) rfl #[.string (a0.extract 0 ((ji38) : Int).toNat)] rfl (by (try simp only [List.map_toArray, List.map_cons, List.map_nil]); first | done | (simp only [hji38]; rfl) | rfl | (simp only [List.length_drop, List.length_take]; rfl)) ?_; (with_reducible refine (checksum_Sum.calls kj19 (a0.extract 0 ((ji38) : Int).toNat) t173 _ A41.out).mono ?_); rintro e w' ⟨rfl, ⟨nd, rfl⟩⟩; refine ⟨_, rfl, ?_⟩; (try (rw [drewN_self wc]; generalize hq_ : World.drewN wc _ = wc; have n0_ : Aside0 (wc.heap[gb135]? = some (.cells #[.int .i64 0, .int .i64 0, .int .i64 0, .int .i64 0, .bool false, .bool false, .int .i64 0, .bool false, .int .u64 0, .int .u64 0, .bool false, .int .u64 0, .int .u64 0, .slice none 0 0, .string (⟨#[]⟩ : ByteArray)] 28 (0, 0))) := ⟨by rw [← hq_]; exact (kb BK135.out)⟩; have n1_ : Aside0 (wc.heap[gb148]? = some (.cells #[.int .i64 t144, .int .i64 t153, .int .i64 t161, .int .i64 t165, .bool false, .bool false, .int .i64 0, .bool false, .int .u64 0, .int .u64 0, .bool false, .int .u64 0, .int .u64 0, .slice none 0 0, .string (⟨#[]⟩ : ByteArray)] 28 (0, 0))) := ⟨by rw [← hq_]; exact (kb BK148.out)⟩; have n2_ : Aside0 (IsS77 w wc g139 t170 t171 t172) := ⟨by rw [← hq_]; exact (by repeat (first | (with_reducible first | exact HI139.out | apply IsS77.alloc | apply IsS77.drewN | apply IsS77.drew | apply IsS77.set_0 | apply IsS77.set_1 | apply IsS77.set_2 | refine IsS77.far ?_ NB139_135.out _ | refine IsS77.far ?_ NB139_148.out _) | exact HI139.out))⟩; have n3_ : Aside0 (Below w.heap.size w wc) := ⟨by rw [← hq_]; exact (kB3 HB.out (IsS77.ge HI139.out) GE135.out GE148.out)⟩; clear BK135 BK148 HI139 HB hq_; have BK135 := n0_; have BK148 := n1_; have HI139 := n2_; have HB := n3_; clear n0_ n1_ n2_ n3_))) | ((with_reducible refine gate_callee (f := 28) rfl ?_); refine goesL_ (some 77) rfl rfl Try.func28 (by kernel_rfl) rfl #[.pointer (some ⟨g139, 0, none⟩), .int .i64 4] rfl kA ?_; (with_reducible refine (field_Reader_Take.calls g139 t170 t171 t172 4 t174 t175 t176 t177 w _ ?side1 ?side2 A43.out).mono ?_); (case side1 => repeat (first | (with_reducible first | exact HI139.out | apply IsS77.alloc | apply IsS77.drewN | apply IsS77.drew | apply IsS77.set_0 | apply IsS77.set_1 | apply IsS77.set_2 | refine IsS77.far ?_ NB139_135.out _ | refine IsS77.far ?_ NB139_148.out _) | exact HI139.out)); (case side2 => exact kB3 HB.out (IsS77.ge HI139.out) GE135.out GE148.out); rintro e w55 ⟨rfl, hi, hb, hk⟩; refine ⟨_, rfl, ?_⟩; replace BK135 := As (KeepBut.blk hk (kb BK135.out) NB135_139.out (by simp)); replace BK148 := As (KeepBut.blk hk (kb BK148.out) NB148_139.out (by simp)); replace HB := As (hb); replace HI139 := As (hi); (try clear hb); (try clear hk); (try clear hi)) | ((with_reducible refine gate_callee (f := 27) rfl ?_); refine goesL_ (some 78) rfl rfl Try.func27 (by kernel_rfl) rfl #[.string t174] rfl kA ?_; (with_reducible refine (address_FromBytes.calls kj19 t174 t178 t179 t180 t181 _ A44.out).mono ?_); rintro e w56 ⟨rfl, hb⟩; refine ⟨_, rfl, ?_⟩; replace BK135 := As (blk_below (kb BK135.out) hb); replace BK148 := As (blk_below (kb BK148.out) hb); replace HB := As (below_step (kB3 HB.out (IsS77.ge HI139.out) GE135.out GE148.out) hb); replace HI139 := As (IsS77.below (by repeat (first | (with_reducible first | exact HI139.out | apply IsS77.alloc | apply IsS77.drewN | apply IsS77.drew | apply IsS77.set_0 | apply IsS77.set_1 | apply IsS77.set_2 | refine IsS77.far ?_ NB139_135.out _ | refine IsS77.far ?_ NB139_148.out _) | exact HI139.out)) hb); (try clear hb); have hnb57 := NB148_135.out; have hnc57 := NB135_148.out; have hnb58 := NB148_139.out; have hnc58 := NB139_148.out; have hcz59_0 := cells_15 BK148.out; have hfz59_0 := fun j_ => blk_frozen BK148.out j_) | ((with_reducible refine gate_callee (f := 28) rfl ?_); refine goesL_ (some 84) rfl rfl Try.func28 (by kernel_rfl) rfl #[.pointer (some ⟨g139, 0, none⟩), .int .i64 4] rfl kA ?_; (with_reducible refine (field_Reader_Take.calls g139 t175 t176 t177 4 t182 t183 t184 t185 w _ ?side1 ?side2 A45.out).mono ?_); (case side1 => repeat (first | (with_reducible first | exact HI139.out | apply IsS77.alloc | apply IsS77.drewN | apply IsS77.drew | apply IsS77.set_0 | apply IsS77.set_1 | apply IsS77.set_2 | refine IsS77.far ?_ NB139_135.out _ | refine IsS77.far ?_ NB139_148.out _) | exact HI139.out)); (case side2 => exact kB3 HB.out (IsS77.ge HI139.out) GE135.out GE148.out); rintro e w60 ⟨rfl, hi, hb, hk⟩; refine ⟨_, rfl, ?_⟩; replace BK135 := As (KeepBut.blk hk (g' := gb135) (o := .cells #[.int .i64 0, .int .i64 0, .int .i64 0, .int .i64 0, .bool false, .bool false, .int .i64 0, .bool false, .int .u64 0, .int .u64 0, .bool false, .int .u64 0, .int .u64 0, .slice none 0 0, .string (⟨#[]⟩ : ByteArray)] 28 (0, 0)) (by refine kb ?_; (iterate 3 (refine blk_far ?_ NB135_148.out _; refine kb ?_)); exact BK135.out) NB135_139.out (by simp)); replace BK148 := As (KeepBut.blk hk (g' := gb148) (o := .cells #[.int .i64 t144, .int .i64 t153, .int .i64 t161, .int .i64 t165, .bool false, .bool false, .int .i64 0, .bool t178, .int .u64 t179, .int .u64 t180, .bool false, .int .u64 0, .int .u64 0, .slice none 0 0, .string (⟨#[]⟩ : ByteArray)] 28 (0, 0)) (by refine kb ?_; refine blk_put (cs := #[.int .i64 t144, .int .i64 t153, .int .i64 t161, .int .i64 t165, .bool false, .bool false, .int .i64 0, .bool t178, .int .u64 t179, .int .u64 0, .bool false, .int .u64 0, .int .u64 0, .slice none 0 0, .string (⟨#[]⟩ : ByteArray)]) ?_ 9 _ rfl; refine kb ?_; refine blk_put (cs := #[.int .i64 t144, .int .i64 t153, .int .i64 t161, .int .i64 t165, .bool false, .bool false, .int .i64 0, .bool t178, .int .u64 0, .int .u64 0, .bool false, .int .u64 0, .int .u64 0, .slice none 0 0, .string (⟨#[]⟩ : ByteArray)]) ?_ 8 _ rfl; refine kb ?_; refine blk_put (cs := #[.int .i64 t144, .int .i64 t153, .int .i64 t161, .int .i64 t165, .bool false, .bool false, .int .i64 0, .bool false, .int .u64 0, .int .u64 0, .bool false, .int .u64 0, .int .u64 0, .slice none 0 0, .string (⟨#[]⟩ : ByteArray)]) ?_ 7 _ rfl; exact kb BK148.out) NB148_139.out (by simp)); replace HB := As (hb); replace HI139 := As (hi); (try clear hb); (try clear hk); (try clear hi)) | ((with_reducible refine gate_callee (f := 27) rfl ?_); refine goesL_ (some 85) rfl rfl Try.func27 (by kernel_rfl) rfl #[.string t182] rfl kA ?_; (with_reducible refine (address_FromBytes.calls kj19 t182 t186 t187 t188 t189 _ A46.out).mono ?_); rintro e w61 ⟨rfl, hb⟩; refine ⟨_, rfl, ?_⟩; replace BK135 := As (blk_below (kb BK135.out) hb); replace BK148 := As (blk_below (kb BK148.out) hb); replace HB := As (below_step (kB3 HB.out (IsS77.ge HI139.out) GE135.out GE148.out) hb); replace HI139 := As (IsS77.below (by repeat (first | (with_reducible first | exact HI139.out | apply IsS77.alloc | apply IsS77.drewN | apply IsS77.drew | apply IsS77.set_0 | apply IsS77.set_1 | apply IsS77.set_2 | refine IsS77.far ?_ NB139_135.out _ | refine IsS77.far ?_ NB139_148.out _) | exact HI139.out)) hb); (try clear hb); have hcz62_0 := cells_15 BK148.out; have hfz62_0 := fun j_ => blk_frozen BK148.out j_) | ((with_reducible refine gate_callee (f := 29) rfl ?_); refine goesL_ (some 93) rfl rfl Try.func29 (by kernel_rfl) rfl #[.string (a0.extract 20 ((ji38) : Int).toNat)] rfl (by (try simp only [List.map_toArray, List.map_cons, List.map_nil]); first | done | (simp only [hji38]; rfl) | rfl | (simp only [List.length_drop, List.length_take]; rfl)) ?_; (with_reducible refine (ipv4_options.calls kj19 (a0.extract 20 ((ji38) : Int).toNat) t190 true _ A49.out).mono ?_); rintro e w63 ⟨v192, rfl, ho0, hb⟩; refine ⟨_, rfl, ?_⟩; have HO193 := As (Kd.R_lower ho0 (below_size (kB3 HB.out (IsS77.ge HI139.out) GE135.out GE148.out))); replace BK135 := As (blk_below (g := gb135) (o := .cells #[.int .i64 0, .int .i64 0, .int .i64 0, .int .i64 0, .bool false, .bool false, .int .i64 0, .bool false, .int .u64 0, .int .u64 0, .bool false, .int .u64 0, .int .u64 0, .slice none 0 0, .string (⟨#[]⟩ : ByteArray)] 28 (0, 0)) (by refine kb ?_; (iterate 3 (refine blk_far ?_ NB135_148.out _; refine kb ?_)); exact BK135.out) hb); replace BK148 := As (blk_below (g := gb148) (o := .cells #[.int .i64 t144, .int .i64 t153, .int .i64 t161, .int .i64 t165, .bool false, .bool false, .int .i64 0, .bool t178, .int .u64 t179, .int .u64 t180, .bool t186, .int .u64 t187, .int .u64 t188, .slice none 0 0, .string (⟨#[]⟩ : ByteArray)] 28 (0, 0)) (by refine kb ?_; refine blk_put (cs := #[.int .i64 t144, .int .i64 t153, .int .i64 t161, .int .i64 t165, .bool false, .bool false, .int .i64 0, .bool t178, .int .u64 t179, .int .u64 t180, .bool t186, .int .u64 t187, .int .u64 0, .slice none 0 0, .string (⟨#[]⟩ : ByteArray)]) ?_ 12 _ rfl; refine kb ?_; refine blk_put (cs := #[.int .i64 t144, .int .i64 t153, .int .i64 t161, .int .i64 t165, .bool false, .bool false, .int .i64 0, .bool t178, .int .u64 t179, .int .u64 t180, .bool t186, .int .u64 0, .int .u64 0, .slice none 0 0, .string (⟨#[]⟩ : ByteArray)]) ?_ 11 _ rfl; refine kb ?_; refine blk_put (cs := #[.int .i64 t144, .int .i64 t153, .int .i64 t161, .int .i64 t165, .bool false, .bool false, .int .i64 0, .bool t178, .int .u64 t179, .int .u64 t180, .bool false, .int .u64 0, .int .u64 0, .slice none 0 0, .string (⟨#[]⟩ : ByteArray)]) ?_ 10 _ rfl; exact kb BK148.out) hb); replace HB := As (below_step (kB3 HB.out (IsS77.ge HI139.out) GE135.out GE148.out) hb); replace HI139 := As (IsS77.below (show IsS77 w (((w61.setCell ⟨gb148, 10, none⟩ (.bool t186)).setCell ⟨gb148, 11, none⟩ (.int .u64 t187)).setCell ⟨gb148, 12, none⟩ (.int .u64 t188)) g139 t183 t184 t185 from by repeat (first | (with_reducible first | exact HI139.out | apply IsS77.alloc | apply IsS77.drewN | apply IsS77.drew | apply IsS77.set_0 | apply IsS77.set_1 | apply IsS77.set_2 | refine IsS77.far ?_ NB139_135.out _ | refine IsS77.far ?_ NB139_148.out _) | exact HI139.out)) hb); (try clear hb); (try clear ho0); obtain ⟨Ao64, co64, eo64⟩ := Kd.R_slice HO193.out; subst eo64; have hcz65_0 := cells_15 BK148.out; have hfz65_0 := fun j_ => blk_frozen BK148.out j_) | ((with_reducible refine gate_dst (N := 123) rfl ?_); (try (refine gate_guard (by rfl) ?_; dsimp only)); refine wpList_load_row ?hgd 28 _ rfl gb148 rfl 28 #[.int .i64 t144, .int .i64 t153, .int .i64 t161, .int .i64 t165, .bool ((Go.bits .and .i64 t157 16384) != 0), .bool ((Go.bits .and .i64 t157 8192) != 0), .int .i64 (wrap64 (8 * (Go.bits .and .i64 t157 8191))), .bool t178, .int .u64 t179, .int .u64 t180, .bool t186, .int .u64 t187, .int .u64 t188, .slice Ao64 t190.length co64, .string (a0.extract ((ji38) : Int).toNat (t149 : Int).toNat)] (0, 0) _ (by refine kb ?_; refine blk_put (cs := #[.int .i64 t144, .int .i64 t153, .int .i64 t161, .int .i64 t165, .bool ((Go.bits .and .i64 t157 16384) != 0), .bool ((Go.bits .and .i64 t157 8192) != 0), .int .i64 (wrap64 (8 * (Go.bits .and .i64 t157 8191))), .bool t178, .int .u64 t179, .int .u64 t180, .bool t186, .int .u64 t187, .int .u64 t188, .slice Ao64 t190.length co64, .string (⟨#[]⟩ : ByteArray)]) ?_ 14 _ rfl; refine kb ?_; refine blk_put (cs := #[.int .i64 t144, .int .i64 t153, .int .i64 t161, .int .i64 t165, .bool ((Go.bits .and .i64 t157 16384) != 0), .bool ((Go.bits .and .i64 t157 8192) != 0), .int .i64 0, .bool t178, .int .u64 t179, .int .u64 t180, .bool t186, .int .u64 t187, .int .u64 t188, .slice Ao64 t190.length co64, .string (⟨#[]⟩ : ByteArray)]) ?_ 6 _ rfl; refine kb ?_; refine blk_put (cs := #[.int .i64 t144, .int .i64 t153, .int .i64 t161, .int .i64 t165, .bool ((Go.bits .and .i64 t157 16384) != 0), .bool false, .int .i64 0, .bool t178, .int .u64 t179, .int .u64 t180, .bool t186, .int .u64 t187, .int .u64 t188, .slice Ao64 t190.length co64, .string (⟨#[]⟩ : ByteArray)]) ?_ 5 _ rfl; refine kb ?_; refine blk_put (cs := #[.int .i64 t144, .int .i64 t153, .int .i64 t161, .int .i64 t165, .bool false, .bool false, .int .i64 0, .bool t178, .int .u64 t179, .int .u64 t180, .bool t186, .int .u64 t187, .int .u64 t188, .slice Ao64 t190.length co64, .string (⟨#[]⟩ : ByteArray)]) ?_ 4 _ rfl; refine kb ?_; refine blk_put (cs := #[.int .i64 t144, .int .i64 t153, .int .i64 t161, .int .i64 t165, .bool false, .bool false, .int .i64 0, .bool t178, .int .u64 t179, .int .u64 t180, .bool t186, .int .u64 t187, .int .u64 t188, .slice none 0 0, .string (⟨#[]⟩ : ByteArray)]) ?_ 13 _ rfl; exact kb BK148.out) Try.underlying28 rfl (by kernel_rfl) ?_; (case hgd => rfl)) | ((with_reducible refine gate_store (t := 28) (p := 2) rfl ?_); refine store_rowev_15 gb135 (.int .i64 t144) (.int .i64 t153) (.int .i64 t161) (.int .i64 t165) (.bool ((Go.bits .and .i64 t157 16384) != 0)) (.bool ((Go.bits .and .i64 t157 8192) != 0)) (.int .i64 (wrap64 (8 * (Go.bits .and .i64 t157 8191)))) (.bool t178) (.int .u64 t179) (.int .u64 t180) (.bool t186) (.int .u64 t187) (.int .u64 t188) (.slice Ao64 t190.length co64) (.string (a0.extract ((ji38) : Int).toNat (t149 : Int).toNat)) ?hg (t := 28) (p := 2) (v := _) rfl ?hn ?hc2 ?hc3 (t' := 28) (cs := #[.int .i64 0, .int .i64 0, .int .i64 0, .int .i64 0, .bool false, .bool false, .int .i64 0, .bool false, .int .u64 0, .int .u64 0, .bool false, .int .u64 0, .int .u64 0, .slice none 0 0, .string (⟨#[]⟩ : ByteArray)]) ?hc4 ?hc5 ?hc6 ?hc7 ?_; (case hg => rfl); (case hn => rfl); (case hc2 => rfl); (case hc3 => rfl); (case hc4 => exact (by refine kb ?_; (iterate 5 (refine blk_far ?_ NB135_148.out _; refine kb ?_)); exact BK135.out)); (case hc5 => rfl); (case hc6 => kernel_rfl); (case hc7 => rfl)))
      refine bodyPost_ret (results_ct rfl _ _ gb135 28 #[.int .i64 t144, .int .i64 t153, .int .i64 t161, .int .i64 t165, .bool ((Go.bits .and .i64 t157 16384) != 0), .bool ((Go.bits .and .i64 t157 8192) != 0), .int .i64 (wrap64 (8 * (Go.bits .and .i64 t157 8191))), .bool t178, .int .u64 t179, .int .u64 t180, .bool t186, .int .u64 t187, .int .u64 t188, .slice Ao64 t190.length co64, .string (a0.extract ((ji38) : Int).toNat (t149 : Int).toNat)] (0, 0) _ rfl (by refine kb ?_; refine blk_all_15 (cs := #[.int .i64 0, .int .i64 0, .int .i64 0, .int .i64 0, .bool false, .bool false, .int .i64 0, .bool false, .int .u64 0, .int .u64 0, .bool false, .int .u64 0, .int .u64 0, .slice none 0 0, .string (⟨#[]⟩ : ByteArray)]) ?_ rfl; refine kb ?_; (iterate 5 (refine blk_far ?_ NB135_148.out _; refine kb ?_)); exact BK135.out) Try.underlying28 rfl (by kernel_rfl)) rfl ?_
      exact ⟨_, by first | rfl | (simp [errW_none, errW_some] <;> rfl) | (simp only [← hji38]; first | rfl | (simp [errW_none, errW_some] <;> rfl)) | (simp [*, errW_none, errW_some] <;> rfl), by (with_reducible repeat (first | apply Kd.R_alloc | apply Kd.R_drewN | apply Kd.R_drew)); exact Kd.R_mono (Kd.R_puts_0_15 gb135 (.int .i64 t144) (.int .i64 t153) (.int .i64 t161) (.int .i64 t165) (.bool ((Go.bits .and .i64 t157 16384) != 0)) (.bool ((Go.bits .and .i64 t157 8192) != 0)) (.int .i64 (wrap64 (8 * (Go.bits .and .i64 t157 8191)))) (.bool t178) (.int .u64 t179) (.int .u64 t180) (.bool t186) (.int .u64 t187) (.int .u64 t188) (.slice Ao64 t190.length co64) (.string (a0.extract ((ji38) : Int).toNat (t149 : Int).toNat)) (Kd.R_far (p := ⟨gb148, 14, none⟩) (Kd.R_puts_4_3 gb148 (.bool ((Go.bits .and .i64 t157 16384) != 0)) (.bool ((Go.bits .and .i64 t157 8192) != 0)) (.int .i64 (wrap64 (8 * (Go.bits .and .i64 t157 8191)))) (Kd.R_far (p := ⟨gb148, 13, none⟩) (Kd.R_types (Kd.R_types HO193.out BK148.out (by decide)) BK135.out (by decide)) (fun _ hk => hk.1.2) (.slice Ao64 t190.length co64)) (fun _ hk => hk.1.2)) (fun _ hk => hk.1.2) (.string (a0.extract ((ji38) : Int).toNat (t149 : Int).toNat))) (fun _ hk => hk.2)) (fun _ hk => trivial), by exact kB3 HB.out (IsS77.ge HI139.out) GE135.out GE148.out⟩
     rw [if_neg c51] at H
     have c51b0 : ((Go.bits .and .i64 t157 32768) == 0) = false := beq_eq_false_iff_ne.mpr c51
     have c51b1 : ((Go.bits .and .i64 t157 32768) != 0) = true := bne_iff_ne.mpr c51
     simp only [Option.some.injEq, Prod.mk.injEq] at H
     obtain ⟨rfl, rfl, rfl, rfl, rfl, rfl, rfl, rfl, rfl, rfl, rfl, rfl, rfl, rfl, rfl, rfl⟩ := H
     go_wp2_with (first | ((with_reducible refine gate_callee (f := 23) rfl ?_); refine goesL_ (some 72) rfl rfl Try.func23 (by kernel_rfl) rfl #[.string (a0.extract 0 ((ji38) : Int).toNat)] rfl (by (try simp only [List.map_toArray, List.map_cons, List.map_nil]); first | done | (simp only [hji38]; rfl) | rfl | (simp only [List.length_drop, List.length_take]; rfl)) ?_; (with_reducible refine (checksum_Sum.calls kj19 (a0.extract 0 ((ji38) : Int).toNat) t173 _ A41.out).mono ?_); rintro e w' ⟨rfl, ⟨nd, rfl⟩⟩; refine ⟨_, rfl, ?_⟩; (try (rw [drewN_self wc]; generalize hq_ : World.drewN wc _ = wc; have n0_ : Aside0 (wc.heap[gb135]? = some (.cells #[.int .i64 0, .int .i64 0, .int .i64 0, .int .i64 0, .bool false, .bool false, .int .i64 0, .bool false, .int .u64 0, .int .u64 0, .bool false, .int .u64 0, .int .u64 0, .slice none 0 0, .string (⟨#[]⟩ : ByteArray)] 28 (0, 0))) := ⟨by rw [← hq_]; exact (kb BK135.out)⟩; have n1_ : Aside0 (wc.heap[gb148]? = some (.cells #[.int .i64 t144, .int .i64 t153, .int .i64 t161, .int .i64 t165, .bool false, .bool false, .int .i64 0, .bool false, .int .u64 0, .int .u64 0, .bool false, .int .u64 0, .int .u64 0, .slice none 0 0, .string (⟨#[]⟩ : ByteArray)] 28 (0, 0))) := ⟨by rw [← hq_]; exact (kb BK148.out)⟩; have n2_ : Aside0 (IsS77 w wc g139 t170 t171 t172) := ⟨by rw [← hq_]; exact (by repeat (first | (with_reducible first | exact HI139.out | apply IsS77.alloc | apply IsS77.drewN | apply IsS77.drew | apply IsS77.set_0 | apply IsS77.set_1 | apply IsS77.set_2 | refine IsS77.far ?_ NB139_135.out _ | refine IsS77.far ?_ NB139_148.out _) | exact HI139.out))⟩; have n3_ : Aside0 (Below w.heap.size w wc) := ⟨by rw [← hq_]; exact (kB3 HB.out (IsS77.ge HI139.out) GE135.out GE148.out)⟩; clear BK135 BK148 HI139 HB hq_; have BK135 := n0_; have BK148 := n1_; have HI139 := n2_; have HB := n3_; clear n0_ n1_ n2_ n3_))) | ((with_reducible refine gate_callee (f := 28) rfl ?_); refine goesL_ (some 77) rfl rfl Try.func28 (by kernel_rfl) rfl #[.pointer (some ⟨g139, 0, none⟩), .int .i64 4] rfl kA ?_; (with_reducible refine (field_Reader_Take.calls g139 t170 t171 t172 4 t174 t175 t176 t177 w _ ?side1 ?side2 A43.out).mono ?_); (case side1 => repeat (first | (with_reducible first | exact HI139.out | apply IsS77.alloc | apply IsS77.drewN | apply IsS77.drew | apply IsS77.set_0 | apply IsS77.set_1 | apply IsS77.set_2 | refine IsS77.far ?_ NB139_135.out _ | refine IsS77.far ?_ NB139_148.out _) | exact HI139.out)); (case side2 => exact kB3 HB.out (IsS77.ge HI139.out) GE135.out GE148.out); rintro e w66 ⟨rfl, hi, hb, hk⟩; refine ⟨_, rfl, ?_⟩; replace BK135 := As (KeepBut.blk hk (kb BK135.out) NB135_139.out (by simp)); replace BK148 := As (KeepBut.blk hk (kb BK148.out) NB148_139.out (by simp)); replace HB := As (hb); replace HI139 := As (hi); (try clear hb); (try clear hk); (try clear hi)) | ((with_reducible refine gate_callee (f := 27) rfl ?_); refine goesL_ (some 78) rfl rfl Try.func27 (by kernel_rfl) rfl #[.string t174] rfl kA ?_; (with_reducible refine (address_FromBytes.calls kj19 t174 t178 t179 t180 t181 _ A44.out).mono ?_); rintro e w67 ⟨rfl, hb⟩; refine ⟨_, rfl, ?_⟩; replace BK135 := As (blk_below (kb BK135.out) hb); replace BK148 := As (blk_below (kb BK148.out) hb); replace HB := As (below_step (kB3 HB.out (IsS77.ge HI139.out) GE135.out GE148.out) hb); replace HI139 := As (IsS77.below (by repeat (first | (with_reducible first | exact HI139.out | apply IsS77.alloc | apply IsS77.drewN | apply IsS77.drew | apply IsS77.set_0 | apply IsS77.set_1 | apply IsS77.set_2 | refine IsS77.far ?_ NB139_135.out _ | refine IsS77.far ?_ NB139_148.out _) | exact HI139.out)) hb); (try clear hb); have hnb68 := NB148_135.out; have hnc68 := NB135_148.out; have hnb69 := NB148_139.out; have hnc69 := NB139_148.out; have hcz70_0 := cells_15 BK148.out; have hfz70_0 := fun j_ => blk_frozen BK148.out j_) | ((with_reducible refine gate_callee (f := 28) rfl ?_); refine goesL_ (some 84) rfl rfl Try.func28 (by kernel_rfl) rfl #[.pointer (some ⟨g139, 0, none⟩), .int .i64 4] rfl kA ?_; (with_reducible refine (field_Reader_Take.calls g139 t175 t176 t177 4 t182 t183 t184 t185 w _ ?side1 ?side2 A45.out).mono ?_); (case side1 => repeat (first | (with_reducible first | exact HI139.out | apply IsS77.alloc | apply IsS77.drewN | apply IsS77.drew | apply IsS77.set_0 | apply IsS77.set_1 | apply IsS77.set_2 | refine IsS77.far ?_ NB139_135.out _ | refine IsS77.far ?_ NB139_148.out _) | exact HI139.out)); (case side2 => exact kB3 HB.out (IsS77.ge HI139.out) GE135.out GE148.out); rintro e w71 ⟨rfl, hi, hb, hk⟩; refine ⟨_, rfl, ?_⟩; replace BK135 := As (KeepBut.blk hk (g' := gb135) (o := .cells #[.int .i64 0, .int .i64 0, .int .i64 0, .int .i64 0, .bool false, .bool false, .int .i64 0, .bool false, .int .u64 0, .int .u64 0, .bool false, .int .u64 0, .int .u64 0, .slice none 0 0, .string (⟨#[]⟩ : ByteArray)] 28 (0, 0)) (by refine kb ?_; (iterate 3 (refine blk_far ?_ NB135_148.out _; refine kb ?_)); exact BK135.out) NB135_139.out (by simp)); replace BK148 := As (KeepBut.blk hk (g' := gb148) (o := .cells #[.int .i64 t144, .int .i64 t153, .int .i64 t161, .int .i64 t165, .bool false, .bool false, .int .i64 0, .bool t178, .int .u64 t179, .int .u64 t180, .bool false, .int .u64 0, .int .u64 0, .slice none 0 0, .string (⟨#[]⟩ : ByteArray)] 28 (0, 0)) (by refine kb ?_; refine blk_put (cs := #[.int .i64 t144, .int .i64 t153, .int .i64 t161, .int .i64 t165, .bool false, .bool false, .int .i64 0, .bool t178, .int .u64 t179, .int .u64 0, .bool false, .int .u64 0, .int .u64 0, .slice none 0 0, .string (⟨#[]⟩ : ByteArray)]) ?_ 9 _ rfl; refine kb ?_; refine blk_put (cs := #[.int .i64 t144, .int .i64 t153, .int .i64 t161, .int .i64 t165, .bool false, .bool false, .int .i64 0, .bool t178, .int .u64 0, .int .u64 0, .bool false, .int .u64 0, .int .u64 0, .slice none 0 0, .string (⟨#[]⟩ : ByteArray)]) ?_ 8 _ rfl; refine kb ?_; refine blk_put (cs := #[.int .i64 t144, .int .i64 t153, .int .i64 t161, .int .i64 t165, .bool false, .bool false, .int .i64 0, .bool false, .int .u64 0, .int .u64 0, .bool false, .int .u64 0, .int .u64 0, .slice none 0 0, .string (⟨#[]⟩ : ByteArray)]) ?_ 7 _ rfl; exact kb BK148.out) NB148_139.out (by simp)); replace HB := As (hb); replace HI139 := As (hi); (try clear hb); (try clear hk); (try clear hi)) | ((with_reducible refine gate_callee (f := 27) rfl ?_); refine goesL_ (some 85) rfl rfl Try.func27 (by kernel_rfl) rfl #[.string t182] rfl kA ?_; (with_reducible refine (address_FromBytes.calls kj19 t182 t186 t187 t188 t189 _ A46.out).mono ?_); rintro e w72 ⟨rfl, hb⟩; refine ⟨_, rfl, ?_⟩; replace BK135 := As (blk_below (kb BK135.out) hb); replace BK148 := As (blk_below (kb BK148.out) hb); replace HB := As (below_step (kB3 HB.out (IsS77.ge HI139.out) GE135.out GE148.out) hb); replace HI139 := As (IsS77.below (by repeat (first | (with_reducible first | exact HI139.out | apply IsS77.alloc | apply IsS77.drewN | apply IsS77.drew | apply IsS77.set_0 | apply IsS77.set_1 | apply IsS77.set_2 | refine IsS77.far ?_ NB139_135.out _ | refine IsS77.far ?_ NB139_148.out _) | exact HI139.out)) hb); (try clear hb); have hcz73_0 := cells_15 BK148.out; have hfz73_0 := fun j_ => blk_frozen BK148.out j_) | ((with_reducible refine gate_callee (f := 29) rfl ?_); refine goesL_ (some 93) rfl rfl Try.func29 (by kernel_rfl) rfl #[.string (a0.extract 20 ((ji38) : Int).toNat)] rfl (by (try simp only [List.map_toArray, List.map_cons, List.map_nil]); first | done | (simp only [hji38]; rfl) | rfl | (simp only [List.length_drop, List.length_take]; rfl)) ?_; (with_reducible refine (ipv4_options.calls kj19 (a0.extract 20 ((ji38) : Int).toNat) t190 true _ A49.out).mono ?_); rintro e w74 ⟨v192, rfl, ho0, hb⟩; refine ⟨_, rfl, ?_⟩; have HO193 := As (Kd.R_lower ho0 (below_size (kB3 HB.out (IsS77.ge HI139.out) GE135.out GE148.out))); replace BK135 := As (blk_below (g := gb135) (o := .cells #[.int .i64 0, .int .i64 0, .int .i64 0, .int .i64 0, .bool false, .bool false, .int .i64 0, .bool false, .int .u64 0, .int .u64 0, .bool false, .int .u64 0, .int .u64 0, .slice none 0 0, .string (⟨#[]⟩ : ByteArray)] 28 (0, 0)) (by refine kb ?_; (iterate 3 (refine blk_far ?_ NB135_148.out _; refine kb ?_)); exact BK135.out) hb); replace BK148 := As (blk_below (g := gb148) (o := .cells #[.int .i64 t144, .int .i64 t153, .int .i64 t161, .int .i64 t165, .bool false, .bool false, .int .i64 0, .bool t178, .int .u64 t179, .int .u64 t180, .bool t186, .int .u64 t187, .int .u64 t188, .slice none 0 0, .string (⟨#[]⟩ : ByteArray)] 28 (0, 0)) (by refine kb ?_; refine blk_put (cs := #[.int .i64 t144, .int .i64 t153, .int .i64 t161, .int .i64 t165, .bool false, .bool false, .int .i64 0, .bool t178, .int .u64 t179, .int .u64 t180, .bool t186, .int .u64 t187, .int .u64 0, .slice none 0 0, .string (⟨#[]⟩ : ByteArray)]) ?_ 12 _ rfl; refine kb ?_; refine blk_put (cs := #[.int .i64 t144, .int .i64 t153, .int .i64 t161, .int .i64 t165, .bool false, .bool false, .int .i64 0, .bool t178, .int .u64 t179, .int .u64 t180, .bool t186, .int .u64 0, .int .u64 0, .slice none 0 0, .string (⟨#[]⟩ : ByteArray)]) ?_ 11 _ rfl; refine kb ?_; refine blk_put (cs := #[.int .i64 t144, .int .i64 t153, .int .i64 t161, .int .i64 t165, .bool false, .bool false, .int .i64 0, .bool t178, .int .u64 t179, .int .u64 t180, .bool false, .int .u64 0, .int .u64 0, .slice none 0 0, .string (⟨#[]⟩ : ByteArray)]) ?_ 10 _ rfl; exact kb BK148.out) hb); replace HB := As (below_step (kB3 HB.out (IsS77.ge HI139.out) GE135.out GE148.out) hb); replace HI139 := As (IsS77.below (show IsS77 w (((w72.setCell ⟨gb148, 10, none⟩ (.bool t186)).setCell ⟨gb148, 11, none⟩ (.int .u64 t187)).setCell ⟨gb148, 12, none⟩ (.int .u64 t188)) g139 t183 t184 t185 from by repeat (first | (with_reducible first | exact HI139.out | apply IsS77.alloc | apply IsS77.drewN | apply IsS77.drew | apply IsS77.set_0 | apply IsS77.set_1 | apply IsS77.set_2 | refine IsS77.far ?_ NB139_135.out _ | refine IsS77.far ?_ NB139_148.out _) | exact HI139.out)) hb); (try clear hb); (try clear ho0)) | ((with_reducible refine gate_store (t := 28) (p := 2) rfl ?_); refine store_rowev_15 gb135 (.int .i64 0) (.int .i64 0) (.int .i64 0) (.int .i64 0) (.bool false) (.bool false) (.int .i64 0) (.bool false) (.int .u64 0) (.int .u64 0) (.bool false) (.int .u64 0) (.int .u64 0) (.slice none 0 0) (.string (⟨#[]⟩ : ByteArray)) rfl (t := 28) (p := 2) (v := _) rfl rfl rfl rfl (t' := 28) (kb BK135.out) (by rfl) (by kernel_rfl) (by rfl) ?_))
     refine bodyPost_ret (results_ct rfl _ _ gb135 28 #[.int .i64 0, .int .i64 0, .int .i64 0, .int .i64 0, .bool false, .bool false, .int .i64 0, .bool false, .int .u64 0, .int .u64 0, .bool false, .int .u64 0, .int .u64 0, .slice none 0 0, .string (⟨#[]⟩ : ByteArray)] (0, 0) _ rfl (by refine kb ?_; exact blk_all_15 (kb BK135.out) (by rfl)) Try.underlying28 rfl (by kernel_rfl)) rfl ?_
     exact ⟨_, by first | rfl | (simp [errW_none, errW_some] <;> rfl) | (simp only [← hji38]; first | rfl | (simp [errW_none, errW_some] <;> rfl)) | (simp [*, errW_none, errW_some] <;> rfl), by first | exact Kd.R_nil _ _ _ _ _ | exact Kd.N_nil _ _ _ _ _ | exact Kd.V_nil _ _ _ _ _ | exact Kd.Q_nil _ _ _ _ _ | exact Kd.S_nil _ _ _ _ _, by exact kB3 HB.out (IsS77.ge HI139.out) GE135.out GE148.out⟩
    replace c50 := Bool.eq_false_iff.mpr c50
    subst c50
    rw [if_neg (show ¬ (false = true) by decide)] at H
    simp only [Option.some.injEq, Prod.mk.injEq] at H
    obtain ⟨rfl, rfl, rfl, rfl, rfl, rfl, rfl, rfl, rfl, rfl, rfl, rfl, rfl, rfl, rfl, rfl⟩ := H
    go_wp2_with (first | ((with_reducible refine gate_callee (f := 23) rfl ?_); refine goesL_ (some 72) rfl rfl Try.func23 (by kernel_rfl) rfl #[.string (a0.extract 0 ((ji38) : Int).toNat)] rfl (by (try simp only [List.map_toArray, List.map_cons, List.map_nil]); first | done | (simp only [hji38]; rfl) | rfl | (simp only [List.length_drop, List.length_take]; rfl)) ?_; (with_reducible refine (checksum_Sum.calls kj19 (a0.extract 0 ((ji38) : Int).toNat) t173 _ A41.out).mono ?_); rintro e w' ⟨rfl, ⟨nd, rfl⟩⟩; refine ⟨_, rfl, ?_⟩; (try (rw [drewN_self wc]; generalize hq_ : World.drewN wc _ = wc; have n0_ : Aside0 (wc.heap[gb135]? = some (.cells #[.int .i64 0, .int .i64 0, .int .i64 0, .int .i64 0, .bool false, .bool false, .int .i64 0, .bool false, .int .u64 0, .int .u64 0, .bool false, .int .u64 0, .int .u64 0, .slice none 0 0, .string (⟨#[]⟩ : ByteArray)] 28 (0, 0))) := ⟨by rw [← hq_]; exact (kb BK135.out)⟩; have n1_ : Aside0 (wc.heap[gb148]? = some (.cells #[.int .i64 t144, .int .i64 t153, .int .i64 t161, .int .i64 t165, .bool false, .bool false, .int .i64 0, .bool false, .int .u64 0, .int .u64 0, .bool false, .int .u64 0, .int .u64 0, .slice none 0 0, .string (⟨#[]⟩ : ByteArray)] 28 (0, 0))) := ⟨by rw [← hq_]; exact (kb BK148.out)⟩; have n2_ : Aside0 (IsS77 w wc g139 t170 t171 t172) := ⟨by rw [← hq_]; exact (by repeat (first | (with_reducible first | exact HI139.out | apply IsS77.alloc | apply IsS77.drewN | apply IsS77.drew | apply IsS77.set_0 | apply IsS77.set_1 | apply IsS77.set_2 | refine IsS77.far ?_ NB139_135.out _ | refine IsS77.far ?_ NB139_148.out _) | exact HI139.out))⟩; have n3_ : Aside0 (Below w.heap.size w wc) := ⟨by rw [← hq_]; exact (kB3 HB.out (IsS77.ge HI139.out) GE135.out GE148.out)⟩; clear BK135 BK148 HI139 HB hq_; have BK135 := n0_; have BK148 := n1_; have HI139 := n2_; have HB := n3_; clear n0_ n1_ n2_ n3_))) | ((with_reducible refine gate_callee (f := 28) rfl ?_); refine goesL_ (some 77) rfl rfl Try.func28 (by kernel_rfl) rfl #[.pointer (some ⟨g139, 0, none⟩), .int .i64 4] rfl kA ?_; (with_reducible refine (field_Reader_Take.calls g139 t170 t171 t172 4 t174 t175 t176 t177 w _ ?side1 ?side2 A43.out).mono ?_); (case side1 => repeat (first | (with_reducible first | exact HI139.out | apply IsS77.alloc | apply IsS77.drewN | apply IsS77.drew | apply IsS77.set_0 | apply IsS77.set_1 | apply IsS77.set_2 | refine IsS77.far ?_ NB139_135.out _ | refine IsS77.far ?_ NB139_148.out _) | exact HI139.out)); (case side2 => exact kB3 HB.out (IsS77.ge HI139.out) GE135.out GE148.out); rintro e w75 ⟨rfl, hi, hb, hk⟩; refine ⟨_, rfl, ?_⟩; replace BK135 := As (KeepBut.blk hk (kb BK135.out) NB135_139.out (by simp)); replace BK148 := As (KeepBut.blk hk (kb BK148.out) NB148_139.out (by simp)); replace HB := As (hb); replace HI139 := As (hi); (try clear hb); (try clear hk); (try clear hi)) | ((with_reducible refine gate_callee (f := 27) rfl ?_); refine goesL_ (some 78) rfl rfl Try.func27 (by kernel_rfl) rfl #[.string t174] rfl kA ?_; (with_reducible refine (address_FromBytes.calls kj19 t174 t178 t179 t180 t181 _ A44.out).mono ?_); rintro e w76 ⟨rfl, hb⟩; refine ⟨_, rfl, ?_⟩; replace BK135 := As (blk_below (kb BK135.out) hb); replace BK148 := As (blk_below (kb BK148.out) hb); replace HB := As (below_step (kB3 HB.out (IsS77.ge HI139.out) GE135.out GE148.out) hb); replace HI139 := As (IsS77.below (by repeat (first | (with_reducible first | exact HI139.out | apply IsS77.alloc | apply IsS77.drewN | apply IsS77.drew | apply IsS77.set_0 | apply IsS77.set_1 | apply IsS77.set_2 | refine IsS77.far ?_ NB139_135.out _ | refine IsS77.far ?_ NB139_148.out _) | exact HI139.out)) hb); (try clear hb); have hnb77 := NB148_135.out; have hnc77 := NB135_148.out; have hnb78 := NB148_139.out; have hnc78 := NB139_148.out; have hcz79_0 := cells_15 BK148.out; have hfz79_0 := fun j_ => blk_frozen BK148.out j_) | ((with_reducible refine gate_callee (f := 28) rfl ?_); refine goesL_ (some 84) rfl rfl Try.func28 (by kernel_rfl) rfl #[.pointer (some ⟨g139, 0, none⟩), .int .i64 4] rfl kA ?_; (with_reducible refine (field_Reader_Take.calls g139 t175 t176 t177 4 t182 t183 t184 t185 w _ ?side1 ?side2 A45.out).mono ?_); (case side1 => repeat (first | (with_reducible first | exact HI139.out | apply IsS77.alloc | apply IsS77.drewN | apply IsS77.drew | apply IsS77.set_0 | apply IsS77.set_1 | apply IsS77.set_2 | refine IsS77.far ?_ NB139_135.out _ | refine IsS77.far ?_ NB139_148.out _) | exact HI139.out)); (case side2 => exact kB3 HB.out (IsS77.ge HI139.out) GE135.out GE148.out); rintro e w80 ⟨rfl, hi, hb, hk⟩; refine ⟨_, rfl, ?_⟩; replace BK135 := As (KeepBut.blk hk (g' := gb135) (o := .cells #[.int .i64 0, .int .i64 0, .int .i64 0, .int .i64 0, .bool false, .bool false, .int .i64 0, .bool false, .int .u64 0, .int .u64 0, .bool false, .int .u64 0, .int .u64 0, .slice none 0 0, .string (⟨#[]⟩ : ByteArray)] 28 (0, 0)) (by refine kb ?_; (iterate 3 (refine blk_far ?_ NB135_148.out _; refine kb ?_)); exact BK135.out) NB135_139.out (by simp)); replace BK148 := As (KeepBut.blk hk (g' := gb148) (o := .cells #[.int .i64 t144, .int .i64 t153, .int .i64 t161, .int .i64 t165, .bool false, .bool false, .int .i64 0, .bool t178, .int .u64 t179, .int .u64 t180, .bool false, .int .u64 0, .int .u64 0, .slice none 0 0, .string (⟨#[]⟩ : ByteArray)] 28 (0, 0)) (by refine kb ?_; refine blk_put (cs := #[.int .i64 t144, .int .i64 t153, .int .i64 t161, .int .i64 t165, .bool false, .bool false, .int .i64 0, .bool t178, .int .u64 t179, .int .u64 0, .bool false, .int .u64 0, .int .u64 0, .slice none 0 0, .string (⟨#[]⟩ : ByteArray)]) ?_ 9 _ rfl; refine kb ?_; refine blk_put (cs := #[.int .i64 t144, .int .i64 t153, .int .i64 t161, .int .i64 t165, .bool false, .bool false, .int .i64 0, .bool t178, .int .u64 0, .int .u64 0, .bool false, .int .u64 0, .int .u64 0, .slice none 0 0, .string (⟨#[]⟩ : ByteArray)]) ?_ 8 _ rfl; refine kb ?_; refine blk_put (cs := #[.int .i64 t144, .int .i64 t153, .int .i64 t161, .int .i64 t165, .bool false, .bool false, .int .i64 0, .bool false, .int .u64 0, .int .u64 0, .bool false, .int .u64 0, .int .u64 0, .slice none 0 0, .string (⟨#[]⟩ : ByteArray)]) ?_ 7 _ rfl; exact kb BK148.out) NB148_139.out (by simp)); replace HB := As (hb); replace HI139 := As (hi); (try clear hb); (try clear hk); (try clear hi)) | ((with_reducible refine gate_callee (f := 27) rfl ?_); refine goesL_ (some 85) rfl rfl Try.func27 (by kernel_rfl) rfl #[.string t182] rfl kA ?_; (with_reducible refine (address_FromBytes.calls kj19 t182 t186 t187 t188 t189 _ A46.out).mono ?_); rintro e w81 ⟨rfl, hb⟩; refine ⟨_, rfl, ?_⟩; replace BK135 := As (blk_below (kb BK135.out) hb); replace BK148 := As (blk_below (kb BK148.out) hb); replace HB := As (below_step (kB3 HB.out (IsS77.ge HI139.out) GE135.out GE148.out) hb); replace HI139 := As (IsS77.below (by repeat (first | (with_reducible first | exact HI139.out | apply IsS77.alloc | apply IsS77.drewN | apply IsS77.drew | apply IsS77.set_0 | apply IsS77.set_1 | apply IsS77.set_2 | refine IsS77.far ?_ NB139_135.out _ | refine IsS77.far ?_ NB139_148.out _) | exact HI139.out)) hb); (try clear hb); have hcz82_0 := cells_15 BK148.out; have hfz82_0 := fun j_ => blk_frozen BK148.out j_) | ((with_reducible refine gate_callee (f := 29) rfl ?_); refine goesL_ (some 93) rfl rfl Try.func29 (by kernel_rfl) rfl #[.string (a0.extract 20 ((ji38) : Int).toNat)] rfl (by (try simp only [List.map_toArray, List.map_cons, List.map_nil]); first | done | (simp only [hji38]; rfl) | rfl | (simp only [List.length_drop, List.length_take]; rfl)) ?_; (with_reducible refine (ipv4_options.calls kj19 (a0.extract 20 ((ji38) : Int).toNat) t190 false _ A49.out).mono ?_); rintro e w83 ⟨v192, rfl, ho0, hb⟩; refine ⟨_, rfl, ?_⟩; have HO193 := As (Kd.R_lower ho0 (below_size (kB3 HB.out (IsS77.ge HI139.out) GE135.out GE148.out))); replace BK135 := As (blk_below (g := gb135) (o := .cells #[.int .i64 0, .int .i64 0, .int .i64 0, .int .i64 0, .bool false, .bool false, .int .i64 0, .bool false, .int .u64 0, .int .u64 0, .bool false, .int .u64 0, .int .u64 0, .slice none 0 0, .string (⟨#[]⟩ : ByteArray)] 28 (0, 0)) (by refine kb ?_; (iterate 3 (refine blk_far ?_ NB135_148.out _; refine kb ?_)); exact BK135.out) hb); replace BK148 := As (blk_below (g := gb148) (o := .cells #[.int .i64 t144, .int .i64 t153, .int .i64 t161, .int .i64 t165, .bool false, .bool false, .int .i64 0, .bool t178, .int .u64 t179, .int .u64 t180, .bool t186, .int .u64 t187, .int .u64 t188, .slice none 0 0, .string (⟨#[]⟩ : ByteArray)] 28 (0, 0)) (by refine kb ?_; refine blk_put (cs := #[.int .i64 t144, .int .i64 t153, .int .i64 t161, .int .i64 t165, .bool false, .bool false, .int .i64 0, .bool t178, .int .u64 t179, .int .u64 t180, .bool t186, .int .u64 t187, .int .u64 0, .slice none 0 0, .string (⟨#[]⟩ : ByteArray)]) ?_ 12 _ rfl; refine kb ?_; refine blk_put (cs := #[.int .i64 t144, .int .i64 t153, .int .i64 t161, .int .i64 t165, .bool false, .bool false, .int .i64 0, .bool t178, .int .u64 t179, .int .u64 t180, .bool t186, .int .u64 0, .int .u64 0, .slice none 0 0, .string (⟨#[]⟩ : ByteArray)]) ?_ 11 _ rfl; refine kb ?_; refine blk_put (cs := #[.int .i64 t144, .int .i64 t153, .int .i64 t161, .int .i64 t165, .bool false, .bool false, .int .i64 0, .bool t178, .int .u64 t179, .int .u64 t180, .bool false, .int .u64 0, .int .u64 0, .slice none 0 0, .string (⟨#[]⟩ : ByteArray)]) ?_ 10 _ rfl; exact kb BK148.out) hb); replace HB := As (below_step (kB3 HB.out (IsS77.ge HI139.out) GE135.out GE148.out) hb); replace HI139 := As (IsS77.below (show IsS77 w (((w81.setCell ⟨gb148, 10, none⟩ (.bool t186)).setCell ⟨gb148, 11, none⟩ (.int .u64 t187)).setCell ⟨gb148, 12, none⟩ (.int .u64 t188)) g139 t183 t184 t185 from by repeat (first | (with_reducible first | exact HI139.out | apply IsS77.alloc | apply IsS77.drewN | apply IsS77.drew | apply IsS77.set_0 | apply IsS77.set_1 | apply IsS77.set_2 | refine IsS77.far ?_ NB139_135.out _ | refine IsS77.far ?_ NB139_148.out _) | exact HI139.out)) hb); (try clear hb); (try clear ho0)) | ((with_reducible refine gate_store (t := 28) (p := 2) rfl ?_); refine store_rowev_15 gb135 (.int .i64 0) (.int .i64 0) (.int .i64 0) (.int .i64 0) (.bool false) (.bool false) (.int .i64 0) (.bool false) (.int .u64 0) (.int .u64 0) (.bool false) (.int .u64 0) (.int .u64 0) (.slice none 0 0) (.string (⟨#[]⟩ : ByteArray)) rfl (t := 28) (p := 2) (v := _) rfl rfl rfl rfl (t' := 28) (kb BK135.out) (by rfl) (by kernel_rfl) (by rfl) ?_))
    refine bodyPost_ret (results_ct rfl _ _ gb135 28 #[.int .i64 0, .int .i64 0, .int .i64 0, .int .i64 0, .bool false, .bool false, .int .i64 0, .bool false, .int .u64 0, .int .u64 0, .bool false, .int .u64 0, .int .u64 0, .slice none 0 0, .string (⟨#[]⟩ : ByteArray)] (0, 0) _ rfl (by refine kb ?_; exact blk_all_15 (kb BK135.out) (by rfl)) Try.underlying28 rfl (by kernel_rfl)) rfl ?_
    exact ⟨_, by first | rfl | (simp [errW_none, errW_some] <;> rfl) | (simp only [← hji38]; first | rfl | (simp [errW_none, errW_some] <;> rfl)) | (simp [*, errW_none, errW_some] <;> rfl), by first | exact Kd.R_nil _ _ _ _ _ | exact Kd.N_nil _ _ _ _ _ | exact Kd.V_nil _ _ _ _ _ | exact Kd.Q_nil _ _ _ _ _ | exact Kd.S_nil _ _ _ _ _, by exact kB3 HB.out (IsS77.ge HI139.out) GE135.out GE148.out⟩
   rw [if_neg c42] at H
   have c42b0 : (t173 == 0) = false := beq_eq_false_iff_ne.mpr c42
   have c42b1 : (t173 != 0) = true := bne_iff_ne.mpr c42
   simp only [Option.some.injEq, Prod.mk.injEq] at H
   obtain ⟨rfl, rfl, rfl, rfl, rfl, rfl, rfl, rfl, rfl, rfl, rfl, rfl, rfl, rfl, rfl, rfl⟩ := H
   go_wp2_with (first | ((with_reducible refine gate_callee (f := 23) rfl ?_); refine goesL_ (some 72) rfl rfl Try.func23 (by kernel_rfl) rfl #[.string (a0.extract 0 ((ji38) : Int).toNat)] rfl (by (try simp only [List.map_toArray, List.map_cons, List.map_nil]); first | done | (simp only [hji38]; rfl) | rfl | (simp only [List.length_drop, List.length_take]; rfl)) ?_; (with_reducible refine (checksum_Sum.calls kj19 (a0.extract 0 ((ji38) : Int).toNat) t173 _ A41.out).mono ?_); rintro e w' ⟨rfl, ⟨nd, rfl⟩⟩; refine ⟨_, rfl, ?_⟩; (try (rw [drewN_self wc]; generalize hq_ : World.drewN wc _ = wc; have n0_ : Aside0 (wc.heap[gb135]? = some (.cells #[.int .i64 0, .int .i64 0, .int .i64 0, .int .i64 0, .bool false, .bool false, .int .i64 0, .bool false, .int .u64 0, .int .u64 0, .bool false, .int .u64 0, .int .u64 0, .slice none 0 0, .string (⟨#[]⟩ : ByteArray)] 28 (0, 0))) := ⟨by rw [← hq_]; exact (kb BK135.out)⟩; have n1_ : Aside0 (wc.heap[gb148]? = some (.cells #[.int .i64 t144, .int .i64 t153, .int .i64 t161, .int .i64 t165, .bool false, .bool false, .int .i64 0, .bool false, .int .u64 0, .int .u64 0, .bool false, .int .u64 0, .int .u64 0, .slice none 0 0, .string (⟨#[]⟩ : ByteArray)] 28 (0, 0))) := ⟨by rw [← hq_]; exact (kb BK148.out)⟩; have n2_ : Aside0 (IsS77 w wc g139 t170 t171 t172) := ⟨by rw [← hq_]; exact (by repeat (first | (with_reducible first | exact HI139.out | apply IsS77.alloc | apply IsS77.drewN | apply IsS77.drew | apply IsS77.set_0 | apply IsS77.set_1 | apply IsS77.set_2 | refine IsS77.far ?_ NB139_135.out _ | refine IsS77.far ?_ NB139_148.out _) | exact HI139.out))⟩; have n3_ : Aside0 (Below w.heap.size w wc) := ⟨by rw [← hq_]; exact (kB3 HB.out (IsS77.ge HI139.out) GE135.out GE148.out)⟩; clear BK135 BK148 HI139 HB hq_; have BK135 := n0_; have BK148 := n1_; have HI139 := n2_; have HB := n3_; clear n0_ n1_ n2_ n3_))) | ((with_reducible refine gate_store (t := 28) (p := 2) rfl ?_); refine store_rowev_15 gb135 (.int .i64 0) (.int .i64 0) (.int .i64 0) (.int .i64 0) (.bool false) (.bool false) (.int .i64 0) (.bool false) (.int .u64 0) (.int .u64 0) (.bool false) (.int .u64 0) (.int .u64 0) (.slice none 0 0) (.string (⟨#[]⟩ : ByteArray)) rfl (t := 28) (p := 2) (v := _) rfl rfl rfl rfl (t' := 28) (kb BK135.out) (by rfl) (by kernel_rfl) (by rfl) ?_))
   refine bodyPost_ret (results_ct rfl _ _ gb135 28 #[.int .i64 0, .int .i64 0, .int .i64 0, .int .i64 0, .bool false, .bool false, .int .i64 0, .bool false, .int .u64 0, .int .u64 0, .bool false, .int .u64 0, .int .u64 0, .slice none 0 0, .string (⟨#[]⟩ : ByteArray)] (0, 0) _ rfl (by refine kb ?_; exact blk_all_15 (kb BK135.out) (by rfl)) Try.underlying28 rfl (by kernel_rfl)) rfl ?_
   exact ⟨_, by first | rfl | (simp [errW_none, errW_some] <;> rfl) | (simp only [← hji38]; first | rfl | (simp [errW_none, errW_some] <;> rfl)) | (simp [*, errW_none, errW_some] <;> rfl), by first | exact Kd.R_nil _ _ _ _ _ | exact Kd.N_nil _ _ _ _ _ | exact Kd.V_nil _ _ _ _ _ | exact Kd.Q_nil _ _ _ _ _ | exact Kd.S_nil _ _ _ _ _, by exact kB3 HB.out (IsS77.ge HI139.out) GE135.out GE148.out⟩

/-! ### intrusionlaw11_sameOptions: function 34 -/
def intrusionlaw11_sameOptions.l0 : Nat → List (S50) → List (S50) → Int → Int → Option (Bool)
 | 0, _, _, _, _ => none
 | k + 1, x0, x1, x12, x13 => if x13 < x12 then (if 0 ≤ x13 then (if x13 < (x0.length : Int) then (if x13 < (x1.length : Int) then (if (!(((rd_T50 x0 x13).f0) == ((rd_T50 x1 x13).f0)) || (!((((rd_T50 x0 x13).f1).toList) == (((rd_T50 x1 x13).f1).toList)))) = true then (some false) else (intrusionlaw11_sameOptions.l0 k x0 x1 x12 (wrap64 (x13 + 1)))) else (none)) else (none)) else (none)) else (some true)
def intrusionlaw11_sameOptions.f (k : Nat) (l0 : List (S50)) (l1 : List (S50)) : Option (Bool) := if (l0.length : Int) = (l1.length : Int) then (intrusionlaw11_sameOptions.l0 k l0 l1 (l0.length : Int) 0) else (some false)
theorem intrusionlaw11_sameOptions.mono_l : ∀ k, (∀ y0 y1 y2 y3, LeO (intrusionlaw11_sameOptions.l0 k y0 y1 y2 y3) (intrusionlaw11_sameOptions.l0 (k + 1) y0 y1 y2 y3))
 | 0 => fun _ _ _ _ r h => by simp [intrusionlaw11_sameOptions.l0] at h
 | k + 1 => by
  have ih0 := intrusionlaw11_sameOptions.mono_l k
  intro y0 y1 y2 y3
  unfold intrusionlaw11_sameOptions.l0
  repeat' first | with_reducible first | apply ih0 | apply LeO.refl | apply LeO.none | refine LeO.ite ?_ ?_ | refine LeO.bind ?_ (fun _ => ?_)
theorem intrusionlaw11_sameOptions.mono : ∀ a0 a1 k, LeO (intrusionlaw11_sameOptions.f k a0 a1) (intrusionlaw11_sameOptions.f (k + 1) a0 a1) := by
 intro a0 a1 k
 have ih0 := intrusionlaw11_sameOptions.mono_l k
 unfold intrusionlaw11_sameOptions.f
 repeat' first | with_reducible first | apply ih0 | apply LeO.refl | apply LeO.none | refine LeO.ite ?_ ?_ | refine LeO.bind ?_ (fun _ => ?_)
set_option maxHeartbeats 8000000 in
set_option maxRecDepth 100000 in
theorem intrusionlaw11_sameOptions.calls (k : Nat) (A0 : Option Addr) (c0 : Nat) (l0 : List (S50)) (A1 : Option Addr) (c1 : Nat) (l1 : List (S50)) (r : Bool) (w : World) (hr0 : Kd.C k50 w A0 l0.length l0) (hc0 : l0.length ≤ c0) (hr1 : Kd.C k50 w A1 l1.length l1) (hc1 : l1.length ≤ c1) (h : intrusionlaw11_sameOptions.f k l0 l1 = some r) :
  Calls Try.prog 34 #[.slice A0 l0.length c0, .slice A1 l1.length c1] w fun e w' => e = .returned (.bool r) ∧ Drawn0 w w' := by
 have hu50 := Try.underlying50
 have HR0 := As hr0
 have HC0 := As hc0
 clear hr0 hc0
 have HR1 := As hr1
 have HC1 := As hc1
 clear hr1 hc1
 have H : (if (l0.length : Int) = (l1.length : Int) then (intrusionlaw11_sameOptions.l0 k l0 l1 (l0.length : Int) 0) else (some false)) = some r := h
 clear h
 by_cases c3 : (l0.length : Int) = (l1.length : Int)
 ·rw [if_pos c3] at H
  have c3b0 : ((l0.length : Int) == (l1.length : Int)) = true := beq_iff_eq.mpr c3
  have c3b1 : ((l0.length : Int) != (l1.length : Int)) = false := bne_eq_false_iff_eq.mpr c3
  have c3b2 : (l0.length == l1.length) = true := by first | simpa using c3 | (simp at c3 ⊢; omega)
  clear c3
  have H' := As H
  clear H
  go_enter Try.func34, Try.ntmps34
  go_wp2
  repeat (go_quiet (fail); try go_wp2)
  go_loopg [13] k (fun kq v13 w' => ∃ (x13_1 : Int), v13 = .int .i64 x13_1 ∧ Aside0 (intrusionlaw11_sameOptions.l0 kq l0 l1 (l0.length : Int) x13_1 = some r) ∧ Aside0 (kq ≤ k) ∧ Drawn0 w w')
  case atStart => exact ⟨(0), kS, H', ⟨Nat.le_refl _⟩, by repeat (first | exact Drawn0.refl _ | apply Drawn0.step)⟩
  clear H'
  try clear c1
  try clear c3
  try clear c3b0
  try clear c3b1
  try clear c3b2
  obtain ⟨x13_1, rfl, HA, HK1, ⟨m1, rfl⟩⟩ := hrel
  cases gk with
  | zero => exact absurd HA.out (by simp [intrusionlaw11_sameOptions.l0])
  | succ k1 =>
   have H := HA.out
   clear HA
   simp only [intrusionlaw11_sameOptions.l0] at H
   by_cases c4 : x13_1 < (l0.length : Int)
   ·rw [if_pos c4] at H
    have c4b0 : decide (x13_1 < (l0.length : Int)) = true := decide_eq_true c4
    clear c4
    replace H := iS H
    obtain ⟨c5, H⟩ := H
    have c5b0 := decide_eq_true c5
    clear c5
    replace H := iS H
    obtain ⟨c6, H⟩ := H
    have c6b0 := decide_eq_true c6
    clear c6
    replace H := iS H
    obtain ⟨c7, H⟩ := H
    have c7b0 := decide_eq_true c7
    clear c7
    by_cases c8 : (!(((rd_T50 l0 x13_1).f0) == ((rd_T50 l1 x13_1).f0)) || (!((((rd_T50 l0 x13_1).f1).toList) == (((rd_T50 l1 x13_1).f1).toList)))) = true
    ·rw [if_pos c8] at H
     have c8b0 : (!(((rd_T50 l0 x13_1).f0) == ((rd_T50 l1 x13_1).f0)) || (!((((rd_T50 l0 x13_1).f1).toList) == (((rd_T50 l1 x13_1).f1).toList)))) = true := c8
     clear c8
     obtain rfl := Option.some.inj H
     have p194 : 0 ≤ (x13_1 : Int) := of_decide_eq_true (by first | (with_reducible assumption) | assumption)
     have q194 : x13_1 < (l0.length : Int) := of_decide_eq_true (by first | (with_reducible assumption) | assumption)
     obtain ⟨ad194, e194, hx194_0, hx194_1⟩ := at_T50 HR0.out x13_1 p194 q194
     cases e194
     replace p194 := eq_true p194
     replace q194 := eq_true q194
     have p195 : 0 ≤ (x13_1 : Int) := of_decide_eq_true (by first | (with_reducible assumption) | assumption)
     have q195 : x13_1 < (l1.length : Int) := of_decide_eq_true (by first | (with_reducible assumption) | assumption)
     obtain ⟨ad195, e195, hx195_0, hx195_1⟩ := at_T50 HR1.out x13_1 p195 q195
     cases e195
     replace p195 := eq_true p195
     replace q195 := eq_true q195
     go_wp2
     repeat (go_quiet (fail); try go_wp2)
     go_ret
     exact ⟨by first | rfl | (simp; done) | (simp [*]; done), by repeat (first | exact Drawn0.refl _ | apply Drawn0.step)⟩
    rw [if_neg c8] at H
    have c8b0 : (!(((rd_T50 l0 x13_1).f0) == ((rd_T50 l1 x13_1).f0)) || (!((((rd_T50 l0 x13_1).f1).toList) == (((rd_T50 l1 x13_1).f1).toList)))) = false := by simpa using c8
    clear c8
    have H' := As H
    clear H
    have p194 : 0 ≤ (x13_1 : Int) := of_decide_eq_true (by first | (with_reducible assumption) | assumption)
    have q194 : x13_1 < (l0.length : Int) := of_decide_eq_true (by first | (with_reducible assumption) | assumption)
    obtain ⟨ad194, e194, hx194_0, hx194_1⟩ := at_T50 HR0.out x13_1 p194 q194
    cases e194
    replace p194 := eq_true p194
    replace q194 := eq_true q194
    have p195 : 0 ≤ (x13_1 : Int) := of_decide_eq_true (by first | (with_reducible assumption) | assumption)
    have q195 : x13_1 < (l1.length : Int) := of_decide_eq_true (by first | (with_reducible assumption) | assumption)
    obtain ⟨ad195, e195, hx195_0, hx195_1⟩ := at_T50 HR1.out x13_1 p195 q195
    cases e195
    replace p195 := eq_true p195
    replace q195 := eq_true q195
    go_wp2
    repeat (go_quiet (fail); try go_wp2)
    go_roundg k1
    case measure => have := HK1.out; omega
    case rel => exact ⟨(wrap64 (x13_1 + 1)), kS, H', ⟨by have := HK1.out; omega⟩, by repeat (first | exact Drawn0.refl _ | apply Drawn0.step)⟩
   rw [if_neg c4] at H
   have c4b0 : decide (x13_1 < (l0.length : Int)) = false := decide_eq_false c4
   clear c4
   obtain rfl := Option.some.inj H
   go_wp2
   repeat (go_quiet (fail); try go_wp2)
   go_ret
   exact ⟨by first | rfl | (simp; done) | (simp [*]; done), by repeat (first | exact Drawn0.refl _ | apply Drawn0.step)⟩
 rw [if_neg c3] at H
 have c3b0 : ((l0.length : Int) == (l1.length : Int)) = false := beq_eq_false_iff_ne.mpr c3
 have c3b1 : ((l0.length : Int) != (l1.length : Int)) = true := bne_iff_ne.mpr c3
 have c3b2 : (l0.length == l1.length) = false := by first | simpa using c3 | (simp at c3 ⊢; omega)
 obtain rfl := Option.some.inj H
 go_enter Try.func34, Try.ntmps34
 go_wp2
 repeat (go_quiet (fail); try go_wp2)
 go_ret
 exact ⟨by first | rfl | (simp; done) | (simp [*]; done), by repeat (first | exact Drawn0.refl _ | apply Drawn0.step)⟩

/-! ### intrusionlaw11_same: function 13 -/
def intrusionlaw11_same.f (k : Nat) (b0 : Int) (b1 : Int) (b2 : Int) (b3 : Int) (b4 : Bool) (b5 : Bool) (b6 : Int) (b7 : Bool) (b8 : Int) (b9 : Int) (b10 : Bool) (b11 : Int) (b12 : Int) (l0_13 : List (S50)) (b14 : ByteArray) (d0 : Int) (d1 : Int) (d2 : Int) (d3 : Int) (d4 : Bool) (d5 : Bool) (d6 : Int) (d7 : Bool) (d8 : Int) (d9 : Int) (d10 : Bool) (d11 : Int) (d12 : Int) (l1_13 : List (S50)) (d14 : ByteArray) : Option (Bool) := if b0 = d0 then (if b1 = d1 then (if b2 = d2 then (if b3 = d3 then (if (b4 == d4) = true then (if (b5 == d5) = true then (if b6 = d6 then (if (b7 == d7 && (b8 == d8 && (b9 == d9))) = true then (if (b10 == d10 && (b11 == d11 && (b12 == d12))) = true then (if b14.toList = d14.toList then ((intrusionlaw11_sameOptions.f k l0_13 l1_13).bind fun t198 => (some t198)) else (some false)) else (some false)) else (some false)) else (some false)) else (some false)) else (some false)) else (some false)) else (some false)) else (some false)) else (some false)
theorem intrusionlaw11_same.mono : ∀ a0 a1 a2 a3 a4 a5 a6 a7 a8 a9 a10 a11 a12 a13 a14 a15 a16 a17 a18 a19 a20 a21 a22 a23 a24 a25 a26 a27 a28 a29 k, LeO (intrusionlaw11_same.f k a0 a1 a2 a3 a4 a5 a6 a7 a8 a9 a10 a11 a12 a13 a14 a15 a16 a17 a18 a19 a20 a21 a22 a23 a24 a25 a26 a27 a28 a29) (intrusionlaw11_same.f (k + 1) a0 a1 a2 a3 a4 a5 a6 a7 a8 a9 a10 a11 a12 a13 a14 a15 a16 a17 a18 a19 a20 a21 a22 a23 a24 a25 a26 a27 a28 a29) := by
 intro a0 a1 a2 a3 a4 a5 a6 a7 a8 a9 a10 a11 a12 a13 a14 a15 a16 a17 a18 a19 a20 a21 a22 a23 a24 a25 a26 a27 a28 a29 k
 unfold intrusionlaw11_same.f
 repeat' first | with_reducible first | apply intrusionlaw11_sameOptions.mono | apply LeO.refl | apply LeO.none | refine LeO.ite ?_ ?_ | refine LeO.bind ?_ (fun _ => ?_)
set_option maxHeartbeats 8000000 in
set_option maxRecDepth 100000 in
theorem intrusionlaw11_same.calls (k : Nat) (b0 : Int) (b1 : Int) (b2 : Int) (b3 : Int) (b4 : Bool) (b5 : Bool) (b6 : Int) (b7 : Bool) (b8 : Int) (b9 : Int) (b10 : Bool) (b11 : Int) (b12 : Int) (A0_13 : Option Addr) (c0_13 : Nat) (l0_13 : List (S50)) (b14 : ByteArray) (d0 : Int) (d1 : Int) (d2 : Int) (d3 : Int) (d4 : Bool) (d5 : Bool) (d6 : Int) (d7 : Bool) (d8 : Int) (d9 : Int) (d10 : Bool) (d11 : Int) (d12 : Int) (A1_13 : Option Addr) (c1_13 : Nat) (l1_13 : List (S50)) (d14 : ByteArray) (r : Bool) (w : World) (hr0_13 : Kd.C k50 w A0_13 l0_13.length l0_13) (hc0_13 : l0_13.length ≤ c0_13) (hr1_13 : Kd.C k50 w A1_13 l1_13.length l1_13) (hc1_13 : l1_13.length ≤ c1_13) (h : intrusionlaw11_same.f k b0 b1 b2 b3 b4 b5 b6 b7 b8 b9 b10 b11 b12 l0_13 b14 d0 d1 d2 d3 d4 d5 d6 d7 d8 d9 d10 d11 d12 l1_13 d14 = some r) :
  Calls Try.prog 13 #[.agg #[.int .i64 b0, .int .i64 b1, .int .i64 b2, .int .i64 b3, .bool b4, .bool b5, .int .i64 b6, .bool b7, .int .u64 b8, .int .u64 b9, .bool b10, .int .u64 b11, .int .u64 b12, .slice A0_13 l0_13.length c0_13, .string b14], .agg #[.int .i64 d0, .int .i64 d1, .int .i64 d2, .int .i64 d3, .bool d4, .bool d5, .int .i64 d6, .bool d7, .int .u64 d8, .int .u64 d9, .bool d10, .int .u64 d11, .int .u64 d12, .slice A1_13 l1_13.length c1_13, .string d14]] w fun e w' => e = .returned (.bool r) ∧ Below w.heap.size w w' := by
 have hu28 := Try.underlying28
 have hu25 := Try.underlying25
 have HR0_13 := As hr0_13
 have HC0_13 := As hc0_13
 clear hr0_13 hc0_13
 have HR1_13 := As hr1_13
 have HC1_13 := As hc1_13
 clear hr1_13 hc1_13
 have HB := As (Below.refl w.heap.size w)
 have H : (if b0 = d0 then (if b1 = d1 then (if b2 = d2 then (if b3 = d3 then (if (b4 == d4) = true then (if (b5 == d5) = true then (if b6 = d6 then (if (b7 == d7 && (b8 == d8 && (b9 == d9))) = true then (if (b10 == d10 && (b11 == d11 && (b12 == d12))) = true then (if b14.toList = d14.toList then ((intrusionlaw11_sameOptions.f k l0_13 l1_13).bind fun t198 => (some t198)) else (some false)) else (some false)) else (some false)) else (some false)) else (some false)) else (some false)) else (some false)) else (some false)) else (some false)) else (some false)) = some r := h
 clear h
 by_cases c3 : b0 = d0
 ·rw [if_pos c3] at H
  have c3b0 : (b0 == d0) = true := beq_iff_eq.mpr c3
  have c3b1 : (b0 != d0) = false := bne_eq_false_iff_eq.mpr c3
  clear c3
  by_cases c4 : b1 = d1
  ·rw [if_pos c4] at H
   have c4b0 : (b1 == d1) = true := beq_iff_eq.mpr c4
   have c4b1 : (b1 != d1) = false := bne_eq_false_iff_eq.mpr c4
   clear c4
   by_cases c5 : b2 = d2
   ·rw [if_pos c5] at H
    have c5b0 : (b2 == d2) = true := beq_iff_eq.mpr c5
    have c5b1 : (b2 != d2) = false := bne_eq_false_iff_eq.mpr c5
    clear c5
    by_cases c6 : b3 = d3
    ·rw [if_pos c6] at H
     have c6b0 : (b3 == d3) = true := beq_iff_eq.mpr c6
     have c6b1 : (b3 != d3) = false := bne_eq_false_iff_eq.mpr c6
     clear c6
     by_cases c7 : (b4 == d4) = true
     ·rw [if_pos c7] at H
      have c7b0 : (b4 == d4) = true := c7
      (try (have c7b1 : decide (b4 = d4) = true := by simpa using c7))
      (try (have c7b2 : (b4 == d4) = true := by simpa using c7))
      clear c7
      by_cases c8 : (b5 == d5) = true
      ·rw [if_pos c8] at H
       have c8b0 : (b5 == d5) = true := c8
       (try (have c8b1 : decide (b5 = d5) = true := by simpa using c8))
       (try (have c8b2 : (b5 == d5) = true := by simpa using c8))
       clear c8
       by_cases c9 : b6 = d6
       ·rw [if_pos c9] at H
        have c9b0 : (b6 == d6) = true := beq_iff_eq.mpr c9
        have c9b1 : (b6 != d6) = false := bne_eq_false_iff_eq.mpr c9
        clear c9
        by_cases c10 : (b7 == d7 && (b8 == d8 && (b9 == d9))) = true
        ·rw [if_pos c10] at H
         have c10b0 : (b7 == d7 && (b8 == d8 && (b9 == d9))) = true := c10
         (try (have c10b1 : decide (b7 = d7 && (b8 == d8 && (b9 == d9))) = true := by simpa using c10))
         (try (have c10b2 : (b7 == d7 && (b8 == d8 && (b9 == d9))) = true := by simpa using c10))
         clear c10
         by_cases c11 : (b10 == d10 && (b11 == d11 && (b12 == d12))) = true
         ·rw [if_pos c11] at H
          have c11b0 : (b10 == d10 && (b11 == d11 && (b12 == d12))) = true := c11
          (try (have c11b1 : decide (b10 = d10 && (b11 == d11 && (b12 == d12))) = true := by simpa using c11))
          (try (have c11b2 : (b10 == d10 && (b11 == d11 && (b12 == d12))) = true := by simpa using c11))
          clear c11
          by_cases c12 : b14.toList = d14.toList
          ·rw [if_pos c12] at H
           have c12b0 : (b14.toList == d14.toList) = true := beq_iff_eq.mpr c12
           have c12b1 : (b14.toList != d14.toList) = false := bne_eq_false_iff_eq.mpr c12
           clear c12
           replace H := bS H
           obtain ⟨t198, A13, H⟩ := H
           obtain rfl := Option.some.inj H
           go_enter Try.func13, Try.ntmps13
           go_wp2_with (first | ((with_reducible refine gate_dst (N := 2) rfl ?_); refine box_event rfl (N := 2) rfl (cs := #[.int .i64 b0, .int .i64 b1, .int .i64 b2, .int .i64 b3, .bool b4, .bool b5, .int .i64 b6, .bool b7, .int .u64 b8, .int .u64 b9, .bool b10, .int .u64 b11, .int .u64 b12, .slice A0_13 l0_13.length c0_13, .string b14]) (t := 28) kG ?_; intro gb196 hg w14 hbox hb; have BK196 := As (hbox); have GW196 := As (gS hg (below_size (kB HB.out))); have GE196 := As (gS hg (below_size (kB HB.out))); replace HB := As (below_step (kB HB.out) hb); clear hb hbox hg) | ((with_reducible refine gate_dst (N := 3) rfl ?_); refine box_event rfl (N := 3) rfl (cs := #[.int .i64 d0, .int .i64 d1, .int .i64 d2, .int .i64 d3, .bool d4, .bool d5, .int .i64 d6, .bool d7, .int .u64 d8, .int .u64 d9, .bool d10, .int .u64 d11, .int .u64 d12, .slice A1_13 l1_13.length c1_13, .string d14]) (t := 28) kG ?_; intro gb197 hg w15 hbox hb; have BK197 := As (hbox); have GW197 := As (gS hg (below_size (kB1 HB.out GE196.out))); have GE197 := As (gS hg (below_size (kB1 HB.out GE196.out))); replace HB := As (below_step (kB1 HB.out GE196.out) hb); have NB196_197 := As (gN hg (blk_lt (kb BK196.out))); have NB197_196 := As (gM hg (blk_lt (kb BK196.out))); replace BK196 := As (blk_below (kb BK196.out) hb); clear hb hbox hg; have hnb16 := NB196_197.out; have hnc16 := NB197_196.out; have hcz17_0 := cells_15 BK196.out; have hfz17_0 := fun j_ => blk_frozen BK196.out j_; have hcz18_0 := cells_15 BK197.out; have hfz18_0 := fun j_ => blk_frozen BK197.out j_) | (go_at_call 34; (with_reducible refine (intrusionlaw11_sameOptions.calls k _ _ l0_13 _ _ l1_13 t198 _ ?side1 ?side2 ?side3 ?side4 A13.out).mono ?_); (case side1 => repeat (first | exact (Kd.C_below HR0_13.out HB.out) | (with_reducible refine Kd.C_alloc ?_ _) | (with_reducible refine Kd.C_drewN ?_ _) | (with_reducible refine Kd.C_drew ?_))); (case side2 => exact HC0_13.out); (case side3 => repeat (first | exact (Kd.C_below HR1_13.out HB.out) | (with_reducible refine Kd.C_alloc ?_ _) | (with_reducible refine Kd.C_drewN ?_ _) | (with_reducible refine Kd.C_drew ?_))); (case side4 => exact HC1_13.out); rintro e w' ⟨rfl, ⟨nd, rfl⟩⟩))
           go_ret
           exact ⟨kE, by exact kB2 HB.out GE196.out GE197.out⟩
          rw [if_neg c12] at H
          have c12b0 : (b14.toList == d14.toList) = false := beq_eq_false_iff_ne.mpr c12
          have c12b1 : (b14.toList != d14.toList) = true := bne_iff_ne.mpr c12
          obtain rfl := Option.some.inj H
          go_enter Try.func13, Try.ntmps13
          go_wp2_with (first | ((with_reducible refine gate_dst (N := 2) rfl ?_); refine box_event rfl (N := 2) rfl (cs := #[.int .i64 b0, .int .i64 b1, .int .i64 b2, .int .i64 b3, .bool b4, .bool b5, .int .i64 b6, .bool b7, .int .u64 b8, .int .u64 b9, .bool b10, .int .u64 b11, .int .u64 b12, .slice A0_13 l0_13.length c0_13, .string b14]) (t := 28) kG ?_; intro gb196 hg w19 hbox hb; have BK196 := As (hbox); have GW196 := As (gS hg (below_size (kB HB.out))); have GE196 := As (gS hg (below_size (kB HB.out))); replace HB := As (below_step (kB HB.out) hb); clear hb hbox hg) | ((with_reducible refine gate_dst (N := 3) rfl ?_); refine box_event rfl (N := 3) rfl (cs := #[.int .i64 d0, .int .i64 d1, .int .i64 d2, .int .i64 d3, .bool d4, .bool d5, .int .i64 d6, .bool d7, .int .u64 d8, .int .u64 d9, .bool d10, .int .u64 d11, .int .u64 d12, .slice A1_13 l1_13.length c1_13, .string d14]) (t := 28) kG ?_; intro gb197 hg w20 hbox hb; have BK197 := As (hbox); have GW197 := As (gS hg (below_size (kB1 HB.out GE196.out))); have GE197 := As (gS hg (below_size (kB1 HB.out GE196.out))); replace HB := As (below_step (kB1 HB.out GE196.out) hb); have NB196_197 := As (gN hg (blk_lt (kb BK196.out))); have NB197_196 := As (gM hg (blk_lt (kb BK196.out))); replace BK196 := As (blk_below (kb BK196.out) hb); clear hb hbox hg; have hnb21 := NB196_197.out; have hnc21 := NB197_196.out; have hcz22_0 := cells_15 BK196.out; have hfz22_0 := fun j_ => blk_frozen BK196.out j_; have hcz23_0 := cells_15 BK197.out; have hfz23_0 := fun j_ => blk_frozen BK197.out j_))
          go_ret
          exact ⟨kE, by exact kB2 HB.out GE196.out GE197.out⟩
         rw [if_neg c11] at H
         have c11b0 : (b10 == d10 && (b11 == d11 && (b12 == d12))) = false := by simpa using c11
         (try (have c11b1 : decide (b10 = d10 && (b11 == d11 && (b12 == d12))) = false := by simpa using c11))
         (try (have c11b2 : (b10 == d10 && (b11 == d11 && (b12 == d12))) = false := by simpa using c11))
         (try (have c11b3 : ¬ (b10 = d10 && (b11 == d11 && (b12 == d12))) := by simpa using c11))
         clear c11
         obtain rfl := Option.some.inj H
         go_enter Try.func13, Try.ntmps13
         go_wp2_with (first | ((with_reducible refine gate_dst (N := 2) rfl ?_); refine box_event rfl (N := 2) rfl (cs := #[.int .i64 b0, .int .i64 b1, .int .i64 b2, .int .i64 b3, .bool b4, .bool b5, .int .i64 b6, .bool b7, .int .u64 b8, .int .u64 b9, .bool b10, .int .u64 b11, .int .u64 b12, .slice A0_13 l0_13.length c0_13, .string b14]) (t := 28) kG ?_; intro gb196 hg w24 hbox hb; have BK196 := As (hbox); have GW196 := As (gS hg (below_size (kB HB.out))); have GE196 := As (gS hg (below_size (kB HB.out))); replace HB := As (below_step (kB HB.out) hb); clear hb hbox hg) | ((with_reducible refine gate_dst (N := 3) rfl ?_); refine box_event rfl (N := 3) rfl (cs := #[.int .i64 d0, .int .i64 d1, .int .i64 d2, .int .i64 d3, .bool d4, .bool d5, .int .i64 d6, .bool d7, .int .u64 d8, .int .u64 d9, .bool d10, .int .u64 d11, .int .u64 d12, .slice A1_13 l1_13.length c1_13, .string d14]) (t := 28) kG ?_; intro gb197 hg w25 hbox hb; have BK197 := As (hbox); have GW197 := As (gS hg (below_size (kB1 HB.out GE196.out))); have GE197 := As (gS hg (below_size (kB1 HB.out GE196.out))); replace HB := As (below_step (kB1 HB.out GE196.out) hb); have NB196_197 := As (gN hg (blk_lt (kb BK196.out))); have NB197_196 := As (gM hg (blk_lt (kb BK196.out))); replace BK196 := As (blk_below (kb BK196.out) hb); clear hb hbox hg; have hnb26 := NB196_197.out; have hnc26 := NB197_196.out; have hcz27_0 := cells_15 BK196.out; have hfz27_0 := fun j_ => blk_frozen BK196.out j_; have hcz28_0 := cells_15 BK197.out; have hfz28_0 := fun j_ => blk_frozen BK197.out j_))
         go_ret
         exact ⟨kE, by exact kB2 HB.out GE196.out GE197.out⟩
        rw [if_neg c10] at H
        have c10b0 : (b7 == d7 && (b8 == d8 && (b9 == d9))) = false := by simpa using c10
        (try (have c10b1 : decide (b7 = d7 && (b8 == d8 && (b9 == d9))) = false := by simpa using c10))
        (try (have c10b2 : (b7 == d7 && (b8 == d8 && (b9 == d9))) = false := by simpa using c10))
        (try (have c10b3 : ¬ (b7 = d7 && (b8 == d8 && (b9 == d9))) := by simpa using c10))
        clear c10
        obtain rfl := Option.some.inj H
        go_enter Try.func13, Try.ntmps13
        go_wp2_with (first | ((with_reducible refine gate_dst (N := 2) rfl ?_); refine box_event rfl (N := 2) rfl (cs := #[.int .i64 b0, .int .i64 b1, .int .i64 b2, .int .i64 b3, .bool b4, .bool b5, .int .i64 b6, .bool b7, .int .u64 b8, .int .u64 b9, .bool b10, .int .u64 b11, .int .u64 b12, .slice A0_13 l0_13.length c0_13, .string b14]) (t := 28) kG ?_; intro gb196 hg w29 hbox hb; have BK196 := As (hbox); have GW196 := As (gS hg (below_size (kB HB.out))); have GE196 := As (gS hg (below_size (kB HB.out))); replace HB := As (below_step (kB HB.out) hb); clear hb hbox hg) | ((with_reducible refine gate_dst (N := 3) rfl ?_); refine box_event rfl (N := 3) rfl (cs := #[.int .i64 d0, .int .i64 d1, .int .i64 d2, .int .i64 d3, .bool d4, .bool d5, .int .i64 d6, .bool d7, .int .u64 d8, .int .u64 d9, .bool d10, .int .u64 d11, .int .u64 d12, .slice A1_13 l1_13.length c1_13, .string d14]) (t := 28) kG ?_; intro gb197 hg w30 hbox hb; have BK197 := As (hbox); have GW197 := As (gS hg (below_size (kB1 HB.out GE196.out))); have GE197 := As (gS hg (below_size (kB1 HB.out GE196.out))); replace HB := As (below_step (kB1 HB.out GE196.out) hb); have NB196_197 := As (gN hg (blk_lt (kb BK196.out))); have NB197_196 := As (gM hg (blk_lt (kb BK196.out))); replace BK196 := As (blk_below (kb BK196.out) hb); clear hb hbox hg; have hnb31 := NB196_197.out; have hnc31 := NB197_196.out; have hcz32_0 := cells_15 BK196.out; have hfz32_0 := fun j_ => blk_frozen BK196.out j_; have hcz33_0 := cells_15 BK197.out; have hfz33_0 := fun j_ => blk_frozen BK197.out j_))
        go_ret
        exact ⟨kE, by exact kB2 HB.out GE196.out GE197.out⟩
       rw [if_neg c9] at H
       have c9b0 : (b6 == d6) = false := beq_eq_false_iff_ne.mpr c9
       have c9b1 : (b6 != d6) = true := bne_iff_ne.mpr c9
       obtain rfl := Option.some.inj H
       go_enter Try.func13, Try.ntmps13
       go_wp2_with (first | ((with_reducible refine gate_dst (N := 2) rfl ?_); refine box_event rfl (N := 2) rfl (cs := #[.int .i64 b0, .int .i64 b1, .int .i64 b2, .int .i64 b3, .bool b4, .bool b5, .int .i64 b6, .bool b7, .int .u64 b8, .int .u64 b9, .bool b10, .int .u64 b11, .int .u64 b12, .slice A0_13 l0_13.length c0_13, .string b14]) (t := 28) kG ?_; intro gb196 hg w34 hbox hb; have BK196 := As (hbox); have GW196 := As (gS hg (below_size (kB HB.out))); have GE196 := As (gS hg (below_size (kB HB.out))); replace HB := As (below_step (kB HB.out) hb); clear hb hbox hg) | ((with_reducible refine gate_dst (N := 3) rfl ?_); refine box_event rfl (N := 3) rfl (cs := #[.int .i64 d0, .int .i64 d1, .int .i64 d2, .int .i64 d3, .bool d4, .bool d5, .int .i64 d6, .bool d7, .int .u64 d8, .int .u64 d9, .bool d10, .int .u64 d11, .int .u64 d12, .slice A1_13 l1_13.length c1_13, .string d14]) (t := 28) kG ?_; intro gb197 hg w35 hbox hb; have BK197 := As (hbox); have GW197 := As (gS hg (below_size (kB1 HB.out GE196.out))); have GE197 := As (gS hg (below_size (kB1 HB.out GE196.out))); replace HB := As (below_step (kB1 HB.out GE196.out) hb); have NB196_197 := As (gN hg (blk_lt (kb BK196.out))); have NB197_196 := As (gM hg (blk_lt (kb BK196.out))); replace BK196 := As (blk_below (kb BK196.out) hb); clear hb hbox hg; have hnb36 := NB196_197.out; have hnc36 := NB197_196.out; have hcz37_0 := cells_15 BK196.out; have hfz37_0 := fun j_ => blk_frozen BK196.out j_; have hcz38_0 := cells_15 BK197.out; have hfz38_0 := fun j_ => blk_frozen BK197.out j_))
       go_ret
       exact ⟨kE, by exact kB2 HB.out GE196.out GE197.out⟩
      rw [if_neg c8] at H
      have c8b0 : (b5 == d5) = false := by simpa using c8
      (try (have c8b1 : decide (b5 = d5) = false := by simpa using c8))
      (try (have c8b2 : (b5 == d5) = false := by simpa using c8))
      (try (have c8b3 : ¬ (b5 = d5) := by simpa using c8))
      clear c8
      obtain rfl := Option.some.inj H
      go_enter Try.func13, Try.ntmps13
      go_wp2_with (first | ((with_reducible refine gate_dst (N := 2) rfl ?_); refine box_event rfl (N := 2) rfl (cs := #[.int .i64 b0, .int .i64 b1, .int .i64 b2, .int .i64 b3, .bool b4, .bool b5, .int .i64 b6, .bool b7, .int .u64 b8, .int .u64 b9, .bool b10, .int .u64 b11, .int .u64 b12, .slice A0_13 l0_13.length c0_13, .string b14]) (t := 28) kG ?_; intro gb196 hg w39 hbox hb; have BK196 := As (hbox); have GW196 := As (gS hg (below_size (kB HB.out))); have GE196 := As (gS hg (below_size (kB HB.out))); replace HB := As (below_step (kB HB.out) hb); clear hb hbox hg) | ((with_reducible refine gate_dst (N := 3) rfl ?_); refine box_event rfl (N := 3) rfl (cs := #[.int .i64 d0, .int .i64 d1, .int .i64 d2, .int .i64 d3, .bool d4, .bool d5, .int .i64 d6, .bool d7, .int .u64 d8, .int .u64 d9, .bool d10, .int .u64 d11, .int .u64 d12, .slice A1_13 l1_13.length c1_13, .string d14]) (t := 28) kG ?_; intro gb197 hg w40 hbox hb; have BK197 := As (hbox); have GW197 := As (gS hg (below_size (kB1 HB.out GE196.out))); have GE197 := As (gS hg (below_size (kB1 HB.out GE196.out))); replace HB := As (below_step (kB1 HB.out GE196.out) hb); have NB196_197 := As (gN hg (blk_lt (kb BK196.out))); have NB197_196 := As (gM hg (blk_lt (kb BK196.out))); replace BK196 := As (blk_below (kb BK196.out) hb); clear hb hbox hg; have hnb41 := NB196_197.out; have hnc41 := NB197_196.out; have hcz42_0 := cells_15 BK196.out; have hfz42_0 := fun j_ => blk_frozen BK196.out j_; have hcz43_0 := cells_15 BK197.out; have hfz43_0 := fun j_ => blk_frozen BK197.out j_))
      go_ret
      exact ⟨kE, by exact kB2 HB.out GE196.out GE197.out⟩
     rw [if_neg c7] at H
     have c7b0 : (b4 == d4) = false := by simpa using c7
     (try (have c7b1 : decide (b4 = d4) = false := by simpa using c7))
     (try (have c7b2 : (b4 == d4) = false := by simpa using c7))
     (try (have c7b3 : ¬ (b4 = d4) := by simpa using c7))
     clear c7
     obtain rfl := Option.some.inj H
     go_enter Try.func13, Try.ntmps13
     go_wp2_with (first | ((with_reducible refine gate_dst (N := 2) rfl ?_); refine box_event rfl (N := 2) rfl (cs := #[.int .i64 b0, .int .i64 b1, .int .i64 b2, .int .i64 b3, .bool b4, .bool b5, .int .i64 b6, .bool b7, .int .u64 b8, .int .u64 b9, .bool b10, .int .u64 b11, .int .u64 b12, .slice A0_13 l0_13.length c0_13, .string b14]) (t := 28) kG ?_; intro gb196 hg w44 hbox hb; have BK196 := As (hbox); have GW196 := As (gS hg (below_size (kB HB.out))); have GE196 := As (gS hg (below_size (kB HB.out))); replace HB := As (below_step (kB HB.out) hb); clear hb hbox hg) | ((with_reducible refine gate_dst (N := 3) rfl ?_); refine box_event rfl (N := 3) rfl (cs := #[.int .i64 d0, .int .i64 d1, .int .i64 d2, .int .i64 d3, .bool d4, .bool d5, .int .i64 d6, .bool d7, .int .u64 d8, .int .u64 d9, .bool d10, .int .u64 d11, .int .u64 d12, .slice A1_13 l1_13.length c1_13, .string d14]) (t := 28) kG ?_; intro gb197 hg w45 hbox hb; have BK197 := As (hbox); have GW197 := As (gS hg (below_size (kB1 HB.out GE196.out))); have GE197 := As (gS hg (below_size (kB1 HB.out GE196.out))); replace HB := As (below_step (kB1 HB.out GE196.out) hb); have NB196_197 := As (gN hg (blk_lt (kb BK196.out))); have NB197_196 := As (gM hg (blk_lt (kb BK196.out))); replace BK196 := As (blk_below (kb BK196.out) hb); clear hb hbox hg; have hnb46 := NB196_197.out; have hnc46 := NB197_196.out; have hcz47_0 := cells_15 BK196.out; have hfz47_0 := fun j_ => blk_frozen BK196.out j_; have hcz48_0 := cells_15 BK197.out; have hfz48_0 := fun j_ => blk_frozen BK197.out j_))
     go_ret
     exact ⟨kE, by exact kB2 HB.out GE196.out GE197.out⟩
    rw [if_neg c6] at H
    have c6b0 : (b3 == d3) = false := beq_eq_false_iff_ne.mpr c6
    have c6b1 : (b3 != d3) = true := bne_iff_ne.mpr c6
    obtain rfl := Option.some.inj H
    go_enter Try.func13, Try.ntmps13
    go_wp2_with (first | ((with_reducible refine gate_dst (N := 2) rfl ?_); refine box_event rfl (N := 2) rfl (cs := #[.int .i64 b0, .int .i64 b1, .int .i64 b2, .int .i64 b3, .bool b4, .bool b5, .int .i64 b6, .bool b7, .int .u64 b8, .int .u64 b9, .bool b10, .int .u64 b11, .int .u64 b12, .slice A0_13 l0_13.length c0_13, .string b14]) (t := 28) kG ?_; intro gb196 hg w49 hbox hb; have BK196 := As (hbox); have GW196 := As (gS hg (below_size (kB HB.out))); have GE196 := As (gS hg (below_size (kB HB.out))); replace HB := As (below_step (kB HB.out) hb); clear hb hbox hg) | ((with_reducible refine gate_dst (N := 3) rfl ?_); refine box_event rfl (N := 3) rfl (cs := #[.int .i64 d0, .int .i64 d1, .int .i64 d2, .int .i64 d3, .bool d4, .bool d5, .int .i64 d6, .bool d7, .int .u64 d8, .int .u64 d9, .bool d10, .int .u64 d11, .int .u64 d12, .slice A1_13 l1_13.length c1_13, .string d14]) (t := 28) kG ?_; intro gb197 hg w50 hbox hb; have BK197 := As (hbox); have GW197 := As (gS hg (below_size (kB1 HB.out GE196.out))); have GE197 := As (gS hg (below_size (kB1 HB.out GE196.out))); replace HB := As (below_step (kB1 HB.out GE196.out) hb); have NB196_197 := As (gN hg (blk_lt (kb BK196.out))); have NB197_196 := As (gM hg (blk_lt (kb BK196.out))); replace BK196 := As (blk_below (kb BK196.out) hb); clear hb hbox hg; have hnb51 := NB196_197.out; have hnc51 := NB197_196.out; have hcz52_0 := cells_15 BK196.out; have hfz52_0 := fun j_ => blk_frozen BK196.out j_; have hcz53_0 := cells_15 BK197.out; have hfz53_0 := fun j_ => blk_frozen BK197.out j_))
    go_ret
    exact ⟨kE, by exact kB2 HB.out GE196.out GE197.out⟩
   rw [if_neg c5] at H
   have c5b0 : (b2 == d2) = false := beq_eq_false_iff_ne.mpr c5
   have c5b1 : (b2 != d2) = true := bne_iff_ne.mpr c5
   obtain rfl := Option.some.inj H
   go_enter Try.func13, Try.ntmps13
   go_wp2_with (first | ((with_reducible refine gate_dst (N := 2) rfl ?_); refine box_event rfl (N := 2) rfl (cs := #[.int .i64 b0, .int .i64 b1, .int .i64 b2, .int .i64 b3, .bool b4, .bool b5, .int .i64 b6, .bool b7, .int .u64 b8, .int .u64 b9, .bool b10, .int .u64 b11, .int .u64 b12, .slice A0_13 l0_13.length c0_13, .string b14]) (t := 28) kG ?_; intro gb196 hg w54 hbox hb; have BK196 := As (hbox); have GW196 := As (gS hg (below_size (kB HB.out))); have GE196 := As (gS hg (below_size (kB HB.out))); replace HB := As (below_step (kB HB.out) hb); clear hb hbox hg) | ((with_reducible refine gate_dst (N := 3) rfl ?_); refine box_event rfl (N := 3) rfl (cs := #[.int .i64 d0, .int .i64 d1, .int .i64 d2, .int .i64 d3, .bool d4, .bool d5, .int .i64 d6, .bool d7, .int .u64 d8, .int .u64 d9, .bool d10, .int .u64 d11, .int .u64 d12, .slice A1_13 l1_13.length c1_13, .string d14]) (t := 28) kG ?_; intro gb197 hg w55 hbox hb; have BK197 := As (hbox); have GW197 := As (gS hg (below_size (kB1 HB.out GE196.out))); have GE197 := As (gS hg (below_size (kB1 HB.out GE196.out))); replace HB := As (below_step (kB1 HB.out GE196.out) hb); have NB196_197 := As (gN hg (blk_lt (kb BK196.out))); have NB197_196 := As (gM hg (blk_lt (kb BK196.out))); replace BK196 := As (blk_below (kb BK196.out) hb); clear hb hbox hg; have hnb56 := NB196_197.out; have hnc56 := NB197_196.out; have hcz57_0 := cells_15 BK196.out; have hfz57_0 := fun j_ => blk_frozen BK196.out j_; have hcz58_0 := cells_15 BK197.out; have hfz58_0 := fun j_ => blk_frozen BK197.out j_))
   go_ret
   exact ⟨kE, by exact kB2 HB.out GE196.out GE197.out⟩
  rw [if_neg c4] at H
  have c4b0 : (b1 == d1) = false := beq_eq_false_iff_ne.mpr c4
  have c4b1 : (b1 != d1) = true := bne_iff_ne.mpr c4
  obtain rfl := Option.some.inj H
  go_enter Try.func13, Try.ntmps13
  go_wp2_with (first | ((with_reducible refine gate_dst (N := 2) rfl ?_); refine box_event rfl (N := 2) rfl (cs := #[.int .i64 b0, .int .i64 b1, .int .i64 b2, .int .i64 b3, .bool b4, .bool b5, .int .i64 b6, .bool b7, .int .u64 b8, .int .u64 b9, .bool b10, .int .u64 b11, .int .u64 b12, .slice A0_13 l0_13.length c0_13, .string b14]) (t := 28) kG ?_; intro gb196 hg w59 hbox hb; have BK196 := As (hbox); have GW196 := As (gS hg (below_size (kB HB.out))); have GE196 := As (gS hg (below_size (kB HB.out))); replace HB := As (below_step (kB HB.out) hb); clear hb hbox hg) | ((with_reducible refine gate_dst (N := 3) rfl ?_); refine box_event rfl (N := 3) rfl (cs := #[.int .i64 d0, .int .i64 d1, .int .i64 d2, .int .i64 d3, .bool d4, .bool d5, .int .i64 d6, .bool d7, .int .u64 d8, .int .u64 d9, .bool d10, .int .u64 d11, .int .u64 d12, .slice A1_13 l1_13.length c1_13, .string d14]) (t := 28) kG ?_; intro gb197 hg w60 hbox hb; have BK197 := As (hbox); have GW197 := As (gS hg (below_size (kB1 HB.out GE196.out))); have GE197 := As (gS hg (below_size (kB1 HB.out GE196.out))); replace HB := As (below_step (kB1 HB.out GE196.out) hb); have NB196_197 := As (gN hg (blk_lt (kb BK196.out))); have NB197_196 := As (gM hg (blk_lt (kb BK196.out))); replace BK196 := As (blk_below (kb BK196.out) hb); clear hb hbox hg; have hnb61 := NB196_197.out; have hnc61 := NB197_196.out; have hcz62_0 := cells_15 BK196.out; have hfz62_0 := fun j_ => blk_frozen BK196.out j_; have hcz63_0 := cells_15 BK197.out; have hfz63_0 := fun j_ => blk_frozen BK197.out j_))
  go_ret
  exact ⟨kE, by exact kB2 HB.out GE196.out GE197.out⟩
 rw [if_neg c3] at H
 have c3b0 : (b0 == d0) = false := beq_eq_false_iff_ne.mpr c3
 have c3b1 : (b0 != d0) = true := bne_iff_ne.mpr c3
 obtain rfl := Option.some.inj H
 go_enter Try.func13, Try.ntmps13
 go_wp2_with (first | ((with_reducible refine gate_dst (N := 2) rfl ?_); refine box_event rfl (N := 2) rfl (cs := #[.int .i64 b0, .int .i64 b1, .int .i64 b2, .int .i64 b3, .bool b4, .bool b5, .int .i64 b6, .bool b7, .int .u64 b8, .int .u64 b9, .bool b10, .int .u64 b11, .int .u64 b12, .slice A0_13 l0_13.length c0_13, .string b14]) (t := 28) kG ?_; intro gb196 hg w64 hbox hb; have BK196 := As (hbox); have GW196 := As (gS hg (below_size (kB HB.out))); have GE196 := As (gS hg (below_size (kB HB.out))); replace HB := As (below_step (kB HB.out) hb); clear hb hbox hg) | ((with_reducible refine gate_dst (N := 3) rfl ?_); refine box_event rfl (N := 3) rfl (cs := #[.int .i64 d0, .int .i64 d1, .int .i64 d2, .int .i64 d3, .bool d4, .bool d5, .int .i64 d6, .bool d7, .int .u64 d8, .int .u64 d9, .bool d10, .int .u64 d11, .int .u64 d12, .slice A1_13 l1_13.length c1_13, .string d14]) (t := 28) kG ?_; intro gb197 hg w65 hbox hb; have BK197 := As (hbox); have GW197 := As (gS hg (below_size (kB1 HB.out GE196.out))); have GE197 := As (gS hg (below_size (kB1 HB.out GE196.out))); replace HB := As (below_step (kB1 HB.out GE196.out) hb); have NB196_197 := As (gN hg (blk_lt (kb BK196.out))); have NB197_196 := As (gM hg (blk_lt (kb BK196.out))); replace BK196 := As (blk_below (kb BK196.out) hb); clear hb hbox hg; have hnb66 := NB196_197.out; have hnc66 := NB197_196.out; have hcz67_0 := cells_15 BK196.out; have hfz67_0 := fun j_ => blk_frozen BK196.out j_; have hcz68_0 := cells_15 BK197.out; have hfz68_0 := fun j_ => blk_frozen BK197.out j_))
 go_ret
 exact ⟨kE, by exact kB2 HB.out GE196.out GE197.out⟩

end Go.Proofs.Ytobioaommmgehaa.Z
-- short
-- short2
