/- Functions and their walks, printed by xprint.py. -/
import Derived.Test.YtocobalkikkhlaaDoorX0
import Derived.Test.YtocobalkikkhlaaDoorX7
namespace Go.Proofs.YtocobalkikkhlaaDoor.X
open Go.RowKit Go.Proofs.YtocobalkikkhlaaDoorW.PrintWords Go.Proofs.YtocobalkikkhlaaDoorW.PrintLast Go.Proofs.YtocobalkikkhlaaDoorW.PrintMore
attribute [local go_sem] max2_int min2_int max_two min_two max_three min_three max_four min_four   -- for this text's walks alone
set_option linter.unusedVariables false
set_option linter.unusedSimpArgs false

/-! ### ipv6_headers: function 79 -/
mutual
def ipv6_headers.l0 : Nat → Bool → Int → Int → Int → Int → Bool → Int → Int → Bool → Int → Int → List (S91) → Bool → Int → Int → Bool → ByteArray → Option (Int × Int × Int × Int × Bool × Int × Int × Bool × Int × Int × (List (S91)) × Bool × Int × Int × Bool × ByteArray × Int)
 | 0, _, _, _, _, _, _, _, _, _, _, _, _, _, _, _, _, _ => none
 | k + 1, x4, b0, b1, b2, b3, b4, b5, b6, b7, b8, b9, b10, b11, b12, b13, b14, b15 => (ipv6_extension.f b3).bind fun t424 => (if t424 = true then (ipv6_headers.j1 k x4 b3 false b0 b1 b2 b3 b4 b5 b6 b7 b8 b9 b10 b11 b12 b13 b14 b15) else (ipv6_headers.j1 k x4 b3 (b3 != 44) b0 b1 b2 b3 b4 b5 b6 b7 b8 b9 b10 b11 b12 b13 b14 b15))
def ipv6_headers.j1 : Nat → Bool → Int → Bool → Int → Int → Int → Int → Bool → Int → Int → Bool → Int → Int → List (S91) → Bool → Int → Int → Bool → ByteArray → Option (Int × Int × Int × Int × Bool × Int × Int × Bool × Int × Int × (List (S91)) × Bool × Int × Int × Bool × ByteArray × Int)
 | 0, _, _, _, _, _, _, _, _, _, _, _, _, _, _, _, _, _, _, _ => none
 | k + 1, x4, x5, x11, b0, b1, b2, b3, b4, b5, b6, b7, b8, b9, b10, b11, b12, b13, b14, b15 => if x11 = true then (some (b0, b1, b2, b3, b4, b5, b6, b7, b8, b9, b10, b11, b12, b13, b14, b15, 0)) else (if x5 = 0 then (ipv6_headers.j2 k x5 (!x4) b0 b1 b2 b3 b4 b5 b6 b7 b8 b9 b10 b11 b12 b13 b14 b15) else (ipv6_headers.j2 k x5 false b0 b1 b2 b3 b4 b5 b6 b7 b8 b9 b10 b11 b12 b13 b14 b15))
def ipv6_headers.j2 : Nat → Int → Bool → Int → Int → Int → Int → Bool → Int → Int → Bool → Int → Int → List (S91) → Bool → Int → Int → Bool → ByteArray → Option (Int × Int × Int × Int × Bool × Int × Int × Bool × Int × Int × (List (S91)) × Bool × Int × Int × Bool × ByteArray × Int)
 | 0, _, _, _, _, _, _, _, _, _, _, _, _, _, _, _, _, _, _ => none
 | k + 1, x5, x19, b0, b1, b2, b3, b4, b5, b6, b7, b8, b9, b10, b11, b12, b13, b14, b15 => if x19 = true then (ipv6_headers.j3 k x5 x19 b0 b1 b2 b3 b4 b5 b6 b7 b8 b9 b10 b11 b12 b13 b14 b15) else (ipv6_headers.j3 k x5 b11 b0 b1 b2 b3 b4 b5 b6 b7 b8 b9 b10 b11 b12 b13 b14 b15)
def ipv6_headers.j3 : Nat → Int → Bool → Int → Int → Int → Int → Bool → Int → Int → Bool → Int → Int → List (S91) → Bool → Int → Int → Bool → ByteArray → Option (Int × Int × Int × Int × Bool × Int × Int × Bool × Int × Int × (List (S91)) × Bool × Int × Int × Bool × ByteArray × Int)
 | 0, _, _, _, _, _, _, _, _, _, _, _, _, _, _, _, _, _, _ => none
 | k + 1, x5, x19, b0, b1, b2, b3, b4, b5, b6, b7, b8, b9, b10, b11, b12, b13, b14, b15 => if x19 = true then (some (0, 0, 0, 0, false, 0, 0, false, 0, 0, ([] : List (S91)), false, 0, 0, false, (⟨#[]⟩ : ByteArray), 2)) else (if x5 = 44 then (ipv6_headers.j4 k x5 false b0 b1 b2 b3 b4 b5 b6 b7 b8 b9 b10 b11 b12 b13 b14 b15) else (ipv6_headers.j4 k x5 ((b10.length : Int) == 8) b0 b1 b2 b3 b4 b5 b6 b7 b8 b9 b10 b11 b12 b13 b14 b15))
def ipv6_headers.j4 : Nat → Int → Bool → Int → Int → Int → Int → Bool → Int → Int → Bool → Int → Int → List (S91) → Bool → Int → Int → Bool → ByteArray → Option (Int × Int × Int × Int × Bool × Int × Int × Bool × Int × Int × (List (S91)) × Bool × Int × Int × Bool × ByteArray × Int)
 | 0, _, _, _, _, _, _, _, _, _, _, _, _, _, _, _, _, _, _ => none
 | k + 1, x5, x29, b0, b1, b2, b3, b4, b5, b6, b7, b8, b9, b10, b11, b12, b13, b14, b15 => if x29 = true then (some (0, 0, 0, 0, false, 0, 0, false, 0, 0, ([] : List (S91)), false, 0, 0, false, (⟨#[]⟩ : ByteArray), 9)) else (if (b15.size : Int) < 8 then (some (0, 0, 0, 0, false, 0, 0, false, 0, 0, ([] : List (S91)), false, 0, 0, false, (⟨#[]⟩ : ByteArray), 1)) else (if 0 < (b15.size : Int) then (if x5 = 44 then ((field_Get.f k b15 2 2).bind fun bt425 => ((field_Get.f k b15 4 4).bind fun bt427 => (if 8 ≤ (b15.size : Int) then (ipv6_headers.l0 k false b0 b1 b2 (wrap64 (bt b15 0)) b4 b5 b6 b7 b8 b9 b10 true bt427.1 (Go.bits .andNot .i64 bt425.1 7) ((Go.bits .and .i64 bt425.1 1) == 1) (b15.extract 8 b15.size)) else (none)))) else (if 1 < (b15.size : Int) then (if (b15.size : Int) < (wrap64 (8 + (wrap64 (8 * (wrap64 (bt b15 1)))))) then (some (0, 0, 0, 0, false, 0, 0, false, 0, 0, ([] : List (S91)), false, 0, 0, false, (⟨#[]⟩ : ByteArray), 1)) else (if 2 ≤ (wrap64 (8 + (wrap64 (8 * (wrap64 (bt b15 1)))))) then (if (wrap64 (8 + (wrap64 (8 * (wrap64 (bt b15 1)))))) ≤ (b15.size : Int) then (if b10.length < 5864062014805 then (if 0 ≤ (wrap64 (8 + (wrap64 (8 * (wrap64 (bt b15 1)))))) then (ipv6_headers.l0 k false b0 b1 b2 (wrap64 (bt b15 0)) b4 b5 b6 b7 b8 b9 (b10 ++ [(⟨x5, b15.extract 2 ((wrap64 (8 + (wrap64 (8 * (wrap64 (bt b15 1)))))) : Int).toNat⟩ : S91)]) b11 b12 b13 b14 (b15.extract ((wrap64 (8 + (wrap64 (8 * (wrap64 (bt b15 1)))))) : Int).toNat b15.size)) else (none)) else (none)) else (none)) else (none))) else (none))) else (none)))
end
def ipv6_headers.f (k : Nat) (d0 : Int) (d1 : Int) (d2 : Int) (d3 : Int) (d4 : Bool) (d5 : Int) (d6 : Int) (d7 : Bool) (d8 : Int) (d9 : Int) (l0_10 : List (S91)) (d11 : Bool) (d12 : Int) (d13 : Int) (d14 : Bool) (d15 : ByteArray) : Option (Int × Int × Int × Int × Bool × Int × Int × Bool × Int × Int × (List (S91)) × Bool × Int × Int × Bool × ByteArray × Int) := ipv6_headers.l0 k true d0 d1 d2 d3 d4 d5 d6 d7 d8 d9 l0_10 d11 d12 d13 d14 d15
theorem ipv6_headers.mono_l : ∀ k, (∀ y0 y1 y2 y3 y4 y5 y6 y7 y8 y9 y10 y11 y12 y13 y14 y15 y16, LeO (ipv6_headers.l0 k y0 y1 y2 y3 y4 y5 y6 y7 y8 y9 y10 y11 y12 y13 y14 y15 y16) (ipv6_headers.l0 (k + 1) y0 y1 y2 y3 y4 y5 y6 y7 y8 y9 y10 y11 y12 y13 y14 y15 y16)) ∧ (∀ y0 y1 y2 y3 y4 y5 y6 y7 y8 y9 y10 y11 y12 y13 y14 y15 y16 y17 y18, LeO (ipv6_headers.j1 k y0 y1 y2 y3 y4 y5 y6 y7 y8 y9 y10 y11 y12 y13 y14 y15 y16 y17 y18) (ipv6_headers.j1 (k + 1) y0 y1 y2 y3 y4 y5 y6 y7 y8 y9 y10 y11 y12 y13 y14 y15 y16 y17 y18)) ∧ (∀ y0 y1 y2 y3 y4 y5 y6 y7 y8 y9 y10 y11 y12 y13 y14 y15 y16 y17, LeO (ipv6_headers.j2 k y0 y1 y2 y3 y4 y5 y6 y7 y8 y9 y10 y11 y12 y13 y14 y15 y16 y17) (ipv6_headers.j2 (k + 1) y0 y1 y2 y3 y4 y5 y6 y7 y8 y9 y10 y11 y12 y13 y14 y15 y16 y17)) ∧ (∀ y0 y1 y2 y3 y4 y5 y6 y7 y8 y9 y10 y11 y12 y13 y14 y15 y16 y17, LeO (ipv6_headers.j3 k y0 y1 y2 y3 y4 y5 y6 y7 y8 y9 y10 y11 y12 y13 y14 y15 y16 y17) (ipv6_headers.j3 (k + 1) y0 y1 y2 y3 y4 y5 y6 y7 y8 y9 y10 y11 y12 y13 y14 y15 y16 y17)) ∧ (∀ y0 y1 y2 y3 y4 y5 y6 y7 y8 y9 y10 y11 y12 y13 y14 y15 y16 y17, LeO (ipv6_headers.j4 k y0 y1 y2 y3 y4 y5 y6 y7 y8 y9 y10 y11 y12 y13 y14 y15 y16 y17) (ipv6_headers.j4 (k + 1) y0 y1 y2 y3 y4 y5 y6 y7 y8 y9 y10 y11 y12 y13 y14 y15 y16 y17))
 | 0 => ⟨fun _ _ _ _ _ _ _ _ _ _ _ _ _ _ _ _ _ r h => by simp [ipv6_headers.l0] at h, fun _ _ _ _ _ _ _ _ _ _ _ _ _ _ _ _ _ _ _ r h => by simp [ipv6_headers.j1] at h, fun _ _ _ _ _ _ _ _ _ _ _ _ _ _ _ _ _ _ r h => by simp [ipv6_headers.j2] at h, fun _ _ _ _ _ _ _ _ _ _ _ _ _ _ _ _ _ _ r h => by simp [ipv6_headers.j3] at h, fun _ _ _ _ _ _ _ _ _ _ _ _ _ _ _ _ _ _ r h => by simp [ipv6_headers.j4] at h⟩
 | k + 1 => by
  obtain ⟨ih0, ih1, ih2, ih3, ih4⟩ := ipv6_headers.mono_l k
  refine ⟨?_, ?_, ?_, ?_, ?_⟩
  ·intro y0 y1 y2 y3 y4 y5 y6 y7 y8 y9 y10 y11 y12 y13 y14 y15 y16
   unfold ipv6_headers.l0
   repeat' first | with_reducible first | apply ih0 | apply ih1 | apply ih2 | apply ih3 | apply ih4 | apply field_Get.mono | apply LeO.refl | apply LeO.none | refine LeO.ite ?_ ?_ | refine LeO.bind ?_ (fun _ => ?_)
  ·intro y0 y1 y2 y3 y4 y5 y6 y7 y8 y9 y10 y11 y12 y13 y14 y15 y16 y17 y18
   unfold ipv6_headers.j1
   repeat' first | with_reducible first | apply ih0 | apply ih1 | apply ih2 | apply ih3 | apply ih4 | apply field_Get.mono | apply LeO.refl | apply LeO.none | refine LeO.ite ?_ ?_ | refine LeO.bind ?_ (fun _ => ?_)
  ·intro y0 y1 y2 y3 y4 y5 y6 y7 y8 y9 y10 y11 y12 y13 y14 y15 y16 y17
   unfold ipv6_headers.j2
   repeat' first | with_reducible first | apply ih0 | apply ih1 | apply ih2 | apply ih3 | apply ih4 | apply field_Get.mono | apply LeO.refl | apply LeO.none | refine LeO.ite ?_ ?_ | refine LeO.bind ?_ (fun _ => ?_)
  ·intro y0 y1 y2 y3 y4 y5 y6 y7 y8 y9 y10 y11 y12 y13 y14 y15 y16 y17
   unfold ipv6_headers.j3
   repeat' first | with_reducible first | apply ih0 | apply ih1 | apply ih2 | apply ih3 | apply ih4 | apply field_Get.mono | apply LeO.refl | apply LeO.none | refine LeO.ite ?_ ?_ | refine LeO.bind ?_ (fun _ => ?_)
  intro y0 y1 y2 y3 y4 y5 y6 y7 y8 y9 y10 y11 y12 y13 y14 y15 y16 y17
  unfold ipv6_headers.j4
  repeat' first | with_reducible first | apply ih0 | apply ih1 | apply ih2 | apply ih3 | apply ih4 | apply field_Get.mono | apply LeO.refl | apply LeO.none | refine LeO.ite ?_ ?_ | refine LeO.bind ?_ (fun _ => ?_)
theorem ipv6_headers.mono : ∀ a0 a1 a2 a3 a4 a5 a6 a7 a8 a9 a10 a11 a12 a13 a14 a15 k, LeO (ipv6_headers.f k a0 a1 a2 a3 a4 a5 a6 a7 a8 a9 a10 a11 a12 a13 a14 a15) (ipv6_headers.f (k + 1) a0 a1 a2 a3 a4 a5 a6 a7 a8 a9 a10 a11 a12 a13 a14 a15) := by
 intro a0 a1 a2 a3 a4 a5 a6 a7 a8 a9 a10 a11 a12 a13 a14 a15 k
 obtain ⟨ih0, ih1, ih2, ih3, ih4⟩ := ipv6_headers.mono_l k
 unfold ipv6_headers.f
 repeat' first | with_reducible first | apply ih0 | apply ih1 | apply ih2 | apply ih3 | apply ih4 | apply field_Get.mono | apply LeO.refl | apply LeO.none | refine LeO.ite ?_ ?_ | refine LeO.bind ?_ (fun _ => ?_)
def ipv6_headers.T21 : Bool × List (List Nat × List Nat) := (true, [([], []), ([0], [0]), ([], []), ([], []), ([3], [3]), ([], []), ([4, 5], [4, 5]), ([2, 6], [2, 6]), ([7], [7]), ([1, 8], [1, 8]), ([0, 1, 2, 3, 4, 5, 6, 7, 8, 9], []), ([10, 9, 9, 0, 1, 2, 3, 4, 5, 6, 7, 8, 9], [9, 10])])
def ipv6_headers.B21 : List Nat := [0, 1, 0, 0, 8, 0, 56, 124, 252, 511, 1023, 2047]
theorem ipv6_headers.tab21 : rtab .any (opsOf Tryd.f79 21) = ipv6_headers.T21 := by kernel_rfl
theorem ipv6_headers.bits21 : waitsOk ipv6_headers.T21.2 ipv6_headers.B21 = true := by kernel_rfl
set_option maxHeartbeats 8000000 in
set_option maxRecDepth 100000 in
theorem ipv6_headers.calls (k : Nat) (d0 : Int) (d1 : Int) (d2 : Int) (d3 : Int) (d4 : Bool) (d5 : Int) (d6 : Int) (d7 : Bool) (d8 : Int) (d9 : Int) (P0_10_ : Nat → Prop) (u9000_ : Value) (l0_10 : List (S91)) (d11 : Bool) (d12 : Int) (d13 : Int) (d14 : Bool) (d15 : ByteArray) (r1 : Int) (r2 : Int) (r3 : Int) (r4 : Int) (r5 : Bool) (r6 : Int) (r7 : Int) (r8 : Bool) (r9 : Int) (r10 : Int) (r11 : List (S91)) (r12 : Bool) (r13 : Int) (r14 : Int) (r15 : Bool) (r16 : ByteArray) (r17 : Int) (w0 w : World) (hB : Below w0.heap.size w0 w) (ho0_10 : Kd.R k91 91 w w0.heap.size P0_10_ u9000_ l0_10) (h : ipv6_headers.f k d0 d1 d2 d3 d4 d5 d6 d7 d8 d9 l0_10 d11 d12 d13 d14 d15 = some (r1, r2, r3, r4, r5, r6, r7, r8, r9, r10, r11, r12, r13, r14, r15, r16, r17)) :
  Calls Tryd.prog 79 #[.agg #[.int .i64 d0, .int .i64 d1, .int .i64 d2, .int .i64 d3, .bool d4, .int .u64 d5, .int .u64 d6, .bool d7, .int .u64 d8, .int .u64 d9, u9000_, .bool d11, .int .i64 d12, .int .i64 d13, .bool d14, .string d15]] w fun e w' => ∃ v10_ : Value, e = .returned (.tuple #[.agg #[.int .i64 r1, .int .i64 r2, .int .i64 r3, .int .i64 r4, .bool r5, .int .u64 r6, .int .u64 r7, .bool r8, .int .u64 r9, .int .u64 r10, v10_, .bool r12, .int .i64 r13, .int .i64 r14, .bool r15, .string r16], .int .i64 r17]) ∧ Kd.R k91 91 w' w0.heap.size (fun k_ => (P0_10_ k_ ∨ w.heap.size ≤ k_)) v10_ r11 ∧ Below w0.heap.size w0 w' ∧ Kept w w' (fun k_ => P0_10_ k_) := by
 have hu60 := Tryd.underlying60
 have hu91 := Tryd.underlying91
 have HO0_10 := As (show Kd.R k91 91 w w0.heap.size (fun k_ => (P0_10_ k_ ∨ w.heap.size ≤ k_)) u9000_ l0_10 from Kd.R_mono ho0_10 (fun k_ hk => (.inl hk)))
 have HK := As (Kept.refl w (fun k_ => P0_10_ k_))
 have HW0 := As hB.size
 have HB := As hB
 clear hB
 have H : (ipv6_headers.l0 k true d0 d1 d2 d3 d4 d5 d6 d7 d8 d9 l0_10 d11 d12 d13 d14 d15) = some (r1, r2, r3, r4, r5, r6, r7, r8, r9, r10, r11, r12, r13, r14, r15, r16, r17) := h
 clear h
 have H' := As H
 clear H
 obtain ⟨Ao2, co2, eo2⟩ := Kd.R_slice HO0_10.out
 subst eo2
 go_enter Tryd.func79, Tryd.ntmps79
 (try go_wp2_with (first | ((with_reducible refine gate_dst (N := 1) rfl ?_); (try (refine gate_guard (by rfl) ?_; dsimp only)); refine box_event rfl (N := 1) rfl (cs := #[.int .i64 d0, .int .i64 d1, .int .i64 d2, .int .i64 d3, .bool d4, .int .u64 d5, .int .u64 d6, .bool d7, .int .u64 d8, .int .u64 d9, .slice Ao2 l0_10.length co2, .bool d11, .int .i64 d12, .int .i64 d13, .bool d14, .string d15]) (t := 60) kG ?_; intro gb422 hg w3 hbox hb; replace HO0_10 := As (Kd.R_below (kR HO0_10.out) hb); have BK422 := As (hbox); have GW422 := As ((by rw [hg]; exact (by first | exact HK.out.1 | exact (show Kept w _ (fun k_ => P0_10_ k_) from by repeat (first | (with_reducible first | exact HK.out | apply Kept.alloc | apply Kept.drewN | apply Kept.drew) | exact HK.out)).1) : w.heap.size ≤ gb422)); replace HK := As (Kept.below (S := (fun k_ => P0_10_ k_)) (by repeat (first | (with_reducible first | exact HK.out | apply Kept.alloc | apply Kept.drewN | apply Kept.drew) | exact HK.out)) hb); have GE422 := As ((by rw [hg]; exact (below_size (kB HB.out)) : w0.heap.size ≤ gb422)); replace HB := As (below_step (kB HB.out) hb); clear hb hbox hg) | ((with_reducible refine gate_dst (N := 2) rfl ?_); (try (refine gate_guard (by rfl) ?_; dsimp only)); refine box_event rfl (N := 2) rfl (cs := #[.int .i64 0, .int .i64 0, .int .i64 0, .int .i64 0, .bool false, .int .u64 0, .int .u64 0, .bool false, .int .u64 0, .int .u64 0, .slice none 0 0, .bool false, .int .i64 0, .int .i64 0, .bool false, .string (⟨#[]⟩ : ByteArray)]) (t := 60) kG ?_; intro gb423 hg w4 hbox hb; replace HO0_10 := As (Kd.R_below (kR HO0_10.out) hb); have BK423 := As (hbox); have GW423 := As ((by rw [hg]; exact (by first | exact HK.out.1 | exact (show Kept w _ (fun k_ => P0_10_ k_) from by repeat (first | (with_reducible first | exact HK.out | apply Kept.alloc | apply Kept.drewN | apply Kept.drew | refine Kept.setCell ?_ (.inr GW422.out) _) | exact HK.out)).1) : w.heap.size ≤ gb423)); replace HK := As (Kept.below (S := (fun k_ => P0_10_ k_)) (by repeat (first | (with_reducible first | exact HK.out | apply Kept.alloc | apply Kept.drewN | apply Kept.drew | refine Kept.setCell ?_ (.inr GW422.out) _) | exact HK.out)) hb); have GE423 := As ((by rw [hg]; exact (below_size (kB1 HB.out GE422.out)) : w0.heap.size ≤ gb423)); replace HB := As (below_step (kB1 HB.out GE422.out) hb); have NB422_423 := As (gN hg (blk_lt (kb BK422.out))); have NB423_422 := As (gM hg (blk_lt (kb BK422.out))); replace BK422 := As (blk_below (kb BK422.out) hb); clear hb hbox hg)))
 repeat ((first | (refine scope_plain ?_ ?hg_; case hg_ => exact fun _ _ _ h_ => h_) | go_step3); go_wp2_with (first | ((with_reducible refine gate_dst (N := 1) rfl ?_); (try (refine gate_guard (by rfl) ?_; dsimp only)); refine box_event rfl (N := 1) rfl (cs := #[.int .i64 d0, .int .i64 d1, .int .i64 d2, .int .i64 d3, .bool d4, .int .u64 d5, .int .u64 d6, .bool d7, .int .u64 d8, .int .u64 d9, .slice Ao2 l0_10.length co2, .bool d11, .int .i64 d12, .int .i64 d13, .bool d14, .string d15]) (t := 60) kG ?_; intro gb422 hg w3 hbox hb; replace HO0_10 := As (Kd.R_below (kR HO0_10.out) hb); have BK422 := As (hbox); have GW422 := As ((by rw [hg]; exact (by first | exact HK.out.1 | exact (show Kept w _ (fun k_ => P0_10_ k_) from by repeat (first | (with_reducible first | exact HK.out | apply Kept.alloc | apply Kept.drewN | apply Kept.drew) | exact HK.out)).1) : w.heap.size ≤ gb422)); replace HK := As (Kept.below (S := (fun k_ => P0_10_ k_)) (by repeat (first | (with_reducible first | exact HK.out | apply Kept.alloc | apply Kept.drewN | apply Kept.drew) | exact HK.out)) hb); have GE422 := As ((by rw [hg]; exact (below_size (kB HB.out)) : w0.heap.size ≤ gb422)); replace HB := As (below_step (kB HB.out) hb); clear hb hbox hg) | ((with_reducible refine gate_dst (N := 2) rfl ?_); (try (refine gate_guard (by rfl) ?_; dsimp only)); refine box_event rfl (N := 2) rfl (cs := #[.int .i64 0, .int .i64 0, .int .i64 0, .int .i64 0, .bool false, .int .u64 0, .int .u64 0, .bool false, .int .u64 0, .int .u64 0, .slice none 0 0, .bool false, .int .i64 0, .int .i64 0, .bool false, .string (⟨#[]⟩ : ByteArray)]) (t := 60) kG ?_; intro gb423 hg w4 hbox hb; replace HO0_10 := As (Kd.R_below (kR HO0_10.out) hb); have BK423 := As (hbox); have GW423 := As ((by rw [hg]; exact (by first | exact HK.out.1 | exact (show Kept w _ (fun k_ => P0_10_ k_) from by repeat (first | (with_reducible first | exact HK.out | apply Kept.alloc | apply Kept.drewN | apply Kept.drew | refine Kept.setCell ?_ (.inr GW422.out) _) | exact HK.out)).1) : w.heap.size ≤ gb423)); replace HK := As (Kept.below (S := (fun k_ => P0_10_ k_)) (by repeat (first | (with_reducible first | exact HK.out | apply Kept.alloc | apply Kept.drewN | apply Kept.drew | refine Kept.setCell ?_ (.inr GW422.out) _) | exact HK.out)) hb); have GE423 := As ((by rw [hg]; exact (below_size (kB1 HB.out GE422.out)) : w0.heap.size ≤ gb423)); replace HB := As (below_step (kB1 HB.out GE422.out) hb); have NB422_423 := As (gN hg (blk_lt (kb BK422.out))); have NB423_422 := As (gM hg (blk_lt (kb BK422.out))); replace BK422 := As (blk_below (kb BK422.out) hb); clear hb hbox hg)))
 go_loopg [4] k (fun kq v4 w' => ∃ (x4_1 : Bool) (x423003_1 : Int) (x423010_1 : List (S91)) (x423011_1 : Bool) (x423012_1 : Int) (x423013_1 : Int) (x423014_1 : Bool) (x423015_1 : ByteArray) (x424000_1 : Int) (x424001_1 : Int) (x424002_1 : Int) (x424003_1 : Int) (x424004_1 : Bool) (x424005_1 : Int) (x424006_1 : Int) (x424007_1 : Bool) (x424008_1 : Int) (x424009_1 : Int) (x424011_1 : Bool) (x424012_1 : Int) (x424013_1 : Int) (x424014_1 : Bool) (x424015_1 : ByteArray) (u423010 : Value), v4 = .bool x4_1 ∧ Aside0 (ipv6_headers.l0 kq x4_1 d0 d1 d2 x423003_1 d4 d5 d6 d7 d8 d9 x423010_1 x423011_1 x423012_1 x423013_1 x423014_1 x423015_1 = some (r1, r2, r3, r4, r5, r6, r7, r8, r9, r10, r11, r12, r13, r14, r15, r16, r17)) ∧ Aside0 (kq ≤ k) ∧ Aside0 (Kd.R k91 91 w' w0.heap.size (fun k_ => (P0_10_ k_ ∨ w.heap.size ≤ k_)) u423010 x423010_1) ∧ Aside0 (w'.heap[gb422]? = some (.cells #[.int .i64 d0, .int .i64 d1, .int .i64 d2, .int .i64 x423003_1, .bool d4, .int .u64 d5, .int .u64 d6, .bool d7, .int .u64 d8, .int .u64 d9, u423010, .bool x423011_1, .int .i64 x423012_1, .int .i64 x423013_1, .bool x423014_1, .string x423015_1] 60 (0, 0))) ∧ Aside0 (w'.heap[gb423]? = some (.cells #[.int .i64 x424000_1, .int .i64 x424001_1, .int .i64 x424002_1, .int .i64 x424003_1, .bool x424004_1, .int .u64 x424005_1, .int .u64 x424006_1, .bool x424007_1, .int .u64 x424008_1, .int .u64 x424009_1, (.slice none 0 0), .bool x424011_1, .int .i64 x424012_1, .int .i64 x424013_1, .bool x424014_1, .string x424015_1] 60 (0, 0))) ∧ Aside0 (Kept w w' (fun k_ => P0_10_ k_)) ∧ Aside0 (Below w0.heap.size w0 w'))
 case atStart => exact ⟨(true), (d3), (l0_10), (d11), (d12), (d13), (d14), (d15), (0), (0), (0), (0), (false), (0), (0), (false), (0), (0), (false), (0), (0), (false), ((⟨#[]⟩ : ByteArray)), (.slice Ao2 l0_10.length co2), kS, H', ⟨Nat.le_refl _⟩, ⟨by (with_reducible repeat (first | apply Kd.R_alloc | apply Kd.R_drewN | apply Kd.R_drew)); exact HO0_10.out⟩, ⟨kb BK422.out⟩, ⟨kb BK423.out⟩, ⟨by repeat (first | (with_reducible first | exact HK.out | apply Kept.alloc | apply Kept.drewN | apply Kept.drew | refine Kept.setCell ?_ (.inr GW422.out) _ | refine Kept.setCell ?_ (.inr GW423.out) _) | exact HK.out)⟩, ⟨kB2 HB.out GE422.out GE423.out⟩⟩
 clear H'
 obtain ⟨x4_1, x423003_1, x423010_1, x423011_1, x423012_1, x423013_1, x423014_1, x423015_1, x424000_1, x424001_1, x424002_1, x424003_1, x424004_1, x424005_1, x424006_1, x424007_1, x424008_1, x424009_1, x424011_1, x424012_1, x424013_1, x424014_1, x424015_1, u423010, rfl, HA, HK1, HO_423010, BK422, BK423, HK, HB⟩ := hrel
 cases gk with
 | zero => exact absurd HA.out (by simp [ipv6_headers.l0])
 | succ k1 =>
  have H := HA.out
  clear HA
  simp only [ipv6_headers.l0] at H
  have HC5 := As H
  clear H
  have hnb6 := NB422_423.out
  have hnc6 := NB423_422.out
  have hcz7_0 := cells_16 BK422.out
  have hfz7_0 := fun j_ => blk_frozen BK422.out j_
  go_upto_region 4 with (fail)
  go_cut [11] (fun v11 wc => ∃ (kq : Nat) (x11_4 : Bool), v11 = .bool x11_4 ∧ Aside0 (ipv6_headers.j1 kq x4_1 x423003_1 x11_4 d0 d1 d2 x423003_1 d4 d5 d6 d7 d8 d9 x423010_1 x423011_1 x423012_1 x423013_1 x423014_1 x423015_1 = some (r1, r2, r3, r4, r5, r6, r7, r8, r9, r10, r11, r12, r13, r14, r15, r16, r17)) ∧ Aside0 (kq ≤ k1) ∧ Aside0 (Kd.R k91 91 wc w0.heap.size (fun k_ => (P0_10_ k_ ∨ w.heap.size ≤ k_)) u423010 x423010_1) ∧ Aside0 (wc.heap[gb422]? = some (.cells #[.int .i64 d0, .int .i64 d1, .int .i64 d2, .int .i64 x423003_1, .bool d4, .int .u64 d5, .int .u64 d6, .bool d7, .int .u64 d8, .int .u64 d9, u423010, .bool x423011_1, .int .i64 x423012_1, .int .i64 x423013_1, .bool x423014_1, .string x423015_1] 60 (0, 0))) ∧ Aside0 (wc.heap[gb423]? = some (.cells #[.int .i64 x424000_1, .int .i64 x424001_1, .int .i64 x424002_1, .int .i64 x424003_1, .bool x424004_1, .int .u64 x424005_1, .int .u64 x424006_1, .bool x424007_1, .int .u64 x424008_1, .int .u64 x424009_1, (.slice none 0 0), .bool x424011_1, .int .i64 x424012_1, .int .i64 x424013_1, .bool x424014_1, .string x424015_1] 60 (0, 0))) ∧ Aside0 (Kept w wc (fun k_ => P0_10_ k_)) ∧ Aside0 (Below w0.heap.size w0 wc))
  case first =>
   have H := HC5.out
   clear HC5
   replace H := bS H
   obtain ⟨t424, A8, H⟩ := H
   by_cases c9 : t424 = true
   ·subst c9
    rw [if_pos rfl] at H
    have H' := As H
    clear H
    (try go_wp2_with (first | ((with_reducible refine gate_callee (f := 96) rfl ?_); refine goesL_ (some 13) rfl rfl Tryd.func96 (by kernel_rfl) rfl #[.int .i64 x423003_1] rfl kA ?_; (with_reducible refine (ipv6_extension.calls x423003_1 true _ A8.out).mono ?_); rintro e w' ⟨rfl, ⟨nd, rfl⟩⟩; refine ⟨_, rfl, ?_⟩)))
    repeat ((first | (refine scope_plain ?_ ?hg_; case hg_ => exact fun _ _ _ h_ => h_) | go_step3); go_wp2_with (first | ((with_reducible refine gate_callee (f := 96) rfl ?_); refine goesL_ (some 13) rfl rfl Tryd.func96 (by kernel_rfl) rfl #[.int .i64 x423003_1] rfl kA ?_; (with_reducible refine (ipv6_extension.calls x423003_1 true _ A8.out).mono ?_); rintro e w' ⟨rfl, ⟨nd, rfl⟩⟩; refine ⟨_, rfl, ?_⟩)))
    go_meet
    case rel => exact ⟨_, (false), kS, H', ⟨by have := HK1.out; first | omega | exact Nat.le_refl _⟩, ⟨by (with_reducible repeat (first | apply Kd.R_alloc | apply Kd.R_drewN | apply Kd.R_drew)); exact HO_423010.out⟩, ⟨kb BK422.out⟩, ⟨kb BK423.out⟩, ⟨by repeat (first | (with_reducible first | exact HK.out | apply Kept.alloc | apply Kept.drewN | apply Kept.drew | refine Kept.setCell ?_ (.inr GW422.out) _ | refine Kept.setCell ?_ (.inr GW423.out) _) | exact HK.out)⟩, ⟨kB2 HB.out GE422.out GE423.out⟩⟩
   replace c9 := Bool.eq_false_iff.mpr c9
   subst c9
   rw [if_neg (show ¬ (false = true) by decide)] at H
   have H' := As H
   clear H
   (try go_wp2_with (first | ((with_reducible refine gate_callee (f := 96) rfl ?_); refine goesL_ (some 13) rfl rfl Tryd.func96 (by kernel_rfl) rfl #[.int .i64 x423003_1] rfl kA ?_; (with_reducible refine (ipv6_extension.calls x423003_1 false _ A8.out).mono ?_); rintro e w' ⟨rfl, ⟨nd, rfl⟩⟩; refine ⟨_, rfl, ?_⟩)))
   repeat ((first | (refine scope_plain ?_ ?hg_; case hg_ => exact fun _ _ _ h_ => h_) | go_step3); go_wp2_with (first | ((with_reducible refine gate_callee (f := 96) rfl ?_); refine goesL_ (some 13) rfl rfl Tryd.func96 (by kernel_rfl) rfl #[.int .i64 x423003_1] rfl kA ?_; (with_reducible refine (ipv6_extension.calls x423003_1 false _ A8.out).mono ?_); rintro e w' ⟨rfl, ⟨nd, rfl⟩⟩; refine ⟨_, rfl, ?_⟩)))
   go_meet
   case rel => exact ⟨_, ((x423003_1 != 44)), kS, H', ⟨by have := HK1.out; first | omega | exact Nat.le_refl _⟩, ⟨by (with_reducible repeat (first | apply Kd.R_alloc | apply Kd.R_drewN | apply Kd.R_drew)); exact HO_423010.out⟩, ⟨kb BK422.out⟩, ⟨kb BK423.out⟩, ⟨by repeat (first | (with_reducible first | exact HK.out | apply Kept.alloc | apply Kept.drewN | apply Kept.drew | refine Kept.setCell ?_ (.inr GW422.out) _ | refine Kept.setCell ?_ (.inr GW423.out) _) | exact HK.out)⟩, ⟨kB2 HB.out GE422.out GE423.out⟩⟩
  clear HC5
  try clear hcz7_0
  try clear hfz7_0
  obtain ⟨kq, x11_4, rfl, HA, HJ4, HO_423010, BK422, BK423, HK, HB⟩ := hcut
  cases kq with
  | zero => exact absurd HA.out (by simp [ipv6_headers.j1])
  | succ kj4 =>
   have H := HA.out
   clear HA
   simp only [ipv6_headers.j1] at H
   by_cases c10 : x11_4 = true
   ·subst c10
    rw [if_pos rfl] at H
    simp only [Option.some.injEq, Prod.mk.injEq] at H
    obtain ⟨rfl, rfl, rfl, rfl, rfl, rfl, rfl, rfl, rfl, rfl, rfl, rfl, rfl, rfl, rfl, rfl, rfl⟩ := H
    obtain ⟨Ao11, co11, eo11⟩ := Kd.R_slice HO_423010.out
    subst eo11
    (try go_wp2_with (first | ((with_reducible refine gate_dst (N := 105) rfl ?_); (try (refine gate_guard (by rfl) ?_; dsimp only)); refine wpList_load_row ?hgd 60 _ rfl gb422 rfl 60 #[.int .i64 d0, .int .i64 d1, .int .i64 d2, .int .i64 x423003_1, .bool d4, .int .u64 d5, .int .u64 d6, .bool d7, .int .u64 d8, .int .u64 d9, .slice Ao11 x423010_1.length co11, .bool x423011_1, .int .i64 x423012_1, .int .i64 x423013_1, .bool x423014_1, .string x423015_1] (0, 0) _ (kb BK422.out) Tryd.underlying60 rfl (by kernel_rfl) ?_; (case hgd => rfl)) | ((with_reducible refine gate_store (t := 60) (p := 2) rfl ?_); refine store_rowev_16 gb423 (.int .i64 d0) (.int .i64 d1) (.int .i64 d2) (.int .i64 x423003_1) (.bool d4) (.int .u64 d5) (.int .u64 d6) (.bool d7) (.int .u64 d8) (.int .u64 d9) (.slice Ao11 x423010_1.length co11) (.bool x423011_1) (.int .i64 x423012_1) (.int .i64 x423013_1) (.bool x423014_1) (.string x423015_1) rfl (t := 60) (p := 2) (v := _) rfl rfl rfl rfl (t' := 60) (kb BK423.out) (by rfl) (by kernel_rfl) (by rfl) ?_)))
    repeat ((first | (refine scope_plain ?_ ?hg_; case hg_ => exact fun _ _ _ h_ => h_) | go_step3); go_wp2_with (first | ((with_reducible refine gate_dst (N := 105) rfl ?_); (try (refine gate_guard (by rfl) ?_; dsimp only)); refine wpList_load_row ?hgd 60 _ rfl gb422 rfl 60 #[.int .i64 d0, .int .i64 d1, .int .i64 d2, .int .i64 x423003_1, .bool d4, .int .u64 d5, .int .u64 d6, .bool d7, .int .u64 d8, .int .u64 d9, .slice Ao11 x423010_1.length co11, .bool x423011_1, .int .i64 x423012_1, .int .i64 x423013_1, .bool x423014_1, .string x423015_1] (0, 0) _ (kb BK422.out) Tryd.underlying60 rfl (by kernel_rfl) ?_; (case hgd => rfl)) | ((with_reducible refine gate_store (t := 60) (p := 2) rfl ?_); refine store_rowev_16 gb423 (.int .i64 d0) (.int .i64 d1) (.int .i64 d2) (.int .i64 x423003_1) (.bool d4) (.int .u64 d5) (.int .u64 d6) (.bool d7) (.int .u64 d8) (.int .u64 d9) (.slice Ao11 x423010_1.length co11) (.bool x423011_1) (.int .i64 x423012_1) (.int .i64 x423013_1) (.bool x423014_1) (.string x423015_1) rfl (t := 60) (p := 2) (v := _) rfl rfl rfl rfl (t' := 60) (kb BK423.out) (by rfl) (by kernel_rfl) (by rfl) ?_)))
    refine bodyPost_ret (results_ct rfl _ _ gb423 60 #[.int .i64 d0, .int .i64 d1, .int .i64 d2, .int .i64 x423003_1, .bool d4, .int .u64 d5, .int .u64 d6, .bool d7, .int .u64 d8, .int .u64 d9, .slice Ao11 x423010_1.length co11, .bool x423011_1, .int .i64 x423012_1, .int .i64 x423013_1, .bool x423014_1, .string x423015_1] (0, 0) _ rfl (by refine kb ?_; exact blk_all_16 (kb BK423.out) (by rfl)) Tryd.underlying60 rfl (by kernel_rfl)) rfl ?_
    exact ⟨_, kE, by (with_reducible repeat (first | apply Kd.R_alloc | apply Kd.R_drewN | apply Kd.R_drew)); exact Kd.R_mono (Kd.R_puts_0_16 gb423 (.int .i64 d0) (.int .i64 d1) (.int .i64 d2) (.int .i64 x423003_1) (.bool d4) (.int .u64 d5) (.int .u64 d6) (.bool d7) (.int .u64 d8) (.int .u64 d9) (.slice Ao11 x423010_1.length co11) (.bool x423011_1) (.int .i64 x423012_1) (.int .i64 x423013_1) (.bool x423014_1) (.string x423015_1) (Kd.R_types HO_423010.out BK423.out (by decide)) (fun _ hk => hk.2)) (fun _ hk => hk.1), by exact kB2 HB.out GE422.out GE423.out, by repeat (first | (with_reducible first | exact HK.out | apply Kept.alloc | apply Kept.drewN | apply Kept.drew | refine Kept.setCell ?_ (.inr GW422.out) _ | refine Kept.setCell ?_ (.inr GW423.out) _) | exact HK.out)⟩
   replace c10 := Bool.eq_false_iff.mpr c10
   subst c10
   rw [if_neg (show ¬ (false = true) by decide)] at H
   have HC12 := As H
   clear H
   go_upto_region 5 with (fail)
   go_cut [19] (fun v19 wc => ∃ (kq : Nat) (x19_11 : Bool), v19 = .bool x19_11 ∧ Aside0 (ipv6_headers.j2 kq x423003_1 x19_11 d0 d1 d2 x423003_1 d4 d5 d6 d7 d8 d9 x423010_1 x423011_1 x423012_1 x423013_1 x423014_1 x423015_1 = some (r1, r2, r3, r4, r5, r6, r7, r8, r9, r10, r11, r12, r13, r14, r15, r16, r17)) ∧ Aside0 (kq ≤ kj4) ∧ Aside0 (Kd.R k91 91 wc w0.heap.size (fun k_ => (P0_10_ k_ ∨ w.heap.size ≤ k_)) u423010 x423010_1) ∧ Aside0 (wc.heap[gb422]? = some (.cells #[.int .i64 d0, .int .i64 d1, .int .i64 d2, .int .i64 x423003_1, .bool d4, .int .u64 d5, .int .u64 d6, .bool d7, .int .u64 d8, .int .u64 d9, u423010, .bool x423011_1, .int .i64 x423012_1, .int .i64 x423013_1, .bool x423014_1, .string x423015_1] 60 (0, 0))) ∧ Aside0 (wc.heap[gb423]? = some (.cells #[.int .i64 x424000_1, .int .i64 x424001_1, .int .i64 x424002_1, .int .i64 x424003_1, .bool x424004_1, .int .u64 x424005_1, .int .u64 x424006_1, .bool x424007_1, .int .u64 x424008_1, .int .u64 x424009_1, (.slice none 0 0), .bool x424011_1, .int .i64 x424012_1, .int .i64 x424013_1, .bool x424014_1, .string x424015_1] 60 (0, 0))) ∧ Aside0 (Kept w wc (fun k_ => P0_10_ k_)) ∧ Aside0 (Below w0.heap.size w0 wc))
   case first =>
    have H := HC12.out
    clear HC12
    by_cases c13 : x423003_1 = 0
    ·rw [if_pos c13] at H
     have c13b0 : (x423003_1 == 0) = true := beq_iff_eq.mpr c13
     have c13b1 : (x423003_1 != 0) = false := bne_eq_false_iff_eq.mpr c13
     clear c13
     (first | rw [c13b0] | (simp only [i64_w, i32_w]; rw [c13b0]) | skip)
     have H' := As H
     clear H
     (try go_wp2)
     repeat ((first | (refine scope_plain ?_ ?hg_; case hg_ => exact fun _ _ _ h_ => h_) | go_step3); go_wp2)
     go_meet
     case rel => exact ⟨_, (!x4_1), kS, H', ⟨by have := HK1.out; have := HJ4.out; first | omega | exact Nat.le_refl _⟩, ⟨by (with_reducible repeat (first | apply Kd.R_alloc | apply Kd.R_drewN | apply Kd.R_drew)); exact HO_423010.out⟩, ⟨kb BK422.out⟩, ⟨kb BK423.out⟩, ⟨by repeat (first | (with_reducible first | exact HK.out | apply Kept.alloc | apply Kept.drewN | apply Kept.drew | refine Kept.setCell ?_ (.inr GW422.out) _ | refine Kept.setCell ?_ (.inr GW423.out) _) | exact HK.out)⟩, ⟨kB2 HB.out GE422.out GE423.out⟩⟩
    rw [if_neg c13] at H
    have c13b0 : (x423003_1 == 0) = false := beq_eq_false_iff_ne.mpr c13
    have c13b1 : (x423003_1 != 0) = true := bne_iff_ne.mpr c13
    (first | rw [c13b0] | (simp only [i64_w, i32_w]; rw [c13b0]) | skip)
    have H' := As H
    clear H
    (try go_wp2)
    repeat ((first | (refine scope_plain ?_ ?hg_; case hg_ => exact fun _ _ _ h_ => h_) | go_step3); go_wp2)
    go_meet
    case rel => exact ⟨_, (false), kS, H', ⟨by have := HK1.out; have := HJ4.out; first | omega | exact Nat.le_refl _⟩, ⟨by (with_reducible repeat (first | apply Kd.R_alloc | apply Kd.R_drewN | apply Kd.R_drew)); exact HO_423010.out⟩, ⟨kb BK422.out⟩, ⟨kb BK423.out⟩, ⟨by repeat (first | (with_reducible first | exact HK.out | apply Kept.alloc | apply Kept.drewN | apply Kept.drew | refine Kept.setCell ?_ (.inr GW422.out) _ | refine Kept.setCell ?_ (.inr GW423.out) _) | exact HK.out)⟩, ⟨kB2 HB.out GE422.out GE423.out⟩⟩
   clear HC12
   try clear c10
   obtain ⟨kq, x19_11, rfl, HA, HJ11, HO_423010, BK422, BK423, HK, HB⟩ := hcut
   cases kq with
   | zero => exact absurd HA.out (by simp [ipv6_headers.j2])
   | succ kj11 =>
    have H := HA.out
    clear HA
    simp only [ipv6_headers.j2] at H
    have HC14 := As H
    clear H
    go_upto_if 19 with (fail)
    go_cut [19] (fun v19 wc => ∃ (kq : Nat) (x19_13 : Bool), v19 = .bool x19_13 ∧ Aside0 (ipv6_headers.j3 kq x423003_1 x19_13 d0 d1 d2 x423003_1 d4 d5 d6 d7 d8 d9 x423010_1 x423011_1 x423012_1 x423013_1 x423014_1 x423015_1 = some (r1, r2, r3, r4, r5, r6, r7, r8, r9, r10, r11, r12, r13, r14, r15, r16, r17)) ∧ Aside0 (kq ≤ kj11) ∧ Aside0 (Kd.R k91 91 wc w0.heap.size (fun k_ => (P0_10_ k_ ∨ w.heap.size ≤ k_)) u423010 x423010_1) ∧ Aside0 (wc.heap[gb422]? = some (.cells #[.int .i64 d0, .int .i64 d1, .int .i64 d2, .int .i64 x423003_1, .bool d4, .int .u64 d5, .int .u64 d6, .bool d7, .int .u64 d8, .int .u64 d9, u423010, .bool x423011_1, .int .i64 x423012_1, .int .i64 x423013_1, .bool x423014_1, .string x423015_1] 60 (0, 0))) ∧ Aside0 (wc.heap[gb423]? = some (.cells #[.int .i64 x424000_1, .int .i64 x424001_1, .int .i64 x424002_1, .int .i64 x424003_1, .bool x424004_1, .int .u64 x424005_1, .int .u64 x424006_1, .bool x424007_1, .int .u64 x424008_1, .int .u64 x424009_1, (.slice none 0 0), .bool x424011_1, .int .i64 x424012_1, .int .i64 x424013_1, .bool x424014_1, .string x424015_1] 60 (0, 0))) ∧ Aside0 (Kept w wc (fun k_ => P0_10_ k_)) ∧ Aside0 (Below w0.heap.size w0 wc))
    case first =>
     have H := HC14.out
     clear HC14
     by_cases c15 : x19_11 = true
     ·subst c15
      rw [if_pos rfl] at H
      have H' := As H
      clear H
      (try go_wp2)
      repeat ((first | (refine scope_plain ?_ ?hg_; case hg_ => exact fun _ _ _ h_ => h_) | go_step3); go_wp2)
      go_meet
      case rel => exact ⟨_, (true), kS, H', ⟨by have := HK1.out; have := HJ4.out; have := HJ11.out; first | omega | exact Nat.le_refl _⟩, ⟨by (with_reducible repeat (first | apply Kd.R_alloc | apply Kd.R_drewN | apply Kd.R_drew)); exact HO_423010.out⟩, ⟨kb BK422.out⟩, ⟨kb BK423.out⟩, ⟨by repeat (first | (with_reducible first | exact HK.out | apply Kept.alloc | apply Kept.drewN | apply Kept.drew | refine Kept.setCell ?_ (.inr GW422.out) _ | refine Kept.setCell ?_ (.inr GW423.out) _) | exact HK.out)⟩, ⟨kB2 HB.out GE422.out GE423.out⟩⟩
     replace c15 := Bool.eq_false_iff.mpr c15
     subst c15
     rw [if_neg (show ¬ (false = true) by decide)] at H
     have H' := As H
     clear H
     have hnb16 := NB422_423.out
     have hnc16 := NB423_422.out
     have hcz17_0 := cells_16 BK422.out
     have hfz17_0 := fun j_ => blk_frozen BK422.out j_
     (try go_wp2)
     repeat ((first | (refine scope_plain ?_ ?hg_; case hg_ => exact fun _ _ _ h_ => h_) | go_step3); go_wp2)
     go_meet
     case rel => exact ⟨_, (x423011_1), kS, H', ⟨by have := HK1.out; have := HJ4.out; have := HJ11.out; first | omega | exact Nat.le_refl _⟩, ⟨by (with_reducible repeat (first | apply Kd.R_alloc | apply Kd.R_drewN | apply Kd.R_drew)); exact HO_423010.out⟩, ⟨kb BK422.out⟩, ⟨kb BK423.out⟩, ⟨by repeat (first | (with_reducible first | exact HK.out | apply Kept.alloc | apply Kept.drewN | apply Kept.drew | refine Kept.setCell ?_ (.inr GW422.out) _ | refine Kept.setCell ?_ (.inr GW423.out) _) | exact HK.out)⟩, ⟨kB2 HB.out GE422.out GE423.out⟩⟩
    clear HC14
    obtain ⟨kq, x19_13, rfl, HA, HJ13, HO_423010, BK422, BK423, HK, HB⟩ := hcut
    cases kq with
    | zero => exact absurd HA.out (by simp [ipv6_headers.j3])
    | succ kj13 =>
     have H := HA.out
     clear HA
     simp only [ipv6_headers.j3] at H
     by_cases c18 : x19_13 = true
     ·subst c18
      rw [if_pos rfl] at H
      simp only [Option.some.injEq, Prod.mk.injEq] at H
      obtain ⟨rfl, rfl, rfl, rfl, rfl, rfl, rfl, rfl, rfl, rfl, rfl, rfl, rfl, rfl, rfl, rfl, rfl⟩ := H
      (try go_wp2_with (first | ((with_reducible refine gate_store (t := 60) (p := 2) rfl ?_); refine store_rowev_16 gb423 (.int .i64 0) (.int .i64 0) (.int .i64 0) (.int .i64 0) (.bool false) (.int .u64 0) (.int .u64 0) (.bool false) (.int .u64 0) (.int .u64 0) (.slice none 0 0) (.bool false) (.int .i64 0) (.int .i64 0) (.bool false) (.string (⟨#[]⟩ : ByteArray)) rfl (t := 60) (p := 2) (v := _) rfl rfl rfl rfl (t' := 60) (kb BK423.out) (by rfl) (by kernel_rfl) (by rfl) ?_)))
      repeat ((first | (refine scope_plain ?_ ?hg_; case hg_ => exact fun _ _ _ h_ => h_) | go_step3); go_wp2_with (first | ((with_reducible refine gate_store (t := 60) (p := 2) rfl ?_); refine store_rowev_16 gb423 (.int .i64 0) (.int .i64 0) (.int .i64 0) (.int .i64 0) (.bool false) (.int .u64 0) (.int .u64 0) (.bool false) (.int .u64 0) (.int .u64 0) (.slice none 0 0) (.bool false) (.int .i64 0) (.int .i64 0) (.bool false) (.string (⟨#[]⟩ : ByteArray)) rfl (t := 60) (p := 2) (v := _) rfl rfl rfl rfl (t' := 60) (kb BK423.out) (by rfl) (by kernel_rfl) (by rfl) ?_)))
      refine bodyPost_ret (results_ct rfl _ _ gb423 60 #[.int .i64 0, .int .i64 0, .int .i64 0, .int .i64 0, .bool false, .int .u64 0, .int .u64 0, .bool false, .int .u64 0, .int .u64 0, .slice none 0 0, .bool false, .int .i64 0, .int .i64 0, .bool false, .string (⟨#[]⟩ : ByteArray)] (0, 0) _ rfl (by refine kb ?_; exact blk_all_16 (kb BK423.out) (by rfl)) Tryd.underlying60 rfl (by kernel_rfl)) rfl ?_
      exact ⟨_, kE, by first | exact Kd.R_nil _ _ _ _ _ | exact Kd.N_nil _ _ _ _ _ | exact Kd.V_nil _ _ _ _ _ | exact Kd.Q_nil _ _ _ _ _ | exact Kd.S_nil _ _ _ _ _, by exact kB2 HB.out GE422.out GE423.out, by repeat (first | (with_reducible first | exact HK.out | apply Kept.alloc | apply Kept.drewN | apply Kept.drew | refine Kept.setCell ?_ (.inr GW422.out) _ | refine Kept.setCell ?_ (.inr GW423.out) _) | exact HK.out)⟩
     replace c18 := Bool.eq_false_iff.mpr c18
     subst c18
     rw [if_neg (show ¬ (false = true) by decide)] at H
     have HC19 := As H
     clear H
     go_upto_region 8 with (fail)
     go_cut [29] (fun v29 wc => ∃ (kq : Nat) (x29_18 : Bool), v29 = .bool x29_18 ∧ Aside0 (ipv6_headers.j4 kq x423003_1 x29_18 d0 d1 d2 x423003_1 d4 d5 d6 d7 d8 d9 x423010_1 x423011_1 x423012_1 x423013_1 x423014_1 x423015_1 = some (r1, r2, r3, r4, r5, r6, r7, r8, r9, r10, r11, r12, r13, r14, r15, r16, r17)) ∧ Aside0 (kq ≤ kj13) ∧ Aside0 (Kd.R k91 91 wc w0.heap.size (fun k_ => (P0_10_ k_ ∨ w.heap.size ≤ k_)) u423010 x423010_1) ∧ Aside0 (wc.heap[gb422]? = some (.cells #[.int .i64 d0, .int .i64 d1, .int .i64 d2, .int .i64 x423003_1, .bool d4, .int .u64 d5, .int .u64 d6, .bool d7, .int .u64 d8, .int .u64 d9, u423010, .bool x423011_1, .int .i64 x423012_1, .int .i64 x423013_1, .bool x423014_1, .string x423015_1] 60 (0, 0))) ∧ Aside0 (wc.heap[gb423]? = some (.cells #[.int .i64 x424000_1, .int .i64 x424001_1, .int .i64 x424002_1, .int .i64 x424003_1, .bool x424004_1, .int .u64 x424005_1, .int .u64 x424006_1, .bool x424007_1, .int .u64 x424008_1, .int .u64 x424009_1, (.slice none 0 0), .bool x424011_1, .int .i64 x424012_1, .int .i64 x424013_1, .bool x424014_1, .string x424015_1] 60 (0, 0))) ∧ Aside0 (Kept w wc (fun k_ => P0_10_ k_)) ∧ Aside0 (Below w0.heap.size w0 wc))
     case first =>
      have H := HC19.out
      clear HC19
      by_cases c20 : x423003_1 = 44
      ·rw [if_pos c20] at H
       have c20b0 : (x423003_1 == 44) = true := beq_iff_eq.mpr c20
       have c20b1 : (x423003_1 != 44) = false := bne_eq_false_iff_eq.mpr c20
       clear c20
       (first | rw [c20b0] | (simp only [i64_w, i32_w]; rw [c20b0]) | skip)
       have H' := As H
       clear H
       (try go_wp2)
       repeat ((first | (refine scope_plain ?_ ?hg_; case hg_ => exact fun _ _ _ h_ => h_) | go_step3); go_wp2)
       go_meet
       case rel => exact ⟨_, (false), kS, H', ⟨by have := HK1.out; have := HJ4.out; have := HJ11.out; have := HJ13.out; first | omega | exact Nat.le_refl _⟩, ⟨by (with_reducible repeat (first | apply Kd.R_alloc | apply Kd.R_drewN | apply Kd.R_drew)); exact HO_423010.out⟩, ⟨kb BK422.out⟩, ⟨kb BK423.out⟩, ⟨by repeat (first | (with_reducible first | exact HK.out | apply Kept.alloc | apply Kept.drewN | apply Kept.drew | refine Kept.setCell ?_ (.inr GW422.out) _ | refine Kept.setCell ?_ (.inr GW423.out) _) | exact HK.out)⟩, ⟨kB2 HB.out GE422.out GE423.out⟩⟩
      rw [if_neg c20] at H
      have c20b0 : (x423003_1 == 44) = false := beq_eq_false_iff_ne.mpr c20
      have c20b1 : (x423003_1 != 44) = true := bne_iff_ne.mpr c20
      (first | rw [c20b0] | (simp only [i64_w, i32_w]; rw [c20b0]) | skip)
      have H' := As H
      clear H
      have hnb21 := NB422_423.out
      have hnc21 := NB423_422.out
      have hcz22_0 := cells_16 BK422.out
      have hfz22_0 := fun j_ => blk_frozen BK422.out j_
      obtain ⟨Ao23, co23, eo23⟩ := Kd.R_slice HO_423010.out
      subst eo23
      (try go_wp2)
      repeat ((first | (refine scope_plain ?_ ?hg_; case hg_ => exact fun _ _ _ h_ => h_) | go_step3); go_wp2)
      go_meet
      case rel => exact ⟨_, (((x423010_1.length : Int) == 8)), kS, H', ⟨by have := HK1.out; have := HJ4.out; have := HJ11.out; have := HJ13.out; first | omega | exact Nat.le_refl _⟩, ⟨by (with_reducible repeat (first | apply Kd.R_alloc | apply Kd.R_drewN | apply Kd.R_drew)); exact HO_423010.out⟩, ⟨kb BK422.out⟩, ⟨kb BK423.out⟩, ⟨by repeat (first | (with_reducible first | exact HK.out | apply Kept.alloc | apply Kept.drewN | apply Kept.drew | refine Kept.setCell ?_ (.inr GW422.out) _ | refine Kept.setCell ?_ (.inr GW423.out) _) | exact HK.out)⟩, ⟨kB2 HB.out GE422.out GE423.out⟩⟩
     clear HC19
     try clear c18
     obtain ⟨kq, x29_18, rfl, HA, HJ18, HO_423010, BK422, BK423, HK, HB⟩ := hcut
     cases kq with
     | zero => exact absurd HA.out (by simp [ipv6_headers.j4])
     | succ kj18 =>
      have H := HA.out
      clear HA
      simp only [ipv6_headers.j4] at H
      by_cases c24 : x29_18 = true
      ·subst c24
       rw [if_pos rfl] at H
       simp only [Option.some.injEq, Prod.mk.injEq] at H
       obtain ⟨rfl, rfl, rfl, rfl, rfl, rfl, rfl, rfl, rfl, rfl, rfl, rfl, rfl, rfl, rfl, rfl, rfl⟩ := H
       (try go_wp2_with (first | ((with_reducible refine gate_store (t := 60) (p := 2) rfl ?_); refine store_rowev_16 gb423 (.int .i64 0) (.int .i64 0) (.int .i64 0) (.int .i64 0) (.bool false) (.int .u64 0) (.int .u64 0) (.bool false) (.int .u64 0) (.int .u64 0) (.slice none 0 0) (.bool false) (.int .i64 0) (.int .i64 0) (.bool false) (.string (⟨#[]⟩ : ByteArray)) rfl (t := 60) (p := 2) (v := _) rfl rfl rfl rfl (t' := 60) (kb BK423.out) (by rfl) (by kernel_rfl) (by rfl) ?_)))
       repeat ((first | (refine scope_plain ?_ ?hg_; case hg_ => exact fun _ _ _ h_ => h_) | go_step3); go_wp2_with (first | ((with_reducible refine gate_store (t := 60) (p := 2) rfl ?_); refine store_rowev_16 gb423 (.int .i64 0) (.int .i64 0) (.int .i64 0) (.int .i64 0) (.bool false) (.int .u64 0) (.int .u64 0) (.bool false) (.int .u64 0) (.int .u64 0) (.slice none 0 0) (.bool false) (.int .i64 0) (.int .i64 0) (.bool false) (.string (⟨#[]⟩ : ByteArray)) rfl (t := 60) (p := 2) (v := _) rfl rfl rfl rfl (t' := 60) (kb BK423.out) (by rfl) (by kernel_rfl) (by rfl) ?_)))
       refine bodyPost_ret (results_ct rfl _ _ gb423 60 #[.int .i64 0, .int .i64 0, .int .i64 0, .int .i64 0, .bool false, .int .u64 0, .int .u64 0, .bool false, .int .u64 0, .int .u64 0, .slice none 0 0, .bool false, .int .i64 0, .int .i64 0, .bool false, .string (⟨#[]⟩ : ByteArray)] (0, 0) _ rfl (by refine kb ?_; exact blk_all_16 (kb BK423.out) (by rfl)) Tryd.underlying60 rfl (by kernel_rfl)) rfl ?_
       exact ⟨_, kE, by first | exact Kd.R_nil _ _ _ _ _ | exact Kd.N_nil _ _ _ _ _ | exact Kd.V_nil _ _ _ _ _ | exact Kd.Q_nil _ _ _ _ _ | exact Kd.S_nil _ _ _ _ _, by exact kB2 HB.out GE422.out GE423.out, by repeat (first | (with_reducible first | exact HK.out | apply Kept.alloc | apply Kept.drewN | apply Kept.drew | refine Kept.setCell ?_ (.inr GW422.out) _ | refine Kept.setCell ?_ (.inr GW423.out) _) | exact HK.out)⟩
      replace c24 := Bool.eq_false_iff.mpr c24
      subst c24
      rw [if_neg (show ¬ (false = true) by decide)] at H
      by_cases c25 : (x423015_1.size : Int) < 8
      ·rw [if_pos c25] at H
       have c25b0 : decide ((x423015_1.size : Int) < 8) = true := decide_eq_true c25
       have c25b1 : decide (x423015_1.size < 8) = true := decide_eq_true (by omega)
       clear c25
       simp only [Option.some.injEq, Prod.mk.injEq] at H
       obtain ⟨rfl, rfl, rfl, rfl, rfl, rfl, rfl, rfl, rfl, rfl, rfl, rfl, rfl, rfl, rfl, rfl, rfl⟩ := H
       have hnb26 := NB422_423.out
       have hnc26 := NB423_422.out
       have hcz27_0 := cells_16 BK422.out
       have hfz27_0 := fun j_ => blk_frozen BK422.out j_
       (try go_wp2_with (first | ((with_reducible refine gate_store (t := 60) (p := 2) rfl ?_); refine store_rowev_16 gb423 (.int .i64 0) (.int .i64 0) (.int .i64 0) (.int .i64 0) (.bool false) (.int .u64 0) (.int .u64 0) (.bool false) (.int .u64 0) (.int .u64 0) (.slice none 0 0) (.bool false) (.int .i64 0) (.int .i64 0) (.bool false) (.string (⟨#[]⟩ : ByteArray)) rfl (t := 60) (p := 2) (v := _) rfl rfl rfl rfl (t' := 60) (kb BK423.out) (by rfl) (by kernel_rfl) (by rfl) ?_)))
       repeat ((first | (refine scope_plain ?_ ?hg_; case hg_ => exact fun _ _ _ h_ => h_) | go_step3); go_wp2_with (first | ((with_reducible refine gate_store (t := 60) (p := 2) rfl ?_); refine store_rowev_16 gb423 (.int .i64 0) (.int .i64 0) (.int .i64 0) (.int .i64 0) (.bool false) (.int .u64 0) (.int .u64 0) (.bool false) (.int .u64 0) (.int .u64 0) (.slice none 0 0) (.bool false) (.int .i64 0) (.int .i64 0) (.bool false) (.string (⟨#[]⟩ : ByteArray)) rfl (t := 60) (p := 2) (v := _) rfl rfl rfl rfl (t' := 60) (kb BK423.out) (by rfl) (by kernel_rfl) (by rfl) ?_)))
       refine bodyPost_ret (results_ct rfl _ _ gb423 60 #[.int .i64 0, .int .i64 0, .int .i64 0, .int .i64 0, .bool false, .int .u64 0, .int .u64 0, .bool false, .int .u64 0, .int .u64 0, .slice none 0 0, .bool false, .int .i64 0, .int .i64 0, .bool false, .string (⟨#[]⟩ : ByteArray)] (0, 0) _ rfl (by refine kb ?_; exact blk_all_16 (kb BK423.out) (by rfl)) Tryd.underlying60 rfl (by kernel_rfl)) rfl ?_
       exact ⟨_, kE, by first | exact Kd.R_nil _ _ _ _ _ | exact Kd.N_nil _ _ _ _ _ | exact Kd.V_nil _ _ _ _ _ | exact Kd.Q_nil _ _ _ _ _ | exact Kd.S_nil _ _ _ _ _, by exact kB2 HB.out GE422.out GE423.out, by repeat (first | (with_reducible first | exact HK.out | apply Kept.alloc | apply Kept.drewN | apply Kept.drew | refine Kept.setCell ?_ (.inr GW422.out) _ | refine Kept.setCell ?_ (.inr GW423.out) _) | exact HK.out)⟩
      rw [if_neg c25] at H
      have c25b0 : decide ((x423015_1.size : Int) < 8) = false := decide_eq_false c25
      have c25b1 : decide (x423015_1.size < 8) = false := decide_eq_false (by omega)
      clear c25
      replace H := iS H
      obtain ⟨c28, H⟩ := H
      have c28b0 := decide_eq_true c28
      have c28b1 : decide (0 < x423015_1.size) = true := decide_eq_true (by omega)
      clear c28
      by_cases c30 : x423003_1 = 44
      ·rw [if_pos c30] at H
       have c30b0 : (x423003_1 == 44) = true := beq_iff_eq.mpr c30
       have c30b1 : (x423003_1 != 44) = false := bne_eq_false_iff_eq.mpr c30
       clear c30
       replace H := bS H
       obtain ⟨⟨t425, t426⟩, A31, H⟩ := H
       try dsimp -simprocs only at H
       replace H := bS H
       obtain ⟨⟨t427, t428⟩, A32, H⟩ := H
       try dsimp -simprocs only at H
       replace H := iS H
       obtain ⟨c33, H⟩ := H
       have c33b0 := eq_true c33
       have c33b1 := decide_eq_true c33
       clear c33
       have H' := As H
       clear H
       have hnb34 := NB422_423.out
       have hnc34 := NB423_422.out
       have hcz35_0 := cells_16 BK422.out
       have hfz35_0 := fun j_ => blk_frozen BK422.out j_
       have p29 : 0 ≤ (0 : Int) := (by omega)
       have q29 : 0 < x423015_1.size := (by have : (0 : Int) < (x423015_1.size : Int) := of_decide_eq_true (by first | (with_reducible assumption) | assumption); omega)
       have hx29 : ∀ h : 0 < x423015_1.size, ((x423015_1[0]'h).toNat : Int) = bt x423015_1 0 := bt_at x423015_1 0
       clear p29
       have qi29 : (0 < (x423015_1.size : Int)) = True := eq_true (of_decide_eq_true (by first | (with_reducible assumption) | assumption))
       replace q29 := eq_true q29
       (try go_wp2_with (first | ((with_reducible refine gate_callee (f := 109) rfl ?_); refine goesL_ (some 55) rfl rfl Tryd.func109 (by kernel_rfl) rfl #[.string x423015_1, .int .i64 2, .int .i64 2] rfl kA ?_; (with_reducible refine (field_Get.calls kj18 x423015_1 2 2 t425 t426 _ A31.out).mono ?_); rintro e w36 ⟨rfl, hb⟩; refine ⟨_, rfl, ?_⟩; replace HO_423010 := As (Kd.R_below (by refine kR ?_; exact (Kd.R_mono (Kd.R_far (p := ⟨gb422, 3, none⟩) (Kd.R_types HO_423010.out BK422.out (by decide)) (fun _ hk => hk.2) (.int .i64 (wrap64 (bt x423015_1 0)))) (fun _ h_ => h_.1))) hb); replace BK422 := As (blk_below (g := gb422) (o := .cells #[.int .i64 d0, .int .i64 d1, .int .i64 d2, .int .i64 (wrap64 (bt x423015_1 0)), .bool d4, .int .u64 d5, .int .u64 d6, .bool d7, .int .u64 d8, .int .u64 d9, u423010, .bool x423011_1, .int .i64 x423012_1, .int .i64 x423013_1, .bool x423014_1, .string x423015_1] 60 (0, 0)) (by refine kb ?_; refine blk_put (cs := #[.int .i64 d0, .int .i64 d1, .int .i64 d2, .int .i64 x423003_1, .bool d4, .int .u64 d5, .int .u64 d6, .bool d7, .int .u64 d8, .int .u64 d9, u423010, .bool x423011_1, .int .i64 x423012_1, .int .i64 x423013_1, .bool x423014_1, .string x423015_1]) ?_ 3 _ rfl; exact kb BK422.out) hb); replace BK423 := As (blk_below (g := gb423) (o := .cells #[.int .i64 x424000_1, .int .i64 x424001_1, .int .i64 x424002_1, .int .i64 x424003_1, .bool x424004_1, .int .u64 x424005_1, .int .u64 x424006_1, .bool x424007_1, .int .u64 x424008_1, .int .u64 x424009_1, .slice none 0 0, .bool x424011_1, .int .i64 x424012_1, .int .i64 x424013_1, .bool x424014_1, .string x424015_1] 60 (0, 0)) (by refine kb ?_; refine blk_far ?_ NB423_422.out _; exact kb BK423.out) hb); replace HK := As (Kept.below (S := (fun k_ => P0_10_ k_)) (by repeat (first | (with_reducible first | exact HK.out | apply Kept.alloc | apply Kept.drewN | apply Kept.drew | refine Kept.setCell ?_ (.inr GW422.out) _ | refine Kept.setCell ?_ (.inr GW423.out) _) | exact HK.out)) hb); replace HB := As (below_step (kB2 HB.out GE422.out GE423.out) hb); (try clear hb); (try clear hk); have hcz37_0 := cells_16 BK422.out; have hfz37_0 := fun j_ => blk_frozen BK422.out j_) | ((with_reducible refine gate_callee (f := 109) rfl ?_); refine goesL_ (some 61) rfl rfl Tryd.func109 (by kernel_rfl) rfl #[.string x423015_1, .int .i64 4, .int .i64 4] rfl kA ?_; (with_reducible refine (field_Get.calls kj18 x423015_1 4 4 t427 t428 _ A32.out).mono ?_); rintro e w38 ⟨rfl, hb⟩; refine ⟨_, rfl, ?_⟩; replace HO_423010 := As (Kd.R_below (kR HO_423010.out) hb); replace BK422 := As (blk_below (kb BK422.out) hb); replace BK423 := As (blk_below (kb BK423.out) hb); replace HK := As (Kept.below (S := (fun k_ => P0_10_ k_)) (by repeat (first | (with_reducible first | exact HK.out | apply Kept.alloc | apply Kept.drewN | apply Kept.drew | refine Kept.setCell ?_ (.inr GW422.out) _ | refine Kept.setCell ?_ (.inr GW423.out) _) | exact HK.out)) hb); replace HB := As (below_step (kB2 HB.out GE422.out GE423.out) hb); (try clear hb); have hcz39_0 := cells_16 BK422.out; have hfz39_0 := fun j_ => blk_frozen BK422.out j_)))
       repeat ((first | (refine scope_plain ?_ ?hg_; case hg_ => exact fun _ _ _ h_ => h_) | go_step3); go_wp2_with (first | ((with_reducible refine gate_callee (f := 109) rfl ?_); refine goesL_ (some 55) rfl rfl Tryd.func109 (by kernel_rfl) rfl #[.string x423015_1, .int .i64 2, .int .i64 2] rfl kA ?_; (with_reducible refine (field_Get.calls kj18 x423015_1 2 2 t425 t426 _ A31.out).mono ?_); rintro e w36 ⟨rfl, hb⟩; refine ⟨_, rfl, ?_⟩; replace HO_423010 := As (Kd.R_below (by refine kR ?_; exact (Kd.R_mono (Kd.R_far (p := ⟨gb422, 3, none⟩) (Kd.R_types HO_423010.out BK422.out (by decide)) (fun _ hk => hk.2) (.int .i64 (wrap64 (bt x423015_1 0)))) (fun _ h_ => h_.1))) hb); replace BK422 := As (blk_below (g := gb422) (o := .cells #[.int .i64 d0, .int .i64 d1, .int .i64 d2, .int .i64 (wrap64 (bt x423015_1 0)), .bool d4, .int .u64 d5, .int .u64 d6, .bool d7, .int .u64 d8, .int .u64 d9, u423010, .bool x423011_1, .int .i64 x423012_1, .int .i64 x423013_1, .bool x423014_1, .string x423015_1] 60 (0, 0)) (by refine kb ?_; refine blk_put (cs := #[.int .i64 d0, .int .i64 d1, .int .i64 d2, .int .i64 x423003_1, .bool d4, .int .u64 d5, .int .u64 d6, .bool d7, .int .u64 d8, .int .u64 d9, u423010, .bool x423011_1, .int .i64 x423012_1, .int .i64 x423013_1, .bool x423014_1, .string x423015_1]) ?_ 3 _ rfl; exact kb BK422.out) hb); replace BK423 := As (blk_below (g := gb423) (o := .cells #[.int .i64 x424000_1, .int .i64 x424001_1, .int .i64 x424002_1, .int .i64 x424003_1, .bool x424004_1, .int .u64 x424005_1, .int .u64 x424006_1, .bool x424007_1, .int .u64 x424008_1, .int .u64 x424009_1, .slice none 0 0, .bool x424011_1, .int .i64 x424012_1, .int .i64 x424013_1, .bool x424014_1, .string x424015_1] 60 (0, 0)) (by refine kb ?_; refine blk_far ?_ NB423_422.out _; exact kb BK423.out) hb); replace HK := As (Kept.below (S := (fun k_ => P0_10_ k_)) (by repeat (first | (with_reducible first | exact HK.out | apply Kept.alloc | apply Kept.drewN | apply Kept.drew | refine Kept.setCell ?_ (.inr GW422.out) _ | refine Kept.setCell ?_ (.inr GW423.out) _) | exact HK.out)) hb); replace HB := As (below_step (kB2 HB.out GE422.out GE423.out) hb); (try clear hb); (try clear hk); have hcz37_0 := cells_16 BK422.out; have hfz37_0 := fun j_ => blk_frozen BK422.out j_) | ((with_reducible refine gate_callee (f := 109) rfl ?_); refine goesL_ (some 61) rfl rfl Tryd.func109 (by kernel_rfl) rfl #[.string x423015_1, .int .i64 4, .int .i64 4] rfl kA ?_; (with_reducible refine (field_Get.calls kj18 x423015_1 4 4 t427 t428 _ A32.out).mono ?_); rintro e w38 ⟨rfl, hb⟩; refine ⟨_, rfl, ?_⟩; replace HO_423010 := As (Kd.R_below (kR HO_423010.out) hb); replace BK422 := As (blk_below (kb BK422.out) hb); replace BK423 := As (blk_below (kb BK423.out) hb); replace HK := As (Kept.below (S := (fun k_ => P0_10_ k_)) (by repeat (first | (with_reducible first | exact HK.out | apply Kept.alloc | apply Kept.drewN | apply Kept.drew | refine Kept.setCell ?_ (.inr GW422.out) _ | refine Kept.setCell ?_ (.inr GW423.out) _) | exact HK.out)) hb); replace HB := As (below_step (kB2 HB.out GE422.out GE423.out) hb); (try clear hb); have hcz39_0 := cells_16 BK422.out; have hfz39_0 := fun j_ => blk_frozen BK422.out j_)))
       go_roundg kj18
       case measure => have := HK1.out; have := HJ4.out; have := HJ11.out; have := HJ13.out; have := HJ18.out; omega
       case rel => exact ⟨(false), (wrap64 (bt x423015_1 0)), (x423010_1), (true), (t427), (Go.bits .andNot .i64 t425 7), (((Go.bits .and .i64 t425 1) == 1)), (x423015_1.extract 8 x423015_1.size), (x424000_1), (x424001_1), (x424002_1), (x424003_1), (x424004_1), (x424005_1), (x424006_1), (x424007_1), (x424008_1), (x424009_1), (x424011_1), (x424012_1), (x424013_1), (x424014_1), (x424015_1), (u423010), kS, H', ⟨by have := HK1.out; have := HJ4.out; have := HJ11.out; have := HJ13.out; have := HJ18.out; omega⟩, ⟨by (with_reducible repeat (first | apply Kd.R_alloc | apply Kd.R_drewN | apply Kd.R_drew)); exact Kd.R_mono (Kd.R_puts_13_3 gb422 (.int .i64 (Go.bits .andNot .i64 t425 7)) (.bool ((Go.bits .and .i64 t425 1) == 1)) (.string (x423015_1.extract 8 x423015_1.size)) (Kd.R_far (p := ⟨gb422, 11, none⟩) (Kd.R_far (p := ⟨gb422, 12, none⟩) (Kd.R_types HO_423010.out BK422.out (by decide)) (fun _ hk => hk.2) (.int .i64 t427)) (fun _ hk => hk.2) (.bool true)) (fun _ hk => hk.2)) (fun _ hk => hk.1)⟩, ⟨by refine kb ?_; refine blk_put (cs := #[.int .i64 d0, .int .i64 d1, .int .i64 d2, .int .i64 (wrap64 (bt x423015_1 0)), .bool d4, .int .u64 d5, .int .u64 d6, .bool d7, .int .u64 d8, .int .u64 d9, u423010, .bool true, .int .i64 t427, .int .i64 (Go.bits .andNot .i64 t425 7), .bool ((Go.bits .and .i64 t425 1) == 1), .string x423015_1]) ?_ 15 _ rfl; refine kb ?_; refine blk_put (cs := #[.int .i64 d0, .int .i64 d1, .int .i64 d2, .int .i64 (wrap64 (bt x423015_1 0)), .bool d4, .int .u64 d5, .int .u64 d6, .bool d7, .int .u64 d8, .int .u64 d9, u423010, .bool true, .int .i64 t427, .int .i64 (Go.bits .andNot .i64 t425 7), .bool x423014_1, .string x423015_1]) ?_ 14 _ rfl; refine kb ?_; refine blk_put (cs := #[.int .i64 d0, .int .i64 d1, .int .i64 d2, .int .i64 (wrap64 (bt x423015_1 0)), .bool d4, .int .u64 d5, .int .u64 d6, .bool d7, .int .u64 d8, .int .u64 d9, u423010, .bool true, .int .i64 t427, .int .i64 x423013_1, .bool x423014_1, .string x423015_1]) ?_ 13 _ rfl; refine kb ?_; refine blk_put (cs := #[.int .i64 d0, .int .i64 d1, .int .i64 d2, .int .i64 (wrap64 (bt x423015_1 0)), .bool d4, .int .u64 d5, .int .u64 d6, .bool d7, .int .u64 d8, .int .u64 d9, u423010, .bool x423011_1, .int .i64 t427, .int .i64 x423013_1, .bool x423014_1, .string x423015_1]) ?_ 11 _ rfl; refine kb ?_; refine blk_put (cs := #[.int .i64 d0, .int .i64 d1, .int .i64 d2, .int .i64 (wrap64 (bt x423015_1 0)), .bool d4, .int .u64 d5, .int .u64 d6, .bool d7, .int .u64 d8, .int .u64 d9, u423010, .bool x423011_1, .int .i64 x423012_1, .int .i64 x423013_1, .bool x423014_1, .string x423015_1]) ?_ 12 _ rfl; exact kb BK422.out⟩, ⟨by refine kb ?_; (iterate 5 (refine blk_far ?_ NB423_422.out _; refine kb ?_)); exact BK423.out⟩, ⟨by repeat (first | (with_reducible first | exact HK.out | apply Kept.alloc | apply Kept.drewN | apply Kept.drew | refine Kept.setCell ?_ (.inr GW422.out) _ | refine Kept.setCell ?_ (.inr GW423.out) _) | exact HK.out)⟩, ⟨kB2 HB.out GE422.out GE423.out⟩⟩
      rw [if_neg c30] at H
      have c30b0 : (x423003_1 == 44) = false := beq_eq_false_iff_ne.mpr c30
      have c30b1 : (x423003_1 != 44) = true := bne_iff_ne.mpr c30
      replace H := iS H
      obtain ⟨c40, H⟩ := H
      have c40b0 := decide_eq_true c40
      have c40b1 : decide (1 < x423015_1.size) = true := decide_eq_true (by omega)
      clear c40
      by_cases c42 : (x423015_1.size : Int) < (wrap64 (8 + (wrap64 (8 * (wrap64 (bt x423015_1 1))))))
      ·rw [if_pos c42] at H
       have c42b0 : decide ((x423015_1.size : Int) < (wrap64 (8 + (wrap64 (8 * (wrap64 (bt x423015_1 1))))))) = true := decide_eq_true c42
       clear c42
       simp only [Option.some.injEq, Prod.mk.injEq] at H
       obtain ⟨rfl, rfl, rfl, rfl, rfl, rfl, rfl, rfl, rfl, rfl, rfl, rfl, rfl, rfl, rfl, rfl, rfl⟩ := H
       have hnb43 := NB422_423.out
       have hnc43 := NB423_422.out
       have hcz44_0 := cells_16 BK422.out
       have hfz44_0 := fun j_ => blk_frozen BK422.out j_
       have p29 : 0 ≤ (0 : Int) := (by omega)
       have q29 : 0 < x423015_1.size := (by have : (0 : Int) < (x423015_1.size : Int) := of_decide_eq_true (by first | (with_reducible assumption) | assumption); omega)
       have hx29 : ∀ h : 0 < x423015_1.size, ((x423015_1[0]'h).toNat : Int) = bt x423015_1 0 := bt_at x423015_1 0
       clear p29
       have qi29 : (0 < (x423015_1.size : Int)) = True := eq_true (of_decide_eq_true (by first | (with_reducible assumption) | assumption))
       replace q29 := eq_true q29
       have p41 : 0 ≤ (1 : Int) := (by omega)
       have q41 : 1 < x423015_1.size := (by have : (1 : Int) < (x423015_1.size : Int) := of_decide_eq_true (by first | (with_reducible assumption) | assumption); omega)
       have hx41 : ∀ h : 1 < x423015_1.size, ((x423015_1[1]'h).toNat : Int) = bt x423015_1 1 := bt_at x423015_1 1
       clear p41
       have qi41 : (1 < (x423015_1.size : Int)) = True := eq_true (of_decide_eq_true (by first | (with_reducible assumption) | assumption))
       replace q41 := eq_true q41
       (try go_wp2_with (first | ((with_reducible refine gate_store (t := 60) (p := 2) rfl ?_); refine store_rowev_16 gb423 (.int .i64 0) (.int .i64 0) (.int .i64 0) (.int .i64 0) (.bool false) (.int .u64 0) (.int .u64 0) (.bool false) (.int .u64 0) (.int .u64 0) (.slice none 0 0) (.bool false) (.int .i64 0) (.int .i64 0) (.bool false) (.string (⟨#[]⟩ : ByteArray)) ?hg (t := 60) (p := 2) (v := _) rfl ?hn ?hc2 ?hc3 (t' := 60) (cs := #[.int .i64 x424000_1, .int .i64 x424001_1, .int .i64 x424002_1, .int .i64 x424003_1, .bool x424004_1, .int .u64 x424005_1, .int .u64 x424006_1, .bool x424007_1, .int .u64 x424008_1, .int .u64 x424009_1, .slice none 0 0, .bool x424011_1, .int .i64 x424012_1, .int .i64 x424013_1, .bool x424014_1, .string x424015_1]) ?hc4 ?hc5 ?hc6 ?hc7 ?_; (case hg => rfl); (case hn => rfl); (case hc2 => rfl); (case hc3 => rfl); (case hc4 => exact (by refine kb ?_; refine blk_far ?_ NB423_422.out _; exact kb BK423.out)); (case hc5 => rfl); (case hc6 => kernel_rfl); (case hc7 => rfl))))
       repeat ((first | (refine scope_plain ?_ ?hg_; case hg_ => exact fun _ _ _ h_ => h_) | go_step3); go_wp2_with (first | ((with_reducible refine gate_store (t := 60) (p := 2) rfl ?_); refine store_rowev_16 gb423 (.int .i64 0) (.int .i64 0) (.int .i64 0) (.int .i64 0) (.bool false) (.int .u64 0) (.int .u64 0) (.bool false) (.int .u64 0) (.int .u64 0) (.slice none 0 0) (.bool false) (.int .i64 0) (.int .i64 0) (.bool false) (.string (⟨#[]⟩ : ByteArray)) ?hg (t := 60) (p := 2) (v := _) rfl ?hn ?hc2 ?hc3 (t' := 60) (cs := #[.int .i64 x424000_1, .int .i64 x424001_1, .int .i64 x424002_1, .int .i64 x424003_1, .bool x424004_1, .int .u64 x424005_1, .int .u64 x424006_1, .bool x424007_1, .int .u64 x424008_1, .int .u64 x424009_1, .slice none 0 0, .bool x424011_1, .int .i64 x424012_1, .int .i64 x424013_1, .bool x424014_1, .string x424015_1]) ?hc4 ?hc5 ?hc6 ?hc7 ?_; (case hg => rfl); (case hn => rfl); (case hc2 => rfl); (case hc3 => rfl); (case hc4 => exact (by refine kb ?_; refine blk_far ?_ NB423_422.out _; exact kb BK423.out)); (case hc5 => rfl); (case hc6 => kernel_rfl); (case hc7 => rfl))))
       refine bodyPost_ret (results_ct rfl _ _ gb423 60 #[.int .i64 0, .int .i64 0, .int .i64 0, .int .i64 0, .bool false, .int .u64 0, .int .u64 0, .bool false, .int .u64 0, .int .u64 0, .slice none 0 0, .bool false, .int .i64 0, .int .i64 0, .bool false, .string (⟨#[]⟩ : ByteArray)] (0, 0) _ rfl (by refine kb ?_; refine blk_all_16 (cs := #[.int .i64 x424000_1, .int .i64 x424001_1, .int .i64 x424002_1, .int .i64 x424003_1, .bool x424004_1, .int .u64 x424005_1, .int .u64 x424006_1, .bool x424007_1, .int .u64 x424008_1, .int .u64 x424009_1, .slice none 0 0, .bool x424011_1, .int .i64 x424012_1, .int .i64 x424013_1, .bool x424014_1, .string x424015_1]) ?_ rfl; refine kb ?_; refine blk_far ?_ NB423_422.out _; exact kb BK423.out) Tryd.underlying60 rfl (by kernel_rfl)) rfl ?_
       exact ⟨_, kE, by first | exact Kd.R_nil _ _ _ _ _ | exact Kd.N_nil _ _ _ _ _ | exact Kd.V_nil _ _ _ _ _ | exact Kd.Q_nil _ _ _ _ _ | exact Kd.S_nil _ _ _ _ _, by exact kB2 HB.out GE422.out GE423.out, by repeat (first | (with_reducible first | exact HK.out | apply Kept.alloc | apply Kept.drewN | apply Kept.drew | refine Kept.setCell ?_ (.inr GW422.out) _ | refine Kept.setCell ?_ (.inr GW423.out) _) | exact HK.out)⟩
      rw [if_neg c42] at H
      have c42b0 : decide ((x423015_1.size : Int) < (wrap64 (8 + (wrap64 (8 * (wrap64 (bt x423015_1 1))))))) = false := decide_eq_false c42
      clear c42
      replace H := iS H
      obtain ⟨c45, H⟩ := H
      have c45b0 := eq_true c45
      have c45b1 := decide_eq_true c45
      replace H := iS H
      obtain ⟨c46, H⟩ := H
      have c46b0 := eq_true c46
      have c46b1 := decide_eq_true c46
      replace H := iS H
      obtain ⟨c47, H⟩ := H
      have LMc47 := As c47
      clear c47
      obtain ⟨y429, hy429⟩ : ∃ y_ : List (S91), y_ = (x423010_1 ++ [(⟨x423003_1, x423015_1.extract 2 ((wrap64 (8 + (wrap64 (8 * (wrap64 (bt x423015_1 1)))))) : Int).toNat⟩ : S91)]) := ⟨_, rfl⟩
      replace H : (if 0 ≤ (wrap64 (8 + (wrap64 (8 * (wrap64 (bt x423015_1 1)))))) then (ipv6_headers.l0 kj18 false d0 d1 d2 (wrap64 (bt x423015_1 0)) d4 d5 d6 d7 d8 d9 y429 x423011_1 x423012_1 x423013_1 x423014_1 (x423015_1.extract ((wrap64 (8 + (wrap64 (8 * (wrap64 (bt x423015_1 1)))))) : Int).toNat x423015_1.size)) else (none)) = some (r1, r2, r3, r4, r5, r6, r7, r8, r9, r10, r11, r12, r13, r14, r15, r16, r17) := by first | (rw [hy429]; with_reducible exact H) | (have H2_ := (Option.bind_some _ _).symm.trans H; rw [hy429]; with_reducible exact H2_) | (have H2_ := (Option.bind_some _ _).symm.trans H; with_reducible exact H2_) | with_reducible exact H | (rw [hy429]; exact H) | exact H
      have Ny429 := As hy429
      clear hy429
      obtain ⟨ji48, hji48⟩ : ∃ j_ : Int, (wrap64 (8 + (wrap64 (8 * (wrap64 (bt x423015_1 1)))))) = j_ := ⟨_, rfl⟩
      replace H : (if 0 ≤ (ji48) then (ipv6_headers.l0 kj18 false d0 d1 d2 (wrap64 (bt x423015_1 0)) d4 d5 d6 d7 d8 d9 y429 x423011_1 x423012_1 x423013_1 x423014_1 (x423015_1.extract ((ji48) : Int).toNat x423015_1.size)) else (none)) = some (r1, r2, r3, r4, r5, r6, r7, r8, r9, r10, r11, r12, r13, r14, r15, r16, r17) := by first | (rw [hji48] at H; exact H) | (simp only [hji48] at H ⊢; exact H)
      (try rw [hji48] at c42b0)
      (try rw [hji48] at c45b0)
      (try rw [hji48] at c45b1)
      (try rw [hji48] at c45)
      (try rw [hji48] at c46b0)
      (try rw [hji48] at c46b1)
      (try rw [hji48] at c46)
      (try rw [hji48] at Ny429)
      (try rw [hji48] at Ny429)
      have hji48w : (IntKind.i64.wrap (8 + (wrap64 (8 * (wrap64 (bt x423015_1 1)))))) = ji48 := (i64_w _).trans hji48
      replace H := iS H
      obtain ⟨c49, H⟩ := H
      have c49b0 := eq_true c49
      have c49b1 := decide_eq_true c49
      clear c49
      have c50b0 := eq_true (of_decide_eq_true (by first | (with_reducible assumption) | assumption) : (ji48) ≤ (x423015_1.size : Int))
      have H' := As H
      clear H
      have hnb51 := NB422_423.out
      have hnc51 := NB423_422.out
      have hcz52_0 := cells_16 BK422.out
      have hfz52_0 := fun j_ => blk_frozen BK422.out j_
      have p29 : 0 ≤ (0 : Int) := (by omega)
      have q29 : 0 < x423015_1.size := (by have : (0 : Int) < (x423015_1.size : Int) := of_decide_eq_true (by first | (with_reducible assumption) | assumption); omega)
      have hx29 : ∀ h : 0 < x423015_1.size, ((x423015_1[0]'h).toNat : Int) = bt x423015_1 0 := bt_at x423015_1 0
      clear p29
      have qi29 : (0 < (x423015_1.size : Int)) = True := eq_true (of_decide_eq_true (by first | (with_reducible assumption) | assumption))
      replace q29 := eq_true q29
      have p41 : 0 ≤ (1 : Int) := (by omega)
      have q41 : 1 < x423015_1.size := (by have : (1 : Int) < (x423015_1.size : Int) := of_decide_eq_true (by first | (with_reducible assumption) | assumption); omega)
      have hx41 : ∀ h : 1 < x423015_1.size, ((x423015_1[1]'h).toNat : Int) = bt x423015_1 1 := bt_at x423015_1 1
      clear p41
      have qi41 : (1 < (x423015_1.size : Int)) = True := eq_true (of_decide_eq_true (by first | (with_reducible assumption) | assumption))
      replace q41 := eq_true q41
      (try go_wp2)
      repeat ((first | (refine scope_plain ?_ ?hg_; case hg_ => exact fun _ _ _ h_ => h_) | go_step3); go_wp2)
      have n0_ : Aside0 (Kd.R k91 91 (wc.setCell ⟨gb422, 3, none⟩ (.int .i64 (wrap64 (bt x423015_1 0)))) w0.heap.size (fun k_ => (P0_10_ k_ ∨ w.heap.size ≤ k_)) u423010 x423010_1) := ⟨by (with_reducible repeat (first | apply Kd.R_alloc | apply Kd.R_drewN | apply Kd.R_drew)); exact Kd.R_mono (Kd.R_far (p := ⟨gb422, 3, none⟩) (Kd.R_types HO_423010.out BK422.out (by decide)) (fun _ hk => hk.2) (.int .i64 (wrap64 (bt x423015_1 0)))) (fun _ hk => hk.1)⟩
      have n1_ : Aside0 ((wc.setCell ⟨gb422, 3, none⟩ (.int .i64 (wrap64 (bt x423015_1 0)))).heap[gb422]? = some (.cells #[.int .i64 d0, .int .i64 d1, .int .i64 d2, .int .i64 (wrap64 (bt x423015_1 0)), .bool d4, .int .u64 d5, .int .u64 d6, .bool d7, .int .u64 d8, .int .u64 d9, u423010, .bool x423011_1, .int .i64 x423012_1, .int .i64 x423013_1, .bool x423014_1, .string x423015_1] 60 (0, 0))) := ⟨by refine kb ?_; refine blk_put (cs := #[.int .i64 d0, .int .i64 d1, .int .i64 d2, .int .i64 x423003_1, .bool d4, .int .u64 d5, .int .u64 d6, .bool d7, .int .u64 d8, .int .u64 d9, u423010, .bool x423011_1, .int .i64 x423012_1, .int .i64 x423013_1, .bool x423014_1, .string x423015_1]) ?_ 3 _ rfl; exact kb BK422.out⟩
      have n2_ : Aside0 ((wc.setCell ⟨gb422, 3, none⟩ (.int .i64 (wrap64 (bt x423015_1 0)))).heap[gb423]? = some (.cells #[.int .i64 x424000_1, .int .i64 x424001_1, .int .i64 x424002_1, .int .i64 x424003_1, .bool x424004_1, .int .u64 x424005_1, .int .u64 x424006_1, .bool x424007_1, .int .u64 x424008_1, .int .u64 x424009_1, .slice none 0 0, .bool x424011_1, .int .i64 x424012_1, .int .i64 x424013_1, .bool x424014_1, .string x424015_1] 60 (0, 0))) := ⟨by refine kb ?_; refine blk_far ?_ NB423_422.out _; exact kb BK423.out⟩
      have n3_ : Aside0 (Kept w (wc.setCell ⟨gb422, 3, none⟩ (.int .i64 (wrap64 (bt x423015_1 0)))) (fun k_ => P0_10_ k_)) := ⟨by repeat (first | (with_reducible first | exact HK.out | apply Kept.alloc | apply Kept.drewN | apply Kept.drew | refine Kept.setCell ?_ (.inr GW422.out) _ | refine Kept.setCell ?_ (.inr GW423.out) _) | exact HK.out)⟩
      have n4_ : Aside0 (Below w0.heap.size w0 (wc.setCell ⟨gb422, 3, none⟩ (.int .i64 (wrap64 (bt x423015_1 0))))) := ⟨kB2 HB.out GE422.out GE423.out⟩
      (try clear HO_423010)
      (try clear BK422)
      (try clear BK423)
      (try clear HK)
      (try clear HB)
      generalize (wc.setCell ⟨gb422, 3, none⟩ (.int .i64 (wrap64 (bt x423015_1 0)))) = w53 at n0_ n1_ n2_ n3_ n4_ ⊢
      have HO_423010 := n0_
      have BK422 := n1_
      have BK423 := n2_
      have HK := n3_
      have HB := n4_
      clear n0_ n1_ n2_ n3_ n4_
      replace HO_423010 := As (Kd.R_drew HO_423010.out)
      replace BK422 := As (blk_drew BK422.out)
      replace BK423 := As (blk_drew BK423.out)
      replace HK := As (Kept.drew HK.out)
      replace HB := As (below_drew1 HB.out)
      refine start_ (n := 12) (S := fun w' => w'.cell? ⟨gb422, 0, none⟩ = some (.int .i64 d0) ∧ w'.cell? ⟨gb422, 1, none⟩ = some (.int .i64 d1) ∧ w'.cell? ⟨gb422, 2, none⟩ = some (.int .i64 d2) ∧ w'.cell? ⟨gb422, 3, none⟩ = some (.int .i64 (wrap64 (bt x423015_1 0))) ∧ w'.cell? ⟨gb422, 4, none⟩ = some (.bool d4) ∧ w'.cell? ⟨gb422, 5, none⟩ = some (.int .u64 d5) ∧ w'.cell? ⟨gb422, 6, none⟩ = some (.int .u64 d6) ∧ w'.cell? ⟨gb422, 7, none⟩ = some (.bool d7) ∧ w'.cell? ⟨gb422, 8, none⟩ = some (.int .u64 d8) ∧ w'.cell? ⟨gb422, 9, none⟩ = some (.int .u64 d9) ∧ w'.cell? ⟨gb422, 10, none⟩ = some (u423010) ∧ w'.cell? ⟨gb422, 11, none⟩ = some (.bool x423011_1) ∧ w'.cell? ⟨gb422, 12, none⟩ = some (.int .i64 x423012_1) ∧ w'.cell? ⟨gb422, 13, none⟩ = some (.int .i64 x423013_1) ∧ w'.cell? ⟨gb422, 14, none⟩ = some (.bool x423014_1) ∧ w'.cell? ⟨gb422, 15, none⟩ = some (.string x423015_1)) (ds := [11]) #[O, O, O, O, O, O, O, O, O, O, O, O] (by kernel_rfl) rfl rfl ⟨kC BK422.out 0, kC BK422.out 1, kC BK422.out 2, kC BK422.out 3, kC BK422.out 4, kC BK422.out 5, kC BK422.out 6, kC BK422.out 7, kC BK422.out 8, kC BK422.out 9, kC BK422.out 10, kC BK422.out 11, kC BK422.out 12, kC BK422.out 13, kC BK422.out 14, kC BK422.out 15⟩ (fun hHeld => ?_); refine with_tabW ipv6_headers.tab21 ipv6_headers.bits21 (fun HT_ HW_ => ?_)
      generalize w53.drew = w54 at HO_423010 BK422 BK423 HK HB hHeld ⊢
      refine kP 0 89 #[I, O, O, O, O, O, O, O, O, O, O, O] ?_ (any_of HT_.out (by kernel_rfl))
      refine kP 2 91 #[I, O, I, O, O, O, O, O, O, O, O, O] ?_ (any_of HT_.out (by kernel_rfl))
      refine kP 3 92 #[I, O, I, I, O, O, O, O, O, O, O, O] ?_ (any_of HT_.out (by kernel_rfl))
      refine kP 5 94 #[I, O, I, I, O, I, O, O, O, O, O, O] ?_ (any_of HT_.out (by kernel_rfl))
      refine take_ (i := 1) (N := some 90) (v := ?_) (a' := ?_) #[I, I, I, I, O, I, O, O, O, O, O, O] rfl rfl (take_ofW HT_.out HW_.out (by kernel_rfl)) (fun _ _ _ h => h) (Or.inl ⟨by rfl, ?_⟩) hHeld ?_ ?_
      rotate_left
      ·rintro w' ⟨s0, s1, s2, s3, s4, s5, s6, s7, s8, s9, s10, s11, s12, s13, s14, s15⟩
       go_simp
       with_reducible rfl
      rotate_left
      ·simp only [Act.put, sA, sZ, sS, i64_w, i32_w]
       rfl
      refine take_ (i := 4) (N := some 93) (v := ?_) (a' := ?_) #[I, I, I, I, I, I, O, O, O, O, O, O] rfl rfl (take_ofW HT_.out HW_.out (by kernel_rfl)) (fun _ _ _ h => h) (Or.inl ⟨by rfl, ?_⟩) hHeld ?_ ?_
      rotate_left
      ·rintro w' ⟨s0, s1, s2, s3, s4, s5, s6, s7, s8, s9, s10, s11, s12, s13, s14, s15⟩
       go_simp
       with_reducible rfl
      rotate_left
      ·simp only [Act.put, sA, sZ, sS, i64_w, i32_w]
       rfl
      refine kP 6 95 #[I, I, I, I, I, I, I, O, O, O, O, O] ?_ (any_of HT_.out (by kernel_rfl))
      refine kP 7 96 #[I, I, I, I, I, I, I, I, O, O, O, O] ?_ (any_of HT_.out (by kernel_rfl))
      refine one_ (i := 8) (N := some 97) #[I, I, I, I, I, I, I, I, I, O, O, O] rfl rfl (one_of HT_.out (by kernel_rfl)) (by decide) (fun K hK => ?_)
      refine value_ (w1 := ?_) (v := ?_) (by rfl) rfl ?_ ?_
      rotate_left 2
      ·go_simp
       constructor
       ·rfl
       rfl
      refine hK.out _ _ ⟨(blk_cell (blk_alloc BK422.out _) 0).trans rfl, (blk_cell (blk_alloc BK422.out _) 1).trans rfl, (blk_cell (blk_alloc BK422.out _) 2).trans rfl, (blk_cell (blk_alloc BK422.out _) 3).trans rfl, (blk_cell (blk_alloc BK422.out _) 4).trans rfl, (blk_cell (blk_alloc BK422.out _) 5).trans rfl, (blk_cell (blk_alloc BK422.out _) 6).trans rfl, (blk_cell (blk_alloc BK422.out _) 7).trans rfl, (blk_cell (blk_alloc BK422.out _) 8).trans rfl, (blk_cell (blk_alloc BK422.out _) 9).trans rfl, (blk_cell (blk_alloc BK422.out _) 10).trans rfl, (blk_cell (blk_alloc BK422.out _) 11).trans rfl, (blk_cell (blk_alloc BK422.out _) 12).trans rfl, (blk_cell (blk_alloc BK422.out _) 13).trans rfl, (blk_cell (blk_alloc BK422.out _) 14).trans rfl, (blk_cell (blk_alloc BK422.out _) 15).trans rfl⟩ (fun hHeld => ?_)
      clear hK K
      refine nP ?_
      refine one_ (i := 9) (N := some 98) #[I, I, I, I, I, I, I, I, I, I, O, O] rfl rfl (one_of HT_.out (by kernel_rfl)) (by decide) (fun K hK => ?_)
      refine Kd.R_append_step k91 (w0 := w0) w0.heap.size (by rfl) (.tmp 90) (.tmp 97) 58 91 (.agg #[(.int .i64 0), (.string ⟨#[]⟩)]) 24 rfl Tryd.underlying58 info91 rfl (by decide) (by omega) u423010 x423010_1 (⟨x423003_1, x423015_1.extract 2 ((ji48) : Int).toNat⟩ : S91) [.int .i64 x423003_1, .string (x423015_1.extract 2 ((ji48) : Int).toNat)] (fun k_ => (P0_10_ k_ ∨ w.heap.size ≤ k_)) (fun _ => False) rfl rfl ?aP (fun _ hk => hk.elim) ?aF ?aO ?aB ?aS ?aL ?_
      (case aP => exact k91_mkM _ _ _ (⟨x423003_1, x423015_1.extract 2 ((ji48) : Int).toNat⟩ : S91))
      (case aB => exact (kB2 HB.out GE422.out GE423.out))
      (case aF => exact (fun k_ hk => (.inr (Nat.le_trans (by first | exact HK.out.1 | exact (show Kept w _ (fun k_ => P0_10_ k_) from by repeat (first | (with_reducible first | exact HK.out | apply Kept.alloc | apply Kept.drewN | apply Kept.drew | refine Kept.setCell ?_ (.inr GW422.out) _ | refine Kept.setCell ?_ (.inr GW423.out) _) | exact HK.out)).1) hk))))
      (case aO => exact (kR HO_423010.out))
      (case aS => exact (below_size (kB2 HB.out GE422.out GE423.out)))
      (case aL => have := LMc47.out; omega)
      intro v430 w55 ho hb hg hat
      rw [← Ny429.out] at ho
      replace BK422 := As (blk_grown (kb BK422.out) hg (Kd.R_ne HO_423010.out BK422.out (by decide)))
      replace BK423 := As (blk_grown (kb BK423.out) hg (Kd.R_ne HO_423010.out BK423.out (by decide)))
      replace HB := As (hb)
      replace HK := As (Kept.of_grown (S := (fun k_ => P0_10_ k_)) hg (by repeat (first | (with_reducible first | exact HK.out | apply Kept.alloc | apply Kept.drewN | apply Kept.drew | refine Kept.setCell ?_ (.inr GW422.out) _ | refine Kept.setCell ?_ (.inr GW423.out) _) | exact HK.out)) (fun k_ e_ => (HO_423010.out.1 k_ e_)))
      have HO431 := As (ho)
      clear HO_423010
      clear ho hb hg hat
      obtain ⟨Ao56, co56, eo56⟩ := Kd.R_slice HO431.out
      (first | subst eo56 | (injection eo56 with f1_ f2_ f3_; have f4_ := f1_.symm; have f5_ := f3_.symm; clear f1_ f2_ f3_; subst f4_; subst f5_))
      refine hK.out _ _ ⟨kC BK422.out 0, kC BK422.out 1, kC BK422.out 2, kC BK422.out 3, kC BK422.out 4, kC BK422.out 5, kC BK422.out 6, kC BK422.out 7, kC BK422.out 8, kC BK422.out 9, kC BK422.out 10, kC BK422.out 11, kC BK422.out 12, kC BK422.out 13, kC BK422.out 14, kC BK422.out 15⟩ (fun hHeld => ?_)
      clear hK K
      refine nP ?_
      refine kP 10 99 #[I, I, I, I, I, I, I, I, I, I, I, O] ?_ (any_of HT_.out (by kernel_rfl))
      refine last_ (i := 11) (N := none) #[I, I, I, I, I, I, I, I, I, I, I, I] rfl rfl (one_of HT_.out (by kernel_rfl)) (by decide) (fun K hK => ?_)
      have hs57 : w55.cell? ⟨gb422, 10, none⟩ = some (u423010) := (blk_cell BK422.out 10).trans rfl
      have hfs57 := blk_frozen BK422.out 10
      have hns57_1 := NB423_422.out
      have hms57_1 := NB422_423.out
      refine skip_ (w1 := ?_) (by rfl) rfl ?_ ?_
      rotate_left
      ·go_simp
       rfl
      refine hK.out _ _ ?_
      clear hK K
      refine done_ (done_of HT_.out (by kernel_rfl)) ?_
      have hcz58_0 := cells_16 BK422.out
      have hfz58_0 := fun j_ => blk_frozen BK422.out j_
      (try go_wp2)
      repeat ((first | (refine scope_plain ?_ ?hg_; case hg_ => exact fun _ _ _ h_ => h_) | go_step3); go_wp2)
      go_roundg kj18
      case measure => have := HK1.out; have := HJ4.out; have := HJ11.out; have := HJ13.out; have := HJ18.out; omega
      case rel => exact ⟨(false), (wrap64 (bt x423015_1 0)), (y429), (x423011_1), (x423012_1), (x423013_1), (x423014_1), (x423015_1.extract ((ji48) : Int).toNat x423015_1.size), (x424000_1), (x424001_1), (x424002_1), (x424003_1), (x424004_1), (x424005_1), (x424006_1), (x424007_1), (x424008_1), (x424009_1), (x424011_1), (x424012_1), (x424013_1), (x424014_1), (x424015_1), (.slice Ao56 y429.length co56), kS, H', ⟨by have := HK1.out; have := HJ4.out; have := HJ11.out; have := HJ13.out; have := HJ18.out; omega⟩, ⟨by (with_reducible repeat (first | apply Kd.R_alloc | apply Kd.R_drewN | apply Kd.R_drew)); exact Kd.R_mono (Kd.R_far (p := ⟨gb422, 15, none⟩) (Kd.R_far (p := ⟨gb422, 10, none⟩) (Kd.R_types HO431.out BK422.out (by decide)) (fun _ hk => hk.2) (.slice Ao56 y429.length co56)) (fun _ hk => hk.2) (.string (x423015_1.extract ((ji48) : Int).toNat x423015_1.size))) (fun _ hk => hk.1)⟩, ⟨by refine kb ?_; refine blk_put (cs := #[.int .i64 d0, .int .i64 d1, .int .i64 d2, .int .i64 (wrap64 (bt x423015_1 0)), .bool d4, .int .u64 d5, .int .u64 d6, .bool d7, .int .u64 d8, .int .u64 d9, .slice Ao56 y429.length co56, .bool x423011_1, .int .i64 x423012_1, .int .i64 x423013_1, .bool x423014_1, .string x423015_1]) ?_ 15 _ rfl; refine kb ?_; refine blk_put (cs := #[.int .i64 d0, .int .i64 d1, .int .i64 d2, .int .i64 (wrap64 (bt x423015_1 0)), .bool d4, .int .u64 d5, .int .u64 d6, .bool d7, .int .u64 d8, .int .u64 d9, u423010, .bool x423011_1, .int .i64 x423012_1, .int .i64 x423013_1, .bool x423014_1, .string x423015_1]) ?_ 10 _ rfl; exact kb BK422.out⟩, ⟨by refine kb ?_; refine blk_far ?_ NB423_422.out _; refine kb ?_; refine blk_far ?_ NB423_422.out _; exact kb BK423.out⟩, ⟨by repeat (first | (with_reducible first | exact HK.out | apply Kept.alloc | apply Kept.drewN | apply Kept.drew | refine Kept.setCell ?_ (.inr GW422.out) _ | refine Kept.setCell ?_ (.inr GW423.out) _) | exact HK.out)⟩, ⟨kB2 HB.out GE422.out GE423.out⟩⟩

end Go.Proofs.YtocobalkikkhlaaDoor.X
-- short
-- short2
