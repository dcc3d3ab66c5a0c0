/- Functions and their walks, printed by xprint.py. -/
import Derived.Test.YtocobalkikkhlaaDoorX0
import Derived.Test.YtocobalkikkhlaaDoorX8
import Derived.Test.YtocobalkikkhlaaDoorX9
namespace Go.Proofs.YtocobalkikkhlaaDoor.X
open Go.RowKit Go.Proofs.YtocobalkikkhlaaDoorW.PrintWords Go.Proofs.YtocobalkikkhlaaDoorW.PrintLast Go.Proofs.YtocobalkikkhlaaDoorW.PrintMore
attribute [local go_sem] max2_int min2_int max_two min_two max_three min_three max_four min_four   -- for this text's walks alone
set_option linter.unusedVariables false
set_option linter.unusedSimpArgs false

/-! ### ipv6_Encode: function 35 -/
mutual
def ipv6_Encode.l0 : Nat → List Int → List (S91) → Int → Int → Int → Int → Int → Int → Bool → Int → Int → Bool → Int → Int → List (S91) → Bool → Int → Int → Bool → ByteArray → Option (ByteArray × Int)
 | 0, _, _, _, _, _, _, _, _, _, _, _, _, _, _, _, _, _, _, _, _ => none
 | k + 1, x5, x20, x21, x22, b0, b1, b2, b3, b4, b5, b6, b7, b8, b9, b10, b11, b12, b13, b14, b15 => if x22 < x21 then (if 0 ≤ x22 then (if x22 < (x20.length : Int) then (if x5.length < 17592186044416 then (ipv6_Encode.l0 k (x5 ++ [(rd_T91 x20 x22).f0]) x20 x21 (wrap64 (x22 + 1)) b0 b1 b2 b3 b4 b5 b6 b7 b8 b9 b10 b11 b12 b13 b14 b15) else (none)) else (none)) else (none)) else (if b11 = true then (if x5.length < 17592186044416 then (ipv6_Encode.j1 k (x5 ++ [44]) b0 b1 b2 b3 b4 b5 b6 b7 b8 b9 b10 b11 b12 b13 b14 b15) else (none)) else (ipv6_Encode.j1 k x5 b0 b1 b2 b3 b4 b5 b6 b7 b8 b9 b10 b11 b12 b13 b14 b15))
def ipv6_Encode.j1 : Nat → List Int → Int → Int → Int → Int → Bool → Int → Int → Bool → Int → Int → List (S91) → Bool → Int → Int → Bool → ByteArray → Option (ByteArray × Int)
 | 0, _, _, _, _, _, _, _, _, _, _, _, _, _, _, _, _, _ => none
 | k + 1, x5, b0, b1, b2, b3, b4, b5, b6, b7, b8, b9, b10, b11, b12, b13, b14, b15 => if x5.length < 17592186044416 then (ipv6_Encode.l1 k (x5 ++ [b3]) (⟨#[]⟩ : ByteArray) b10 (b10.length : Int) 0 b0 b1 b2 b3 b4 b5 b6 b7 b8 b9 b10 b11 b12 b13 b14 b15) else (none)
def ipv6_Encode.l1 : Nat → List Int → ByteArray → List (S91) → Int → Int → Int → Int → Int → Int → Bool → Int → Int → Bool → Int → Int → List (S91) → Bool → Int → Int → Bool → ByteArray → Option (ByteArray × Int)
 | 0, _, _, _, _, _, _, _, _, _, _, _, _, _, _, _, _, _, _, _, _, _ => none
 | k + 1, x5, x8, x43, x44, x45, b0, b1, b2, b3, b4, b5, b6, b7, b8, b9, b10, b11, b12, b13, b14, b15 => if x45 < x44 then (if 0 ≤ x45 then (if x45 < (x43.length : Int) then (if 0 ≤ (wrap64 (x45 + 1)) then (if (wrap64 (x45 + 1)) < (x5.length : Int) then ((ipv6_join.f k (([(⟨rd x5 (wrap64 (x45 + 1)), 1⟩ : S93), (⟨wrap64 (Int.tdiv (wrap64 ((((rd_T91 x43 x45).f1).size : Int) - 6)) 8), 1⟩ : S93)] : List (S93)))).bind fun t297 => (if t297.size + ((rd_T91 x43 x45).f1).size ≤ 9223372036854775807 then (if x8.size + (t297 ++ ((rd_T91 x43 x45).f1)).size ≤ 9223372036854775807 then (ipv6_Encode.l1 k x5 (x8 ++ (t297 ++ ((rd_T91 x43 x45).f1))) x43 x44 (wrap64 (x45 + 1)) b0 b1 b2 b3 b4 b5 b6 b7 b8 b9 b10 b11 b12 b13 b14 b15) else (none)) else (none))) else (none)) else (none)) else (none)) else (none)) else (if b11 = true then (if b14 = true then ((ipv6_join.f k (([(⟨b3, 1⟩ : S93), (⟨0, 1⟩ : S93), (⟨wrap64 (b13 + 1), 2⟩ : S93), (⟨b12, 4⟩ : S93)] : List (S93)))).bind fun t301 => (if x8.size + t301.size ≤ 9223372036854775807 then (ipv6_Encode.j3 k x5 (x8 ++ t301) b0 b1 b2 b3 b4 b5 b6 b7 b8 b9 b10 b11 b12 b13 b14 b15) else (none))) else ((ipv6_join.f k (([(⟨b3, 1⟩ : S93), (⟨0, 1⟩ : S93), (⟨b13, 2⟩ : S93), (⟨b12, 4⟩ : S93)] : List (S93)))).bind fun t305 => (if x8.size + t305.size ≤ 9223372036854775807 then (ipv6_Encode.j3 k x5 (x8 ++ t305) b0 b1 b2 b3 b4 b5 b6 b7 b8 b9 b10 b11 b12 b13 b14 b15) else (none)))) else (ipv6_Encode.j3 k x5 x8 b0 b1 b2 b3 b4 b5 b6 b7 b8 b9 b10 b11 b12 b13 b14 b15))
def ipv6_Encode.j3 : Nat → List Int → ByteArray → Int → Int → Int → Int → Bool → Int → Int → Bool → Int → Int → List (S91) → Bool → Int → Int → Bool → ByteArray → Option (ByteArray × Int)
 | 0, _, _, _, _, _, _, _, _, _, _, _, _, _, _, _, _, _, _ => none
 | k + 1, x5, x8, b0, b1, b2, b3, b4, b5, b6, b7, b8, b9, b10, b11, b12, b13, b14, b15 => if x8.size + b15.size ≤ 9223372036854775807 then (if ((x8 ++ b15).size : Int) > 65535 then (some ((⟨#[]⟩ : ByteArray), 3)) else (if 0 < (x5.length : Int) then ((ipv6_join.f k (([(⟨Go.bits .or .i64 (Go.bits .or .i64 1610612736 (wrap64 (b0 * 1048576))) b1, 4⟩ : S93), (⟨((x8 ++ b15).size : Int), 2⟩ : S93), (⟨rd x5 0, 1⟩ : S93), (⟨b2, 1⟩ : S93)] : List (S93)))).bind fun t310 => ((address_Bytes.f k b4 b5 b6).bind fun t311 => (if t310.size + t311.size ≤ 9223372036854775807 then ((address_Bytes.f k b7 b8 b9).bind fun t312 => (if (t310 ++ t311).size + t312.size ≤ 9223372036854775807 then (if ((t310 ++ t311) ++ t312).size + (x8 ++ b15).size ≤ 9223372036854775807 then (some (((t310 ++ t311) ++ t312) ++ (x8 ++ b15), 0)) else (none)) else (none))) else (none)))) else (none))) else (none)
end
def ipv6_Encode.f (k : Nat) (d0 : Int) (d1 : Int) (d2 : Int) (d3 : Int) (d4 : Bool) (d5 : Int) (d6 : Int) (d7 : Bool) (d8 : Int) (d9 : Int) (l0_10 : List (S91)) (d11 : Bool) (d12 : Int) (d13 : Int) (d14 : Bool) (d15 : ByteArray) : Option (ByteArray × Int) := (ipv6_check.f k d0 d1 d2 d3 d4 d5 d6 d7 d8 d9 l0_10 d11 d12 d13 d14 d15).bind fun t276 => (if t276 = 0 then (ipv6_Encode.l0 k (([] : List Int)) l0_10 (l0_10.length : Int) 0 d0 d1 d2 d3 d4 d5 d6 d7 d8 d9 l0_10 d11 d12 d13 d14 d15) else (some ((⟨#[]⟩ : ByteArray), t276)))
theorem ipv6_Encode.mono_l : ∀ k, (∀ y0 y1 y2 y3 y4 y5 y6 y7 y8 y9 y10 y11 y12 y13 y14 y15 y16 y17 y18 y19, LeO (ipv6_Encode.l0 k y0 y1 y2 y3 y4 y5 y6 y7 y8 y9 y10 y11 y12 y13 y14 y15 y16 y17 y18 y19) (ipv6_Encode.l0 (k + 1) y0 y1 y2 y3 y4 y5 y6 y7 y8 y9 y10 y11 y12 y13 y14 y15 y16 y17 y18 y19)) ∧ (∀ y0 y1 y2 y3 y4 y5 y6 y7 y8 y9 y10 y11 y12 y13 y14 y15 y16, LeO (ipv6_Encode.j1 k y0 y1 y2 y3 y4 y5 y6 y7 y8 y9 y10 y11 y12 y13 y14 y15 y16) (ipv6_Encode.j1 (k + 1) y0 y1 y2 y3 y4 y5 y6 y7 y8 y9 y10 y11 y12 y13 y14 y15 y16)) ∧ (∀ y0 y1 y2 y3 y4 y5 y6 y7 y8 y9 y10 y11 y12 y13 y14 y15 y16 y17 y18 y19 y20, LeO (ipv6_Encode.l1 k y0 y1 y2 y3 y4 y5 y6 y7 y8 y9 y10 y11 y12 y13 y14 y15 y16 y17 y18 y19 y20) (ipv6_Encode.l1 (k + 1) y0 y1 y2 y3 y4 y5 y6 y7 y8 y9 y10 y11 y12 y13 y14 y15 y16 y17 y18 y19 y20)) ∧ (∀ y0 y1 y2 y3 y4 y5 y6 y7 y8 y9 y10 y11 y12 y13 y14 y15 y16 y17, LeO (ipv6_Encode.j3 k y0 y1 y2 y3 y4 y5 y6 y7 y8 y9 y10 y11 y12 y13 y14 y15 y16 y17) (ipv6_Encode.j3 (k + 1) y0 y1 y2 y3 y4 y5 y6 y7 y8 y9 y10 y11 y12 y13 y14 y15 y16 y17))
 | 0 => ⟨fun _ _ _ _ _ _ _ _ _ _ _ _ _ _ _ _ _ _ _ _ r h => by simp [ipv6_Encode.l0] at h, fun _ _ _ _ _ _ _ _ _ _ _ _ _ _ _ _ _ r h => by simp [ipv6_Encode.j1] at h, fun _ _ _ _ _ _ _ _ _ _ _ _ _ _ _ _ _ _ _ _ _ r h => by simp [ipv6_Encode.l1] at h, fun _ _ _ _ _ _ _ _ _ _ _ _ _ _ _ _ _ _ r h => by simp [ipv6_Encode.j3] at h⟩
 | k + 1 => by
  obtain ⟨ih0, ih1, ih2, ih3⟩ := ipv6_Encode.mono_l k
  refine ⟨?_, ?_, ?_, ?_⟩
  ·intro y0 y1 y2 y3 y4 y5 y6 y7 y8 y9 y10 y11 y12 y13 y14 y15 y16 y17 y18 y19
   unfold ipv6_Encode.l0
   repeat' first | with_reducible first | apply ih0 | apply ih1 | apply ih2 | apply ih3 | apply address_Bytes.mono | apply ipv6_check.mono | apply ipv6_join.mono | apply LeO.refl | apply LeO.none | refine LeO.ite ?_ ?_ | refine LeO.bind ?_ (fun _ => ?_)
  ·intro y0 y1 y2 y3 y4 y5 y6 y7 y8 y9 y10 y11 y12 y13 y14 y15 y16
   unfold ipv6_Encode.j1
   repeat' first | with_reducible first | apply ih0 | apply ih1 | apply ih2 | apply ih3 | apply address_Bytes.mono | apply ipv6_check.mono | apply ipv6_join.mono | apply LeO.refl | apply LeO.none | refine LeO.ite ?_ ?_ | refine LeO.bind ?_ (fun _ => ?_)
  ·intro y0 y1 y2 y3 y4 y5 y6 y7 y8 y9 y10 y11 y12 y13 y14 y15 y16 y17 y18 y19 y20
   unfold ipv6_Encode.l1
   repeat' first | with_reducible first | apply ih0 | apply ih1 | apply ih2 | apply ih3 | apply address_Bytes.mono | apply ipv6_check.mono | apply ipv6_join.mono | apply LeO.refl | apply LeO.none | refine LeO.ite ?_ ?_ | refine LeO.bind ?_ (fun _ => ?_)
  intro y0 y1 y2 y3 y4 y5 y6 y7 y8 y9 y10 y11 y12 y13 y14 y15 y16 y17
  unfold ipv6_Encode.j3
  repeat' first | with_reducible first | apply ih0 | apply ih1 | apply ih2 | apply ih3 | apply address_Bytes.mono | apply ipv6_check.mono | apply ipv6_join.mono | apply LeO.refl | apply LeO.none | refine LeO.ite ?_ ?_ | refine LeO.bind ?_ (fun _ => ?_)
theorem ipv6_Encode.mono : ∀ a0 a1 a2 a3 a4 a5 a6 a7 a8 a9 a10 a11 a12 a13 a14 a15 k, LeO (ipv6_Encode.f k a0 a1 a2 a3 a4 a5 a6 a7 a8 a9 a10 a11 a12 a13 a14 a15) (ipv6_Encode.f (k + 1) a0 a1 a2 a3 a4 a5 a6 a7 a8 a9 a10 a11 a12 a13 a14 a15) := by
 intro a0 a1 a2 a3 a4 a5 a6 a7 a8 a9 a10 a11 a12 a13 a14 a15 k
 obtain ⟨ih0, ih1, ih2, ih3⟩ := ipv6_Encode.mono_l k
 unfold ipv6_Encode.f
 repeat' first | with_reducible first | apply ih0 | apply ih1 | apply ih2 | apply ih3 | apply address_Bytes.mono | apply ipv6_check.mono | apply ipv6_join.mono | apply LeO.refl | apply LeO.none | refine LeO.ite ?_ ?_ | refine LeO.bind ?_ (fun _ => ?_)
def ipv6_Encode.T17 : Bool × List (List Nat × List Nat) := (true, [([], []), ([], []), ([], []), ([2], [2]), ([1, 3], [1, 3]), ([4], [4]), ([5], [5]), ([], []), ([7], [7]), ([8], [8]), ([9], [9]), ([10], [10]), ([11], [11]), ([6, 12], [6, 12]), ([13], [13]), ([], []), ([15], [15]), ([14, 16], [14, 16]), ([0, 17], [0, 17]), ([18, 14, 0, 1, 2, 3, 4, 5, 6, 7, 8, 9, 10, 11, 12, 13, 14, 15, 16, 17, 18], [0, 18])])
def ipv6_Encode.B17 : List Nat := [0, 0, 0, 4, 14, 30, 62, 0, 128, 384, 896, 1920, 3968, 8190, 16382, 0, 32768, 131070, 262143, 524287]
theorem ipv6_Encode.tab17 : rtab .any (opsOf Tryd.f35 17) = ipv6_Encode.T17 := by kernel_rfl
theorem ipv6_Encode.bits17 : waitsOk ipv6_Encode.T17.2 ipv6_Encode.B17 = true := by kernel_rfl
def ipv6_Encode.T27 : Bool × List (List Nat × List Nat) := (true, [([], []), ([0], [0]), ([1], [1]), ([2], [2]), ([], []), ([4], [4]), ([3, 5], [3, 5]), ([6], [6]), ([], []), ([8], [8]), ([9], [9]), ([], []), ([11], [11]), ([12], [12]), ([13], [13]), ([], []), ([15], [15]), ([16], [16]), ([7, 10, 14, 17], [7, 10, 14, 17]), ([18], [18]), ([19, 19, 0, 1, 2, 3, 4, 5, 6, 7, 8, 9, 10, 11, 12, 13, 14, 15, 16, 17, 18, 19], [19])])
def ipv6_Encode.B27 : List Nat := [0, 1, 3, 7, 0, 16, 63, 127, 0, 256, 768, 0, 2048, 6144, 14336, 0, 32768, 98304, 262143, 524287, 1048575]
theorem ipv6_Encode.tab27 : rtab .any (opsOf Tryd.f35 27) = ipv6_Encode.T27 := by kernel_rfl
theorem ipv6_Encode.bits27 : waitsOk ipv6_Encode.T27.2 ipv6_Encode.B27 = true := by kernel_rfl
def ipv6_Encode.T28 : Bool × List (List Nat × List Nat) := (true, [([], []), ([], []), ([1], [1]), ([2], [2]), ([0, 3], [0, 3]), ([], []), ([5], [5]), ([6, 3], [6]), ([4, 7], [4, 7]), ([], []), ([8, 9], [8, 9]), ([10, 7, 0, 1, 2, 3, 4, 5, 6, 7, 8, 9, 10], [10]), ([11, 0, 1, 2, 3, 4, 5, 6, 7, 8, 9, 10, 11], [])])
def ipv6_Encode.B28 : List Nat := [0, 0, 2, 6, 15, 0, 32, 110, 255, 0, 1023, 2047, 4095]
theorem ipv6_Encode.tab28 : rtab .any (opsOf Tryd.f35 28) = ipv6_Encode.T28 := by kernel_rfl
theorem ipv6_Encode.bits28 : waitsOk ipv6_Encode.T28.2 ipv6_Encode.B28 = true := by kernel_rfl
set_option maxHeartbeats 8000000 in
set_option maxRecDepth 100000 in
theorem ipv6_Encode.calls (k : Nat) (d0 : Int) (d1 : Int) (d2 : Int) (d3 : Int) (d4 : Bool) (d5 : Int) (d6 : Int) (d7 : Bool) (d8 : Int) (d9 : Int) (A0_10 : Option Addr) (c0_10 : Nat) (l0_10 : List (S91)) (d11 : Bool) (d12 : Int) (d13 : Int) (d14 : Bool) (d15 : ByteArray) (r1 : ByteArray) (r2 : Int) (w : World) (hr0_10 : Kd.C k91 w A0_10 l0_10.length l0_10) (hc0_10 : l0_10.length ≤ c0_10) (h : ipv6_Encode.f k d0 d1 d2 d3 d4 d5 d6 d7 d8 d9 l0_10 d11 d12 d13 d14 d15 = some (r1, r2)) :
  Calls Tryd.prog 35 #[.agg #[.int .i64 d0, .int .i64 d1, .int .i64 d2, .int .i64 d3, .bool d4, .int .u64 d5, .int .u64 d6, .bool d7, .int .u64 d8, .int .u64 d9, .slice A0_10 l0_10.length c0_10, .bool d11, .int .i64 d12, .int .i64 d13, .bool d14, .string d15]] w fun e w' => e = .returned (.tuple #[.string r1, .int .i64 r2]) ∧ Below w.heap.size w w' := by
 have hu60 := Tryd.underlying60
 have hu91 := Tryd.underlying91
 have hu93 := Tryd.underlying93
 have hu24 := Tryd.underlying24
 have HR0_10 := As hr0_10
 have HC0_10 := As hc0_10
 clear hr0_10 hc0_10
 have HB := As (Below.refl w.heap.size w)
 have H : ((ipv6_check.f k d0 d1 d2 d3 d4 d5 d6 d7 d8 d9 l0_10 d11 d12 d13 d14 d15).bind fun t276 => (if t276 = 0 then (ipv6_Encode.l0 k (([] : List Int)) l0_10 (l0_10.length : Int) 0 d0 d1 d2 d3 d4 d5 d6 d7 d8 d9 l0_10 d11 d12 d13 d14 d15) else (some ((⟨#[]⟩ : ByteArray), t276)))) = some (r1, r2) := h
 clear h
 replace H := bS H
 obtain ⟨t276, A2, H⟩ := H
 by_cases c3 : t276 = 0
 ·rw [if_pos c3] at H
  have c3b0 : (t276 == 0) = true := beq_iff_eq.mpr c3
  have c3b1 : (t276 != 0) = false := bne_eq_false_iff_eq.mpr c3
  clear c3
  obtain ⟨y277, hy277⟩ : ∃ y_ : List Int, y_ = (([] : List Int)) := ⟨_, rfl⟩
  replace H : (ipv6_Encode.l0 k y277 l0_10 (l0_10.length : Int) 0 d0 d1 d2 d3 d4 d5 d6 d7 d8 d9 l0_10 d11 d12 d13 d14 d15) = some (r1, r2) := by first | (rw [hy277]; with_reducible exact H) | (have H2_ := (Option.bind_some _ _).symm.trans H; rw [hy277]; with_reducible exact H2_) | (have H2_ := (Option.bind_some _ _).symm.trans H; with_reducible exact H2_) | with_reducible exact H | (rw [hy277]; exact H) | exact H
  have Ny277 := As hy277
  clear hy277
  have H' := As H
  clear H
  go_enter Tryd.func35, Tryd.ntmps35
  go_wp2_with (first | ((with_reducible refine gate_dst (N := 1) rfl ?_); refine box_event rfl (N := 1) rfl (cs := #[.int .i64 d0, .int .i64 d1, .int .i64 d2, .int .i64 d3, .bool d4, .int .u64 d5, .int .u64 d6, .bool d7, .int .u64 d8, .int .u64 d9, .slice A0_10 l0_10.length c0_10, .bool d11, .int .i64 d12, .int .i64 d13, .bool d14, .string d15]) (t := 60) kG ?_; intro gb275 hg w4 hbox hb; have BK275 := As (hbox); have GW275 := As (gS hg (below_size (kB HB.out))); have GE275 := As (gS hg (below_size (kB HB.out))); replace HB := As (below_step (kB HB.out) hb); clear hb hbox hg) | ((with_reducible refine gate_dst (N := 13) rfl ?_); (try (refine gate_guard (by rfl) ?_; dsimp only)); refine wpList_load_row ?hgd 60 _ rfl gb275 rfl 60 #[.int .i64 d0, .int .i64 d1, .int .i64 d2, .int .i64 d3, .bool d4, .int .u64 d5, .int .u64 d6, .bool d7, .int .u64 d8, .int .u64 d9, .slice A0_10 l0_10.length c0_10, .bool d11, .int .i64 d12, .int .i64 d13, .bool d14, .string d15] (0, 0) _ (kb BK275.out) Tryd.underlying60 rfl (by kernel_rfl) ?_; (case hgd => rfl)) | ((with_reducible refine gate_callee (f := 59) rfl ?_); refine goesL_ (some 14) rfl rfl Tryd.func59 (by kernel_rfl) rfl #[.agg #[.int .i64 d0, .int .i64 d1, .int .i64 d2, .int .i64 d3, .bool d4, .int .u64 d5, .int .u64 d6, .bool d7, .int .u64 d8, .int .u64 d9, .slice A0_10 l0_10.length c0_10, .bool d11, .int .i64 d12, .int .i64 d13, .bool d14, .string d15]] rfl kA ?_; (with_reducible refine (ipv6_check.calls k d0 d1 d2 d3 d4 d5 d6 d7 d8 d9 _ _ l0_10 d11 d12 d13 d14 d15 t276 _ ?side1 ?side2 A2.out).mono ?_); (case side1 => repeat (first | exact (Kd.C_below HR0_10.out HB.out) | (with_reducible refine Kd.C_alloc ?_ _) | (with_reducible refine Kd.C_drewN ?_ _) | (with_reducible refine Kd.C_drew ?_))); (case side2 => exact HC0_10.out); rintro e w5 ⟨rfl, hb⟩; refine ⟨_, rfl, ?_⟩; replace BK275 := As (blk_below (kb BK275.out) hb); replace HB := As (below_step (kB1 HB.out GE275.out) hb); (try clear hb)) | ((with_reducible refine gate_dst (N := 18) rfl ?_); refine Kd.R_lit (Kd.int .i64) _ 3 rfl (N := 18) rfl (xs := ([] : List Int)) (inner := []) (ok := fun _ => True) (okp := fun _ => True) kG ?hp (fun _ hk => hk) trivial (Below.refl _ _) (Nat.le_refl _) (by simp) ?_; (case hp => exact (Reps.none _ _)); intro v278 w6 ho7 hb hg_ hnew_; clear hg_ hnew_; (first | rw [← Ny277.out] at ho7 | (simp only [Int.reduceToNat] at ho7; rw [← Ny277.out] at ho7)); have HO279 := As (Kd.R_lower ho7 (below_size (kB1 HB.out GE275.out))); replace BK275 := As (blk_below (kb BK275.out) hb); replace HB := As (below_step (kB1 HB.out GE275.out) hb); clear hb ho7; have hcz8_0 := cells_16 BK275.out; have hfz8_0 := fun j_ => blk_frozen BK275.out j_))
  go_loopg [5, 22] k (fun kq v5 v22 w' => ∃ (x5_1 : List Int) (x22_1 : Int), v22 = .int .i64 x22_1 ∧ Aside0 (ipv6_Encode.l0 kq x5_1 l0_10 (l0_10.length : Int) x22_1 d0 d1 d2 d3 d4 d5 d6 d7 d8 d9 l0_10 d11 d12 d13 d14 d15 = some (r1, r2)) ∧ Aside0 (kq ≤ k) ∧ Aside0 (Kd.R (Kd.int .i64) 3 w' w.heap.size (fun _ => True) v5 x5_1) ∧ Aside0 (w'.heap[gb275]? = some (.cells #[.int .i64 d0, .int .i64 d1, .int .i64 d2, .int .i64 d3, .bool d4, .int .u64 d5, .int .u64 d6, .bool d7, .int .u64 d8, .int .u64 d9, (.slice A0_10 l0_10.length c0_10), .bool d11, .int .i64 d12, .int .i64 d13, .bool d14, .string d15] 60 (0, 0))) ∧ Aside0 (Below w.heap.size w w'))
  case atStart => exact ⟨(y277), (0), kS, H', ⟨Nat.le_refl _⟩, ⟨by (with_reducible repeat (first | apply Kd.R_alloc | apply Kd.R_drewN | apply Kd.R_drew)); exact HO279.out⟩, ⟨kb BK275.out⟩, ⟨kB1 HB.out GE275.out⟩⟩
  clear H'
  try clear c3
  try clear c3b0
  try clear c3b1
  try clear hcz8_0
  try clear hfz8_0
  obtain ⟨x5_1, x22_1, rfl, HA, HK1, HO_5, BK275, HB⟩ := hrel
  cases gk with
  | zero => exact absurd HA.out (by simp [ipv6_Encode.l0])
  | succ k1 =>
   have H := HA.out
   clear HA
   simp only [ipv6_Encode.l0] at H
   by_cases c9 : x22_1 < (l0_10.length : Int)
   ·rw [if_pos c9] at H
    have c9b0 : decide (x22_1 < (l0_10.length : Int)) = true := decide_eq_true c9
    clear c9
    replace H := iS H
    obtain ⟨c10, H⟩ := H
    have c10b0 := decide_eq_true c10
    clear c10
    replace H := iS H
    obtain ⟨c11, H⟩ := H
    have c11b0 := decide_eq_true c11
    clear c11
    replace H := iS H
    obtain ⟨c12, H⟩ := H
    have LMc12 := As c12
    clear c12
    obtain ⟨y282, hy282⟩ : ∃ y_ : List Int, y_ = (x5_1 ++ [(rd_T91 l0_10 x22_1).f0]) := ⟨_, rfl⟩
    replace H : (ipv6_Encode.l0 k1 y282 l0_10 (l0_10.length : Int) (wrap64 (x22_1 + 1)) d0 d1 d2 d3 d4 d5 d6 d7 d8 d9 l0_10 d11 d12 d13 d14 d15) = some (r1, r2) := by first | (rw [hy282]; with_reducible exact H) | (have H2_ := (Option.bind_some _ _).symm.trans H; rw [hy282]; with_reducible exact H2_) | (have H2_ := (Option.bind_some _ _).symm.trans H; with_reducible exact H2_) | with_reducible exact H | (rw [hy282]; exact H) | exact H
    have Ny282 := As hy282
    clear hy282
    have H' := As H
    clear H
    have p280 : 0 ≤ (x22_1 : Int) := of_decide_eq_true (by first | (with_reducible assumption) | assumption)
    have q280 : x22_1 < (l0_10.length : Int) := of_decide_eq_true (by first | (with_reducible assumption) | assumption)
    obtain ⟨ad280, e280, hx280_0, hx280_1⟩ := at_T91 HR0_10.out x22_1 p280 q280
    cases e280
    replace hx280_0 := hcell HB.out hx280_0
    replace hx280_1 := hcell HB.out hx280_1
    replace p280 := eq_true p280
    replace q280 := eq_true q280
    go_wp2_with (first | ((with_reducible refine gate_dst (N := 7) rfl ?_); refine box_event rfl (N := 7) rfl (cs := #[.int .i64 0, .string (⟨#[]⟩ : ByteArray)]) (t := 91) kG ?_; intro gb281 hg w13 hbox hb; replace HO_5 := As (Kd.R_below (kR HO_5.out) hb); have BK281 := As (hbox); have GW281 := As (gS hg (below_size (kB1 HB.out GE275.out))); have GE281 := As (gS hg (below_size (kB1 HB.out GE275.out))); replace HB := As (below_step (kB1 HB.out GE275.out) hb); have NB275_281 := As (gN hg (blk_lt (kb BK275.out))); have NB281_275 := As (gM hg (blk_lt (kb BK275.out))); replace BK275 := As (blk_below (kb BK275.out) hb); clear hb hbox hg; have hnb14 := NB281_275.out; have hnc14 := NB275_281.out; have hcz15_0 := cells_2 BK281.out; have hfz15_0 := fun j_ => blk_frozen BK281.out j_) | ((with_reducible refine gate_builtin (b := .append) (xs := #[.tmp 26, .tmp 29]) rfl ?_); at_builtin; refine Kd.R_append (Kd.int .i64) (w0 := w) w.heap.size rfl (.tmp 26) (.tmp 29) 78 3 (.int .i64 0) 8 rfl Tryd.underlying78 info3 rfl (by decide) (by omega) u5 x5_1 ((rd_T91 l0_10 x22_1).f0) [.int .i64 ((rd_T91 l0_10 x22_1).f0)] (fun _ => True) (fun _ => False) rfl (by first | (go_simp; done) | (go_simp; rfl)) ?aP (fun _ hk => hk.elim) ?aF ?aO ?aB ?aS ?aL ?_; (case aP => exact rfl); (case aB => exact (kB2 HB.out GE275.out GE281.out)); (case aF => exact (fun _ _ => trivial)); (case aO => exact (by (with_reducible repeat (first | apply Kd.R_alloc | apply Kd.R_drewN | apply Kd.R_drew)); exact Kd.R_mono (Kd.R_far (p := ⟨gb281, 1, none⟩) (Kd.R_far (p := ⟨gb281, 0, none⟩) (Kd.R_types HO_5.out BK281.out (by decide)) (fun _ hk => hk.2) (.int .i64 ((rd_T91 l0_10 x22_1).f0))) (fun _ hk => hk.2) (.string ((rd_T91 l0_10 x22_1).f1))) (fun _ hk => trivial))); (case aS => exact (below_size (kB2 HB.out GE275.out GE281.out))); (case aL => have := LMc12.out; omega); intro v283 w16 ho hb hg hat; rw [← Ny282.out] at ho; replace BK275 := As (blk_grown (g := gb275) (o := .cells #[.int .i64 d0, .int .i64 d1, .int .i64 d2, .int .i64 d3, .bool d4, .int .u64 d5, .int .u64 d6, .bool d7, .int .u64 d8, .int .u64 d9, .slice (some ad280) l0_10.length c0_10, .bool d11, .int .i64 d12, .int .i64 d13, .bool d14, .string d15] 60 (0, 0)) (by refine kb ?_; refine blk_far ?_ NB275_281.out _; refine kb ?_; refine blk_far ?_ NB275_281.out _; exact kb BK275.out) hg (Kd.R_ne HO_5.out BK275.out (by decide))); replace BK281 := As (blk_grown (g := gb281) (o := .cells #[.int .i64 ((rd_T91 l0_10 x22_1).f0), .string ((rd_T91 l0_10 x22_1).f1)] 91 (0, 0)) (by refine kb ?_; refine blk_put (cs := #[.int .i64 ((rd_T91 l0_10 x22_1).f0), .string (⟨#[]⟩ : ByteArray)]) ?_ 1 _ rfl; refine kb ?_; refine blk_put (cs := #[.int .i64 0, .string (⟨#[]⟩ : ByteArray)]) ?_ 0 _ rfl; exact kb BK281.out) hg (Kd.R_ne HO_5.out BK281.out (by decide))); replace HB := As (hb); have HO284 := As (ho); clear HO_5; clear ho hb hg hat))
    go_roundg k1
    case measure => have := HK1.out; omega
    case rel => exact ⟨(y282), (wrap64 (x22_1 + 1)), kS, H', ⟨by have := HK1.out; omega⟩, ⟨by (with_reducible repeat (first | apply Kd.R_alloc | apply Kd.R_drewN | apply Kd.R_drew)); exact HO284.out⟩, ⟨kb BK275.out⟩, ⟨kB2 HB.out GE275.out GE281.out⟩⟩
   rw [if_neg c9] at H
   have c9b0 : decide (x22_1 < (l0_10.length : Int)) = false := decide_eq_false c9
   clear c9
   have HC17 := As H
   clear H
   have hcz18_0 := cells_16 BK275.out
   have hfz18_0 := fun j_ => blk_frozen BK275.out j_
   go_upto_if 33 with (fail)
   go_cut [5] (fun v5 wc => ∃ (kq : Nat) (x5_16 : List Int), Aside0 (ipv6_Encode.j1 kq x5_16 d0 d1 d2 d3 d4 d5 d6 d7 d8 d9 l0_10 d11 d12 d13 d14 d15 = some (r1, r2)) ∧ Aside0 (kq ≤ k1) ∧ Aside0 (Kd.R (Kd.int .i64) 3 wc w.heap.size (fun _ => True) v5 x5_16) ∧ Aside0 (wc.heap[gb275]? = some (.cells #[.int .i64 d0, .int .i64 d1, .int .i64 d2, .int .i64 d3, .bool d4, .int .u64 d5, .int .u64 d6, .bool d7, .int .u64 d8, .int .u64 d9, (.slice A0_10 l0_10.length c0_10), .bool d11, .int .i64 d12, .int .i64 d13, .bool d14, .string d15] 60 (0, 0))) ∧ Aside0 (Below w.heap.size w wc))
   case first =>
    have H := HC17.out
    clear HC17
    by_cases c19 : d11 = true
    ·subst c19
     rw [if_pos rfl] at H
     replace H := iS H
     obtain ⟨c20, H⟩ := H
     have LMc20 := As c20
     clear c20
     obtain ⟨y285, hy285⟩ : ∃ y_ : List Int, y_ = (x5_1 ++ [44]) := ⟨_, rfl⟩
     replace H : (ipv6_Encode.j1 k1 y285 d0 d1 d2 d3 d4 d5 d6 d7 d8 d9 l0_10 true d12 d13 d14 d15) = some (r1, r2) := by first | (rw [hy285]; with_reducible exact H) | (have H2_ := (Option.bind_some _ _).symm.trans H; rw [hy285]; with_reducible exact H2_) | (have H2_ := (Option.bind_some _ _).symm.trans H; with_reducible exact H2_) | with_reducible exact H | (rw [hy285]; exact H) | exact H
     have Ny285 := As hy285
     clear hy285
     have H' := As H
     clear H
     go_wp2_with (first | ((with_reducible refine gate_builtin (b := .append) (xs := #[.tmp 34, .tmp 35]) rfl ?_); at_builtin; refine Kd.R_append (Kd.int .i64) (w0 := w) w.heap.size rfl (.tmp 34) (.tmp 35) 78 3 (.int .i64 0) 8 rfl Tryd.underlying78 info3 rfl (by decide) (by omega) u5 x5_1 44 [.int .i64 44] (fun _ => True) (fun _ => False) rfl rfl ?aP (fun _ hk => hk.elim) ?aF ?aO ?aB ?aS ?aL ?_; (case aP => exact rfl); (case aB => exact (kB1 HB.out GE275.out)); (case aF => exact (fun _ _ => trivial)); (case aO => exact (kR HO_5.out)); (case aS => exact (below_size (kB1 HB.out GE275.out))); (case aL => have := LMc20.out; omega); intro v286 w21 ho hb hg hat; rw [← Ny285.out] at ho; replace BK275 := As (blk_grown (kb BK275.out) hg (Kd.R_ne HO_5.out BK275.out (by decide))); replace HB := As (hb); have HO287 := As (ho); clear HO_5; clear ho hb hg hat))
     go_meet
     case rel => exact ⟨_, (y285), H', ⟨by have := HK1.out; first | omega | exact Nat.le_refl _⟩, ⟨by (with_reducible repeat (first | apply Kd.R_alloc | apply Kd.R_drewN | apply Kd.R_drew)); exact HO287.out⟩, ⟨kb BK275.out⟩, ⟨kB1 HB.out GE275.out⟩⟩
    replace c19 := Bool.eq_false_iff.mpr c19
    subst c19
    rw [if_neg (show ¬ (false = true) by decide)] at H
    have H' := As H
    clear H
    go_wp2
    go_meet
    case rel => exact ⟨_, (x5_1), H', ⟨by have := HK1.out; first | omega | exact Nat.le_refl _⟩, ⟨by (with_reducible repeat (first | apply Kd.R_alloc | apply Kd.R_drewN | apply Kd.R_drew)); exact HO_5.out⟩, ⟨kb BK275.out⟩, ⟨kB1 HB.out GE275.out⟩⟩
   clear HC17
   try clear c9
   try clear c9b0
   try clear hcz18_0
   try clear hfz18_0
   obtain ⟨kq, x5_16, HA, HJ16, HO_5, BK275, HB⟩ := hcut
   cases kq with
   | zero => exact absurd HA.out (by simp [ipv6_Encode.j1])
   | succ kj16 =>
    have H := HA.out
    clear HA
    simp only [ipv6_Encode.j1] at H
    replace H := iS H
    obtain ⟨c22, H⟩ := H
    have LMc22 := As c22
    clear c22
    obtain ⟨y288, hy288⟩ : ∃ y_ : List Int, y_ = (x5_16 ++ [d3]) := ⟨_, rfl⟩
    replace H : (ipv6_Encode.l1 kj16 y288 (⟨#[]⟩ : ByteArray) l0_10 (l0_10.length : Int) 0 d0 d1 d2 d3 d4 d5 d6 d7 d8 d9 l0_10 d11 d12 d13 d14 d15) = some (r1, r2) := by first | (rw [hy288]; with_reducible exact H) | (have H2_ := (Option.bind_some _ _).symm.trans H; rw [hy288]; with_reducible exact H2_) | (have H2_ := (Option.bind_some _ _).symm.trans H; with_reducible exact H2_) | with_reducible exact H | (rw [hy288]; exact H) | exact H
    have Ny288 := As hy288
    clear hy288
    have H' := As H
    clear H
    have hcz23_0 := cells_16 BK275.out
    have hfz23_0 := fun j_ => blk_frozen BK275.out j_
    go_wp2_with (first | ((with_reducible refine gate_builtin (b := .append) (xs := #[.tmp 37, .tmp 40]) rfl ?_); at_builtin; refine Kd.R_append (Kd.int .i64) (w0 := w) w.heap.size rfl (.tmp 37) (.tmp 40) 78 3 (.int .i64 0) 8 rfl Tryd.underlying78 info3 rfl (by decide) (by omega) u5 x5_16 d3 [.int .i64 d3] (fun _ => True) (fun _ => False) rfl rfl ?aP (fun _ hk => hk.elim) ?aF ?aO ?aB ?aS ?aL ?_; (case aP => exact rfl); (case aB => exact (kB1 HB.out GE275.out)); (case aF => exact (fun _ _ => trivial)); (case aO => exact (kR HO_5.out)); (case aS => exact (below_size (kB1 HB.out GE275.out))); (case aL => have := LMc22.out; omega); intro v289 w24 ho hb hg hat; rw [← Ny288.out] at ho; replace BK275 := As (blk_grown (kb BK275.out) hg (Kd.R_ne HO_5.out BK275.out (by decide))); replace HB := As (hb); have HO290 := As (ho); clear HO_5; clear ho hb hg hat; have hcz25_0 := cells_16 BK275.out; have hfz25_0 := fun j_ => blk_frozen BK275.out j_))
    go_loopg [8, 45] kj16 (fun kq v8 v45 w' => ∃ (x8_3 : ByteArray) (x45_3 : Int), v8 = .string x8_3 ∧ v45 = .int .i64 x45_3 ∧ Aside0 (ipv6_Encode.l1 kq y288 x8_3 l0_10 (l0_10.length : Int) x45_3 d0 d1 d2 d3 d4 d5 d6 d7 d8 d9 l0_10 d11 d12 d13 d14 d15 = some (r1, r2)) ∧ Aside0 (kq ≤ kj16) ∧ Aside0 (Kd.R (Kd.int .i64) 3 w' w.heap.size (fun _ => True) v289 y288) ∧ Aside0 (w'.heap[gb275]? = some (.cells #[.int .i64 d0, .int .i64 d1, .int .i64 d2, .int .i64 d3, .bool d4, .int .u64 d5, .int .u64 d6, .bool d7, .int .u64 d8, .int .u64 d9, (.slice A0_10 l0_10.length c0_10), .bool d11, .int .i64 d12, .int .i64 d13, .bool d14, .string d15] 60 (0, 0))) ∧ Aside0 (Below w.heap.size w w'))
    case atStart => exact ⟨((⟨#[]⟩ : ByteArray)), (0), kS, kS, H', ⟨Nat.le_refl _⟩, ⟨by (with_reducible repeat (first | apply Kd.R_alloc | apply Kd.R_drewN | apply Kd.R_drew)); exact HO290.out⟩, ⟨kb BK275.out⟩, ⟨kB1 HB.out GE275.out⟩⟩
    clear H'
    try clear c22
    try clear hcz23_0
    try clear hcz25_0
    try clear hfz23_0
    try clear hfz25_0
    obtain ⟨x8_3, x45_3, rfl, rfl, HA, HK3, HO_5, BK275, HB⟩ := hrel
    cases gk with
    | zero => exact absurd HA.out (by simp [ipv6_Encode.l1])
    | succ k3 =>
     have H := HA.out
     clear HA
     simp only [ipv6_Encode.l1] at H
     by_cases c26 : x45_3 < (l0_10.length : Int)
     ·rw [if_pos c26] at H
      have c26b0 : decide (x45_3 < (l0_10.length : Int)) = true := decide_eq_true c26
      clear c26
      replace H := iS H
      obtain ⟨c27, H⟩ := H
      have c27b0 := decide_eq_true c27
      clear c27
      replace H := iS H
      obtain ⟨c28, H⟩ := H
      have c28b0 := decide_eq_true c28
      clear c28
      obtain ⟨ji29, hji29⟩ : ∃ j_ : Int, (wrap64 (x45_3 + 1)) = j_ := ⟨_, rfl⟩
      replace H : (if 0 ≤ (ji29) then (if (ji29) < (y288.length : Int) then ((ipv6_join.f k3 (([(⟨rd y288 (ji29), 1⟩ : S93), (⟨wrap64 (Int.tdiv (wrap64 ((((rd_T91 l0_10 x45_3).f1).size : Int) - 6)) 8), 1⟩ : S93)] : List (S93)))).bind fun t297 => (if t297.size + ((rd_T91 l0_10 x45_3).f1).size ≤ 9223372036854775807 then (if x8_3.size + (t297 ++ ((rd_T91 l0_10 x45_3).f1)).size ≤ 9223372036854775807 then (ipv6_Encode.l1 k3 y288 (x8_3 ++ (t297 ++ ((rd_T91 l0_10 x45_3).f1))) l0_10 (l0_10.length : Int) ji29 d0 d1 d2 d3 d4 d5 d6 d7 d8 d9 l0_10 d11 d12 d13 d14 d15) else (none)) else (none))) else (none)) else (none)) = some (r1, r2) := by first | (rw [hji29] at H; exact H) | (simp only [hji29] at H ⊢; exact H)
      have hji29w : (IntKind.i64.wrap (x45_3 + 1)) = ji29 := (i64_w _).trans hji29
      replace H := iS H
      obtain ⟨c30, H⟩ := H
      have c30b0 := decide_eq_true c30
      clear c30
      replace H := iS H
      obtain ⟨c31, H⟩ := H
      have c31b0 := decide_eq_true c31
      clear c31
      obtain ⟨y294, hy294⟩ : ∃ y_ : List (S93), y_ = (([(⟨rd y288 (ji29), 1⟩ : S93), (⟨wrap64 (Int.tdiv (wrap64 ((((rd_T91 l0_10 x45_3).f1).size : Int) - 6)) 8), 1⟩ : S93)] : List (S93))) := ⟨_, rfl⟩
      replace H : ((ipv6_join.f k3 y294).bind fun t297 => (if t297.size + ((rd_T91 l0_10 x45_3).f1).size ≤ 9223372036854775807 then (if x8_3.size + (t297 ++ ((rd_T91 l0_10 x45_3).f1)).size ≤ 9223372036854775807 then (ipv6_Encode.l1 k3 y288 (x8_3 ++ (t297 ++ ((rd_T91 l0_10 x45_3).f1))) l0_10 (l0_10.length : Int) ji29 d0 d1 d2 d3 d4 d5 d6 d7 d8 d9 l0_10 d11 d12 d13 d14 d15) else (none)) else (none))) = some (r1, r2) := by first | (rw [hy294]; with_reducible exact H) | (have H2_ := (Option.bind_some _ _).symm.trans H; rw [hy294]; with_reducible exact H2_) | (have H2_ := (Option.bind_some _ _).symm.trans H; with_reducible exact H2_) | with_reducible exact H | (rw [hy294]; exact H) | exact H
      have Ny294 := As hy294
      clear hy294
      replace H := bS H
      obtain ⟨t297, A32, H⟩ := H
      replace H := iS H
      obtain ⟨c33, H⟩ := H
      have c33b0 := eq_true c33
      have c33b1 := decide_eq_true c33
      try have c33b2 := eq_false (Nat.not_lt.2 c33)
      replace H := iS H
      obtain ⟨c34, H⟩ := H
      have c34b0 := eq_true c34
      have c34b1 := decide_eq_true c34
      try obtain ⟨c34s0, c34s1, c34s2⟩ := sz_ (a := x8_3.size + (t297.size + ((rd_T91 l0_10 x45_3).f1).size)) c34
      try have c34b2 := eq_false (Nat.not_lt.2 c34)
      have H' := As H
      clear H
      have p291 : 0 ≤ (x45_3 : Int) := of_decide_eq_true (by first | (with_reducible assumption) | assumption)
      have q291 : x45_3 < (l0_10.length : Int) := of_decide_eq_true (by first | (with_reducible assumption) | assumption)
      obtain ⟨ad291, e291, hx291_0, hx291_1⟩ := at_T91 HR0_10.out x45_3 p291 q291
      cases e291
      replace hx291_0 := hcell HB.out hx291_0
      replace hx291_1 := hcell HB.out hx291_1
      replace p291 := eq_true p291
      replace q291 := eq_true q291
      try go_wp2_with (first | ((with_reducible refine gate_dst (N := 10) rfl ?_); refine box_event rfl (N := 10) rfl (cs := #[.int .i64 0, .string (⟨#[]⟩ : ByteArray)]) (t := 91) kG ?_; intro gb292 hg w35 hbox hb; replace HO_5 := As (Kd.R_below (kR HO_5.out) hb); have BK292 := As (hbox); have GW292 := As (gS hg (below_size (kB1 HB.out GE275.out))); have GE292 := As (gS hg (below_size (kB1 HB.out GE275.out))); replace HB := As (below_step (kB1 HB.out GE275.out) hb); have NB275_292 := As (gN hg (blk_lt (kb BK275.out))); have NB292_275 := As (gM hg (blk_lt (kb BK275.out))); replace BK275 := As (blk_below (kb BK275.out) hb); clear hb hbox hg; have hnb36 := NB292_275.out; have hnc36 := NB275_292.out; have hcz37_0 := cells_2 BK292.out; have hfz37_0 := fun j_ => blk_frozen BK292.out j_))
      have n0_ : Aside0 (Kd.R (Kd.int .i64) 3 ((w35.setCell ⟨gb292, 0, none⟩ (.int .i64 ((rd_T91 l0_10 x45_3).f0))).setCell ⟨gb292, 1, none⟩ (.string ((rd_T91 l0_10 x45_3).f1))) w.heap.size (fun _ => True) v289 y288) := ⟨by (with_reducible repeat (first | apply Kd.R_alloc | apply Kd.R_drewN | apply Kd.R_drew)); exact Kd.R_mono (Kd.R_far (p := ⟨gb292, 1, none⟩) (Kd.R_far (p := ⟨gb292, 0, none⟩) (Kd.R_types HO_5.out BK292.out (by decide)) (fun _ hk => hk.2) (.int .i64 ((rd_T91 l0_10 x45_3).f0))) (fun _ hk => hk.2) (.string ((rd_T91 l0_10 x45_3).f1))) (fun _ hk => trivial)⟩
      have n1_ : Aside0 (((w35.setCell ⟨gb292, 0, none⟩ (.int .i64 ((rd_T91 l0_10 x45_3).f0))).setCell ⟨gb292, 1, none⟩ (.string ((rd_T91 l0_10 x45_3).f1))).heap[gb275]? = some (.cells #[.int .i64 d0, .int .i64 d1, .int .i64 d2, .int .i64 d3, .bool d4, .int .u64 d5, .int .u64 d6, .bool d7, .int .u64 d8, .int .u64 d9, .slice (some ad291) l0_10.length c0_10, .bool d11, .int .i64 d12, .int .i64 d13, .bool d14, .string d15] 60 (0, 0))) := ⟨by refine kb ?_; refine blk_far ?_ NB275_292.out _; refine kb ?_; refine blk_far ?_ NB275_292.out _; exact kb BK275.out⟩
      have n2_ : Aside0 (((w35.setCell ⟨gb292, 0, none⟩ (.int .i64 ((rd_T91 l0_10 x45_3).f0))).setCell ⟨gb292, 1, none⟩ (.string ((rd_T91 l0_10 x45_3).f1))).heap[gb292]? = some (.cells #[.int .i64 ((rd_T91 l0_10 x45_3).f0), .string ((rd_T91 l0_10 x45_3).f1)] 91 (0, 0))) := ⟨by refine kb ?_; refine blk_put (cs := #[.int .i64 ((rd_T91 l0_10 x45_3).f0), .string (⟨#[]⟩ : ByteArray)]) ?_ 1 _ rfl; refine kb ?_; refine blk_put (cs := #[.int .i64 0, .string (⟨#[]⟩ : ByteArray)]) ?_ 0 _ rfl; exact kb BK292.out⟩
      have n3_ : Aside0 (Below w.heap.size w ((w35.setCell ⟨gb292, 0, none⟩ (.int .i64 ((rd_T91 l0_10 x45_3).f0))).setCell ⟨gb292, 1, none⟩ (.string ((rd_T91 l0_10 x45_3).f1)))) := ⟨kB2 HB.out GE275.out GE292.out⟩
      (try clear HO_5)
      (try clear BK275)
      (try clear BK292)
      (try clear HB)
      generalize ((w35.setCell ⟨gb292, 0, none⟩ (.int .i64 ((rd_T91 l0_10 x45_3).f0))).setCell ⟨gb292, 1, none⟩ (.string ((rd_T91 l0_10 x45_3).f1))) = w38 at n0_ n1_ n2_ n3_ ⊢
      have HO_5 := n0_
      have BK275 := n1_
      have BK292 := n2_
      have HB := n3_
      clear n0_ n1_ n2_ n3_
      replace HO_5 := As (Kd.R_drew HO_5.out)
      replace BK275 := As (blk_drew BK275.out)
      replace BK292 := As (blk_drew BK292.out)
      replace HB := As (below_drew1 HB.out)
      obtain ⟨Ao40, co40, eo40⟩ := Kd.R_slice HO_5.out
      (first | subst eo40 | (injection eo40 with f1_ f2_ f3_; have f4_ := f1_.symm; have f5_ := f3_.symm; clear f1_ f2_ f3_; subst f4_; subst f5_))
      have p293 : 0 ≤ ((ji29) : Int) := of_decide_eq_true (by first | (with_reducible assumption) | assumption)
      have q293 : (ji29) < (y288.length : Int) := of_decide_eq_true (by first | (with_reducible assumption) | assumption)
      obtain ⟨ad293, e293, hx293_0⟩ := Kd.at_int (Kd.R_reads' HO_5.out).2.2 (ji29) p293 q293
      cases e293
      replace p293 := eq_true p293
      replace q293 := eq_true q293
      refine start_ (n := 20) (S := fun w' => w'.cell? ⟨gb292, 0, none⟩ = some (.int .i64 ((rd_T91 l0_10 x45_3).f0)) ∧ w'.cell? ⟨gb292, 1, none⟩ = some (.string ((rd_T91 l0_10 x45_3).f1)) ∧ w'.cell? (ad293.add ((ji29)).toNat) = some (.int .i64 (rd y288 (ji29)))) (ds := []) #[O, O, O, O, O, O, O, O, O, O, O, O, O, O, O, O, O, O, O, O] (by kernel_rfl) rfl rfl ⟨kC BK292.out 0, kC BK292.out 1, hx293_0⟩ (fun hHeld => ?_); refine with_tabW ipv6_Encode.tab17 ipv6_Encode.bits17 (fun HT_ HW_ => ?_)
      generalize w38.drew = w39 at HO_5 BK275 BK292 HB hx293_0 hHeld ⊢
      refine kP 0 50 #[I, O, O, O, O, O, O, O, O, O, O, O, O, O, O, O, O, O, O, O] ?_ (any_of HT_.out (by kernel_rfl))
      refine kP 1 51 #[I, I, O, O, O, O, O, O, O, O, O, O, O, O, O, O, O, O, O, O] ?_ (any_of HT_.out (by kernel_rfl))
      refine kP 2 52 #[I, I, I, O, O, O, O, O, O, O, O, O, O, O, O, O, O, O, O, O] ?_ (any_of HT_.out (by kernel_rfl))
      refine kP 3 53 #[I, I, I, I, O, O, O, O, O, O, O, O, O, O, O, O, O, O, O, O] ?_ (any_of HT_.out (by kernel_rfl))
      refine kP 4 54 #[I, I, I, I, I, O, O, O, O, O, O, O, O, O, O, O, O, O, O, O] ?_ (any_of HT_.out (by kernel_rfl))
      refine kP 7 57 #[I, I, I, I, I, O, O, I, O, O, O, O, O, O, O, O, O, O, O, O] ?_ (any_of HT_.out (by kernel_rfl))
      refine kP 15 65 #[I, I, I, I, I, O, O, I, O, O, O, O, O, O, O, I, O, O, O, O] ?_ (any_of HT_.out (by kernel_rfl))
      refine take_ (i := 5) (N := some 55) (v := ?_) (a' := ?_) #[I, I, I, I, I, I, O, I, O, O, O, O, O, O, O, I, O, O, O, O] rfl rfl (take_ofW HT_.out HW_.out (by kernel_rfl)) (fun _ _ _ h => h) (Or.inl ⟨by rfl, ?_⟩) hHeld ?_ ?_
      rotate_left
      ·rintro w' ⟨s0, s1, s2⟩
       go_simp
       with_reducible rfl
      rotate_left
      ·simp only [Act.put, sA, sZ, sS, i64_w, i32_w]
       rfl
      refine kP 6 56 #[I, I, I, I, I, I, I, I, O, O, O, O, O, O, O, I, O, O, O, O] ?_ (any_of HT_.out (by kernel_rfl))
      refine take_ (i := 8) (N := some 58) (v := ?_) (a' := ?_) #[I, I, I, I, I, I, I, I, I, O, O, O, O, O, O, I, O, O, O, O] rfl rfl (take_ofW HT_.out HW_.out (by kernel_rfl)) (fun _ _ _ h => h) (Or.inl ⟨by rfl, ?_⟩) hHeld ?_ ?_
      rotate_left
      ·rintro w' ⟨s0, s1, s2⟩
       go_simp
       with_reducible rfl
      rotate_left
      ·simp only [Act.put, sA, sZ, sS, i64_w, i32_w]
       rfl
      refine kP 9 59 #[I, I, I, I, I, I, I, I, I, I, O, O, O, O, O, I, O, O, O, O] ?_ (any_of HT_.out (by kernel_rfl))
      refine kP 10 60 #[I, I, I, I, I, I, I, I, I, I, I, O, O, O, O, I, O, O, O, O] ?_ (any_of HT_.out (by kernel_rfl))
      refine kP 11 61 #[I, I, I, I, I, I, I, I, I, I, I, I, O, O, O, I, O, O, O, O] ?_ (any_of HT_.out (by kernel_rfl))
      refine kP 12 62 #[I, I, I, I, I, I, I, I, I, I, I, I, I, O, O, I, O, O, O, O] ?_ (any_of HT_.out (by kernel_rfl))
      refine take_ (i := 16) (N := some 66) (v := ?_) (a' := ?_) #[I, I, I, I, I, I, I, I, I, I, I, I, I, O, O, I, I, O, O, O] rfl rfl (take_ofW HT_.out HW_.out (by kernel_rfl)) (fun _ _ _ h => h) (Or.inl ⟨by rfl, ?_⟩) hHeld ?_ ?_
      rotate_left
      ·rintro w' ⟨s0, s1, s2⟩
       go_simp
       with_reducible rfl
      rotate_left
      ·simp only [Act.put, sA, sZ, sS, i64_w, i32_w]
       rfl
      refine one_ (i := 13) (N := some 63) #[I, I, I, I, I, I, I, I, I, I, I, I, I, I, O, I, I, O, O, O] rfl rfl (one_of HT_.out (by kernel_rfl)) (by decide) (fun K hK => ?_)
      refine Kd.R_lit_step k93 _ 93 rfl (N := 63) rfl (xs := ([(⟨rd y288 (ji29), 1⟩ : S93), (⟨wrap64 (Int.tdiv (wrap64 ((((rd_T91 l0_10 x45_3).f1).size : Int) - 6)) 8), 1⟩ : S93)] : List (S93))) (inner := [.int .i64 (rd y288 (ji29)), .int .i64 1, .int .i64 (wrap64 (Int.tdiv (wrap64 ((((rd_T91 l0_10 x45_3).f1).size : Int) - 6)) 8)), .int .i64 1]) (ok := fun _ => True) (okp := fun _ => True) kG ?hp (fun _ hk => hk) trivial (Below.refl _ _) (Nat.le_refl _) (by simp) ?_; (case hp => exact (Reps.c2 (show Kd.M k93 _ _ _ (⟨rd y288 (ji29), 1⟩ : S93) [.int .i64 (rd y288 (ji29)), .int .i64 1] from (k93_mkM _ _ _ (⟨rd y288 (ji29), 1⟩ : S93) )) (Reps.c2 (show Kd.M k93 _ _ _ (⟨wrap64 (Int.tdiv (wrap64 ((((rd_T91 l0_10 x45_3).f1).size : Int) - 6)) 8), 1⟩ : S93) [.int .i64 (wrap64 (Int.tdiv (wrap64 ((((rd_T91 l0_10 x45_3).f1).size : Int) - 6)) 8)), .int .i64 1] from (k93_mkM _ _ _ (⟨wrap64 (Int.tdiv (wrap64 ((((rd_T91 l0_10 x45_3).f1).size : Int) - 6)) 8), 1⟩ : S93) )) (Reps.none _ _))))
      intro v295 w41 ho42 hb hg_ hnew_
      have HS2_ := hcell hb hHeld.2.2
      clear hg_ hnew_
      (first | rw [← Ny294.out] at ho42 | (simp only [Int.reduceToNat] at ho42; rw [← Ny294.out] at ho42))
      replace HO_5 := As (Kd.R_below (kR HO_5.out) hb)
      have HO296 := As (Kd.R_lower ho42 (below_size (kB2 HB.out GE275.out GE292.out)))
      replace BK275 := As (blk_below (kb BK275.out) hb)
      replace BK292 := As (blk_below (kb BK292.out) hb)
      replace HB := As (below_step (kB2 HB.out GE275.out GE292.out) hb)
      clear hb ho42
      obtain ⟨Ao43, co43, eo43⟩ := Kd.R_slice HO296.out
      (first | subst eo43 | (injection eo43 with f1_ f2_ f3_; have f4_ := f1_.symm; have f5_ := f3_.symm; clear f1_ f2_ f3_; subst f4_; subst f5_))
      refine hK.out _ _ ⟨kC BK292.out 0, kC BK292.out 1, HS2_⟩ (fun hHeld => ?_)
      clear hK K
      refine nP ?_
      refine one_ (i := 14) (N := some 64) #[I, I, I, I, I, I, I, I, I, I, I, I, I, I, I, I, I, O, O, O] rfl rfl (one_of HT_.out (by kernel_rfl)) (by decide) (fun K hK => ?_)
      refine goes_ Tryd.func60 (by kernel_rfl) rfl #[.slice Ao43 y294.length co43] (by rfl) rfl rfl kA ?_
      with_reducible refine (ipv6_join.calls k3 _ _ y294 t297 _ ?side1 ?side2 A32.out).mono ?_
      (case side1 => repeat (first | exact (Kd.R_reads' HO296.out).2.2 | (with_reducible refine Kd.C_alloc ?_ _) | (with_reducible refine Kd.C_drewN ?_ _) | (with_reducible refine Kd.C_drew ?_)))
      (case side2 => exact (Kd.R_reads' HO296.out).2.1)
      rintro e w44 ⟨rfl, hb⟩
      have HS2_ := hcell hb hHeld.2.2
      refine ⟨_, rfl, ?_⟩
      replace HO_5 := As (Kd.R_below (kR HO_5.out) hb)
      replace HO296 := As (Kd.R_below (kR HO296.out) hb)
      replace BK275 := As (blk_below (kb BK275.out) hb)
      replace BK292 := As (blk_below (kb BK292.out) hb)
      replace HB := As (below_step (kB2 HB.out GE275.out GE292.out) hb)
      (try clear hb)
      (try clear hb2)
      (try clear hk)
      (try clear hi)
      refine hK.out _ _ ⟨kC BK292.out 0, kC BK292.out 1, HS2_⟩ (fun hHeld => ?_)
      clear hK K
      refine nP ?_
      refine kP 17 67 #[I, I, I, I, I, I, I, I, I, I, I, I, I, I, I, I, I, I, O, O] ?_ (any_of HT_.out (by kernel_rfl))
      refine kP 18 68 #[I, I, I, I, I, I, I, I, I, I, I, I, I, I, I, I, I, I, I, O] ?_ (any_of HT_.out (by kernel_rfl))
      refine kP 19 8 #[I, I, I, I, I, I, I, I, I, I, I, I, I, I, I, I, I, I, I, I] ?_ (any_of HT_.out (by kernel_rfl))
      refine done_ (done_of HT_.out (by kernel_rfl)) ?_
      try go_wp2
      go_roundg k3
      case measure => have := HK1.out; have := HJ16.out; have := HK3.out; omega
      case rel => exact ⟨(x8_3 ++ (t297 ++ ((rd_T91 l0_10 x45_3).f1))), (ji29), kS, (by first | rfl | (simp; done) | (simp only [← hji29] <;> (first | rfl | simp)) | (simp [*]; done)), H', ⟨by have := HK1.out; have := HJ16.out; have := HK3.out; omega⟩, ⟨by (with_reducible repeat (first | apply Kd.R_alloc | apply Kd.R_drewN | apply Kd.R_drew)); exact HO_5.out⟩, ⟨kb BK275.out⟩, ⟨kB2 HB.out GE275.out GE292.out⟩⟩
     rw [if_neg c26] at H
     have c26b0 : decide (x45_3 < (l0_10.length : Int)) = false := decide_eq_false c26
     clear c26
     have HC45 := As H
     clear H
     have hcz46_0 := cells_16 BK275.out
     have hfz46_0 := fun j_ => blk_frozen BK275.out j_
     go_upto_if 71 with (fail)
     go_cut [8] (fun v8 wc => ∃ (kq : Nat) (x8_44 : ByteArray), v8 = .string x8_44 ∧ Aside0 (ipv6_Encode.j3 kq y288 x8_44 d0 d1 d2 d3 d4 d5 d6 d7 d8 d9 l0_10 d11 d12 d13 d14 d15 = some (r1, r2)) ∧ Aside0 (kq ≤ k3) ∧ Aside0 (Kd.R (Kd.int .i64) 3 wc w.heap.size (fun _ => True) v289 y288) ∧ Aside0 (wc.heap[gb275]? = some (.cells #[.int .i64 d0, .int .i64 d1, .int .i64 d2, .int .i64 d3, .bool d4, .int .u64 d5, .int .u64 d6, .bool d7, .int .u64 d8, .int .u64 d9, (.slice A0_10 l0_10.length c0_10), .bool d11, .int .i64 d12, .int .i64 d13, .bool d14, .string d15] 60 (0, 0))) ∧ Aside0 (Below w.heap.size w wc))
     case first =>
      have H := HC45.out
      clear HC45
      by_cases c47 : d11 = true
      ·subst c47
       rw [if_pos rfl] at H
       by_cases c48 : d14 = true
       ·subst c48
        rw [if_pos rfl] at H
        obtain ⟨y298, hy298⟩ : ∃ y_ : List (S93), y_ = (([(⟨d3, 1⟩ : S93), (⟨0, 1⟩ : S93), (⟨wrap64 (d13 + 1), 2⟩ : S93), (⟨d12, 4⟩ : S93)] : List (S93))) := ⟨_, rfl⟩
        replace H : ((ipv6_join.f k3 y298).bind fun t301 => (if x8_3.size + t301.size ≤ 9223372036854775807 then (ipv6_Encode.j3 k3 y288 (x8_3 ++ t301) d0 d1 d2 d3 d4 d5 d6 d7 d8 d9 l0_10 true d12 d13 true d15) else (none))) = some (r1, r2) := by first | (rw [hy298]; with_reducible exact H) | (have H2_ := (Option.bind_some _ _).symm.trans H; rw [hy298]; with_reducible exact H2_) | (have H2_ := (Option.bind_some _ _).symm.trans H; with_reducible exact H2_) | with_reducible exact H | (rw [hy298]; exact H) | exact H
        have Ny298 := As hy298
        clear hy298
        replace H := bS H
        obtain ⟨t301, A49, H⟩ := H
        replace H := iS H
        obtain ⟨c50, H⟩ := H
        have c50b0 := eq_true c50
        have c50b1 := decide_eq_true c50
        try have c50b2 := eq_false (Nat.not_lt.2 c50)
        have H' := As H
        clear H
        have hcz51_0 := cells_16 BK275.out
        have hfz51_0 := fun j_ => blk_frozen BK275.out j_
        go_wp2_with (first | ((with_reducible refine gate_dst (N := 88) rfl ?_); refine Kd.R_lit k93 _ 93 rfl (N := 88) rfl (xs := ([(⟨d3, 1⟩ : S93), (⟨0, 1⟩ : S93), (⟨wrap64 (d13 + 1), 2⟩ : S93), (⟨d12, 4⟩ : S93)] : List (S93))) (inner := [.int .i64 d3, .int .i64 1, .int .i64 0, .int .i64 1, .int .i64 (wrap64 (d13 + 1)), .int .i64 2, .int .i64 d12, .int .i64 4]) (ok := fun _ => True) (okp := fun _ => True) kG ?hp (fun _ hk => hk) trivial (Below.refl _ _) (Nat.le_refl _) (by simp) ?_; (case hp => exact (Reps.c2 (show Kd.M k93 _ _ _ (⟨d3, 1⟩ : S93) [.int .i64 d3, .int .i64 1] from (k93_mkM _ _ _ (⟨d3, 1⟩ : S93) )) (Reps.c2 (show Kd.M k93 _ _ _ (⟨0, 1⟩ : S93) [.int .i64 0, .int .i64 1] from (k93_mkM _ _ _ (⟨0, 1⟩ : S93) )) (Reps.c2 (show Kd.M k93 _ _ _ (⟨wrap64 (d13 + 1), 2⟩ : S93) [.int .i64 (wrap64 (d13 + 1)), .int .i64 2] from (k93_mkM _ _ _ (⟨wrap64 (d13 + 1), 2⟩ : S93) )) (Reps.c2 (show Kd.M k93 _ _ _ (⟨d12, 4⟩ : S93) [.int .i64 d12, .int .i64 4] from (k93_mkM _ _ _ (⟨d12, 4⟩ : S93) )) (Reps.none _ _)))))); intro v299 w52 ho53 hb hg_ hnew_; clear hg_ hnew_; (first | rw [← Ny298.out] at ho53 | (simp only [Int.reduceToNat] at ho53; rw [← Ny298.out] at ho53)); replace HO_5 := As (Kd.R_below (kR HO_5.out) hb); have HO300 := As (Kd.R_lower ho53 (below_size (kB1 HB.out GE275.out))); replace BK275 := As (blk_below (kb BK275.out) hb); replace HB := As (below_step (kB1 HB.out GE275.out) hb); clear hb ho53; obtain ⟨Ao54, co54, eo54⟩ := Kd.R_slice HO300.out; subst eo54) | ((with_reducible refine gate_callee (f := 60) rfl ?_); refine goesL_ (some 89) rfl rfl Tryd.func60 (by kernel_rfl) rfl #[.slice Ao54 y298.length co54] rfl kA ?_; (with_reducible refine (ipv6_join.calls k3 _ _ y298 t301 _ ?side1 ?side2 A49.out).mono ?_); (case side1 => repeat (first | exact (Kd.R_reads' HO300.out).2.2 | (with_reducible refine Kd.C_alloc ?_ _) | (with_reducible refine Kd.C_drewN ?_ _) | (with_reducible refine Kd.C_drew ?_))); (case side2 => exact (Kd.R_reads' HO300.out).2.1); rintro e w55 ⟨rfl, hb⟩; refine ⟨_, rfl, ?_⟩; replace HO_5 := As (Kd.R_below (kR HO_5.out) hb); replace HO300 := As (Kd.R_below (kR HO300.out) hb); replace BK275 := As (blk_below (kb BK275.out) hb); replace HB := As (below_step (kB1 HB.out GE275.out) hb); (try clear hb)))
        go_meet
        case rel => exact ⟨_, (x8_3 ++ t301), kS, H', ⟨by have := HK1.out; have := HJ16.out; have := HK3.out; first | omega | exact Nat.le_refl _⟩, ⟨by (with_reducible repeat (first | apply Kd.R_alloc | apply Kd.R_drewN | apply Kd.R_drew)); exact HO_5.out⟩, ⟨kb BK275.out⟩, ⟨kB1 HB.out GE275.out⟩⟩
       replace c48 := Bool.eq_false_iff.mpr c48
       subst c48
       rw [if_neg (show ¬ (false = true) by decide)] at H
       obtain ⟨y302, hy302⟩ : ∃ y_ : List (S93), y_ = (([(⟨d3, 1⟩ : S93), (⟨0, 1⟩ : S93), (⟨d13, 2⟩ : S93), (⟨d12, 4⟩ : S93)] : List (S93))) := ⟨_, rfl⟩
       replace H : ((ipv6_join.f k3 y302).bind fun t305 => (if x8_3.size + t305.size ≤ 9223372036854775807 then (ipv6_Encode.j3 k3 y288 (x8_3 ++ t305) d0 d1 d2 d3 d4 d5 d6 d7 d8 d9 l0_10 true d12 d13 false d15) else (none))) = some (r1, r2) := by first | (rw [hy302]; with_reducible exact H) | (have H2_ := (Option.bind_some _ _).symm.trans H; rw [hy302]; with_reducible exact H2_) | (have H2_ := (Option.bind_some _ _).symm.trans H; with_reducible exact H2_) | with_reducible exact H | (rw [hy302]; exact H) | exact H
       have Ny302 := As hy302
       clear hy302
       replace H := bS H
       obtain ⟨t305, A56, H⟩ := H
       replace H := iS H
       obtain ⟨c57, H⟩ := H
       have c57b0 := eq_true c57
       have c57b1 := decide_eq_true c57
       try have c57b2 := eq_false (Nat.not_lt.2 c57)
       have H' := As H
       clear H
       have hcz58_0 := cells_16 BK275.out
       have hfz58_0 := fun j_ => blk_frozen BK275.out j_
       go_wp2_with (first | ((with_reducible refine gate_dst (N := 88) rfl ?_); refine Kd.R_lit k93 _ 93 rfl (N := 88) rfl (xs := ([(⟨d3, 1⟩ : S93), (⟨0, 1⟩ : S93), (⟨d13, 2⟩ : S93), (⟨d12, 4⟩ : S93)] : List (S93))) (inner := [.int .i64 d3, .int .i64 1, .int .i64 0, .int .i64 1, .int .i64 d13, .int .i64 2, .int .i64 d12, .int .i64 4]) (ok := fun _ => True) (okp := fun _ => True) kG ?hp (fun _ hk => hk) trivial (Below.refl _ _) (Nat.le_refl _) (by simp) ?_; (case hp => exact (Reps.c2 (show Kd.M k93 _ _ _ (⟨d3, 1⟩ : S93) [.int .i64 d3, .int .i64 1] from (k93_mkM _ _ _ (⟨d3, 1⟩ : S93) )) (Reps.c2 (show Kd.M k93 _ _ _ (⟨0, 1⟩ : S93) [.int .i64 0, .int .i64 1] from (k93_mkM _ _ _ (⟨0, 1⟩ : S93) )) (Reps.c2 (show Kd.M k93 _ _ _ (⟨d13, 2⟩ : S93) [.int .i64 d13, .int .i64 2] from (k93_mkM _ _ _ (⟨d13, 2⟩ : S93) )) (Reps.c2 (show Kd.M k93 _ _ _ (⟨d12, 4⟩ : S93) [.int .i64 d12, .int .i64 4] from (k93_mkM _ _ _ (⟨d12, 4⟩ : S93) )) (Reps.none _ _)))))); intro v303 w59 ho60 hb hg_ hnew_; clear hg_ hnew_; (first | rw [← Ny302.out] at ho60 | (simp only [Int.reduceToNat] at ho60; rw [← Ny302.out] at ho60)); replace HO_5 := As (Kd.R_below (kR HO_5.out) hb); have HO304 := As (Kd.R_lower ho60 (below_size (kB1 HB.out GE275.out))); replace BK275 := As (blk_below (kb BK275.out) hb); replace HB := As (below_step (kB1 HB.out GE275.out) hb); clear hb ho60; obtain ⟨Ao61, co61, eo61⟩ := Kd.R_slice HO304.out; subst eo61) | ((with_reducible refine gate_callee (f := 60) rfl ?_); refine goesL_ (some 89) rfl rfl Tryd.func60 (by kernel_rfl) rfl #[.slice Ao61 y302.length co61] rfl kA ?_; (with_reducible refine (ipv6_join.calls k3 _ _ y302 t305 _ ?side1 ?side2 A56.out).mono ?_); (case side1 => repeat (first | exact (Kd.R_reads' HO304.out).2.2 | (with_reducible refine Kd.C_alloc ?_ _) | (with_reducible refine Kd.C_drewN ?_ _) | (with_reducible refine Kd.C_drew ?_))); (case side2 => exact (Kd.R_reads' HO304.out).2.1); rintro e w62 ⟨rfl, hb⟩; refine ⟨_, rfl, ?_⟩; replace HO_5 := As (Kd.R_below (kR HO_5.out) hb); replace HO304 := As (Kd.R_below (kR HO304.out) hb); replace BK275 := As (blk_below (kb BK275.out) hb); replace HB := As (below_step (kB1 HB.out GE275.out) hb); (try clear hb)))
       go_meet
       case rel => exact ⟨_, (x8_3 ++ t305), kS, H', ⟨by have := HK1.out; have := HJ16.out; have := HK3.out; first | omega | exact Nat.le_refl _⟩, ⟨by (with_reducible repeat (first | apply Kd.R_alloc | apply Kd.R_drewN | apply Kd.R_drew)); exact HO_5.out⟩, ⟨kb BK275.out⟩, ⟨kB1 HB.out GE275.out⟩⟩
      replace c47 := Bool.eq_false_iff.mpr c47
      subst c47
      rw [if_neg (show ¬ (false = true) by decide)] at H
      have H' := As H
      clear H
      go_wp2
      go_meet
      case rel => exact ⟨_, (x8_3), kS, H', ⟨by have := HK1.out; have := HJ16.out; have := HK3.out; first | omega | exact Nat.le_refl _⟩, ⟨by (with_reducible repeat (first | apply Kd.R_alloc | apply Kd.R_drewN | apply Kd.R_drew)); exact HO_5.out⟩, ⟨kb BK275.out⟩, ⟨kB1 HB.out GE275.out⟩⟩
     clear HC45
     try clear c26
     try clear c26b0
     try clear hcz46_0
     try clear hfz46_0
     obtain ⟨kq, x8_44, rfl, HA, HJ44, HO_5, BK275, HB⟩ := hcut
     cases kq with
     | zero => exact absurd HA.out (by simp [ipv6_Encode.j3])
     | succ kj44 =>
      have H := HA.out
      clear HA
      simp only [ipv6_Encode.j3] at H
      replace H := iS H
      obtain ⟨c63, H⟩ := H
      have c63b0 := eq_true c63
      have c63b1 := decide_eq_true c63
      try have c63b2 := eq_false (Nat.not_lt.2 c63)
      by_cases c64 : ((x8_44 ++ d15).size : Int) > 65535
      ·rw [if_pos c64] at H
       have c64b0 : decide (65535 < ((x8_44 ++ d15).size : Int)) = true := decide_eq_true c64
       have c64b1 : decide (65535 < (x8_44 ++ d15).size) = true := decide_eq_true (by omega)
       (try (have c64b2 : (65535 < ((x8_44.size : Int) + (d15.size : Int))) = True := by have h_ := c64; simp only [ByteArray.size_append, Int.natCast_add, Int.toNat_natCast] at h_; first | exact eq_true h_ | exact eq_true (by omega)))
       (try (have c64b3 : decide (65535 < ((x8_44.size : Int) + (d15.size : Int))) = true := by have h_ := c64; first | (simp only [ByteArray.size_append, Int.toNat_natCast] at h_; first | exact beq_iff_eq.mpr h_ | exact beq_eq_false_iff_ne.mpr h_ | exact bne_iff_ne.mpr h_ | exact bne_eq_false_iff_eq.mpr h_ | (rw [beq_iff_eq.mpr h_]; rfl) | (rw [beq_eq_false_iff_ne.mpr h_]; rfl)) | (simp only [ByteArray.size_append, Int.natCast_add, Int.toNat_natCast] at h_ ⊢; first | exact h_ | simpa using h_ | simp [h_] | omega) | (simp only [ByteArray.size_append] at h_; simp at h_ ⊢; omega) | (simp only [ByteArray.size_append, Int.natCast_add, Int.toNat_natCast] at h_; simpa using h_)))
       (try (have c64b4 : (65535 < (x8_44.size + d15.size)) = True := by have h_ := c64; simp only [ByteArray.size_append, Int.natCast_add, Int.toNat_natCast] at h_; first | exact eq_true h_ | exact eq_true (by omega)))
       (try (have c64b5 : decide (65535 < (x8_44.size + d15.size)) = true := by have h_ := c64; first | (simp only [ByteArray.size_append, Int.toNat_natCast] at h_; first | exact beq_iff_eq.mpr h_ | exact beq_eq_false_iff_ne.mpr h_ | exact bne_iff_ne.mpr h_ | exact bne_eq_false_iff_eq.mpr h_ | (rw [beq_iff_eq.mpr h_]; rfl) | (rw [beq_eq_false_iff_ne.mpr h_]; rfl)) | (simp only [ByteArray.size_append, Int.natCast_add, Int.toNat_natCast] at h_ ⊢; first | exact h_ | simpa using h_ | simp [h_] | omega) | (simp only [ByteArray.size_append] at h_; simp at h_ ⊢; omega) | (simp only [ByteArray.size_append, Int.natCast_add, Int.toNat_natCast] at h_; simpa using h_)))
       clear c64
       simp only [Option.some.injEq, Prod.mk.injEq] at H
       obtain ⟨rfl, rfl⟩ := H
       have hcz65_0 := cells_16 BK275.out
       have hfz65_0 := fun j_ => blk_frozen BK275.out j_
       go_wp2
       go_ret2
       exact ⟨kE, by exact kB1 HB.out GE275.out⟩
      rw [if_neg c64] at H
      have c64b0 : decide (65535 < ((x8_44 ++ d15).size : Int)) = false := decide_eq_false c64
      have c64b1 : decide (65535 < (x8_44 ++ d15).size) = false := decide_eq_false (by omega)
      (try (have c64b2 : (65535 < ((x8_44.size : Int) + (d15.size : Int))) = False := by have h_ := c64; simp only [ByteArray.size_append, Int.natCast_add, Int.toNat_natCast] at h_; first | exact eq_false h_ | exact eq_false (by omega)))
      (try (have c64b3 : decide (65535 < ((x8_44.size : Int) + (d15.size : Int))) = false := by have h_ := c64; first | (simp only [ByteArray.size_append, Int.toNat_natCast] at h_; first | exact beq_iff_eq.mpr h_ | exact beq_eq_false_iff_ne.mpr h_ | exact bne_iff_ne.mpr h_ | exact bne_eq_false_iff_eq.mpr h_ | (rw [beq_iff_eq.mpr h_]; rfl) | (rw [beq_eq_false_iff_ne.mpr h_]; rfl)) | (simp only [ByteArray.size_append, Int.natCast_add, Int.toNat_natCast] at h_ ⊢; first | exact h_ | simpa using h_ | simp [h_] | omega) | (simp only [ByteArray.size_append] at h_; simp at h_ ⊢; omega) | (simp only [ByteArray.size_append, Int.natCast_add, Int.toNat_natCast] at h_; simpa using h_)))
      (try (have c64b4 : (65535 < (x8_44.size + d15.size)) = False := by have h_ := c64; simp only [ByteArray.size_append, Int.natCast_add, Int.toNat_natCast] at h_; first | exact eq_false h_ | exact eq_false (by omega)))
      (try (have c64b5 : decide (65535 < (x8_44.size + d15.size)) = false := by have h_ := c64; first | (simp only [ByteArray.size_append, Int.toNat_natCast] at h_; first | exact beq_iff_eq.mpr h_ | exact beq_eq_false_iff_ne.mpr h_ | exact bne_iff_ne.mpr h_ | exact bne_eq_false_iff_eq.mpr h_ | (rw [beq_iff_eq.mpr h_]; rfl) | (rw [beq_eq_false_iff_ne.mpr h_]; rfl)) | (simp only [ByteArray.size_append, Int.natCast_add, Int.toNat_natCast] at h_ ⊢; first | exact h_ | simpa using h_ | simp [h_] | omega) | (simp only [ByteArray.size_append] at h_; simp at h_ ⊢; omega) | (simp only [ByteArray.size_append, Int.natCast_add, Int.toNat_natCast] at h_; simpa using h_)))
      clear c64
      replace H := iS H
      obtain ⟨c66, H⟩ := H
      have c66b0 := decide_eq_true c66
      have c66b1 : decide (0 < y288.length) = true := decide_eq_true (by omega)
      clear c66
      obtain ⟨y307, hy307⟩ : ∃ y_ : List (S93), y_ = (([(⟨Go.bits .or .i64 (Go.bits .or .i64 1610612736 (wrap64 (d0 * 1048576))) d1, 4⟩ : S93), (⟨((x8_44 ++ d15).size : Int), 2⟩ : S93), (⟨rd y288 0, 1⟩ : S93), (⟨d2, 1⟩ : S93)] : List (S93))) := ⟨_, rfl⟩
      replace H : ((ipv6_join.f kj44 y307).bind fun t310 => ((address_Bytes.f kj44 d4 d5 d6).bind fun t311 => (if t310.size + t311.size ≤ 9223372036854775807 then ((address_Bytes.f kj44 d7 d8 d9).bind fun t312 => (if (t310 ++ t311).size + t312.size ≤ 9223372036854775807 then (if ((t310 ++ t311) ++ t312).size + (x8_44 ++ d15).size ≤ 9223372036854775807 then (some (((t310 ++ t311) ++ t312) ++ (x8_44 ++ d15), 0)) else (none)) else (none))) else (none)))) = some (r1, r2) := by first | (rw [hy307]; with_reducible exact H) | (have H2_ := (Option.bind_some _ _).symm.trans H; rw [hy307]; with_reducible exact H2_) | (have H2_ := (Option.bind_some _ _).symm.trans H; with_reducible exact H2_) | with_reducible exact H | (rw [hy307]; exact H) | exact H
      have Ny307 := As hy307
      clear hy307
      replace H := bS H
      obtain ⟨t310, A67, H⟩ := H
      replace H := bS H
      obtain ⟨t311, A68, H⟩ := H
      replace H := iS H
      obtain ⟨c69, H⟩ := H
      have c69b0 := eq_true c69
      have c69b1 := decide_eq_true c69
      try have c69b2 := eq_false (Nat.not_lt.2 c69)
      replace H := bS H
      obtain ⟨t312, A70, H⟩ := H
      replace H := iS H
      obtain ⟨c71, H⟩ := H
      have c71b0 := eq_true c71
      have c71b1 := decide_eq_true c71
      try obtain ⟨c71s0, c71s1, c71s2⟩ := sz_ (a := (t310.size + t311.size) + t312.size) c71
      try have c71b2 := eq_false (Nat.not_lt.2 c71)
      replace H := iS H
      obtain ⟨c72, H⟩ := H
      have c72b0 := eq_true c72
      have c72b1 := decide_eq_true c72
      try obtain ⟨c72s0, c72s1, c72s2⟩ := sz_ (a := (t310.size + t311.size + t312.size) + (x8_44.size + d15.size)) c72
      try obtain ⟨c72s3, c72s4, c72s5⟩ := sz_ (a := t310.size + t311.size + t312.size + x8_44.size + d15.size) c72
      try have c72b2 := eq_false (Nat.not_lt.2 c72)
      simp only [Option.some.injEq, Prod.mk.injEq] at H
      obtain ⟨rfl, rfl⟩ := H
      have hcz73_0 := cells_16 BK275.out
      have hfz73_0 := fun j_ => blk_frozen BK275.out j_
      try go_wp2
      replace HO_5 := As (Kd.R_drew HO_5.out)
      replace BK275 := As (blk_drew BK275.out)
      replace HB := As (below_drew1 HB.out)
      obtain ⟨Ao75, co75, eo75⟩ := Kd.R_slice HO_5.out
      (first | subst eo75 | (injection eo75 with f1_ f2_ f3_; have f4_ := f1_.symm; have f5_ := f3_.symm; clear f1_ f2_ f3_; subst f4_; subst f5_))
      have p306 : 0 ≤ (0 : Int) := (by omega)
      have q306 : 0 < (y288.length : Int) := of_decide_eq_true (by first | (with_reducible assumption) | assumption)
      obtain ⟨ad306, e306, hx306_0⟩ := Kd.at_int (Kd.R_reads' HO_5.out).2.2 0 p306 q306
      cases e306
      have qi306 : (0 < y288.length) = True := eq_true (by omega)
      (try rw [show ((0 : Int)).toNat = 0 from rfl] at hx306_0)
      (try rw [Addr.add_zero'] at hx306_0)
      replace p306 := eq_true p306
      replace q306 := eq_true q306
      refine start_ (n := 21) (S := fun w' => w'.cell? ⟨gb275, 0, none⟩ = some (.int .i64 d0) ∧ w'.cell? ⟨gb275, 1, none⟩ = some (.int .i64 d1) ∧ w'.cell? ⟨gb275, 2, none⟩ = some (.int .i64 d2) ∧ w'.cell? ⟨gb275, 3, none⟩ = some (.int .i64 d3) ∧ w'.cell? ⟨gb275, 4, none⟩ = some (.bool d4) ∧ w'.cell? ⟨gb275, 5, none⟩ = some (.int .u64 d5) ∧ w'.cell? ⟨gb275, 6, none⟩ = some (.int .u64 d6) ∧ w'.cell? ⟨gb275, 7, none⟩ = some (.bool d7) ∧ w'.cell? ⟨gb275, 8, none⟩ = some (.int .u64 d8) ∧ w'.cell? ⟨gb275, 9, none⟩ = some (.int .u64 d9) ∧ w'.cell? ⟨gb275, 10, none⟩ = some (.slice A0_10 l0_10.length c0_10) ∧ w'.cell? ⟨gb275, 11, none⟩ = some (.bool d11) ∧ w'.cell? ⟨gb275, 12, none⟩ = some (.int .i64 d12) ∧ w'.cell? ⟨gb275, 13, none⟩ = some (.int .i64 d13) ∧ w'.cell? ⟨gb275, 14, none⟩ = some (.bool d14) ∧ w'.cell? ⟨gb275, 15, none⟩ = some (.string d15) ∧ w'.cell? ad306 = some (.int .i64 (rd y288 0))) (ds := []) #[O, O, O, O, O, O, O, O, O, O, O, O, O, O, O, O, O, O, O, O, O] (by kernel_rfl) rfl rfl ⟨kC BK275.out 0, kC BK275.out 1, kC BK275.out 2, kC BK275.out 3, kC BK275.out 4, kC BK275.out 5, kC BK275.out 6, kC BK275.out 7, kC BK275.out 8, kC BK275.out 9, kC BK275.out 10, kC BK275.out 11, kC BK275.out 12, kC BK275.out 13, kC BK275.out 14, kC BK275.out 15, hx306_0⟩ (fun hHeld => ?_); refine with_tabW ipv6_Encode.tab27 ipv6_Encode.bits27 (fun HT_ HW_ => ?_)
      generalize wc.drew = w74 at HO_5 BK275 HB hx306_0 hHeld ⊢
      refine kP 0 98 #[I, O, O, O, O, O, O, O, O, O, O, O, O, O, O, O, O, O, O, O, O] ?_ (any_of HT_.out (by kernel_rfl))
      refine kP 4 102 #[I, O, O, O, I, O, O, O, O, O, O, O, O, O, O, O, O, O, O, O, O] ?_ (any_of HT_.out (by kernel_rfl))
      refine kP 8 106 #[I, O, O, O, I, O, O, O, I, O, O, O, O, O, O, O, O, O, O, O, O] ?_ (any_of HT_.out (by kernel_rfl))
      refine kP 9 107 #[I, O, O, O, I, O, O, O, I, I, O, O, O, O, O, O, O, O, O, O, O] ?_ (any_of HT_.out (by kernel_rfl))
      refine kP 10 108 #[I, O, O, O, I, O, O, O, I, I, I, O, O, O, O, O, O, O, O, O, O] ?_ (any_of HT_.out (by kernel_rfl))
      refine kP 11 109 #[I, O, O, O, I, O, O, O, I, I, I, I, O, O, O, O, O, O, O, O, O] ?_ (any_of HT_.out (by kernel_rfl))
      refine kP 12 110 #[I, O, O, O, I, O, O, O, I, I, I, I, I, O, O, O, O, O, O, O, O] ?_ (any_of HT_.out (by kernel_rfl))
      refine kP 15 113 #[I, O, O, O, I, O, O, O, I, I, I, I, I, O, O, I, O, O, O, O, O] ?_ (any_of HT_.out (by kernel_rfl))
      refine take_ (i := 1) (N := some 99) (v := ?_) (a' := ?_) #[I, I, O, O, I, O, O, O, I, I, I, I, I, O, O, I, O, O, O, O, O] rfl rfl (take_ofW HT_.out HW_.out (by kernel_rfl)) (fun _ _ _ h => h) (Or.inl ⟨by rfl, ?_⟩) hHeld ?_ ?_
      rotate_left
      ·rintro w' ⟨s0, s1, s2, s3, s4, s5, s6, s7, s8, s9, s10, s11, s12, s13, s14, s15, s16⟩
       go_simp
       with_reducible rfl
      rotate_left
      ·simp only [Act.put, sA, sZ, sS, i64_w, i32_w]
       rfl
      refine kP 2 100 #[I, I, I, O, I, O, O, O, I, I, I, I, I, O, O, I, O, O, O, O, O] ?_ (any_of HT_.out (by kernel_rfl))
      refine kP 3 101 #[I, I, I, I, I, O, O, O, I, I, I, I, I, O, O, I, O, O, O, O, O] ?_ (any_of HT_.out (by kernel_rfl))
      refine take_ (i := 5) (N := some 103) (v := ?_) (a' := ?_) #[I, I, I, I, I, I, O, O, I, I, I, I, I, O, O, I, O, O, O, O, O] rfl rfl (take_ofW HT_.out HW_.out (by kernel_rfl)) (fun _ _ _ h => h) (Or.inl ⟨by rfl, ?_⟩) hHeld ?_ ?_
      rotate_left
      ·rintro w' ⟨s0, s1, s2, s3, s4, s5, s6, s7, s8, s9, s10, s11, s12, s13, s14, s15, s16⟩
       go_simp
       with_reducible rfl
      rotate_left
      ·simp only [Act.put, sA, sZ, sS, i64_w, i32_w]
       rfl
      refine kP 6 104 #[I, I, I, I, I, I, I, O, I, I, I, I, I, O, O, I, O, O, O, O, O] ?_ (any_of HT_.out (by kernel_rfl))
      refine kP 7 105 #[I, I, I, I, I, I, I, I, I, I, I, I, I, O, O, I, O, O, O, O, O] ?_ (any_of HT_.out (by kernel_rfl))
      refine take_ (i := 13) (N := some 111) (v := ?_) (a' := ?_) #[I, I, I, I, I, I, I, I, I, I, I, I, I, I, O, I, O, O, O, O, O] rfl rfl (take_ofW HT_.out HW_.out (by kernel_rfl)) (fun _ _ _ h => h) (Or.inl ⟨by rfl, ?_⟩) hHeld ?_ ?_
      rotate_left
      ·rintro w' ⟨s0, s1, s2, s3, s4, s5, s6, s7, s8, s9, s10, s11, s12, s13, s14, s15, s16⟩
       go_simp
       with_reducible rfl
      rotate_left
      ·simp only [Act.put, sA, sZ, sS, i64_w, i32_w]
       rfl
      refine kP 14 112 #[I, I, I, I, I, I, I, I, I, I, I, I, I, I, I, I, O, O, O, O, O] ?_ (any_of HT_.out (by kernel_rfl))
      refine take_ (i := 16) (N := some 114) (v := ?_) (a' := ?_) #[I, I, I, I, I, I, I, I, I, I, I, I, I, I, I, I, I, O, O, O, O] rfl rfl (take_ofW HT_.out HW_.out (by kernel_rfl)) (fun _ _ _ h => h) (Or.inl ⟨by rfl, ?_⟩) hHeld ?_ ?_
      rotate_left
      ·rintro w' ⟨s0, s1, s2, s3, s4, s5, s6, s7, s8, s9, s10, s11, s12, s13, s14, s15, s16⟩
       go_simp
       with_reducible rfl
      rotate_left
      ·simp only [Act.put, sA, sZ, sS, i64_w, i32_w]
       rfl
      refine kP 17 115 #[I, I, I, I, I, I, I, I, I, I, I, I, I, I, I, I, I, I, O, O, O] ?_ (any_of HT_.out (by kernel_rfl))
      refine one_ (i := 18) (N := some 116) #[I, I, I, I, I, I, I, I, I, I, I, I, I, I, I, I, I, I, I, O, O] rfl rfl (one_of HT_.out (by kernel_rfl)) (by decide) (fun K hK => ?_)
      refine Kd.R_lit_step k93 _ 93 rfl (N := 116) rfl (xs := ([(⟨Go.bits .or .i64 (Go.bits .or .i64 1610612736 (wrap64 (d0 * 1048576))) d1, 4⟩ : S93), (⟨((x8_44 ++ d15).size : Int), 2⟩ : S93), (⟨rd y288 0, 1⟩ : S93), (⟨d2, 1⟩ : S93)] : List (S93))) (inner := [.int .i64 (Go.bits .or .i64 (Go.bits .or .i64 1610612736 (wrap64 (d0 * 1048576))) d1), .int .i64 4, .int .i64 ((x8_44 ++ d15).size : Int), .int .i64 2, .int .i64 (rd y288 0), .int .i64 1, .int .i64 d2, .int .i64 1]) (ok := fun _ => True) (okp := fun _ => True) kG ?hp (fun _ hk => hk) trivial (Below.refl _ _) (Nat.le_refl _) (by simp) ?_; (case hp => exact (Reps.c2 (show Kd.M k93 _ _ _ (⟨Go.bits .or .i64 (Go.bits .or .i64 1610612736 (wrap64 (d0 * 1048576))) d1, 4⟩ : S93) [.int .i64 (Go.bits .or .i64 (Go.bits .or .i64 1610612736 (wrap64 (d0 * 1048576))) d1), .int .i64 4] from (k93_mkM _ _ _ (⟨Go.bits .or .i64 (Go.bits .or .i64 1610612736 (wrap64 (d0 * 1048576))) d1, 4⟩ : S93) )) (Reps.c2 (show Kd.M k93 _ _ _ (⟨((x8_44 ++ d15).size : Int), 2⟩ : S93) [.int .i64 ((x8_44 ++ d15).size : Int), .int .i64 2] from (k93_mkM _ _ _ (⟨((x8_44 ++ d15).size : Int), 2⟩ : S93) )) (Reps.c2 (show Kd.M k93 _ _ _ (⟨rd y288 0, 1⟩ : S93) [.int .i64 (rd y288 0), .int .i64 1] from (k93_mkM _ _ _ (⟨rd y288 0, 1⟩ : S93) )) (Reps.c2 (show Kd.M k93 _ _ _ (⟨d2, 1⟩ : S93) [.int .i64 d2, .int .i64 1] from (k93_mkM _ _ _ (⟨d2, 1⟩ : S93) )) (Reps.none _ _))))))
      intro v308 w76 ho77 hb hg_ hnew_
      have HS16_ := hcell hb hHeld.2.2.2.2.2.2.2.2.2.2.2.2.2.2.2.2
      clear hg_ hnew_
      (first | rw [← Ny307.out] at ho77 | (simp only [Int.reduceToNat] at ho77; rw [← Ny307.out] at ho77))
      replace HO_5 := As (Kd.R_below (kR HO_5.out) hb)
      have HO309 := As (Kd.R_lower ho77 (below_size (kB1 HB.out GE275.out)))
      replace BK275 := As (blk_below (kb BK275.out) hb)
      replace HB := As (below_step (kB1 HB.out GE275.out) hb)
      clear hb ho77
      obtain ⟨Ao78, co78, eo78⟩ := Kd.R_slice HO309.out
      (first | subst eo78 | (injection eo78 with f1_ f2_ f3_; have f4_ := f1_.symm; have f5_ := f3_.symm; clear f1_ f2_ f3_; subst f4_; subst f5_))
      refine hK.out _ _ ⟨kC BK275.out 0, kC BK275.out 1, kC BK275.out 2, kC BK275.out 3, kC BK275.out 4, kC BK275.out 5, kC BK275.out 6, kC BK275.out 7, kC BK275.out 8, kC BK275.out 9, kC BK275.out 10, kC BK275.out 11, kC BK275.out 12, kC BK275.out 13, kC BK275.out 14, kC BK275.out 15, HS16_⟩ (fun hHeld => ?_)
      clear hK K
      refine nP ?_
      refine one_ (i := 19) (N := some 117) #[I, I, I, I, I, I, I, I, I, I, I, I, I, I, I, I, I, I, I, I, O] rfl rfl (one_of HT_.out (by kernel_rfl)) (by decide) (fun K hK => ?_)
      refine goes_ Tryd.func60 (by kernel_rfl) rfl #[.slice Ao78 y307.length co78] (by rfl) rfl rfl kA ?_
      with_reducible refine (ipv6_join.calls kj44 _ _ y307 t310 _ ?side1 ?side2 A67.out).mono ?_
      (case side1 => repeat (first | exact (Kd.R_reads' HO309.out).2.2 | (with_reducible refine Kd.C_alloc ?_ _) | (with_reducible refine Kd.C_drewN ?_ _) | (with_reducible refine Kd.C_drew ?_)))
      (case side2 => exact (Kd.R_reads' HO309.out).2.1)
      rintro e w79 ⟨rfl, hb⟩
      have HS16_ := hcell hb hHeld.2.2.2.2.2.2.2.2.2.2.2.2.2.2.2.2
      refine ⟨_, rfl, ?_⟩
      replace HO_5 := As (Kd.R_below (kR HO_5.out) hb)
      replace HO309 := As (Kd.R_below (kR HO309.out) hb)
      replace BK275 := As (blk_below (kb BK275.out) hb)
      replace HB := As (below_step (kB1 HB.out GE275.out) hb)
      (try clear hb)
      (try clear hb2)
      (try clear hk)
      (try clear hi)
      refine hK.out _ _ ⟨kC BK275.out 0, kC BK275.out 1, kC BK275.out 2, kC BK275.out 3, kC BK275.out 4, kC BK275.out 5, kC BK275.out 6, kC BK275.out 7, kC BK275.out 8, kC BK275.out 9, kC BK275.out 10, kC BK275.out 11, kC BK275.out 12, kC BK275.out 13, kC BK275.out 14, kC BK275.out 15, HS16_⟩ (fun hHeld => ?_)
      clear hK K
      refine nP ?_
      refine kP 20 12 #[I, I, I, I, I, I, I, I, I, I, I, I, I, I, I, I, I, I, I, I, I] ?_ (any_of HT_.out (by kernel_rfl))
      refine done_ (done_of HT_.out (by kernel_rfl)) ?_
      try go_wp2
      replace HO_5 := As (Kd.R_drew HO_5.out)
      replace HO309 := As (Kd.R_drew HO309.out)
      replace BK275 := As (blk_drew BK275.out)
      replace HB := As (below_drew1 HB.out)
      refine start_ (n := 13) (S := fun w' => w'.cell? ⟨gb275, 0, none⟩ = some (.int .i64 d0) ∧ w'.cell? ⟨gb275, 1, none⟩ = some (.int .i64 d1) ∧ w'.cell? ⟨gb275, 2, none⟩ = some (.int .i64 d2) ∧ w'.cell? ⟨gb275, 3, none⟩ = some (.int .i64 d3) ∧ w'.cell? ⟨gb275, 4, none⟩ = some (.bool d4) ∧ w'.cell? ⟨gb275, 5, none⟩ = some (.int .u64 d5) ∧ w'.cell? ⟨gb275, 6, none⟩ = some (.int .u64 d6) ∧ w'.cell? ⟨gb275, 7, none⟩ = some (.bool d7) ∧ w'.cell? ⟨gb275, 8, none⟩ = some (.int .u64 d8) ∧ w'.cell? ⟨gb275, 9, none⟩ = some (.int .u64 d9) ∧ w'.cell? ⟨gb275, 10, none⟩ = some (.slice A0_10 l0_10.length c0_10) ∧ w'.cell? ⟨gb275, 11, none⟩ = some (.bool d11) ∧ w'.cell? ⟨gb275, 12, none⟩ = some (.int .i64 d12) ∧ w'.cell? ⟨gb275, 13, none⟩ = some (.int .i64 d13) ∧ w'.cell? ⟨gb275, 14, none⟩ = some (.bool d14) ∧ w'.cell? ⟨gb275, 15, none⟩ = some (.string d15)) (ds := []) #[O, O, O, O, O, O, O, O, O, O, O, O, O] (by kernel_rfl) rfl rfl ⟨kC BK275.out 0, kC BK275.out 1, kC BK275.out 2, kC BK275.out 3, kC BK275.out 4, kC BK275.out 5, kC BK275.out 6, kC BK275.out 7, kC BK275.out 8, kC BK275.out 9, kC BK275.out 10, kC BK275.out 11, kC BK275.out 12, kC BK275.out 13, kC BK275.out 14, kC BK275.out 15⟩ (fun hHeld => ?_); refine with_tabW ipv6_Encode.tab28 ipv6_Encode.bits28 (fun HT_ HW_ => ?_)
      generalize w79.drew = w80 at HO_5 HO309 BK275 HB hHeld ⊢
      refine kP 0 118 #[I, O, O, O, O, O, O, O, O, O, O, O, O] ?_ (any_of HT_.out (by kernel_rfl))
      refine kP 1 119 #[I, I, O, O, O, O, O, O, O, O, O, O, O] ?_ (any_of HT_.out (by kernel_rfl))
      refine kP 5 123 #[I, I, O, O, O, I, O, O, O, O, O, O, O] ?_ (any_of HT_.out (by kernel_rfl))
      refine kP 9 127 #[I, I, O, O, O, I, O, O, O, I, O, O, O] ?_ (any_of HT_.out (by kernel_rfl))
      refine take_ (i := 2) (N := some 120) (v := ?_) (a' := ?_) #[I, I, I, O, O, I, O, O, O, I, O, O, O] rfl rfl (take_ofW HT_.out HW_.out (by kernel_rfl)) (fun _ _ _ h => h) (Or.inl ⟨by rfl, ?_⟩) hHeld ?_ ?_
      rotate_left
      ·rintro w' ⟨s0, s1, s2, s3, s4, s5, s6, s7, s8, s9, s10, s11, s12, s13, s14, s15⟩
       go_simp
       with_reducible rfl
      rotate_left
      ·simp only [Act.put, sA, sZ, sS, i64_w, i32_w]
       rfl
      refine take_ (i := 6) (N := some 124) (v := ?_) (a' := ?_) #[I, I, I, O, O, I, I, O, O, I, O, O, O] rfl rfl (take_ofW HT_.out HW_.out (by kernel_rfl)) (fun _ _ _ h => h) (Or.inl ⟨by rfl, ?_⟩) hHeld ?_ ?_
      rotate_left
      ·rintro w' ⟨s0, s1, s2, s3, s4, s5, s6, s7, s8, s9, s10, s11, s12, s13, s14, s15⟩
       go_simp
       with_reducible rfl
      rotate_left
      ·simp only [Act.put, sA, sZ, sS, i64_w, i32_w]
       rfl
      refine one_ (i := 3) (N := some 121) #[I, I, I, I, O, I, I, O, O, I, O, O, O] rfl rfl (one_of HT_.out (by kernel_rfl)) (by decide) (fun K hK => ?_)
      refine goes_ Tryd.func61 (by kernel_rfl) rfl #[.agg #[.bool d4, .int .u64 d5, .int .u64 d6]] (by rfl) rfl rfl kA ?_
      with_reducible refine (address_Bytes.calls kj44 d4 d5 d6 t311 _ A68.out).mono ?_
      rintro e w81 ⟨rfl, hb⟩
      refine ⟨_, rfl, ?_⟩
      replace HO_5 := As (Kd.R_below (kR HO_5.out) hb)
      replace HO309 := As (Kd.R_below (kR HO309.out) hb)
      replace BK275 := As (blk_below (kb BK275.out) hb)
      replace HB := As (below_step (kB1 HB.out GE275.out) hb)
      (try clear hb)
      (try clear hb2)
      (try clear hk)
      (try clear hi)
      refine hK.out _ _ ⟨kC BK275.out 0, kC BK275.out 1, kC BK275.out 2, kC BK275.out 3, kC BK275.out 4, kC BK275.out 5, kC BK275.out 6, kC BK275.out 7, kC BK275.out 8, kC BK275.out 9, kC BK275.out 10, kC BK275.out 11, kC BK275.out 12, kC BK275.out 13, kC BK275.out 14, kC BK275.out 15⟩ (fun hHeld => ?_)
      clear hK K
      refine nP ?_
      refine kP 4 122 #[I, I, I, I, I, I, I, O, O, I, O, O, O] ?_ (any_of HT_.out (by kernel_rfl))
      refine one_ (i := 7) (N := some 125) #[I, I, I, I, I, I, I, I, O, I, O, O, O] rfl rfl (one_of HT_.out (by kernel_rfl)) (by decide) (fun K hK => ?_)
      refine goes_ Tryd.func61 (by kernel_rfl) rfl #[.agg #[.bool d7, .int .u64 d8, .int .u64 d9]] (by rfl) rfl rfl kA ?_
      with_reducible refine (address_Bytes.calls kj44 d7 d8 d9 t312 _ A70.out).mono ?_
      rintro e w82 ⟨rfl, hb⟩
      refine ⟨_, rfl, ?_⟩
      replace HO_5 := As (Kd.R_below (kR HO_5.out) hb)
      replace HO309 := As (Kd.R_below (kR HO309.out) hb)
      replace BK275 := As (blk_below (kb BK275.out) hb)
      replace HB := As (below_step (kB1 HB.out GE275.out) hb)
      (try clear hb)
      (try clear hb2)
      (try clear hk)
      (try clear hi)
      refine hK.out _ _ ⟨kC BK275.out 0, kC BK275.out 1, kC BK275.out 2, kC BK275.out 3, kC BK275.out 4, kC BK275.out 5, kC BK275.out 6, kC BK275.out 7, kC BK275.out 8, kC BK275.out 9, kC BK275.out 10, kC BK275.out 11, kC BK275.out 12, kC BK275.out 13, kC BK275.out 14, kC BK275.out 15⟩ (fun hHeld => ?_)
      clear hK K
      refine nP ?_
      refine kP 8 126 #[I, I, I, I, I, I, I, I, I, I, O, O, O] ?_ (any_of HT_.out (by kernel_rfl))
      refine kP 10 128 #[I, I, I, I, I, I, I, I, I, I, I, O, O] ?_ (any_of HT_.out (by kernel_rfl))
      refine kP 11 2 #[I, I, I, I, I, I, I, I, I, I, I, I, O] ?_ (any_of HT_.out (by kernel_rfl))
      refine kP 12 3 #[I, I, I, I, I, I, I, I, I, I, I, I, I] ?_ (any_of HT_.out (by kernel_rfl))
      refine done_ (done_of HT_.out (by kernel_rfl)) ?_
      try go_wp2
      go_ret2
      exact ⟨kE, by exact kB1 HB.out GE275.out⟩
 rw [if_neg c3] at H
 have c3b0 : (t276 == 0) = false := beq_eq_false_iff_ne.mpr c3
 have c3b1 : (t276 != 0) = true := bne_iff_ne.mpr c3
 simp only [Option.some.injEq, Prod.mk.injEq] at H
 obtain ⟨rfl, rfl⟩ := H
 go_enter Tryd.func35, Tryd.ntmps35
 go_wp2_with (first | ((with_reducible refine gate_dst (N := 1) rfl ?_); refine box_event rfl (N := 1) rfl (cs := #[.int .i64 d0, .int .i64 d1, .int .i64 d2, .int .i64 d3, .bool d4, .int .u64 d5, .int .u64 d6, .bool d7, .int .u64 d8, .int .u64 d9, .slice A0_10 l0_10.length c0_10, .bool d11, .int .i64 d12, .int .i64 d13, .bool d14, .string d15]) (t := 60) kG ?_; intro gb275 hg w83 hbox hb; have BK275 := As (hbox); have GW275 := As (gS hg (below_size (kB HB.out))); have GE275 := As (gS hg (below_size (kB HB.out))); replace HB := As (below_step (kB HB.out) hb); clear hb hbox hg) | ((with_reducible refine gate_dst (N := 13) rfl ?_); (try (refine gate_guard (by rfl) ?_; dsimp only)); refine wpList_load_row ?hgd 60 _ rfl gb275 rfl 60 #[.int .i64 d0, .int .i64 d1, .int .i64 d2, .int .i64 d3, .bool d4, .int .u64 d5, .int .u64 d6, .bool d7, .int .u64 d8, .int .u64 d9, .slice A0_10 l0_10.length c0_10, .bool d11, .int .i64 d12, .int .i64 d13, .bool d14, .string d15] (0, 0) _ (kb BK275.out) Tryd.underlying60 rfl (by kernel_rfl) ?_; (case hgd => rfl)) | ((with_reducible refine gate_callee (f := 59) rfl ?_); refine goesL_ (some 14) rfl rfl Tryd.func59 (by kernel_rfl) rfl #[.agg #[.int .i64 d0, .int .i64 d1, .int .i64 d2, .int .i64 d3, .bool d4, .int .u64 d5, .int .u64 d6, .bool d7, .int .u64 d8, .int .u64 d9, .slice A0_10 l0_10.length c0_10, .bool d11, .int .i64 d12, .int .i64 d13, .bool d14, .string d15]] rfl kA ?_; (with_reducible refine (ipv6_check.calls k d0 d1 d2 d3 d4 d5 d6 d7 d8 d9 _ _ l0_10 d11 d12 d13 d14 d15 t276 _ ?side1 ?side2 A2.out).mono ?_); (case side1 => repeat (first | exact (Kd.C_below HR0_10.out HB.out) | (with_reducible refine Kd.C_alloc ?_ _) | (with_reducible refine Kd.C_drewN ?_ _) | (with_reducible refine Kd.C_drew ?_))); (case side2 => exact HC0_10.out); rintro e w84 ⟨rfl, hb⟩; refine ⟨_, rfl, ?_⟩; replace BK275 := As (blk_below (kb BK275.out) hb); replace HB := As (below_step (kB1 HB.out GE275.out) hb); (try clear hb)))
 go_ret2
 exact ⟨kE, by exact kB1 HB.out GE275.out⟩

end Go.Proofs.YtocobalkikkhlaaDoor.X
-- short
-- short2
