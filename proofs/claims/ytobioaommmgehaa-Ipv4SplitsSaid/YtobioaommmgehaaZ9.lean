/- Functions and their walks, printed by xprint.py. -/
import Derived.Test.YtobioaommmgehaaZ0
import Derived.Test.YtobioaommmgehaaZ4
import Derived.Test.YtobioaommmgehaaZ7
import Derived.Test.YtobioaommmgehaaZ8
namespace Go.Proofs.Ytobioaommmgehaa.Z
open Go.RowKit Go.Proofs.YtobioaommmgehaaW.PrintWords Go.Proofs.YtobioaommmgehaaW.PrintLast Go.Proofs.YtobioaommmgehaaW.PrintMore
attribute [local go_sem] max2_int min2_int max_two min_two max_three min_three max_four min_four   -- for this text's walks alone
set_option linter.unusedVariables false
set_option linter.unusedSimpArgs false

/-! ### ipv4_Encode: function 15 -/
mutual
def ipv4_Encode.j0 : Nat → ByteArray → Int → Bool → Int → Int → Int → Int → Bool → Bool → Int → Bool → Int → Int → Bool → Int → Int → List (S50) → ByteArray → Option (ByteArray × Int)
 | 0, _, _, _, _, _, _, _, _, _, _, _, _, _, _, _, _, _, _ => none
 | k + 1, x4, x6, x32, b0, b1, b2, b3, b4, b5, b6, b7, b8, b9, b10, b11, b12, b13, b14 => if x32 = true then (some ((⟨#[]⟩ : ByteArray), 3)) else (if b4 = true then (ipv4_Encode.j1 k x4 x6 (Go.bits .or .i64 (wrap64 (Int.tdiv b6 8)) 16384) b0 b1 b2 b3 b4 b5 b6 b7 b8 b9 b10 b11 b12 b13 b14) else (ipv4_Encode.j1 k x4 x6 (wrap64 (Int.tdiv b6 8)) b0 b1 b2 b3 b4 b5 b6 b7 b8 b9 b10 b11 b12 b13 b14))
def ipv4_Encode.j1 : Nat → ByteArray → Int → Int → Int → Int → Int → Int → Bool → Bool → Int → Bool → Int → Int → Bool → Int → Int → List (S50) → ByteArray → Option (ByteArray × Int)
 | 0, _, _, _, _, _, _, _, _, _, _, _, _, _, _, _, _, _, _ => none
 | k + 1, x4, x6, x7, b0, b1, b2, b3, b4, b5, b6, b7, b8, b9, b10, b11, b12, b13, b14 => if b5 = true then (ipv4_Encode.j2 k x4 x6 (Go.bits .or .i64 x7 8192) b0 b1 b2 b3 b4 b5 b6 b7 b8 b9 b10 b11 b12 b13 b14) else (ipv4_Encode.j2 k x4 x6 x7 b0 b1 b2 b3 b4 b5 b6 b7 b8 b9 b10 b11 b12 b13 b14)
def ipv4_Encode.j2 : Nat → ByteArray → Int → Int → Int → Int → Int → Int → Bool → Bool → Int → Bool → Int → Int → Bool → Int → Int → List (S50) → ByteArray → Option (ByteArray × Int)
 | 0, _, _, _, _, _, _, _, _, _, _, _, _, _, _, _, _, _, _ => none
 | k + 1, x4, x6, x7, b0, b1, b2, b3, b4, b5, b6, b7, b8, b9, b10, b11, b12, b13, b14 => (field_Put.f k (Go.bits .or .i64 64 (wrap64 (Int.tdiv x6 4))) 1).bind fun t227 => ((field_Put.f k b0 1).bind fun t228 => (if t227.size + t228.size ≤ 9223372036854775807 then ((field_Put.f k (wrap64 (x6 + (b14.size : Int))) 2).bind fun t229 => (if (t227 ++ t228).size + t229.size ≤ 9223372036854775807 then ((field_Put.f k b1 2).bind fun t230 => (if ((t227 ++ t228) ++ t229).size + t230.size ≤ 9223372036854775807 then ((field_Put.f k x7 2).bind fun t231 => (if (((t227 ++ t228) ++ t229) ++ t230).size + t231.size ≤ 9223372036854775807 then ((field_Put.f k b2 1).bind fun t232 => (if ((((t227 ++ t228) ++ t229) ++ t230) ++ t231).size + t232.size ≤ 9223372036854775807 then ((field_Put.f k b3 1).bind fun t233 => (if (((((t227 ++ t228) ++ t229) ++ t230) ++ t231) ++ t232).size + t233.size ≤ 9223372036854775807 then ((address_Bytes.f k b7 b8 b9).bind fun t234 => ((address_Bytes.f k b10 b11 b12).bind fun t235 => (if t234.size + t235.size ≤ 9223372036854775807 then (if (t234 ++ t235).size + x4.size ≤ 9223372036854775807 then (if ((((((t227 ++ t228) ++ t229) ++ t230) ++ t231) ++ t232) ++ t233).size + 2 ≤ 9223372036854775807 then (if (((((((t227 ++ t228) ++ t229) ++ t230) ++ t231) ++ t232) ++ t233) ++ (⟨#[0, 0]⟩ : ByteArray)).size + ((t234 ++ t235) ++ x4).size ≤ 9223372036854775807 then ((checksum_Sum.f k ((((((((t227 ++ t228) ++ t229) ++ t230) ++ t231) ++ t232) ++ t233) ++ (⟨#[0, 0]⟩ : ByteArray)) ++ ((t234 ++ t235) ++ x4))).bind fun t236 => ((field_Put.f k t236 2).bind fun t237 => (if ((((((t227 ++ t228) ++ t229) ++ t230) ++ t231) ++ t232) ++ t233).size + t237.size ≤ 9223372036854775807 then (if (((((((t227 ++ t228) ++ t229) ++ t230) ++ t231) ++ t232) ++ t233) ++ t237).size + ((t234 ++ t235) ++ x4).size ≤ 9223372036854775807 then (if ((((((((t227 ++ t228) ++ t229) ++ t230) ++ t231) ++ t232) ++ t233) ++ t237) ++ ((t234 ++ t235) ++ x4)).size + b14.size ≤ 9223372036854775807 then (some (((((((((t227 ++ t228) ++ t229) ++ t230) ++ t231) ++ t232) ++ t233) ++ t237) ++ ((t234 ++ t235) ++ x4)) ++ b14, 0)) else (none)) else (none)) else (none)))) else (none)) else (none)) else (none)) else (none)))) else (none))) else (none))) else (none))) else (none))) else (none))) else (none)))
end
def ipv4_Encode.f (k : Nat) (d0 : Int) (d1 : Int) (d2 : Int) (d3 : Int) (d4 : Bool) (d5 : Bool) (d6 : Int) (d7 : Bool) (d8 : Int) (d9 : Int) (d10 : Bool) (d11 : Int) (d12 : Int) (l0_13 : List (S50)) (d14 : ByteArray) : Option (ByteArray × Int) := (ipv4_inRange.f k d0 d1 d2 d3 d4 d5 d6 d7 d8 d9 d10 d11 d12 l0_13 d14).bind fun t224 => (if t224 = true then ((ipv4_written.f k l0_13).bind fun bt225 => (if bt225.2 = true then (ipv4_Encode.j0 k bt225.1 (wrap64 (20 + (bt225.1.size : Int))) (decide ((d14.size : Int) > (wrap64 (65535 - (wrap64 (20 + (bt225.1.size : Int))))))) d0 d1 d2 d3 d4 d5 d6 d7 d8 d9 d10 d11 d12 l0_13 d14) else (ipv4_Encode.j0 k bt225.1 (wrap64 (20 + (bt225.1.size : Int))) true d0 d1 d2 d3 d4 d5 d6 d7 d8 d9 d10 d11 d12 l0_13 d14))) else (some ((⟨#[]⟩ : ByteArray), 4)))
theorem ipv4_Encode.mono_l : ∀ k, (∀ y0 y1 y2 y3 y4 y5 y6 y7 y8 y9 y10 y11 y12 y13 y14 y15 y16 y17, LeO (ipv4_Encode.j0 k y0 y1 y2 y3 y4 y5 y6 y7 y8 y9 y10 y11 y12 y13 y14 y15 y16 y17) (ipv4_Encode.j0 (k + 1) y0 y1 y2 y3 y4 y5 y6 y7 y8 y9 y10 y11 y12 y13 y14 y15 y16 y17)) ∧ (∀ y0 y1 y2 y3 y4 y5 y6 y7 y8 y9 y10 y11 y12 y13 y14 y15 y16 y17, LeO (ipv4_Encode.j1 k y0 y1 y2 y3 y4 y5 y6 y7 y8 y9 y10 y11 y12 y13 y14 y15 y16 y17) (ipv4_Encode.j1 (k + 1) y0 y1 y2 y3 y4 y5 y6 y7 y8 y9 y10 y11 y12 y13 y14 y15 y16 y17)) ∧ (∀ y0 y1 y2 y3 y4 y5 y6 y7 y8 y9 y10 y11 y12 y13 y14 y15 y16 y17, LeO (ipv4_Encode.j2 k y0 y1 y2 y3 y4 y5 y6 y7 y8 y9 y10 y11 y12 y13 y14 y15 y16 y17) (ipv4_Encode.j2 (k + 1) y0 y1 y2 y3 y4 y5 y6 y7 y8 y9 y10 y11 y12 y13 y14 y15 y16 y17))
 | 0 => ⟨fun _ _ _ _ _ _ _ _ _ _ _ _ _ _ _ _ _ _ r h => by simp [ipv4_Encode.j0] at h, fun _ _ _ _ _ _ _ _ _ _ _ _ _ _ _ _ _ _ r h => by simp [ipv4_Encode.j1] at h, fun _ _ _ _ _ _ _ _ _ _ _ _ _ _ _ _ _ _ r h => by simp [ipv4_Encode.j2] at h⟩
 | k + 1 => by
  obtain ⟨ih0, ih1, ih2⟩ := ipv4_Encode.mono_l k
  refine ⟨?_, ?_, ?_⟩
  ·intro y0 y1 y2 y3 y4 y5 y6 y7 y8 y9 y10 y11 y12 y13 y14 y15 y16 y17
   unfold ipv4_Encode.j0
   repeat' first | with_reducible first | apply ih0 | apply ih1 | apply ih2 | apply address_Bytes.mono | apply checksum_Sum.mono | apply field_Put.mono | apply ipv4_inRange.mono | apply ipv4_written.mono | apply LeO.refl | apply LeO.none | refine LeO.ite ?_ ?_ | refine LeO.bind ?_ (fun _ => ?_)
  ·intro y0 y1 y2 y3 y4 y5 y6 y7 y8 y9 y10 y11 y12 y13 y14 y15 y16 y17
   unfold ipv4_Encode.j1
   repeat' first | with_reducible first | apply ih0 | apply ih1 | apply ih2 | apply address_Bytes.mono | apply checksum_Sum.mono | apply field_Put.mono | apply ipv4_inRange.mono | apply ipv4_written.mono | apply LeO.refl | apply LeO.none | refine LeO.ite ?_ ?_ | refine LeO.bind ?_ (fun _ => ?_)
  intro y0 y1 y2 y3 y4 y5 y6 y7 y8 y9 y10 y11 y12 y13 y14 y15 y16 y17
  unfold ipv4_Encode.j2
  repeat' first | with_reducible first | apply ih0 | apply ih1 | apply ih2 | apply address_Bytes.mono | apply checksum_Sum.mono | apply field_Put.mono | apply ipv4_inRange.mono | apply ipv4_written.mono | apply LeO.refl | apply LeO.none | refine LeO.ite ?_ ?_ | refine LeO.bind ?_ (fun _ => ?_)
theorem ipv4_Encode.mono : ∀ a0 a1 a2 a3 a4 a5 a6 a7 a8 a9 a10 a11 a12 a13 a14 k, LeO (ipv4_Encode.f k a0 a1 a2 a3 a4 a5 a6 a7 a8 a9 a10 a11 a12 a13 a14) (ipv4_Encode.f (k + 1) a0 a1 a2 a3 a4 a5 a6 a7 a8 a9 a10 a11 a12 a13 a14) := by
 intro a0 a1 a2 a3 a4 a5 a6 a7 a8 a9 a10 a11 a12 a13 a14 k
 obtain ⟨ih0, ih1, ih2⟩ := ipv4_Encode.mono_l k
 unfold ipv4_Encode.f
 repeat' first | with_reducible first | apply ih0 | apply ih1 | apply ih2 | apply address_Bytes.mono | apply checksum_Sum.mono | apply field_Put.mono | apply ipv4_inRange.mono | apply ipv4_written.mono | apply LeO.refl | apply LeO.none | refine LeO.ite ?_ ?_ | refine LeO.bind ?_ (fun _ => ?_)
def ipv4_Encode.T12 : Bool × List (List Nat × List Nat) := (true, [([], []), ([0], [0]), ([1], [1]), ([2], [2]), ([], []), ([4], [4]), ([5, 3], [5]), ([3, 6], [3, 6]), ([], []), ([], []), ([9], [9]), ([10], [10]), ([8, 11], [8, 11]), ([12, 6], [12]), ([7, 13], [7, 13]), ([], []), ([15], [15]), ([16, 13], [16]), ([14, 17], [14, 17]), ([], []), ([19, 17], [19]), ([18, 20], [18, 20]), ([], []), ([22], [22]), ([23, 20], [23]), ([21, 24], [21, 24]), ([], []), ([26], [26]), ([27, 24], [27]), ([25, 28], [25, 28]), ([29, 28, 0, 1, 2, 3, 4, 5, 6, 7, 8, 9, 10, 11, 12, 13, 14, 15, 16, 17, 18, 19, 20, 21, 22, 23, 24, 25, 26, 27, 28, 29], [29])])
def ipv4_Encode.B12 : List Nat := [0, 1, 3, 7, 0, 16, 63, 127, 0, 0, 512, 1536, 3840, 8063, 16383, 0, 32768, 114559, 262143, 0, 769919, 2097151, 0, 4194304, 14401407, 33554431, 0, 67108864, 232505215, 536870911, 1073741823]
theorem ipv4_Encode.tab12 : rtab .any (opsOf Try.f15 12) = ipv4_Encode.T12 := by kernel_rfl
theorem ipv4_Encode.bits12 : waitsOk ipv4_Encode.T12.2 ipv4_Encode.B12 = true := by kernel_rfl
def ipv4_Encode.T13 : Bool × List (List Nat × List Nat) := (true, [([], []), ([0], [0]), ([1], [1]), ([], []), ([3], [3]), ([4, 2], [4]), ([2, 5], [2, 5]), ([], []), ([6, 7], [6, 7]), ([8, 5, 0, 1, 2, 3, 4, 5, 6, 7, 8], [8])])
def ipv4_Encode.B13 : List Nat := [0, 1, 3, 0, 8, 31, 63, 0, 255, 511]
theorem ipv4_Encode.tab13 : rtab .any (opsOf Try.f15 13) = ipv4_Encode.T13 := by kernel_rfl
theorem ipv4_Encode.bits13 : waitsOk ipv4_Encode.T13.2 ipv4_Encode.B13 = true := by kernel_rfl
def ipv4_Encode.T15 : Bool × List (List Nat × List Nat) := (true, [([], []), ([], []), ([1], [1]), ([0, 2], [0, 2]), ([], []), ([3, 4], [3, 4]), ([], []), ([6], [6]), ([5, 7], [5, 7]), ([8, 2, 0, 1, 2, 3, 4, 5, 6, 7, 8], [8]), ([9, 0, 1, 2, 3, 4, 5, 6, 7, 8, 9], [])])
def ipv4_Encode.B15 : List Nat := [0, 0, 2, 7, 0, 31, 0, 64, 255, 511, 1023]
theorem ipv4_Encode.tab15 : rtab .any (opsOf Try.f15 15) = ipv4_Encode.T15 := by kernel_rfl
theorem ipv4_Encode.bits15 : waitsOk ipv4_Encode.T15.2 ipv4_Encode.B15 = true := by kernel_rfl
set_option maxHeartbeats 8000000 in
set_option maxRecDepth 100000 in
theorem ipv4_Encode.calls (k : Nat) (d0 : Int) (d1 : Int) (d2 : Int) (d3 : Int) (d4 : Bool) (d5 : Bool) (d6 : Int) (d7 : Bool) (d8 : Int) (d9 : Int) (d10 : Bool) (d11 : Int) (d12 : Int) (A0_13 : Option Addr) (c0_13 : Nat) (l0_13 : List (S50)) (d14 : ByteArray) (r1 : ByteArray) (r2 : Int) (w : World) (hr0_13 : Kd.C k50 w A0_13 l0_13.length l0_13) (hc0_13 : l0_13.length ≤ c0_13) (h : ipv4_Encode.f k d0 d1 d2 d3 d4 d5 d6 d7 d8 d9 d10 d11 d12 l0_13 d14 = some (r1, r2)) :
  Calls Try.prog 15 #[.agg #[.int .i64 d0, .int .i64 d1, .int .i64 d2, .int .i64 d3, .bool d4, .bool d5, .int .i64 d6, .bool d7, .int .u64 d8, .int .u64 d9, .bool d10, .int .u64 d11, .int .u64 d12, .slice A0_13 l0_13.length c0_13, .string d14]] w fun e w' => e = .returned (.tuple #[.string r1, .int .i64 r2]) ∧ Below w.heap.size w w' := by
 have hu28 := Try.underlying28
 have hu25 := Try.underlying25
 have HR0_13 := As hr0_13
 have HC0_13 := As hc0_13
 clear hr0_13 hc0_13
 have HB := As (Below.refl w.heap.size w)
 have H : ((ipv4_inRange.f k d0 d1 d2 d3 d4 d5 d6 d7 d8 d9 d10 d11 d12 l0_13 d14).bind fun t224 => (if t224 = true then ((ipv4_written.f k l0_13).bind fun bt225 => (if bt225.2 = true then (ipv4_Encode.j0 k bt225.1 (wrap64 (20 + (bt225.1.size : Int))) (decide ((d14.size : Int) > (wrap64 (65535 - (wrap64 (20 + (bt225.1.size : Int))))))) d0 d1 d2 d3 d4 d5 d6 d7 d8 d9 d10 d11 d12 l0_13 d14) else (ipv4_Encode.j0 k bt225.1 (wrap64 (20 + (bt225.1.size : Int))) true d0 d1 d2 d3 d4 d5 d6 d7 d8 d9 d10 d11 d12 l0_13 d14))) else (some ((⟨#[]⟩ : ByteArray), 4)))) = some (r1, r2) := h
 clear h
 replace H := bS H
 obtain ⟨t224, A2, H⟩ := H
 by_cases c3 : t224 = true
 ·subst c3
  rw [if_pos rfl] at H
  replace H := bS H
  obtain ⟨⟨t225, t226⟩, A4, H⟩ := H
  try dsimp -simprocs only at H
  have HC5 := As H
  clear H
  go_enter Try.func15, Try.ntmps15
  go_upto_region 5 with (first | ((with_reducible refine gate_dst (N := 1) rfl ?_); (try (refine gate_guard (by rfl) ?_; dsimp only)); refine box_event rfl (N := 1) rfl (cs := #[.int .i64 d0, .int .i64 d1, .int .i64 d2, .int .i64 d3, .bool d4, .bool d5, .int .i64 d6, .bool d7, .int .u64 d8, .int .u64 d9, .bool d10, .int .u64 d11, .int .u64 d12, .slice A0_13 l0_13.length c0_13, .string d14]) (t := 28) kG ?_; intro gb223 hg w6 hbox hb; have BK223 := As (hbox); have GW223 := As (gS hg (below_size (kB HB.out))); have GE223 := As (gS hg (below_size (kB HB.out))); replace HB := As (below_step (kB HB.out) hb); clear hb hbox hg) | ((with_reducible refine gate_dst (N := 11) rfl ?_); (try (refine gate_guard (by rfl) ?_; dsimp only)); refine wpList_load_row rfl 28 _ rfl gb223 rfl 28 _ (0, 0) _ (kb BK223.out) Try.underlying28 rfl (by kernel_rfl) ?_) | ((with_reducible refine gate_callee (f := 35) rfl ?_); refine goesL_ (some 12) rfl rfl Try.func35 (by kernel_rfl) rfl #[.agg #[.int .i64 d0, .int .i64 d1, .int .i64 d2, .int .i64 d3, .bool d4, .bool d5, .int .i64 d6, .bool d7, .int .u64 d8, .int .u64 d9, .bool d10, .int .u64 d11, .int .u64 d12, .slice A0_13 l0_13.length c0_13, .string d14]] rfl kA ?_; (with_reducible refine (ipv4_inRange.calls k d0 d1 d2 d3 d4 d5 d6 d7 d8 d9 d10 d11 d12 _ _ l0_13 d14 true _ ?side1 ?side2 A2.out).mono ?_); (case side1 => repeat (first | exact (Kd.C_below HR0_13.out HB.out) | (with_reducible refine Kd.C_alloc ?_ _) | (with_reducible refine Kd.C_drewN ?_ _) | (with_reducible refine Kd.C_drew ?_))); (case side2 => exact HC0_13.out); rintro e w7 ⟨rfl, hb⟩; refine ⟨_, rfl, ?_⟩; replace BK223 := As (blk_below (kb BK223.out) hb); replace HB := As (below_step (kB1 HB.out GE223.out) hb); (try clear hb); have hcz8_0 := cells_15 BK223.out; have hfz8_0 := fun j_ => blk_frozen BK223.out j_) | ((with_reducible refine gate_callee (f := 36) rfl ?_); refine goesL_ (some 17) rfl rfl Try.func36 (by kernel_rfl) rfl #[.slice A0_13 l0_13.length c0_13] rfl kA ?_; (with_reducible refine (ipv4_written.calls k _ _ l0_13 t225 t226 _ ?side1 ?side2 A4.out).mono ?_); (case side1 => repeat (first | exact (Kd.C_below HR0_13.out HB.out) | (with_reducible refine Kd.C_alloc ?_ _) | (with_reducible refine Kd.C_drewN ?_ _) | (with_reducible refine Kd.C_drew ?_))); (case side2 => exact HC0_13.out); rintro e w9 ⟨rfl, hb⟩; refine ⟨_, rfl, ?_⟩; replace BK223 := As (blk_below (kb BK223.out) hb); replace HB := As (below_step (kB1 HB.out GE223.out) hb); (try clear hb)))
  (try simp only [Act.put, sA, sZ, sS])
  go_cut [32] (fun v32 wc => ∃ (kq : Nat) (x32_4 : Bool), v32 = .bool x32_4 ∧ Aside0 (ipv4_Encode.j0 kq t225 (wrap64 (20 + (t225.size : Int))) x32_4 d0 d1 d2 d3 d4 d5 d6 d7 d8 d9 d10 d11 d12 l0_13 d14 = some (r1, r2)) ∧ Aside0 (kq ≤ k) ∧ Aside0 (wc.heap[gb223]? = some (.cells #[.int .i64 d0, .int .i64 d1, .int .i64 d2, .int .i64 d3, .bool d4, .bool d5, .int .i64 d6, .bool d7, .int .u64 d8, .int .u64 d9, .bool d10, .int .u64 d11, .int .u64 d12, (.slice A0_13 l0_13.length c0_13), .string d14] 28 (0, 0))) ∧ Aside0 (Below w.heap.size w wc))
  case first =>
   have H := HC5.out
   clear HC5
   by_cases c10 : t226 = true
   ·subst c10
    rw [if_pos rfl] at H
    have H' := As H
    clear H
    have hcz11_0 := cells_15 BK223.out
    have hfz11_0 := fun j_ => blk_frozen BK223.out j_
    go_wp2
    go_meet
    case rel => exact ⟨_, (decide ((d14.size : Int) > (wrap64 (65535 - (wrap64 (20 + (t225.size : Int))))))), kS, H', ⟨by first | omega | exact Nat.le_refl _⟩, ⟨kb BK223.out⟩, ⟨kB1 HB.out GE223.out⟩⟩
   replace c10 := Bool.eq_false_iff.mpr c10
   subst c10
   rw [if_neg (show ¬ (false = true) by decide)] at H
   have H' := As H
   clear H
   go_wp2
   go_meet
   case rel => exact ⟨_, (true), kS, H', ⟨by first | omega | exact Nat.le_refl _⟩, ⟨kb BK223.out⟩, ⟨kB1 HB.out GE223.out⟩⟩
  clear HC5
  try clear c3
  try clear hcz8_0
  try clear hfz8_0
  obtain ⟨kq, x32_4, rfl, HA, HJ4, BK223, HB⟩ := hcut
  cases kq with
  | zero => exact absurd HA.out (by simp [ipv4_Encode.j0])
  | succ kj4 =>
   have H := HA.out
   clear HA
   simp only [ipv4_Encode.j0] at H
   by_cases c12 : x32_4 = true
   ·subst c12
    rw [if_pos rfl] at H
    simp only [Option.some.injEq, Prod.mk.injEq] at H
    obtain ⟨rfl, rfl⟩ := H
    go_wp2
    go_ret2
    exact ⟨kE, by exact kB1 HB.out GE223.out⟩
   replace c12 := Bool.eq_false_iff.mpr c12
   subst c12
   rw [if_neg (show ¬ (false = true) by decide)] at H
   have HC13 := As H
   clear H
   have hcz14_0 := cells_15 BK223.out
   have hfz14_0 := fun j_ => blk_frozen BK223.out j_
   go_upto_if 37 with (fail)
   go_cut [7] (fun v7 wc => ∃ (kq : Nat) (x7_12 : Int), v7 = .int .i64 x7_12 ∧ Aside0 (ipv4_Encode.j1 kq t225 (wrap64 (20 + (t225.size : Int))) x7_12 d0 d1 d2 d3 d4 d5 d6 d7 d8 d9 d10 d11 d12 l0_13 d14 = some (r1, r2)) ∧ Aside0 (kq ≤ kj4) ∧ Aside0 (wc.heap[gb223]? = some (.cells #[.int .i64 d0, .int .i64 d1, .int .i64 d2, .int .i64 d3, .bool d4, .bool d5, .int .i64 d6, .bool d7, .int .u64 d8, .int .u64 d9, .bool d10, .int .u64 d11, .int .u64 d12, (.slice A0_13 l0_13.length c0_13), .string d14] 28 (0, 0))) ∧ Aside0 (Below w.heap.size w wc))
   case first =>
    have H := HC13.out
    clear HC13
    by_cases c15 : d4 = true
    ·subst c15
     rw [if_pos rfl] at H
     have H' := As H
     clear H
     go_wp2
     go_meet
     case rel => exact ⟨_, (Go.bits .or .i64 (wrap64 (Int.tdiv d6 8)) 16384), kS, H', ⟨by have := HJ4.out; first | omega | exact Nat.le_refl _⟩, ⟨kb BK223.out⟩, ⟨kB1 HB.out GE223.out⟩⟩
    replace c15 := Bool.eq_false_iff.mpr c15
    subst c15
    rw [if_neg (show ¬ (false = true) by decide)] at H
    have H' := As H
    clear H
    go_wp2
    go_meet
    case rel => exact ⟨_, (wrap64 (Int.tdiv d6 8)), kS, H', ⟨by have := HJ4.out; first | omega | exact Nat.le_refl _⟩, ⟨kb BK223.out⟩, ⟨kB1 HB.out GE223.out⟩⟩
   clear HC13
   try clear c12
   try clear hcz14_0
   try clear hfz14_0
   obtain ⟨kq, x7_12, rfl, HA, HJ12, BK223, HB⟩ := hcut
   cases kq with
   | zero => exact absurd HA.out (by simp [ipv4_Encode.j1])
   | succ kj12 =>
    have H := HA.out
    clear HA
    simp only [ipv4_Encode.j1] at H
    have HC16 := As H
    clear H
    have hcz17_0 := cells_15 BK223.out
    have hfz17_0 := fun j_ => blk_frozen BK223.out j_
    go_upto_if 41 with (fail)
    go_cut [7] (fun v7 wc => ∃ (kq : Nat) (x7_15 : Int), v7 = .int .i64 x7_15 ∧ Aside0 (ipv4_Encode.j2 kq t225 (wrap64 (20 + (t225.size : Int))) x7_15 d0 d1 d2 d3 d4 d5 d6 d7 d8 d9 d10 d11 d12 l0_13 d14 = some (r1, r2)) ∧ Aside0 (kq ≤ kj12) ∧ Aside0 (wc.heap[gb223]? = some (.cells #[.int .i64 d0, .int .i64 d1, .int .i64 d2, .int .i64 d3, .bool d4, .bool d5, .int .i64 d6, .bool d7, .int .u64 d8, .int .u64 d9, .bool d10, .int .u64 d11, .int .u64 d12, (.slice A0_13 l0_13.length c0_13), .string d14] 28 (0, 0))) ∧ Aside0 (Below w.heap.size w wc))
    case first =>
     have H := HC16.out
     clear HC16
     by_cases c18 : d5 = true
     ·subst c18
      rw [if_pos rfl] at H
      have H' := As H
      clear H
      go_wp2
      go_meet
      case rel => exact ⟨_, (Go.bits .or .i64 x7_12 8192), kS, H', ⟨by have := HJ4.out; have := HJ12.out; first | omega | exact Nat.le_refl _⟩, ⟨kb BK223.out⟩, ⟨kB1 HB.out GE223.out⟩⟩
     replace c18 := Bool.eq_false_iff.mpr c18
     subst c18
     rw [if_neg (show ¬ (false = true) by decide)] at H
     have H' := As H
     clear H
     go_wp2
     go_meet
     case rel => exact ⟨_, (x7_12), kS, H', ⟨by have := HJ4.out; have := HJ12.out; first | omega | exact Nat.le_refl _⟩, ⟨kb BK223.out⟩, ⟨kB1 HB.out GE223.out⟩⟩
    clear HC16
    try clear hcz17_0
    try clear hfz17_0
    obtain ⟨kq, x7_15, rfl, HA, HJ15, BK223, HB⟩ := hcut
    cases kq with
    | zero => exact absurd HA.out (by simp [ipv4_Encode.j2])
    | succ kj15 =>
     have H := HA.out
     clear HA
     simp only [ipv4_Encode.j2] at H
     replace H := bS H
     obtain ⟨t227, A19, H⟩ := H
     replace H := bS H
     obtain ⟨t228, A20, H⟩ := H
     replace H := iS H
     obtain ⟨c21, H⟩ := H
     have c21b0 := eq_true c21
     have c21b1 := decide_eq_true c21
     try have c21b2 := eq_false (Nat.not_lt.2 c21)
     replace H := bS H
     obtain ⟨t229, A22, H⟩ := H
     replace H := iS H
     obtain ⟨c23, H⟩ := H
     have c23b0 := eq_true c23
     have c23b1 := decide_eq_true c23
     try obtain ⟨c23s0, c23s1, c23s2⟩ := sz_ (a := (t227.size + t228.size) + t229.size) c23
     try have c23b2 := eq_false (Nat.not_lt.2 c23)
     replace H := bS H
     obtain ⟨t230, A24, H⟩ := H
     replace H := iS H
     obtain ⟨c25, H⟩ := H
     have c25b0 := eq_true c25
     have c25b1 := decide_eq_true c25
     try obtain ⟨c25s0, c25s1, c25s2⟩ := sz_ (a := (t227.size + t228.size + t229.size) + t230.size) c25
     try have c25b2 := eq_false (Nat.not_lt.2 c25)
     replace H := bS H
     obtain ⟨t231, A26, H⟩ := H
     replace H := iS H
     obtain ⟨c27, H⟩ := H
     have c27b0 := eq_true c27
     have c27b1 := decide_eq_true c27
     try obtain ⟨c27s0, c27s1, c27s2⟩ := sz_ (a := (t227.size + t228.size + t229.size + t230.size) + t231.size) c27
     try have c27b2 := eq_false (Nat.not_lt.2 c27)
     replace H := bS H
     obtain ⟨t232, A28, H⟩ := H
     replace H := iS H
     obtain ⟨c29, H⟩ := H
     have c29b0 := eq_true c29
     have c29b1 := decide_eq_true c29
     try obtain ⟨c29s0, c29s1, c29s2⟩ := sz_ (a := (t227.size + t228.size + t229.size + t230.size + t231.size) + t232.size) c29
     try have c29b2 := eq_false (Nat.not_lt.2 c29)
     replace H := bS H
     obtain ⟨t233, A30, H⟩ := H
     replace H := iS H
     obtain ⟨c31, H⟩ := H
     have c31b0 := eq_true c31
     have c31b1 := decide_eq_true c31
     try obtain ⟨c31s0, c31s1, c31s2⟩ := sz_ (a := (t227.size + t228.size + t229.size + t230.size + t231.size + t232.size) + t233.size) c31
     try have c31b2 := eq_false (Nat.not_lt.2 c31)
     replace H := bS H
     obtain ⟨t234, A32, H⟩ := H
     replace H := bS H
     obtain ⟨t235, A33, H⟩ := H
     replace H := iS H
     obtain ⟨c34, H⟩ := H
     have c34b0 := eq_true c34
     have c34b1 := decide_eq_true c34
     try have c34b2 := eq_false (Nat.not_lt.2 c34)
     replace H := iS H
     obtain ⟨c35, H⟩ := H
     have c35b0 := eq_true c35
     have c35b1 := decide_eq_true c35
     try obtain ⟨c35s0, c35s1, c35s2⟩ := sz_ (a := (t234.size + t235.size) + t225.size) c35
     try have c35b2 := eq_false (Nat.not_lt.2 c35)
     replace H := iS H
     obtain ⟨c36, H⟩ := H
     have c36b0 := eq_true c36
     have c36b1 := decide_eq_true c36
     try obtain ⟨c36s0, c36s1, c36s2⟩ := sz_ (a := (t227.size + t228.size + t229.size + t230.size + t231.size + t232.size + t233.size) + 2) c36
     try have c36b2 := eq_false (Nat.not_lt.2 c36)
     replace H := iS H
     obtain ⟨c37, H⟩ := H
     have c37b0 := eq_true c37
     have c37b1 := decide_eq_true c37
     try obtain ⟨c37s0, c37s1, c37s2⟩ := sz_ (a := (t227.size + t228.size + t229.size + t230.size + t231.size + t232.size + t233.size + 2) + (t234.size + t235.size + t225.size)) c37
     try obtain ⟨c37s3, c37s4, c37s5⟩ := sz_ (a := t227.size + t228.size + t229.size + t230.size + t231.size + t232.size + t233.size + 2 + t234.size + t235.size + t225.size) c37
     try have c37b2 := eq_false (Nat.not_lt.2 c37)
     replace H := bS H
     obtain ⟨t236, A38, H⟩ := H
     replace H := bS H
     obtain ⟨t237, A39, H⟩ := H
     replace H := iS H
     obtain ⟨c40, H⟩ := H
     have c40b0 := eq_true c40
     have c40b1 := decide_eq_true c40
     try obtain ⟨c40s0, c40s1, c40s2⟩ := sz_ (a := (t227.size + t228.size + t229.size + t230.size + t231.size + t232.size + t233.size) + t237.size) c40
     try have c40b2 := eq_false (Nat.not_lt.2 c40)
     replace H := iS H
     obtain ⟨c41, H⟩ := H
     have c41b0 := eq_true c41
     have c41b1 := decide_eq_true c41
     try obtain ⟨c41s0, c41s1, c41s2⟩ := sz_ (a := (t227.size + t228.size + t229.size + t230.size + t231.size + t232.size + t233.size + t237.size) + (t234.size + t235.size + t225.size)) c41
     try obtain ⟨c41s3, c41s4, c41s5⟩ := sz_ (a := t227.size + t228.size + t229.size + t230.size + t231.size + t232.size + t233.size + t237.size + t234.size + t235.size + t225.size) c41
     try have c41b2 := eq_false (Nat.not_lt.2 c41)
     replace H := iS H
     obtain ⟨c42, H⟩ := H
     have c42b0 := eq_true c42
     have c42b1 := decide_eq_true c42
     try obtain ⟨c42s0, c42s1, c42s2⟩ := sz_ (a := (t227.size + t228.size + t229.size + t230.size + t231.size + t232.size + t233.size + t237.size + (t234.size + t235.size + t225.size)) + d14.size) c42
     try obtain ⟨c42s3, c42s4, c42s5⟩ := sz_ (a := (t227.size + t228.size + t229.size + t230.size + t231.size + t232.size + t233.size + t237.size + t234.size + t235.size + t225.size) + d14.size) c42
     try have c42b2 := eq_false (Nat.not_lt.2 c42)
     simp only [Option.some.injEq, Prod.mk.injEq] at H
     obtain ⟨rfl, rfl⟩ := H
     try go_wp2
     replace BK223 := As (blk_drew BK223.out)
     replace HB := As (below_drew1 HB.out)
     refine start_ (n := 31) (S := fun w' => w'.cell? ⟨gb223, 0, none⟩ = some (.int .i64 d0) ∧ w'.cell? ⟨gb223, 1, none⟩ = some (.int .i64 d1) ∧ w'.cell? ⟨gb223, 2, none⟩ = some (.int .i64 d2) ∧ w'.cell? ⟨gb223, 3, none⟩ = some (.int .i64 d3) ∧ w'.cell? ⟨gb223, 4, none⟩ = some (.bool d4) ∧ w'.cell? ⟨gb223, 5, none⟩ = some (.bool d5) ∧ w'.cell? ⟨gb223, 6, none⟩ = some (.int .i64 d6) ∧ w'.cell? ⟨gb223, 7, none⟩ = some (.bool d7) ∧ w'.cell? ⟨gb223, 8, none⟩ = some (.int .u64 d8) ∧ w'.cell? ⟨gb223, 9, none⟩ = some (.int .u64 d9) ∧ w'.cell? ⟨gb223, 10, none⟩ = some (.bool d10) ∧ w'.cell? ⟨gb223, 11, none⟩ = some (.int .u64 d11) ∧ w'.cell? ⟨gb223, 12, none⟩ = some (.int .u64 d12) ∧ w'.cell? ⟨gb223, 13, none⟩ = some (.slice A0_13 l0_13.length c0_13) ∧ w'.cell? ⟨gb223, 14, none⟩ = some (.string d14)) (ds := []) #[O, O, O, O, O, O, O, O, O, O, O, O, O, O, O, O, O, O, O, O, O, O, O, O, O, O, O, O, O, O, O] (by kernel_rfl) rfl rfl ⟨kC BK223.out 0, kC BK223.out 1, kC BK223.out 2, kC BK223.out 3, kC BK223.out 4, kC BK223.out 5, kC BK223.out 6, kC BK223.out 7, kC BK223.out 8, kC BK223.out 9, kC BK223.out 10, kC BK223.out 11, kC BK223.out 12, kC BK223.out 13, kC BK223.out 14⟩ (fun hHeld => ?_); refine with_tabW ipv4_Encode.tab12 ipv4_Encode.bits12 (fun HT_ HW_ => ?_)
     generalize wc.drew = w43 at BK223 HB hHeld ⊢
     refine kP 0 44 #[I, O, O, O, O, O, O, O, O, O, O, O, O, O, O, O, O, O, O, O, O, O, O, O, O, O, O, O, O, O, O] ?_ (any_of HT_.out (by kernel_rfl))
     refine kP 1 45 #[I, I, O, O, O, O, O, O, O, O, O, O, O, O, O, O, O, O, O, O, O, O, O, O, O, O, O, O, O, O, O] ?_ (any_of HT_.out (by kernel_rfl))
     refine kP 2 46 #[I, I, I, O, O, O, O, O, O, O, O, O, O, O, O, O, O, O, O, O, O, O, O, O, O, O, O, O, O, O, O] ?_ (any_of HT_.out (by kernel_rfl))
     refine kP 4 48 #[I, I, I, O, I, O, O, O, O, O, O, O, O, O, O, O, O, O, O, O, O, O, O, O, O, O, O, O, O, O, O] ?_ (any_of HT_.out (by kernel_rfl))
     refine kP 8 52 #[I, I, I, O, I, O, O, O, I, O, O, O, O, O, O, O, O, O, O, O, O, O, O, O, O, O, O, O, O, O, O] ?_ (any_of HT_.out (by kernel_rfl))
     refine kP 9 53 #[I, I, I, O, I, O, O, O, I, I, O, O, O, O, O, O, O, O, O, O, O, O, O, O, O, O, O, O, O, O, O] ?_ (any_of HT_.out (by kernel_rfl))
     refine kP 15 59 #[I, I, I, O, I, O, O, O, I, I, O, O, O, O, O, I, O, O, O, O, O, O, O, O, O, O, O, O, O, O, O] ?_ (any_of HT_.out (by kernel_rfl))
     refine kP 19 63 #[I, I, I, O, I, O, O, O, I, I, O, O, O, O, O, I, O, O, O, I, O, O, O, O, O, O, O, O, O, O, O] ?_ (any_of HT_.out (by kernel_rfl))
     refine kP 22 66 #[I, I, I, O, I, O, O, O, I, I, O, O, O, O, O, I, O, O, O, I, O, O, I, O, O, O, O, O, O, O, O] ?_ (any_of HT_.out (by kernel_rfl))
     refine kP 26 70 #[I, I, I, O, I, O, O, O, I, I, O, O, O, O, O, I, O, O, O, I, O, O, I, O, O, O, I, O, O, O, O] ?_ (any_of HT_.out (by kernel_rfl))
     refine take_ (i := 5) (N := some 49) (v := ?_) (a' := ?_) #[I, I, I, O, I, I, O, O, I, I, O, O, O, O, O, I, O, O, O, I, O, O, I, O, O, O, I, O, O, O, O] rfl rfl (take_ofW HT_.out HW_.out (by kernel_rfl)) (fun _ _ _ h => h) (Or.inl ⟨by rfl, ?_⟩) hHeld ?_ ?_
     rotate_left
     ·rintro w' ⟨s0, s1, s2, s3, s4, s5, s6, s7, s8, s9, s10, s11, s12, s13, s14⟩
      go_simp
      with_reducible rfl
     rotate_left
     ·simp only [Act.put, sA, sZ, sS, i64_w, i32_w]
      rfl
     refine take_ (i := 10) (N := some 54) (v := ?_) (a' := ?_) #[I, I, I, O, I, I, O, O, I, I, I, O, O, O, O, I, O, O, O, I, O, O, I, O, O, O, I, O, O, O, O] rfl rfl (take_ofW HT_.out HW_.out (by kernel_rfl)) (fun _ _ _ h => h) (Or.inl ⟨by rfl, ?_⟩) hHeld ?_ ?_
     rotate_left
     ·rintro w' ⟨s0, s1, s2, s3, s4, s5, s6, s7, s8, s9, s10, s11, s12, s13, s14⟩
      go_simp
      with_reducible rfl
     rotate_left
     ·simp only [Act.put, sA, sZ, sS, i64_w, i32_w]
      rfl
     refine kP 11 55 #[I, I, I, O, I, I, O, O, I, I, I, I, O, O, O, I, O, O, O, I, O, O, I, O, O, O, I, O, O, O, O] ?_ (any_of HT_.out (by kernel_rfl))
     refine kP 12 56 #[I, I, I, O, I, I, O, O, I, I, I, I, I, O, O, I, O, O, O, I, O, O, I, O, O, O, I, O, O, O, O] ?_ (any_of HT_.out (by kernel_rfl))
     refine take_ (i := 16) (N := some 60) (v := ?_) (a' := ?_) #[I, I, I, O, I, I, O, O, I, I, I, I, I, O, O, I, I, O, O, I, O, O, I, O, O, O, I, O, O, O, O] rfl rfl (take_ofW HT_.out HW_.out (by kernel_rfl)) (fun _ _ _ h => h) (Or.inl ⟨by rfl, ?_⟩) hHeld ?_ ?_
     rotate_left
     ·rintro w' ⟨s0, s1, s2, s3, s4, s5, s6, s7, s8, s9, s10, s11, s12, s13, s14⟩
      go_simp
      with_reducible rfl
     rotate_left
     ·simp only [Act.put, sA, sZ, sS, i64_w, i32_w]
      rfl
     refine take_ (i := 23) (N := some 67) (v := ?_) (a' := ?_) #[I, I, I, O, I, I, O, O, I, I, I, I, I, O, O, I, I, O, O, I, O, O, I, I, O, O, I, O, O, O, O] rfl rfl (take_ofW HT_.out HW_.out (by kernel_rfl)) (fun _ _ _ h => h) (Or.inl ⟨by rfl, ?_⟩) hHeld ?_ ?_
     rotate_left
     ·rintro w' ⟨s0, s1, s2, s3, s4, s5, s6, s7, s8, s9, s10, s11, s12, s13, s14⟩
      go_simp
      with_reducible rfl
     rotate_left
     ·simp only [Act.put, sA, sZ, sS, i64_w, i32_w]
      rfl
     refine take_ (i := 27) (N := some 71) (v := ?_) (a' := ?_) #[I, I, I, O, I, I, O, O, I, I, I, I, I, O, O, I, I, O, O, I, O, O, I, I, O, O, I, I, O, O, O] rfl rfl (take_ofW HT_.out HW_.out (by kernel_rfl)) (fun _ _ _ h => h) (Or.inl ⟨by rfl, ?_⟩) hHeld ?_ ?_
     rotate_left
     ·rintro w' ⟨s0, s1, s2, s3, s4, s5, s6, s7, s8, s9, s10, s11, s12, s13, s14⟩
      go_simp
      with_reducible rfl
     rotate_left
     ·simp only [Act.put, sA, sZ, sS, i64_w, i32_w]
      rfl
     refine one_ (i := 3) (N := some 47) #[I, I, I, I, I, I, O, O, I, I, I, I, I, O, O, I, I, O, O, I, O, O, I, I, O, O, I, I, O, O, O] rfl rfl (one_of HT_.out (by kernel_rfl)) (by decide) (fun K hK => ?_)
     refine goes_ Try.func37 (by kernel_rfl) rfl #[.int .i64 (Go.bits .or .i64 64 (wrap64 (Int.tdiv (wrap64 (20 + (t225.size : Int))) 4))), .int .i64 1] (by rfl) rfl rfl kA ?_
     with_reducible refine (field_Put.calls kj15 (Go.bits .or .i64 64 (wrap64 (Int.tdiv (wrap64 (20 + (t225.size : Int))) 4))) 1 t227 _ A19.out).mono ?_
     rintro e w44 ⟨rfl, hb⟩
     refine ⟨_, rfl, ?_⟩
     replace BK223 := As (blk_below (kb BK223.out) hb)
     replace HB := As (below_step (kB1 HB.out GE223.out) hb)
     (try clear hb)
     (try clear hb2)
     (try clear hk)
     (try clear hi)
     refine hK.out _ _ ⟨kC BK223.out 0, kC BK223.out 1, kC BK223.out 2, kC BK223.out 3, kC BK223.out 4, kC BK223.out 5, kC BK223.out 6, kC BK223.out 7, kC BK223.out 8, kC BK223.out 9, kC BK223.out 10, kC BK223.out 11, kC BK223.out 12, kC BK223.out 13, kC BK223.out 14⟩ (fun hHeld => ?_)
     clear hK K
     refine nP ?_
     refine one_ (i := 6) (N := some 50) #[I, I, I, I, I, I, I, O, I, I, I, I, I, O, O, I, I, O, O, I, O, O, I, I, O, O, I, I, O, O, O] rfl rfl (one_of HT_.out (by kernel_rfl)) (by decide) (fun K hK => ?_)
     refine goes_ Try.func37 (by kernel_rfl) rfl #[.int .i64 d0, .int .i64 1] (by rfl) rfl rfl kA ?_
     with_reducible refine (field_Put.calls kj15 d0 1 t228 _ A20.out).mono ?_
     rintro e w45 ⟨rfl, hb⟩
     refine ⟨_, rfl, ?_⟩
     replace BK223 := As (blk_below (kb BK223.out) hb)
     replace HB := As (below_step (kB1 HB.out GE223.out) hb)
     (try clear hb)
     (try clear hb2)
     (try clear hk)
     (try clear hi)
     refine hK.out _ _ ⟨kC BK223.out 0, kC BK223.out 1, kC BK223.out 2, kC BK223.out 3, kC BK223.out 4, kC BK223.out 5, kC BK223.out 6, kC BK223.out 7, kC BK223.out 8, kC BK223.out 9, kC BK223.out 10, kC BK223.out 11, kC BK223.out 12, kC BK223.out 13, kC BK223.out 14⟩ (fun hHeld => ?_)
     clear hK K
     refine nP ?_
     refine kP 7 51 #[I, I, I, I, I, I, I, I, I, I, I, I, I, O, O, I, I, O, O, I, O, O, I, I, O, O, I, I, O, O, O] ?_ (any_of HT_.out (by kernel_rfl))
     refine one_ (i := 13) (N := some 57) #[I, I, I, I, I, I, I, I, I, I, I, I, I, I, O, I, I, O, O, I, O, O, I, I, O, O, I, I, O, O, O] rfl rfl (one_of HT_.out (by kernel_rfl)) (by decide) (fun K hK => ?_)
     refine goes_ Try.func37 (by kernel_rfl) rfl #[.int .i64 (wrap64 ((wrap64 (20 + (t225.size : Int))) + (d14.size : Int))), .int .i64 2] (by rfl) rfl rfl kA ?_
     with_reducible refine (field_Put.calls kj15 (wrap64 ((wrap64 (20 + (t225.size : Int))) + (d14.size : Int))) 2 t229 _ A22.out).mono ?_
     rintro e w46 ⟨rfl, hb⟩
     refine ⟨_, rfl, ?_⟩
     replace BK223 := As (blk_below (kb BK223.out) hb)
     replace HB := As (below_step (kB1 HB.out GE223.out) hb)
     (try clear hb)
     (try clear hb2)
     (try clear hk)
     (try clear hi)
     refine hK.out _ _ ⟨kC BK223.out 0, kC BK223.out 1, kC BK223.out 2, kC BK223.out 3, kC BK223.out 4, kC BK223.out 5, kC BK223.out 6, kC BK223.out 7, kC BK223.out 8, kC BK223.out 9, kC BK223.out 10, kC BK223.out 11, kC BK223.out 12, kC BK223.out 13, kC BK223.out 14⟩ (fun hHeld => ?_)
     clear hK K
     refine nP ?_
     refine kP 14 58 #[I, I, I, I, I, I, I, I, I, I, I, I, I, I, I, I, I, O, O, I, O, O, I, I, O, O, I, I, O, O, O] ?_ (any_of HT_.out (by kernel_rfl))
     refine one_ (i := 17) (N := some 61) #[I, I, I, I, I, I, I, I, I, I, I, I, I, I, I, I, I, I, O, I, O, O, I, I, O, O, I, I, O, O, O] rfl rfl (one_of HT_.out (by kernel_rfl)) (by decide) (fun K hK => ?_)
     refine goes_ Try.func37 (by kernel_rfl) rfl #[.int .i64 d1, .int .i64 2] (by rfl) rfl rfl kA ?_
     with_reducible refine (field_Put.calls kj15 d1 2 t230 _ A24.out).mono ?_
     rintro e w47 ⟨rfl, hb⟩
     refine ⟨_, rfl, ?_⟩
     replace BK223 := As (blk_below (kb BK223.out) hb)
     replace HB := As (below_step (kB1 HB.out GE223.out) hb)
     (try clear hb)
     (try clear hb2)
     (try clear hk)
     (try clear hi)
     refine hK.out _ _ ⟨kC BK223.out 0, kC BK223.out 1, kC BK223.out 2, kC BK223.out 3, kC BK223.out 4, kC BK223.out 5, kC BK223.out 6, kC BK223.out 7, kC BK223.out 8, kC BK223.out 9, kC BK223.out 10, kC BK223.out 11, kC BK223.out 12, kC BK223.out 13, kC BK223.out 14⟩ (fun hHeld => ?_)
     clear hK K
     refine nP ?_
     refine kP 18 62 #[I, I, I, I, I, I, I, I, I, I, I, I, I, I, I, I, I, I, I, I, O, O, I, I, O, O, I, I, O, O, O] ?_ (any_of HT_.out (by kernel_rfl))
     refine one_ (i := 20) (N := some 64) #[I, I, I, I, I, I, I, I, I, I, I, I, I, I, I, I, I, I, I, I, I, O, I, I, O, O, I, I, O, O, O] rfl rfl (one_of HT_.out (by kernel_rfl)) (by decide) (fun K hK => ?_)
     refine goes_ Try.func37 (by kernel_rfl) rfl #[.int .i64 x7_15, .int .i64 2] (by rfl) rfl rfl kA ?_
     with_reducible refine (field_Put.calls kj15 x7_15 2 t231 _ A26.out).mono ?_
     rintro e w48 ⟨rfl, hb⟩
     refine ⟨_, rfl, ?_⟩
     replace BK223 := As (blk_below (kb BK223.out) hb)
     replace HB := As (below_step (kB1 HB.out GE223.out) hb)
     (try clear hb)
     (try clear hb2)
     (try clear hk)
     (try clear hi)
     refine hK.out _ _ ⟨kC BK223.out 0, kC BK223.out 1, kC BK223.out 2, kC BK223.out 3, kC BK223.out 4, kC BK223.out 5, kC BK223.out 6, kC BK223.out 7, kC BK223.out 8, kC BK223.out 9, kC BK223.out 10, kC BK223.out 11, kC BK223.out 12, kC BK223.out 13, kC BK223.out 14⟩ (fun hHeld => ?_)
     clear hK K
     refine nP ?_
     refine kP 21 65 #[I, I, I, I, I, I, I, I, I, I, I, I, I, I, I, I, I, I, I, I, I, I, I, I, O, O, I, I, O, O, O] ?_ (any_of HT_.out (by kernel_rfl))
     refine one_ (i := 24) (N := some 68) #[I, I, I, I, I, I, I, I, I, I, I, I, I, I, I, I, I, I, I, I, I, I, I, I, I, O, I, I, O, O, O] rfl rfl (one_of HT_.out (by kernel_rfl)) (by decide) (fun K hK => ?_)
     refine goes_ Try.func37 (by kernel_rfl) rfl #[.int .i64 d2, .int .i64 1] (by rfl) rfl rfl kA ?_
     with_reducible refine (field_Put.calls kj15 d2 1 t232 _ A28.out).mono ?_
     rintro e w49 ⟨rfl, hb⟩
     refine ⟨_, rfl, ?_⟩
     replace BK223 := As (blk_below (kb BK223.out) hb)
     replace HB := As (below_step (kB1 HB.out GE223.out) hb)
     (try clear hb)
     (try clear hb2)
     (try clear hk)
     (try clear hi)
     refine hK.out _ _ ⟨kC BK223.out 0, kC BK223.out 1, kC BK223.out 2, kC BK223.out 3, kC BK223.out 4, kC BK223.out 5, kC BK223.out 6, kC BK223.out 7, kC BK223.out 8, kC BK223.out 9, kC BK223.out 10, kC BK223.out 11, kC BK223.out 12, kC BK223.out 13, kC BK223.out 14⟩ (fun hHeld => ?_)
     clear hK K
     refine nP ?_
     refine kP 25 69 #[I, I, I, I, I, I, I, I, I, I, I, I, I, I, I, I, I, I, I, I, I, I, I, I, I, I, I, I, O, O, O] ?_ (any_of HT_.out (by kernel_rfl))
     refine one_ (i := 28) (N := some 72) #[I, I, I, I, I, I, I, I, I, I, I, I, I, I, I, I, I, I, I, I, I, I, I, I, I, I, I, I, I, O, O] rfl rfl (one_of HT_.out (by kernel_rfl)) (by decide) (fun K hK => ?_)
     refine goes_ Try.func37 (by kernel_rfl) rfl #[.int .i64 d3, .int .i64 1] (by rfl) rfl rfl kA ?_
     with_reducible refine (field_Put.calls kj15 d3 1 t233 _ A30.out).mono ?_
     rintro e w50 ⟨rfl, hb⟩
     refine ⟨_, rfl, ?_⟩
     replace BK223 := As (blk_below (kb BK223.out) hb)
     replace HB := As (below_step (kB1 HB.out GE223.out) hb)
     (try clear hb)
     (try clear hb2)
     (try clear hk)
     (try clear hi)
     refine hK.out _ _ ⟨kC BK223.out 0, kC BK223.out 1, kC BK223.out 2, kC BK223.out 3, kC BK223.out 4, kC BK223.out 5, kC BK223.out 6, kC BK223.out 7, kC BK223.out 8, kC BK223.out 9, kC BK223.out 10, kC BK223.out 11, kC BK223.out 12, kC BK223.out 13, kC BK223.out 14⟩ (fun hHeld => ?_)
     clear hK K
     refine nP ?_
     refine kP 29 73 #[I, I, I, I, I, I, I, I, I, I, I, I, I, I, I, I, I, I, I, I, I, I, I, I, I, I, I, I, I, I, O] ?_ (any_of HT_.out (by kernel_rfl))
     refine kP 30 8 #[I, I, I, I, I, I, I, I, I, I, I, I, I, I, I, I, I, I, I, I, I, I, I, I, I, I, I, I, I, I, I] ?_ (any_of HT_.out (by kernel_rfl))
     refine done_ (done_of HT_.out (by kernel_rfl)) ?_
     try go_wp2
     replace BK223 := As (blk_drew BK223.out)
     replace HB := As (below_drew1 HB.out)
     refine start_ (n := 10) (S := fun w' => w'.cell? ⟨gb223, 0, none⟩ = some (.int .i64 d0) ∧ w'.cell? ⟨gb223, 1, none⟩ = some (.int .i64 d1) ∧ w'.cell? ⟨gb223, 2, none⟩ = some (.int .i64 d2) ∧ w'.cell? ⟨gb223, 3, none⟩ = some (.int .i64 d3) ∧ w'.cell? ⟨gb223, 4, none⟩ = some (.bool d4) ∧ w'.cell? ⟨gb223, 5, none⟩ = some (.bool d5) ∧ w'.cell? ⟨gb223, 6, none⟩ = some (.int .i64 d6) ∧ w'.cell? ⟨gb223, 7, none⟩ = some (.bool d7) ∧ w'.cell? ⟨gb223, 8, none⟩ = some (.int .u64 d8) ∧ w'.cell? ⟨gb223, 9, none⟩ = some (.int .u64 d9) ∧ w'.cell? ⟨gb223, 10, none⟩ = some (.bool d10) ∧ w'.cell? ⟨gb223, 11, none⟩ = some (.int .u64 d11) ∧ w'.cell? ⟨gb223, 12, none⟩ = some (.int .u64 d12) ∧ w'.cell? ⟨gb223, 13, none⟩ = some (.slice A0_13 l0_13.length c0_13) ∧ w'.cell? ⟨gb223, 14, none⟩ = some (.string d14)) (ds := []) #[O, O, O, O, O, O, O, O, O, O] (by kernel_rfl) rfl rfl ⟨kC BK223.out 0, kC BK223.out 1, kC BK223.out 2, kC BK223.out 3, kC BK223.out 4, kC BK223.out 5, kC BK223.out 6, kC BK223.out 7, kC BK223.out 8, kC BK223.out 9, kC BK223.out 10, kC BK223.out 11, kC BK223.out 12, kC BK223.out 13, kC BK223.out 14⟩ (fun hHeld => ?_); refine with_tabW ipv4_Encode.tab13 ipv4_Encode.bits13 (fun HT_ HW_ => ?_)
     generalize w50.drew = w51 at BK223 HB hHeld ⊢
     refine kP 0 74 #[I, O, O, O, O, O, O, O, O, O] ?_ (any_of HT_.out (by kernel_rfl))
     refine kP 3 77 #[I, O, O, I, O, O, O, O, O, O] ?_ (any_of HT_.out (by kernel_rfl))
     refine kP 7 81 #[I, O, O, I, O, O, O, I, O, O] ?_ (any_of HT_.out (by kernel_rfl))
     refine take_ (i := 1) (N := some 75) (v := ?_) (a' := ?_) #[I, I, O, I, O, O, O, I, O, O] rfl rfl (take_ofW HT_.out HW_.out (by kernel_rfl)) (fun _ _ _ h => h) (Or.inl ⟨by rfl, ?_⟩) hHeld ?_ ?_
     rotate_left
     ·rintro w' ⟨s0, s1, s2, s3, s4, s5, s6, s7, s8, s9, s10, s11, s12, s13, s14⟩
      go_simp
      with_reducible rfl
     rotate_left
     ·simp only [Act.put, sA, sZ, sS, i64_w, i32_w]
      rfl
     refine take_ (i := 4) (N := some 78) (v := ?_) (a' := ?_) #[I, I, O, I, I, O, O, I, O, O] rfl rfl (take_ofW HT_.out HW_.out (by kernel_rfl)) (fun _ _ _ h => h) (Or.inl ⟨by rfl, ?_⟩) hHeld ?_ ?_
     rotate_left
     ·rintro w' ⟨s0, s1, s2, s3, s4, s5, s6, s7, s8, s9, s10, s11, s12, s13, s14⟩
      go_simp
      with_reducible rfl
     rotate_left
     ·simp only [Act.put, sA, sZ, sS, i64_w, i32_w]
      rfl
     refine one_ (i := 2) (N := some 76) #[I, I, I, I, I, O, O, I, O, O] rfl rfl (one_of HT_.out (by kernel_rfl)) (by decide) (fun K hK => ?_)
     refine goes_ Try.func38 (by kernel_rfl) rfl #[.agg #[.bool d7, .int .u64 d8, .int .u64 d9]] (by rfl) rfl rfl kA ?_
     with_reducible refine (address_Bytes.calls kj15 d7 d8 d9 t234 _ A32.out).mono ?_
     rintro e w52 ⟨rfl, hb⟩
     refine ⟨_, rfl, ?_⟩
     replace BK223 := As (blk_below (kb BK223.out) hb)
     replace HB := As (below_step (kB1 HB.out GE223.out) hb)
     (try clear hb)
     (try clear hb2)
     (try clear hk)
     (try clear hi)
     refine hK.out _ _ ⟨kC BK223.out 0, kC BK223.out 1, kC BK223.out 2, kC BK223.out 3, kC BK223.out 4, kC BK223.out 5, kC BK223.out 6, kC BK223.out 7, kC BK223.out 8, kC BK223.out 9, kC BK223.out 10, kC BK223.out 11, kC BK223.out 12, kC BK223.out 13, kC BK223.out 14⟩ (fun hHeld => ?_)
     clear hK K
     refine nP ?_
     refine one_ (i := 5) (N := some 79) #[I, I, I, I, I, I, O, I, O, O] rfl rfl (one_of HT_.out (by kernel_rfl)) (by decide) (fun K hK => ?_)
     refine goes_ Try.func38 (by kernel_rfl) rfl #[.agg #[.bool d10, .int .u64 d11, .int .u64 d12]] (by rfl) rfl rfl kA ?_
     with_reducible refine (address_Bytes.calls kj15 d10 d11 d12 t235 _ A33.out).mono ?_
     rintro e w53 ⟨rfl, hb⟩
     refine ⟨_, rfl, ?_⟩
     replace BK223 := As (blk_below (kb BK223.out) hb)
     replace HB := As (below_step (kB1 HB.out GE223.out) hb)
     (try clear hb)
     (try clear hb2)
     (try clear hk)
     (try clear hi)
     refine hK.out _ _ ⟨kC BK223.out 0, kC BK223.out 1, kC BK223.out 2, kC BK223.out 3, kC BK223.out 4, kC BK223.out 5, kC BK223.out 6, kC BK223.out 7, kC BK223.out 8, kC BK223.out 9, kC BK223.out 10, kC BK223.out 11, kC BK223.out 12, kC BK223.out 13, kC BK223.out 14⟩ (fun hHeld => ?_)
     clear hK K
     refine nP ?_
     refine kP 6 80 #[I, I, I, I, I, I, I, I, O, O] ?_ (any_of HT_.out (by kernel_rfl))
     refine kP 8 82 #[I, I, I, I, I, I, I, I, I, O] ?_ (any_of HT_.out (by kernel_rfl))
     refine kP 9 9 #[I, I, I, I, I, I, I, I, I, I] ?_ (any_of HT_.out (by kernel_rfl))
     refine done_ (done_of HT_.out (by kernel_rfl)) ?_
     try go_wp2_with (first | ((with_reducible refine gate_callee (f := 23) rfl ?_); refine goesL_ (some 87) rfl rfl Try.func23 (by kernel_rfl) rfl #[.string ((((((((t227 ++ t228) ++ t229) ++ t230) ++ t231) ++ t232) ++ t233) ++ (⟨#[0, 0]⟩ : ByteArray)) ++ ((t234 ++ t235) ++ t225))] rfl kA ?_; (with_reducible refine (checksum_Sum.calls kj15 ((((((((t227 ++ t228) ++ t229) ++ t230) ++ t231) ++ t232) ++ t233) ++ (⟨#[0, 0]⟩ : ByteArray)) ++ ((t234 ++ t235) ++ t225)) t236 _ A38.out).mono ?_); rintro e w' ⟨rfl, ⟨nd, rfl⟩⟩; refine ⟨_, rfl, ?_⟩))
     (try (rw [drewN_self w53]; generalize hq_ : World.drewN w53 _ = w53; have n0_ : Aside0 (w53.heap[gb223]? = some (.cells #[.int .i64 d0, .int .i64 d1, .int .i64 d2, .int .i64 d3, .bool d4, .bool d5, .int .i64 d6, .bool d7, .int .u64 d8, .int .u64 d9, .bool d10, .int .u64 d11, .int .u64 d12, .slice A0_13 l0_13.length c0_13, .string d14] 28 (0, 0))) := ⟨by rw [← hq_]; exact (kb BK223.out)⟩; have n1_ : Aside0 (Below w.heap.size w w53) := ⟨by rw [← hq_]; exact (kB1 HB.out GE223.out)⟩; clear BK223 HB hq_; have BK223 := n0_; have HB := n1_; clear n0_ n1_))
     replace BK223 := As (blk_drew BK223.out)
     replace HB := As (below_drew1 HB.out)
     refine start_ (n := 11) (S := fun w' => w'.cell? ⟨gb223, 0, none⟩ = some (.int .i64 d0) ∧ w'.cell? ⟨gb223, 1, none⟩ = some (.int .i64 d1) ∧ w'.cell? ⟨gb223, 2, none⟩ = some (.int .i64 d2) ∧ w'.cell? ⟨gb223, 3, none⟩ = some (.int .i64 d3) ∧ w'.cell? ⟨gb223, 4, none⟩ = some (.bool d4) ∧ w'.cell? ⟨gb223, 5, none⟩ = some (.bool d5) ∧ w'.cell? ⟨gb223, 6, none⟩ = some (.int .i64 d6) ∧ w'.cell? ⟨gb223, 7, none⟩ = some (.bool d7) ∧ w'.cell? ⟨gb223, 8, none⟩ = some (.int .u64 d8) ∧ w'.cell? ⟨gb223, 9, none⟩ = some (.int .u64 d9) ∧ w'.cell? ⟨gb223, 10, none⟩ = some (.bool d10) ∧ w'.cell? ⟨gb223, 11, none⟩ = some (.int .u64 d11) ∧ w'.cell? ⟨gb223, 12, none⟩ = some (.int .u64 d12) ∧ w'.cell? ⟨gb223, 13, none⟩ = some (.slice A0_13 l0_13.length c0_13) ∧ w'.cell? ⟨gb223, 14, none⟩ = some (.string d14)) (ds := []) #[O, O, O, O, O, O, O, O, O, O, O] (by kernel_rfl) rfl rfl ⟨kC BK223.out 0, kC BK223.out 1, kC BK223.out 2, kC BK223.out 3, kC BK223.out 4, kC BK223.out 5, kC BK223.out 6, kC BK223.out 7, kC BK223.out 8, kC BK223.out 9, kC BK223.out 10, kC BK223.out 11, kC BK223.out 12, kC BK223.out 13, kC BK223.out 14⟩ (fun hHeld => ?_); refine with_tabW ipv4_Encode.tab15 ipv4_Encode.bits15 (fun HT_ HW_ => ?_)
     generalize w53.drew = w54 at BK223 HB hHeld ⊢
     refine kP 0 88 #[I, O, O, O, O, O, O, O, O, O, O] ?_ (any_of HT_.out (by kernel_rfl))
     refine kP 1 89 #[I, I, O, O, O, O, O, O, O, O, O] ?_ (any_of HT_.out (by kernel_rfl))
     refine kP 4 92 #[I, I, O, O, I, O, O, O, O, O, O] ?_ (any_of HT_.out (by kernel_rfl))
     refine kP 6 94 #[I, I, O, O, I, O, I, O, O, O, O] ?_ (any_of HT_.out (by kernel_rfl))
     refine take_ (i := 7) (N := some 95) (v := ?_) (a' := ?_) #[I, I, O, O, I, O, I, I, O, O, O] rfl rfl (take_ofW HT_.out HW_.out (by kernel_rfl)) (fun _ _ _ h => h) (Or.inl ⟨by rfl, ?_⟩) hHeld ?_ ?_
     rotate_left
     ·rintro w' ⟨s0, s1, s2, s3, s4, s5, s6, s7, s8, s9, s10, s11, s12, s13, s14⟩
      go_simp
      with_reducible rfl
     rotate_left
     ·simp only [Act.put, sA, sZ, sS, i64_w, i32_w]
      rfl
     refine one_ (i := 2) (N := some 90) #[I, I, I, O, I, O, I, I, O, O, O] rfl rfl (one_of HT_.out (by kernel_rfl)) (by decide) (fun K hK => ?_)
     refine goes_ Try.func37 (by kernel_rfl) rfl #[.int .i64 t236, .int .i64 2] (by rfl) rfl rfl kA ?_
     with_reducible refine (field_Put.calls kj15 t236 2 t237 _ A39.out).mono ?_
     rintro e w55 ⟨rfl, hb⟩
     refine ⟨_, rfl, ?_⟩
     replace BK223 := As (blk_below (kb BK223.out) hb)
     replace HB := As (below_step (kB1 HB.out GE223.out) hb)
     (try clear hb)
     (try clear hb2)
     (try clear hk)
     (try clear hi)
     refine hK.out _ _ ⟨kC BK223.out 0, kC BK223.out 1, kC BK223.out 2, kC BK223.out 3, kC BK223.out 4, kC BK223.out 5, kC BK223.out 6, kC BK223.out 7, kC BK223.out 8, kC BK223.out 9, kC BK223.out 10, kC BK223.out 11, kC BK223.out 12, kC BK223.out 13, kC BK223.out 14⟩ (fun hHeld => ?_)
     clear hK K
     refine nP ?_
     refine kP 3 91 #[I, I, I, I, I, O, I, I, O, O, O] ?_ (any_of HT_.out (by kernel_rfl))
     refine kP 5 93 #[I, I, I, I, I, I, I, I, O, O, O] ?_ (any_of HT_.out (by kernel_rfl))
     refine kP 8 96 #[I, I, I, I, I, I, I, I, I, O, O] ?_ (any_of HT_.out (by kernel_rfl))
     refine kP 9 2 #[I, I, I, I, I, I, I, I, I, I, O] ?_ (any_of HT_.out (by kernel_rfl))
     refine kP 10 3 #[I, I, I, I, I, I, I, I, I, I, I] ?_ (any_of HT_.out (by kernel_rfl))
     refine done_ (done_of HT_.out (by kernel_rfl)) ?_
     try go_wp2
     go_ret2
     exact ⟨kE, by exact kB1 HB.out GE223.out⟩
 replace c3 := Bool.eq_false_iff.mpr c3
 subst c3
 rw [if_neg (show ¬ (false = true) by decide)] at H
 simp only [Option.some.injEq, Prod.mk.injEq] at H
 obtain ⟨rfl, rfl⟩ := H
 go_enter Try.func15, Try.ntmps15
 go_wp2_with (first | ((with_reducible refine gate_dst (N := 1) rfl ?_); (try (refine gate_guard (by rfl) ?_; dsimp only)); refine box_event rfl (N := 1) rfl (cs := #[.int .i64 d0, .int .i64 d1, .int .i64 d2, .int .i64 d3, .bool d4, .bool d5, .int .i64 d6, .bool d7, .int .u64 d8, .int .u64 d9, .bool d10, .int .u64 d11, .int .u64 d12, .slice A0_13 l0_13.length c0_13, .string d14]) (t := 28) kG ?_; intro gb223 hg w56 hbox hb; have BK223 := As (hbox); have GW223 := As (gS hg (below_size (kB HB.out))); have GE223 := As (gS hg (below_size (kB HB.out))); replace HB := As (below_step (kB HB.out) hb); clear hb hbox hg) | ((with_reducible refine gate_dst (N := 11) rfl ?_); (try (refine gate_guard (by rfl) ?_; dsimp only)); refine wpList_load_row rfl 28 _ rfl gb223 rfl 28 _ (0, 0) _ (kb BK223.out) Try.underlying28 rfl (by kernel_rfl) ?_) | ((with_reducible refine gate_callee (f := 35) rfl ?_); refine goesL_ (some 12) rfl rfl Try.func35 (by kernel_rfl) rfl #[.agg #[.int .i64 d0, .int .i64 d1, .int .i64 d2, .int .i64 d3, .bool d4, .bool d5, .int .i64 d6, .bool d7, .int .u64 d8, .int .u64 d9, .bool d10, .int .u64 d11, .int .u64 d12, .slice A0_13 l0_13.length c0_13, .string d14]] rfl kA ?_; (with_reducible refine (ipv4_inRange.calls k d0 d1 d2 d3 d4 d5 d6 d7 d8 d9 d10 d11 d12 _ _ l0_13 d14 false _ ?side1 ?side2 A2.out).mono ?_); (case side1 => repeat (first | exact (Kd.C_below HR0_13.out HB.out) | (with_reducible refine Kd.C_alloc ?_ _) | (with_reducible refine Kd.C_drewN ?_ _) | (with_reducible refine Kd.C_drew ?_))); (case side2 => exact HC0_13.out); rintro e w57 ⟨rfl, hb⟩; refine ⟨_, rfl, ?_⟩; replace BK223 := As (blk_below (kb BK223.out) hb); replace HB := As (below_step (kB1 HB.out GE223.out) hb); (try clear hb)))
 go_ret2
 exact ⟨kE, by exact kB1 HB.out GE223.out⟩

end Go.Proofs.Ytobioaommmgehaa.Z
-- short
-- short2
