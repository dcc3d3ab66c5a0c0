/- Functions and their walks, printed by xprint.py. -/
import Derived.Test.YtocobalkikkhlaaDoorX0
import Derived.Test.YtocobalkikkhlaaDoorX4
import Derived.Test.YtocobalkikkhlaaDoorX5
import Derived.Test.YtocobalkikkhlaaDoorX10
namespace Go.Proofs.YtocobalkikkhlaaDoor.X
open Go.RowKit Go.Proofs.YtocobalkikkhlaaDoorW.PrintWords Go.Proofs.YtocobalkikkhlaaDoorW.PrintLast Go.Proofs.YtocobalkikkhlaaDoorW.PrintMore
attribute [local go_sem] max2_int min2_int max_two min_two max_three min_three max_four min_four   -- for this text's walks alone
set_option linter.unusedVariables false
set_option linter.unusedSimpArgs false

/-! ### ethernet_Decode: function 47 -/
mutual
def ethernet_Decode.l0 : Nat → ByteArray → Int → Int → Int → Int → List Int → Int → ByteArray → Option (Int × Int × List Int × Int × ByteArray × Int)
 | 0, _, _, _, _, _, _, _, _ => none
 | k + 1, x302000, x302001, x302002, x315000, x315001, x315002, x315003, x315004 => (field_Reader_Err.f x302000 x302001 x302002).bind fun bt315 => (if bt315.1 = 0 then ((ethernet_tagged.f x315003).bind fun t319 => (ethernet_Decode.j1 k t319 bt315.2.1 bt315.2.2.1 bt315.2.2.2 x315000 x315001 x315002 x315003 x315004)) else (ethernet_Decode.j1 k false bt315.2.1 bt315.2.2.1 bt315.2.2.2 x315000 x315001 x315002 x315003 x315004))
def ethernet_Decode.j1 : Nat → Bool → ByteArray → Int → Int → Int → Int → List Int → Int → ByteArray → Option (Int × Int × List Int × Int × ByteArray × Int)
 | 0, _, _, _, _, _, _, _, _, _ => none
 | k + 1, x25, x302000, x302001, x302002, x315000, x315001, x315002, x315003, x315004 => if x25 = true then (if (x315002.length : Int) = 2 then (some (0, 0, ([] : List Int), 0, (⟨#[]⟩ : ByteArray), 9)) else ((field_Reader_Int.f k x302000 x302001 x302002 2).bind fun bt320 => (if x315002.length < 17592186044416 then ((field_Reader_Int.f k bt320.2.1 bt320.2.2.1 bt320.2.2.2 2).bind fun bt327 => (ethernet_Decode.l0 k bt327.2.1 bt327.2.2.1 bt327.2.2.2 x315000 x315001 (x315002 ++ [Go.bits .and .i64 bt320.1 4095]) bt327.1 x315004)) else (none)))) else ((field_Reader_Err.f x302000 x302001 x302002).bind fun bt331 => (if bt331.1 = 0 then (if x315003 < 1536 then (some (0, 0, ([] : List Int), 0, (⟨#[]⟩ : ByteArray), 2)) else ((field_Reader_Rest.f bt331.2.1 bt331.2.2.1 bt331.2.2.2).bind fun bt335 => (some (x315000, x315001, x315002, x315003, bt335.1, 0)))) else (some (0, 0, ([] : List Int), 0, (⟨#[]⟩ : ByteArray), bt331.1))))
end
def ethernet_Decode.f (k : Nat) (a0 : ByteArray) : Option (Int × Int × List Int × Int × ByteArray × Int) := (field_NewReader.f a0).bind fun bt298 => ((field_Reader_Int.f k bt298.1 bt298.2.1 bt298.2.2 6).bind fun bt302 => ((field_Reader_Int.f k bt302.2.1 bt302.2.2.1 bt302.2.2.2 6).bind fun bt306 => ((field_Reader_Int.f k bt306.2.1 bt306.2.2.1 bt306.2.2.2 2).bind fun bt310 => (ethernet_Decode.l0 k bt310.2.1 bt310.2.2.1 bt310.2.2.2 (IntKind.u64.wrap (bt302.1)) (IntKind.u64.wrap (bt306.1)) ([] : List Int) bt310.1 (⟨#[]⟩ : ByteArray)))))
theorem ethernet_Decode.mono_l : ∀ k, (∀ y0 y1 y2 y3 y4 y5 y6 y7, LeO (ethernet_Decode.l0 k y0 y1 y2 y3 y4 y5 y6 y7) (ethernet_Decode.l0 (k + 1) y0 y1 y2 y3 y4 y5 y6 y7)) ∧ (∀ y0 y1 y2 y3 y4 y5 y6 y7 y8, LeO (ethernet_Decode.j1 k y0 y1 y2 y3 y4 y5 y6 y7 y8) (ethernet_Decode.j1 (k + 1) y0 y1 y2 y3 y4 y5 y6 y7 y8))
 | 0 => ⟨fun _ _ _ _ _ _ _ _ r h => by simp [ethernet_Decode.l0] at h, fun _ _ _ _ _ _ _ _ _ r h => by simp [ethernet_Decode.j1] at h⟩
 | k + 1 => by
  obtain ⟨ih0, ih1⟩ := ethernet_Decode.mono_l k
  refine ⟨?_, ?_⟩
  ·intro y0 y1 y2 y3 y4 y5 y6 y7
   unfold ethernet_Decode.l0
   repeat' first | with_reducible first | apply ih0 | apply ih1 | apply field_Reader_Int.mono | apply LeO.refl | apply LeO.none | refine LeO.ite ?_ ?_ | refine LeO.bind ?_ (fun _ => ?_)
  intro y0 y1 y2 y3 y4 y5 y6 y7 y8
  unfold ethernet_Decode.j1
  repeat' first | with_reducible first | apply ih0 | apply ih1 | apply field_Reader_Int.mono | apply LeO.refl | apply LeO.none | refine LeO.ite ?_ ?_ | refine LeO.bind ?_ (fun _ => ?_)
theorem ethernet_Decode.mono : ∀ a0 k, LeO (ethernet_Decode.f k a0) (ethernet_Decode.f (k + 1) a0) := by
 intro a0 k
 obtain ⟨ih0, ih1⟩ := ethernet_Decode.mono_l k
 unfold ethernet_Decode.f
 repeat' first | with_reducible first | apply ih0 | apply ih1 | apply field_Reader_Int.mono | apply LeO.refl | apply LeO.none | refine LeO.ite ?_ ?_ | refine LeO.bind ?_ (fun _ => ?_)
def ethernet_Decode.T6 : Bool × List (List Nat × List Nat) := (true, [([], []), ([0], [0]), ([], []), ([2], [2]), ([3], [3]), ([4], [4]), ([1, 5, 3], [1, 5]), ([0, 1, 2, 3, 4, 5, 6], []), ([7, 6, 6, 0, 1, 2, 3, 4, 5, 6], [6, 7])])
def ethernet_Decode.B6 : List Nat := [0, 1, 0, 4, 12, 28, 63, 127, 255]
theorem ethernet_Decode.tab6 : rtab .any (opsOf Tryd.f47 6) = ethernet_Decode.T6 := by kernel_rfl
theorem ethernet_Decode.bits6 : waitsOk ethernet_Decode.T6.2 ethernet_Decode.B6 = true := by kernel_rfl
set_option maxHeartbeats 8000000 in
set_option maxRecDepth 100000 in
theorem ethernet_Decode.calls (k : Nat) (a0 : ByteArray) (r1 : Int) (r2 : Int) (r3 : List Int) (r4 : Int) (r5 : ByteArray) (r6 : Int) (w : World) (hLd : Laid w) (h : ethernet_Decode.f k a0 = some (r1, r2, r3, r4, r5, r6)) :
  Calls Tryd.prog 47 #[.string a0] w fun e w' => ∃ v2_ : Value, e = .returned (.tuple #[.agg #[.int .u64 r1, .int .u64 r2, v2_, .int .i64 r4, .string r5], .int .i64 r6]) ∧ Kd.R (Kd.int .i64) 3 w' w.heap.size (fun _ => True) v2_ r3 ∧ Below w.heap.size w w' := by
 have hu80 := Tryd.underlying80
 have HLD := As hLd
 clear hLd
 have HB := As (Below.refl w.heap.size w)
 have H : ((field_NewReader.f a0).bind fun bt298 => ((field_Reader_Int.f k bt298.1 bt298.2.1 bt298.2.2 6).bind fun bt302 => ((field_Reader_Int.f k bt302.2.1 bt302.2.2.1 bt302.2.2.2 6).bind fun bt306 => ((field_Reader_Int.f k bt306.2.1 bt306.2.2.1 bt306.2.2.2 2).bind fun bt310 => (ethernet_Decode.l0 k bt310.2.1 bt310.2.2.1 bt310.2.2.2 (IntKind.u64.wrap (bt302.1)) (IntKind.u64.wrap (bt306.1)) ([] : List Int) bt310.1 (⟨#[]⟩ : ByteArray)))))) = some (r1, r2, r3, r4, r5, r6) := h
 clear h
 replace H := Option.bind_eq_some_iff.mp H
 obtain ⟨⟨t298, t299, t300⟩, A20, H⟩ := H
 replace H : ((field_Reader_Int.f k t298 t299 t300 6).bind fun bt302 => ((field_Reader_Int.f k bt302.2.1 bt302.2.2.1 bt302.2.2.2 6).bind fun bt306 => ((field_Reader_Int.f k bt306.2.1 bt306.2.2.1 bt306.2.2.2 2).bind fun bt310 => (ethernet_Decode.l0 k bt310.2.1 bt310.2.2.1 bt310.2.2.2 (IntKind.u64.wrap (bt302.1)) (IntKind.u64.wrap (bt306.1)) ([] : List Int) bt310.1 (⟨#[]⟩ : ByteArray))))) = some (r1, r2, r3, r4, r5, r6) := H
 have A2 := As A20
 clear A20
 replace H := Option.bind_eq_some_iff.mp H
 obtain ⟨⟨t302, t303, t304, t305⟩, A30, H⟩ := H
 replace H : ((field_Reader_Int.f k t303 t304 t305 6).bind fun bt306 => ((field_Reader_Int.f k bt306.2.1 bt306.2.2.1 bt306.2.2.2 2).bind fun bt310 => (ethernet_Decode.l0 k bt310.2.1 bt310.2.2.1 bt310.2.2.2 (IntKind.u64.wrap (t302)) (IntKind.u64.wrap (bt306.1)) ([] : List Int) bt310.1 (⟨#[]⟩ : ByteArray)))) = some (r1, r2, r3, r4, r5, r6) := H
 have A3 := As A30
 clear A30
 replace H := Option.bind_eq_some_iff.mp H
 obtain ⟨⟨t306, t307, t308, t309⟩, A40, H⟩ := H
 replace H : ((field_Reader_Int.f k t307 t308 t309 2).bind fun bt310 => (ethernet_Decode.l0 k bt310.2.1 bt310.2.2.1 bt310.2.2.2 (IntKind.u64.wrap (t302)) (IntKind.u64.wrap (t306)) ([] : List Int) bt310.1 (⟨#[]⟩ : ByteArray))) = some (r1, r2, r3, r4, r5, r6) := H
 have A4 := As A40
 clear A40
 replace H := Option.bind_eq_some_iff.mp H
 obtain ⟨⟨t310, t311, t312, t313⟩, A50, H⟩ := H
 replace H : (ethernet_Decode.l0 k t311 t312 t313 (IntKind.u64.wrap (t302)) (IntKind.u64.wrap (t306)) ([] : List Int) t310 (⟨#[]⟩ : ByteArray)) = some (r1, r2, r3, r4, r5, r6) := H
 have A5 := As A50
 clear A50
 have H' := As H
 clear H
 go_enter Tryd.func47, Tryd.ntmps47
 go_wp2_with (first | ((with_reducible refine gate_dst (N := 2) rfl ?_); refine box_event rfl (N := 2) rfl (cs := #[.int .u64 0, .int .u64 0, .slice none 0 0, .int .i64 0, .string (⟨#[]⟩ : ByteArray)]) (t := 80) kG ?_; intro gb297 hg w6 hbox hb; have BK297 := As (hbox); have GW297 := As ((by rw [hg]; exact (below_size (kB HB.out)) : w.heap.size ≤ gb297)); have GE297 := As ((by rw [hg]; exact (below_size (kB HB.out)) : w.heap.size ≤ gb297)); replace HB := As (below_step (kB HB.out) hb); clear hb hbox hg) | ((with_reducible refine gate_callee (f := 73) rfl ?_); refine goesL_ (some 8) rfl rfl Tryd.func73 (by kernel_rfl) rfl #[.string a0] rfl kA ?_; (with_reducible refine (field_NewReader.calls a0 t298 t299 t300 w _ ?side1 A2.out).mono ?_); (case side1 => exact kB1 HB.out GE297.out); rintro e w7 ⟨g301, rfl, hi, hb, hb2⟩; refine ⟨_, rfl, ?_⟩; replace HB := As (hb); have HI301 := As (hi); have NB301_297 := As (IsS136.ne_blk hi (blk_below (kb BK297.out) hb2) (by decide)); have NB297_301 := As (Ne.symm (IsS136.ne_blk hi (blk_below (kb BK297.out) hb2) (by decide))); replace BK297 := As (blk_below (kb BK297.out) hb2); (try clear hb); (try clear hb2); (try clear hi)) | ((with_reducible refine gate_callee (f := 74) rfl ?_); refine goesL_ (some 10) rfl rfl Tryd.func74 (by kernel_rfl) rfl #[.pointer (some ⟨g301, 0, none⟩), .int .i64 6] rfl kA ?_; (with_reducible refine (field_Reader_Int.calls k g301 t298 t299 t300 6 t302 t303 t304 t305 w _ ?side1 ?side2 A3.out).mono ?_); (case side1 => repeat (first | (with_reducible first | exact HI301.out | apply IsS136.alloc | apply IsS136.drewN | apply IsS136.drew | apply IsS136.set_0 | apply IsS136.set_1 | apply IsS136.set_2 | refine IsS136.far ?_ NB301_297.out _) | exact HI301.out)); (case side2 => exact kB2 HB.out (IsS136.ge HI301.out) GE297.out); rintro e w8 ⟨rfl, hi, hb, hk⟩; refine ⟨_, rfl, ?_⟩; replace BK297 := As (KeepBut.blk hk (g' := gb297) (o := .cells #[.int .u64 0, .int .u64 0, .slice none 0 0, .int .i64 0, .string (⟨#[]⟩ : ByteArray)] 80 (0, 0)) (kb BK297.out) NB297_301.out (by simp)); replace HB := As (hb); replace HI301 := As (hi); (try clear hb); (try clear hk); (try clear hi)) | ((with_reducible refine gate_callee (f := 74) rfl ?_); refine goesL_ (some 13) rfl rfl Tryd.func74 (by kernel_rfl) rfl #[.pointer (some ⟨g301, 0, none⟩), .int .i64 6] rfl kA ?_; (with_reducible refine (field_Reader_Int.calls k g301 t303 t304 t305 6 t306 t307 t308 t309 w _ ?side1 ?side2 A4.out).mono ?_); (case side1 => repeat (first | (with_reducible first | exact HI301.out | apply IsS136.alloc | apply IsS136.drewN | apply IsS136.drew | apply IsS136.set_0 | apply IsS136.set_1 | apply IsS136.set_2 | refine IsS136.far ?_ NB301_297.out _) | exact HI301.out)); (case side2 => exact kB2 HB.out (IsS136.ge HI301.out) GE297.out); rintro e w9 ⟨rfl, hi, hb, hk⟩; refine ⟨_, rfl, ?_⟩; replace BK297 := As (KeepBut.blk hk (g' := gb297) (o := .cells #[.int .u64 0, .int .u64 0, .slice none 0 0, .int .i64 0, .string (⟨#[]⟩ : ByteArray)] 80 (0, 0)) (kb BK297.out) NB297_301.out (by simp)); replace HB := As (hb); replace HI301 := As (hi); (try clear hb); (try clear hk); (try clear hi)) | ((with_reducible refine gate_callee (f := 74) rfl ?_); refine goesL_ (some 16) rfl rfl Tryd.func74 (by kernel_rfl) rfl #[.pointer (some ⟨g301, 0, none⟩), .int .i64 2] rfl kA ?_; (with_reducible refine (field_Reader_Int.calls k g301 t307 t308 t309 2 t310 t311 t312 t313 w _ ?side1 ?side2 A5.out).mono ?_); (case side1 => repeat (first | (with_reducible first | exact HI301.out | apply IsS136.alloc | apply IsS136.drewN | apply IsS136.drew | apply IsS136.set_0 | apply IsS136.set_1 | apply IsS136.set_2 | refine IsS136.far ?_ NB301_297.out _) | exact HI301.out)); (case side2 => exact kB2 HB.out (IsS136.ge HI301.out) GE297.out); rintro e w10 ⟨rfl, hi, hb, hk⟩; refine ⟨_, rfl, ?_⟩; replace BK297 := As (KeepBut.blk hk (g' := gb297) (o := .cells #[.int .u64 0, .int .u64 0, .slice none 0 0, .int .i64 0, .string (⟨#[]⟩ : ByteArray)] 80 (0, 0)) (kb BK297.out) NB297_301.out (by simp)); replace HB := As (hb); replace HI301 := As (hi); (try clear hb); (try clear hk); (try clear hi)) | ((with_reducible refine gate_dst (N := 5) rfl ?_); refine box_event rfl (N := 5) rfl (cs := #[.int .u64 0, .int .u64 0, .slice none 0 0, .int .i64 0, .string (⟨#[]⟩ : ByteArray)]) (t := 80) kG ?_; intro gb314 hg w11 hbox hb; have BK314 := As (hbox); have GW314 := As ((by rw [hg]; exact (below_size (kB2 HB.out (IsS136.ge HI301.out) GE297.out)) : w.heap.size ≤ gb314)); have GE314 := As ((by rw [hg]; exact (below_size (kB2 HB.out (IsS136.ge HI301.out) GE297.out)) : w.heap.size ≤ gb314)); replace HB := As (below_step (kB2 HB.out (IsS136.ge HI301.out) GE297.out) hb); have NB297_314 := As ((by rw [hg]; exact Nat.ne_of_lt (blk_lt (kb BK297.out)) : gb297 ≠ gb314)); have NB314_297 := As ((by rw [hg]; exact Nat.ne_of_gt (blk_lt (kb BK297.out)) : gb314 ≠ gb297)); replace BK297 := As (blk_below (kb BK297.out) hb); have NB301_314 := As ((by rw [hg]; exact Nat.ne_of_lt (IsS136.lt (show IsS136 w _ g301 t311 t312 t313 from by repeat (first | (with_reducible first | exact HI301.out | apply IsS136.alloc | apply IsS136.drewN | apply IsS136.drew | apply IsS136.set_0 | apply IsS136.set_1 | apply IsS136.set_2 | refine IsS136.far ?_ NB301_297.out _) | exact HI301.out))) : g301 ≠ gb314)); have NB314_301 := As ((by rw [hg]; exact Nat.ne_of_gt (IsS136.lt (show IsS136 w _ g301 t311 t312 t313 from by repeat (first | (with_reducible first | exact HI301.out | apply IsS136.alloc | apply IsS136.drewN | apply IsS136.drew | apply IsS136.set_0 | apply IsS136.set_1 | apply IsS136.set_2 | refine IsS136.far ?_ NB301_297.out _) | exact HI301.out))) : gb314 ≠ g301)); replace HI301 := As (IsS136.below (by repeat (first | (with_reducible first | exact HI301.out | apply IsS136.alloc | apply IsS136.drewN | apply IsS136.drew | apply IsS136.set_0 | apply IsS136.set_1 | apply IsS136.set_2 | refine IsS136.far ?_ NB301_297.out _) | exact HI301.out)) hb); clear hb hbox hg; have hnb12 := NB314_297.out; have hnc12 := NB297_314.out; have hnb13 := NB314_301.out; have hnc13 := NB301_314.out; have hcz14_0 := cells_5 BK314.out; have hfz14_0 := fun j_ => blk_frozen BK314.out j_))
 go_loopg [] k (fun kq w' => ∃ (x298000_1 : Int) (x298001_1 : Int) (x298003_1 : Int) (x298004_1 : ByteArray) (x302000_1 : ByteArray) (x302001_1 : Int) (x302002_1 : Int) (x315002_1 : List Int) (x315003_1 : Int) (u315002 : Value), Aside0 (ethernet_Decode.l0 kq x302000_1 x302001_1 x302002_1 (IntKind.u64.wrap (t302)) (IntKind.u64.wrap (t306)) x315002_1 x315003_1 (⟨#[]⟩ : ByteArray) = some (r1, r2, r3, r4, r5, r6)) ∧ Aside0 (kq ≤ k) ∧ Aside0 (Kd.R (Kd.int .i64) 3 w' w.heap.size (fun _ => True) u315002 x315002_1) ∧ Aside0 (w'.heap[gb297]? = some (.cells #[.int .u64 x298000_1, .int .u64 x298001_1, (.slice none 0 0), .int .i64 x298003_1, .string x298004_1] 80 (0, 0))) ∧ Aside0 (w'.heap[gb314]? = some (.cells #[.int .u64 (IntKind.u64.wrap (t302)), .int .u64 (IntKind.u64.wrap (t306)), u315002, .int .i64 x315003_1, .string (⟨#[]⟩ : ByteArray)] 80 (0, 0))) ∧ Aside0 (IsS136 w w' g301 x302000_1 x302001_1 x302002_1) ∧ Aside0 (Below w.heap.size w w'))
 case atStart => exact ⟨(0), (0), (0), ((⟨#[]⟩ : ByteArray)), (t311), (t312), (t313), (([] : List Int)), (t310), (.slice none 0 0), H', ⟨Nat.le_refl _⟩, ⟨by first | exact Kd.R_nil _ _ _ _ _ | exact Kd.N_nil _ _ _ _ _ | exact Kd.V_nil _ _ _ _ _ | exact Kd.Q_nil _ _ _ _ _ | exact Kd.S_nil _ _ _ _ _⟩, ⟨by refine kb ?_; (iterate 5 (refine blk_far ?_ NB297_314.out _; refine kb ?_)); exact BK297.out⟩, ⟨by refine kb ?_; exact blk_all_5 (kb BK314.out) (by rfl)⟩, ⟨by repeat (first | (with_reducible first | exact HI301.out | apply IsS136.alloc | apply IsS136.drewN | apply IsS136.drew | apply IsS136.set_0 | apply IsS136.set_1 | apply IsS136.set_2 | refine IsS136.far ?_ NB301_297.out _ | refine IsS136.far ?_ NB301_314.out _) | exact HI301.out)⟩, ⟨kB3 HB.out (IsS136.ge HI301.out) GE297.out GE314.out⟩⟩
 clear H'
 try clear hcz14_0
 try clear hfz14_0
 obtain ⟨x298000_1, x298001_1, x298003_1, x298004_1, x302000_1, x302001_1, x302002_1, x315002_1, x315003_1, u315002, HA, HK1, HO_315002, BK297, BK314, HI301, HB⟩ := hrel
 cases gk with
 | zero => exact absurd HA.out (by simp [ethernet_Decode.l0])
 | succ k1 =>
  have H := HA.out
  clear HA
  simp only [ethernet_Decode.l0] at H
  have HC15 := As H
  clear H
  go_upto_region 3 with (fail)
  go_cut [25] (fun v25 wc => ∃ (kq : Nat) (x25_14 : Bool) (x302000_14 : ByteArray) (x302001_14 : Int) (x302002_14 : Int), v25 = .bool x25_14 ∧ Aside0 (ethernet_Decode.j1 kq x25_14 x302000_14 x302001_14 x302002_14 (IntKind.u64.wrap (t302)) (IntKind.u64.wrap (t306)) x315002_1 x315003_1 (⟨#[]⟩ : ByteArray) = some (r1, r2, r3, r4, r5, r6)) ∧ Aside0 (kq ≤ k1) ∧ Aside0 (Kd.R (Kd.int .i64) 3 wc w.heap.size (fun _ => True) u315002 x315002_1) ∧ Aside0 (wc.heap[gb297]? = some (.cells #[.int .u64 x298000_1, .int .u64 x298001_1, (.slice none 0 0), .int .i64 x298003_1, .string x298004_1] 80 (0, 0))) ∧ Aside0 (wc.heap[gb314]? = some (.cells #[.int .u64 (IntKind.u64.wrap (t302)), .int .u64 (IntKind.u64.wrap (t306)), u315002, .int .i64 x315003_1, .string (⟨#[]⟩ : ByteArray)] 80 (0, 0))) ∧ Aside0 (IsS136 w wc g301 x302000_14 x302001_14 x302002_14) ∧ Aside0 (Below w.heap.size w wc))
  case first =>
   have H := HC15.out
   clear HC15
   replace H := Option.bind_eq_some_iff.mp H
   obtain ⟨⟨t315, t316, t317, t318⟩, A160, H⟩ := H
   replace H : (if t315 = 0 then ((ethernet_tagged.f x315003_1).bind fun t319 => (ethernet_Decode.j1 k1 t319 t316 t317 t318 (IntKind.u64.wrap (t302)) (IntKind.u64.wrap (t306)) x315002_1 x315003_1 (⟨#[]⟩ : ByteArray))) else (ethernet_Decode.j1 k1 false t316 t317 t318 (IntKind.u64.wrap (t302)) (IntKind.u64.wrap (t306)) x315002_1 x315003_1 (⟨#[]⟩ : ByteArray))) = some (r1, r2, r3, r4, r5, r6) := H
   have A16 := As A160
   clear A160
   by_cases c17 : t315 = 0
   ·rw [if_pos c17] at H
    have c17b0 : (t315 == 0) = true := beq_iff_eq.mpr c17
    have c17b1 : (t315 != 0) = false := bne_eq_false_iff_eq.mpr c17
    clear c17
    (first | rw [c17b0] | (simp only [i64_w, i32_w]; rw [c17b0]) | skip)
    replace H := Option.bind_eq_some_iff.mp H
    obtain ⟨t319, A180, H⟩ := H
    replace H : (ethernet_Decode.j1 k1 t319 t316 t317 t318 (IntKind.u64.wrap (t302)) (IntKind.u64.wrap (t306)) x315002_1 x315003_1 (⟨#[]⟩ : ByteArray)) = some (r1, r2, r3, r4, r5, r6) := H
    have A18 := As A180
    clear A180
    have H' := As H
    clear H
    go_wp2_with (first | ((with_reducible refine gate_callee (f := 85) rfl ?_); refine goesL_ (some 19) rfl rfl Tryd.func85 (by kernel_rfl) rfl #[.pointer (some ⟨g301, 0, none⟩)] rfl kA ?_; (with_reducible refine (field_Reader_Err.calls g301 x302000_1 x302001_1 x302002_1 t315 t316 t317 t318 w _ ?side1 ?side2 A16.out).mono ?_); (case side1 => repeat (first | (with_reducible first | exact HI301.out | apply IsS136.alloc | apply IsS136.drewN | apply IsS136.drew | apply IsS136.set_0 | apply IsS136.set_1 | apply IsS136.set_2 | refine IsS136.far ?_ NB301_297.out _ | refine IsS136.far ?_ NB301_314.out _) | exact HI301.out)); (case side2 => exact kB3 HB.out (IsS136.ge HI301.out) GE297.out GE314.out); rintro e w19 ⟨rfl, hi, hb, hk⟩; refine ⟨_, rfl, ?_⟩; replace HO_315002 := As (Kd.R_mono (Kd.R_keep (IsS136.apart (show IsS136 w _ g301 x302000_1 x302001_1 x302002_1 from by repeat (first | (with_reducible first | exact HI301.out | apply IsS136.alloc | apply IsS136.drewN | apply IsS136.drew | apply IsS136.set_0 | apply IsS136.set_1 | apply IsS136.set_2 | refine IsS136.far ?_ NB301_297.out _ | refine IsS136.far ?_ NB301_314.out _) | exact HI301.out)) (kR HO_315002.out) (by decide)) hk (fun _ h => h.2)) (fun _ h => h.1)); replace BK297 := As (KeepBut.blk hk (g' := gb297) (o := .cells #[.int .u64 x298000_1, .int .u64 x298001_1, .slice none 0 0, .int .i64 x298003_1, .string x298004_1] 80 (0, 0)) (kb BK297.out) NB297_301.out (by simp)); replace BK314 := As (KeepBut.blk hk (g' := gb314) (o := .cells #[.int .u64 (IntKind.u64.wrap (t302)), .int .u64 (IntKind.u64.wrap (t306)), u315002, .int .i64 x315003_1, .string (⟨#[]⟩ : ByteArray)] 80 (0, 0)) (kb BK314.out) NB314_301.out (by simp)); replace HB := As (hb); replace HI301 := As (hi); (try clear hb); (try clear hk); (try clear hi); have hnb20 := NB314_297.out; have hnc20 := NB297_314.out; have hnb21 := NB314_301.out; have hnc21 := NB301_314.out; have hcz22_0 := cells_5 BK314.out; have hfz22_0 := fun j_ => blk_frozen BK314.out j_) | (go_at_call 86; (with_reducible refine (ethernet_tagged.calls x315003_1 t319 _ ?side1 A18.out).mono ?_); (case side1 => exact laid_below HLD.out (kB3 HB.out (IsS136.ge HI301.out) GE297.out GE314.out)); rintro e w' ⟨rfl, ⟨nd, rfl⟩⟩))
    go_meet
    case rel => exact ⟨_, (t319), (t316), (t317), (t318), kS, H', ⟨by have := HK1.out; first | omega | exact Nat.le_refl _⟩, ⟨by (with_reducible repeat (first | apply Kd.R_alloc | apply Kd.R_drewN | apply Kd.R_drew)); exact HO_315002.out⟩, ⟨kb BK297.out⟩, ⟨kb BK314.out⟩, ⟨by repeat (first | (with_reducible first | exact HI301.out | apply IsS136.alloc | apply IsS136.drewN | apply IsS136.drew | apply IsS136.set_0 | apply IsS136.set_1 | apply IsS136.set_2 | refine IsS136.far ?_ NB301_297.out _ | refine IsS136.far ?_ NB301_314.out _) | exact HI301.out)⟩, ⟨kB3 HB.out (IsS136.ge HI301.out) GE297.out GE314.out⟩⟩
   rw [if_neg c17] at H
   have c17b0 : (t315 == 0) = false := beq_eq_false_iff_ne.mpr c17
   have c17b1 : (t315 != 0) = true := bne_iff_ne.mpr c17
   (first | rw [c17b0] | (simp only [i64_w, i32_w]; rw [c17b0]) | skip)
   have H' := As H
   clear H
   go_wp2_with (first | ((with_reducible refine gate_callee (f := 85) rfl ?_); refine goesL_ (some 19) rfl rfl Tryd.func85 (by kernel_rfl) rfl #[.pointer (some ⟨g301, 0, none⟩)] rfl kA ?_; (with_reducible refine (field_Reader_Err.calls g301 x302000_1 x302001_1 x302002_1 t315 t316 t317 t318 w _ ?side1 ?side2 A16.out).mono ?_); (case side1 => repeat (first | (with_reducible first | exact HI301.out | apply IsS136.alloc | apply IsS136.drewN | apply IsS136.drew | apply IsS136.set_0 | apply IsS136.set_1 | apply IsS136.set_2 | refine IsS136.far ?_ NB301_297.out _ | refine IsS136.far ?_ NB301_314.out _) | exact HI301.out)); (case side2 => exact kB3 HB.out (IsS136.ge HI301.out) GE297.out GE314.out); rintro e w23 ⟨rfl, hi, hb, hk⟩; refine ⟨_, rfl, ?_⟩; replace HO_315002 := As (Kd.R_mono (Kd.R_keep (IsS136.apart (show IsS136 w _ g301 x302000_1 x302001_1 x302002_1 from by repeat (first | (with_reducible first | exact HI301.out | apply IsS136.alloc | apply IsS136.drewN | apply IsS136.drew | apply IsS136.set_0 | apply IsS136.set_1 | apply IsS136.set_2 | refine IsS136.far ?_ NB301_297.out _ | refine IsS136.far ?_ NB301_314.out _) | exact HI301.out)) (kR HO_315002.out) (by decide)) hk (fun _ h => h.2)) (fun _ h => h.1)); replace BK297 := As (KeepBut.blk hk (g' := gb297) (o := .cells #[.int .u64 x298000_1, .int .u64 x298001_1, .slice none 0 0, .int .i64 x298003_1, .string x298004_1] 80 (0, 0)) (kb BK297.out) NB297_301.out (by simp)); replace BK314 := As (KeepBut.blk hk (g' := gb314) (o := .cells #[.int .u64 (IntKind.u64.wrap (t302)), .int .u64 (IntKind.u64.wrap (t306)), u315002, .int .i64 x315003_1, .string (⟨#[]⟩ : ByteArray)] 80 (0, 0)) (kb BK314.out) NB314_301.out (by simp)); replace HB := As (hb); replace HI301 := As (hi); (try clear hb); (try clear hk); (try clear hi)))
   go_meet
   case rel => exact ⟨_, (false), (t316), (t317), (t318), kS, H', ⟨by have := HK1.out; first | omega | exact Nat.le_refl _⟩, ⟨by (with_reducible repeat (first | apply Kd.R_alloc | apply Kd.R_drewN | apply Kd.R_drew)); exact HO_315002.out⟩, ⟨kb BK297.out⟩, ⟨kb BK314.out⟩, ⟨by repeat (first | (with_reducible first | exact HI301.out | apply IsS136.alloc | apply IsS136.drewN | apply IsS136.drew | apply IsS136.set_0 | apply IsS136.set_1 | apply IsS136.set_2 | refine IsS136.far ?_ NB301_297.out _ | refine IsS136.far ?_ NB301_314.out _) | exact HI301.out)⟩, ⟨kB3 HB.out (IsS136.ge HI301.out) GE297.out GE314.out⟩⟩
  clear HC15
  obtain ⟨kq, x25_14, x302000_14, x302001_14, x302002_14, rfl, HA, HJ14, HO_315002, BK297, BK314, HI301, HB⟩ := hcut
  cases kq with
  | zero => exact absurd HA.out (by simp [ethernet_Decode.j1])
  | succ kj14 =>
   have H := HA.out
   clear HA
   simp only [ethernet_Decode.j1] at H
   by_cases c24 : x25_14 = true
   ·subst c24
    have H1 : (if (x315002_1.length : Int) = 2 then (some (0, 0, ([] : List Int), 0, (⟨#[]⟩ : ByteArray), 9)) else ((field_Reader_Int.f kj14 x302000_14 x302001_14 x302002_14 2).bind fun bt320 => (if x315002_1.length < 17592186044416 then ((field_Reader_Int.f kj14 bt320.2.1 bt320.2.2.1 bt320.2.2.2 2).bind fun bt327 => (ethernet_Decode.l0 kj14 bt327.2.1 bt327.2.2.1 bt327.2.2.2 (IntKind.u64.wrap (t302)) (IntKind.u64.wrap (t306)) (x315002_1 ++ [Go.bits .and .i64 bt320.1 4095]) bt327.1 (⟨#[]⟩ : ByteArray))) else (none)))) = some (r1, r2, r3, r4, r5, r6) := by rw [if_pos rfl] at H; exact H
    clear H
    have H := H1
    clear H1
    by_cases c25 : (x315002_1.length : Int) = 2
    ·rw [if_pos c25] at H
     have c25b0 : ((x315002_1.length : Int) == 2) = true := beq_iff_eq.mpr c25
     have c25b1 : ((x315002_1.length : Int) != 2) = false := bne_eq_false_iff_eq.mpr c25
     clear c25
     simp only [Option.some.injEq, Prod.mk.injEq] at H
     obtain ⟨rfl, rfl, rfl, rfl, rfl, rfl⟩ := H
     have hnb26 := NB314_297.out
     have hnc26 := NB297_314.out
     have hnb27 := NB314_301.out
     have hnc27 := NB301_314.out
     have hcz28_0 := cells_5 BK314.out
     have hfz28_0 := fun j_ => blk_frozen BK314.out j_
     obtain ⟨Ao29, co29, eo29⟩ := Kd.R_slice HO_315002.out
     subst eo29
     have hnb30 := NB297_301.out
     have hnc30 := NB301_297.out
     have hcz31_0 := cells_5 BK297.out
     have hfz31_0 := fun j_ => blk_frozen BK297.out j_
     go_wp2
     refine bodyPost_ret (results_ct rfl _ _ gb297 80 #[.int .u64 0, .int .u64 0, .slice none 0 0, .int .i64 0, .string (⟨#[]⟩ : ByteArray)] (0, 0) _ rfl (by refine kb ?_; exact blk_all_5 (kb BK297.out) (by rfl)) Tryd.underlying80 rfl (by kernel_rfl)) rfl ?_
     exact ⟨_, kE, by first | exact Kd.R_nil _ _ _ _ _ | exact Kd.N_nil _ _ _ _ _ | exact Kd.V_nil _ _ _ _ _ | exact Kd.Q_nil _ _ _ _ _ | exact Kd.S_nil _ _ _ _ _, by exact kB3 HB.out (IsS136.ge HI301.out) GE297.out GE314.out⟩
    rw [if_neg c25] at H
    have c25b0 : ((x315002_1.length : Int) == 2) = false := beq_eq_false_iff_ne.mpr c25
    have c25b1 : ((x315002_1.length : Int) != 2) = true := bne_iff_ne.mpr c25
    replace H := Option.bind_eq_some_iff.mp H
    obtain ⟨⟨t320, t321, t322, t323⟩, A320, H⟩ := H
    replace H : (if x315002_1.length < 17592186044416 then ((field_Reader_Int.f kj14 t321 t322 t323 2).bind fun bt327 => (ethernet_Decode.l0 kj14 bt327.2.1 bt327.2.2.1 bt327.2.2.2 (IntKind.u64.wrap (t302)) (IntKind.u64.wrap (t306)) (x315002_1 ++ [Go.bits .and .i64 t320 4095]) bt327.1 (⟨#[]⟩ : ByteArray))) else (none)) = some (r1, r2, r3, r4, r5, r6) := H
    have A32 := As A320
    clear A320
    by_cases c33 : x315002_1.length < 17592186044416
    ·rw [if_pos c33] at H
     have LMc33 := As c33
     clear c33
     obtain ⟨y324, hy324⟩ : ∃ y_ : List Int, y_ = (x315002_1 ++ [Go.bits .and .i64 t320 4095]) := ⟨_, rfl⟩
     replace H : ((field_Reader_Int.f kj14 t321 t322 t323 2).bind fun bt327 => (ethernet_Decode.l0 kj14 bt327.2.1 bt327.2.2.1 bt327.2.2.2 (IntKind.u64.wrap (t302)) (IntKind.u64.wrap (t306)) y324 bt327.1 (⟨#[]⟩ : ByteArray))) = some (r1, r2, r3, r4, r5, r6) := by first | (rw [hy324]; with_reducible exact H) | (have H2_ := (Option.bind_some _ _).symm.trans H; rw [hy324]; with_reducible exact H2_) | (have H2_ := (Option.bind_some _ _).symm.trans H; with_reducible exact H2_) | with_reducible exact H | (rw [hy324]; exact H) | exact H
     have Ny324 := As hy324
     clear hy324
     replace H := Option.bind_eq_some_iff.mp H
     obtain ⟨⟨t327, t328, t329, t330⟩, A340, H⟩ := H
     replace H : (ethernet_Decode.l0 kj14 t328 t329 t330 (IntKind.u64.wrap (t302)) (IntKind.u64.wrap (t306)) y324 t327 (⟨#[]⟩ : ByteArray)) = some (r1, r2, r3, r4, r5, r6) := H
     have A34 := As A340
     clear A340
     have H' := As H
     clear H
     have hnb35 := NB314_297.out
     have hnc35 := NB297_314.out
     have hnb36 := NB314_301.out
     have hnc36 := NB301_314.out
     have hcz37_0 := cells_5 BK314.out
     have hfz37_0 := fun j_ => blk_frozen BK314.out j_
     obtain ⟨Ao38, co38, eo38⟩ := Kd.R_slice HO_315002.out
     subst eo38
     try go_wp2
     replace HO_315002 := As (Kd.R_drew HO_315002.out)
     replace BK297 := As (blk_drew BK297.out)
     replace BK314 := As (blk_drew BK314.out)
     replace HI301 := As (IsS136.drew HI301.out)
     replace HB := As (below_drew1 HB.out)
     refine start_ (n := 9) (S := fun w' => w'.cell? ⟨gb314, 0, none⟩ = some (.int .u64 (IntKind.u64.wrap (t302))) ∧ w'.cell? ⟨gb314, 1, none⟩ = some (.int .u64 (IntKind.u64.wrap (t306))) ∧ w'.cell? ⟨gb314, 2, none⟩ = some (.slice Ao38 x315002_1.length co38) ∧ w'.cell? ⟨gb314, 3, none⟩ = some (.int .i64 x315003_1) ∧ w'.cell? ⟨gb314, 4, none⟩ = some (.string (⟨#[]⟩ : ByteArray))) (ds := [8]) #[O, O, O, O, O, O, O, O, O] (by kernel_rfl) rfl rfl ⟨kC BK314.out 0, kC BK314.out 1, kC BK314.out 2, kC BK314.out 3, kC BK314.out 4⟩ (fun hHeld => ?_); refine with_tabW ethernet_Decode.tab6 ethernet_Decode.bits6 (fun HT_ HW_ => ?_)
     generalize wc.drew = w39 at HO_315002 BK297 BK314 HI301 HB hHeld ⊢
     refine kP 0 31 #[I, O, O, O, O, O, O, O, O] ?_ (any_of HT_.out (by kernel_rfl))
     refine kP 2 33 #[I, O, I, O, O, O, O, O, O] ?_ (any_of HT_.out (by kernel_rfl))
     refine take_ (i := 1) (N := some 32) (v := ?_) (a' := ?_) #[I, I, I, O, O, O, O, O, O] rfl rfl (take_ofW HT_.out HW_.out (by kernel_rfl)) (fun _ _ _ h => h) (Or.inl ⟨by rfl, ?_⟩) hHeld ?_ ?_
     rotate_left
     ·rintro w' ⟨s0, s1, s2, s3, s4⟩
      go_simp
      with_reducible rfl
     rotate_left
     ·simp only [Act.put, sA, sZ, sS, i64_w, i32_w]
      rfl
     refine one_ (i := 3) (N := some 34) #[I, I, I, I, O, O, O, O, O] rfl rfl (one_of HT_.out (by kernel_rfl)) (by decide) (fun K hK => ?_)
     refine goes_ Tryd.func74 (by kernel_rfl) rfl #[.pointer (some ⟨g301, 0, none⟩), .int .i64 2] (by rfl) rfl rfl kA ?_
     with_reducible refine (field_Reader_Int.calls kj14 g301 x302000_14 x302001_14 x302002_14 2 t320 t321 t322 t323 w _ ?side1 ?side2 A32.out).mono ?_
     (case side1 => repeat (first | (with_reducible first | exact HI301.out | apply IsS136.alloc | apply IsS136.drewN | apply IsS136.drew | apply IsS136.set_0 | apply IsS136.set_1 | apply IsS136.set_2 | refine IsS136.far ?_ NB301_297.out _ | refine IsS136.far ?_ NB301_314.out _) | exact HI301.out))
     (case side2 => exact kB3 HB.out (IsS136.ge HI301.out) GE297.out GE314.out)
     rintro e w40 ⟨rfl, hi, hb, hk⟩
     refine ⟨_, rfl, ?_⟩
     replace HO_315002 := As (Kd.R_mono (Kd.R_keep (IsS136.apart (show IsS136 w _ g301 x302000_14 x302001_14 x302002_14 from by repeat (first | (with_reducible first | exact HI301.out | apply IsS136.alloc | apply IsS136.drewN | apply IsS136.drew | apply IsS136.set_0 | apply IsS136.set_1 | apply IsS136.set_2 | refine IsS136.far ?_ NB301_297.out _ | refine IsS136.far ?_ NB301_314.out _) | exact HI301.out)) (kR HO_315002.out) (by decide)) hk (fun _ h => h.2)) (fun _ h => h.1))
     replace BK297 := As (KeepBut.blk hk (g' := gb297) (o := .cells #[.int .u64 x298000_1, .int .u64 x298001_1, .slice none 0 0, .int .i64 x298003_1, .string x298004_1] 80 (0, 0)) (kb BK297.out) NB297_301.out (by simp))
     replace BK314 := As (KeepBut.blk hk (g' := gb314) (o := .cells #[.int .u64 (IntKind.u64.wrap (t302)), .int .u64 (IntKind.u64.wrap (t306)), .slice Ao38 x315002_1.length co38, .int .i64 x315003_1, .string (⟨#[]⟩ : ByteArray)] 80 (0, 0)) (kb BK314.out) NB314_301.out (by simp))
     replace HB := As (hb)
     replace HI301 := As (hi)
     (try clear hb)
     (try clear hb2)
     (try clear hk)
     (try clear hi)
     refine hK.out _ _ ⟨kC BK314.out 0, kC BK314.out 1, kC BK314.out 2, kC BK314.out 3, kC BK314.out 4⟩ (fun hHeld => ?_)
     clear hK K
     refine norm_ (a' := ?_) ?_ ?_
     rotate_left
     ·show Act.put _ (some 34) _ = _
      simp only [Act.put, sA, sZ, sS, i64_w, i32_w]
      rfl
     refine kP 4 35 #[I, I, I, I, I, O, O, O, O] ?_ (any_of HT_.out (by kernel_rfl))
     refine one_ (i := 5) (N := some 36) #[I, I, I, I, I, I, O, O, O] rfl rfl (one_of HT_.out (by kernel_rfl)) (by decide) (fun K hK => ?_)
     refine value_ (w1 := ?_) (v := ?_) (by rfl) rfl ?_ ?_
     rotate_left 2
     ·go_simp
      constructor
      ·rfl
      rfl
     refine hK.out _ _ ⟨(blk_cell (blk_alloc BK314.out _) 0).trans rfl, (blk_cell (blk_alloc BK314.out _) 1).trans rfl, (blk_cell (blk_alloc BK314.out _) 2).trans rfl, (blk_cell (blk_alloc BK314.out _) 3).trans rfl, (blk_cell (blk_alloc BK314.out _) 4).trans rfl⟩ (fun hHeld => ?_)
     clear hK K
     refine norm_ (a' := ?_) ?_ ?_
     rotate_left
     ·show Act.put _ (some 36) _ = _
      simp only [Act.put, sA, sZ, sS, i64_w, i32_w]
      rfl
     refine one_ (i := 6) (N := some 37) #[I, I, I, I, I, I, I, O, O] rfl rfl (one_of HT_.out (by kernel_rfl)) (by decide) (fun K hK => ?_)
     refine Kd.R_append_step (Kd.int .i64) (w0 := w) w.heap.size (by rfl) (.tmp 32) (.tmp 36) 78 3 (.int .i64 0) 8 rfl Tryd.underlying78 info3 rfl (by decide) (by omega) (.slice Ao38 x315002_1.length co38) x315002_1 (Go.bits .and .i64 t320 4095) [.int .i64 (Go.bits .and .i64 t320 4095)] (fun _ => True) (fun _ => False) rfl rfl ?aP (fun _ hk => hk.elim) ?aF ?aO ?aB ?aS ?aL ?_
     (case aP => exact rfl)
     (case aB => exact (kB3 HB.out (IsS136.ge HI301.out) GE297.out GE314.out))
     (case aF => exact (fun _ _ => trivial))
     (case aO => exact (kR HO_315002.out))
     (case aS => exact (below_size (kB3 HB.out (IsS136.ge HI301.out) GE297.out GE314.out)))
     (case aL => have := LMc33.out; omega)
     intro v325 w41 ho hb hg hat
     rw [← Ny324.out] at ho
     replace BK297 := As (blk_grown (kb BK297.out) hg (Kd.R_ne HO_315002.out BK297.out (by decide)))
     replace BK314 := As (blk_grown (kb BK314.out) hg (Kd.R_ne HO_315002.out BK314.out (by decide)))
     replace HI301 := As (IsS136.grown (by repeat (first | (with_reducible first | exact HI301.out | apply IsS136.alloc | apply IsS136.drewN | apply IsS136.drew | apply IsS136.set_0 | apply IsS136.set_1 | apply IsS136.set_2 | refine IsS136.far ?_ NB301_297.out _ | refine IsS136.far ?_ NB301_314.out _) | exact HI301.out)) hg (IsS136.own_ne HI301.out HO_315002.out (by decide)))
     replace HB := As (hb)
     have HO326 := As (ho)
     clear HO_315002
     clear ho hb hg hat
     obtain ⟨Ao42, co42, eo42⟩ := Kd.R_slice HO326.out
     (first | subst eo42 | (injection eo42 with f1_ f2_ f3_; have f4_ := f1_.symm; have f5_ := f3_.symm; clear f1_ f2_ f3_; subst f4_; subst f5_))
     refine hK.out _ _ ⟨kC BK314.out 0, kC BK314.out 1, kC BK314.out 2, kC BK314.out 3, kC BK314.out 4⟩ (fun hHeld => ?_)
     clear hK K
     refine norm_ (a' := ?_) ?_ ?_
     rotate_left
     ·show Act.put _ (some 37) _ = _
      simp only [Act.put, sA, sZ, sS, i64_w, i32_w]
      rfl
     refine kP 7 38 #[I, I, I, I, I, I, I, I, O] ?_ (any_of HT_.out (by kernel_rfl))
     refine last_ (i := 8) (N := none) #[I, I, I, I, I, I, I, I, I] rfl rfl (one_of HT_.out (by kernel_rfl)) (by decide) (fun K hK => ?_)
     have hs43 : w41.cell? ⟨gb314, 2, none⟩ = some (.slice Ao38 x315002_1.length co38) := (blk_cell BK314.out 2).trans rfl
     have hfs43 := blk_frozen BK314.out 2
     have hns43_0 := NB297_314.out
     have hms43_0 := NB314_297.out
     refine skip_ (w1 := ?_) (by rfl) rfl ?_ ?_
     rotate_left
     ·go_simp
      rfl
     refine hK.out _ _ ?_
     clear hK K
     refine done_ (done_of HT_.out (by kernel_rfl)) ?_
     try go_wp2_with (first | ((with_reducible refine gate_callee (f := 74) rfl ?_); refine goesL_ (some 40) rfl rfl Tryd.func74 (by kernel_rfl) rfl #[.pointer (some ⟨g301, 0, none⟩), .int .i64 2] rfl kA ?_; (with_reducible refine (field_Reader_Int.calls kj14 g301 t321 t322 t323 2 t327 t328 t329 t330 w _ ?side1 ?side2 A34.out).mono ?_); (case side1 => repeat (first | (with_reducible first | exact HI301.out | apply IsS136.alloc | apply IsS136.drewN | apply IsS136.drew | apply IsS136.set_0 | apply IsS136.set_1 | apply IsS136.set_2 | refine IsS136.far ?_ NB301_297.out _ | refine IsS136.far ?_ NB301_314.out _) | exact HI301.out)); (case side2 => exact kB3 HB.out (IsS136.ge HI301.out) GE297.out GE314.out); rintro e w44 ⟨rfl, hi, hb, hk⟩; refine ⟨_, rfl, ?_⟩; replace BK297 := As (KeepBut.blk hk (g' := gb297) (o := .cells #[.int .u64 x298000_1, .int .u64 x298001_1, .slice none 0 0, .int .i64 x298003_1, .string x298004_1] 80 (0, 0)) (by refine kb ?_; refine blk_far ?_ NB297_314.out _; exact kb BK297.out) NB297_301.out (by simp)); replace HO326 := As (Kd.R_mono (Kd.R_keep (IsS136.apart (show IsS136 w _ g301 t321 t322 t323 from by repeat (first | (with_reducible first | exact HI301.out | apply IsS136.alloc | apply IsS136.drewN | apply IsS136.drew | apply IsS136.set_0 | apply IsS136.set_1 | apply IsS136.set_2 | refine IsS136.far ?_ NB301_297.out _ | refine IsS136.far ?_ NB301_314.out _) | exact HI301.out)) (by refine kR ?_; exact (Kd.R_mono (Kd.R_far (p := ⟨gb314, 2, none⟩) (Kd.R_types HO326.out BK314.out (by decide)) (fun _ hk => hk.2) (.slice Ao42 y324.length co42)) (fun _ h_ => h_.1))) (by decide)) hk (fun _ h => h.2)) (fun _ h => h.1)); replace BK314 := As (KeepBut.blk hk (g' := gb314) (o := .cells #[.int .u64 (IntKind.u64.wrap (t302)), .int .u64 (IntKind.u64.wrap (t306)), .slice Ao42 y324.length co42, .int .i64 x315003_1, .string (⟨#[]⟩ : ByteArray)] 80 (0, 0)) (by refine kb ?_; refine blk_put (cs := #[.int .u64 (IntKind.u64.wrap (t302)), .int .u64 (IntKind.u64.wrap (t306)), .slice Ao38 x315002_1.length co38, .int .i64 x315003_1, .string (⟨#[]⟩ : ByteArray)]) ?_ 2 _ rfl; exact kb BK314.out) NB314_301.out (by simp)); replace HB := As (hb); replace HI301 := As (hi); (try clear hb); (try clear hk); (try clear hi); have hcz45_0 := cells_5 BK314.out; have hfz45_0 := fun j_ => blk_frozen BK314.out j_))
     go_roundg kj14
     case measure => have := HK1.out; have := HJ14.out; omega
     case rel => exact ⟨(x298000_1), (x298001_1), (x298003_1), (x298004_1), (t328), (t329), (t330), (y324), (t327), (.slice Ao42 y324.length co42), H', ⟨by have := HK1.out; have := HJ14.out; omega⟩, ⟨by (with_reducible repeat (first | apply Kd.R_alloc | apply Kd.R_drewN | apply Kd.R_drew)); exact Kd.R_mono (Kd.R_far (p := ⟨gb314, 3, none⟩) (Kd.R_types HO326.out BK314.out (by decide)) (fun _ hk => hk.2) (.int .i64 t327)) (fun _ hk => trivial)⟩, ⟨by refine kb ?_; refine blk_far ?_ NB297_314.out _; exact kb BK297.out⟩, ⟨by refine kb ?_; refine blk_put (cs := #[.int .u64 (IntKind.u64.wrap (t302)), .int .u64 (IntKind.u64.wrap (t306)), .slice Ao42 y324.length co42, .int .i64 x315003_1, .string (⟨#[]⟩ : ByteArray)]) ?_ 3 _ rfl; exact kb BK314.out⟩, ⟨by repeat (first | (with_reducible first | exact HI301.out | apply IsS136.alloc | apply IsS136.drewN | apply IsS136.drew | apply IsS136.set_0 | apply IsS136.set_1 | apply IsS136.set_2 | refine IsS136.far ?_ NB301_297.out _ | refine IsS136.far ?_ NB301_314.out _) | exact HI301.out)⟩, ⟨kB3 HB.out (IsS136.ge HI301.out) GE297.out GE314.out⟩⟩
    rw [if_neg c33] at H
    exact absurd H (by simp)
   replace c24 := Bool.eq_false_iff.mpr c24
   subst c24
   have H1 : ((field_Reader_Err.f x302000_14 x302001_14 x302002_14).bind fun bt331 => (if bt331.1 = 0 then (if x315003_1 < 1536 then (some (0, 0, ([] : List Int), 0, (⟨#[]⟩ : ByteArray), 2)) else ((field_Reader_Rest.f bt331.2.1 bt331.2.2.1 bt331.2.2.2).bind fun bt335 => (some ((IntKind.u64.wrap (t302)), (IntKind.u64.wrap (t306)), x315002_1, x315003_1, bt335.1, 0)))) else (some (0, 0, ([] : List Int), 0, (⟨#[]⟩ : ByteArray), bt331.1)))) = some (r1, r2, r3, r4, r5, r6) := by rw [if_neg (show ¬ (false = true) by decide)] at H; exact H
   clear H
   have H := H1
   clear H1
   replace H := Option.bind_eq_some_iff.mp H
   obtain ⟨⟨t331, t332, t333, t334⟩, A460, H⟩ := H
   replace H : (if t331 = 0 then (if x315003_1 < 1536 then (some (0, 0, ([] : List Int), 0, (⟨#[]⟩ : ByteArray), 2)) else ((field_Reader_Rest.f t332 t333 t334).bind fun bt335 => (some ((IntKind.u64.wrap (t302)), (IntKind.u64.wrap (t306)), x315002_1, x315003_1, bt335.1, 0)))) else (some (0, 0, ([] : List Int), 0, (⟨#[]⟩ : ByteArray), t331))) = some (r1, r2, r3, r4, r5, r6) := H
   have A46 := As A460
   clear A460
   by_cases c47 : t331 = 0
   ·rw [if_pos c47] at H
    have c47b0 : (t331 == 0) = true := beq_iff_eq.mpr c47
    have c47b1 : (t331 != 0) = false := bne_eq_false_iff_eq.mpr c47
    clear c47
    by_cases c48 : x315003_1 < 1536
    ·rw [if_pos c48] at H
     have c48b0 : decide (x315003_1 < 1536) = true := decide_eq_true c48
     clear c48
     simp only [Option.some.injEq, Prod.mk.injEq] at H
     obtain ⟨rfl, rfl, rfl, rfl, rfl, rfl⟩ := H
     go_wp2_with (first | ((with_reducible refine gate_callee (f := 85) rfl ?_); refine goesL_ (some 43) rfl rfl Tryd.func85 (by kernel_rfl) rfl #[.pointer (some ⟨g301, 0, none⟩)] rfl kA ?_; (with_reducible refine (field_Reader_Err.calls g301 x302000_14 x302001_14 x302002_14 t331 t332 t333 t334 w _ ?side1 ?side2 A46.out).mono ?_); (case side1 => repeat (first | (with_reducible first | exact HI301.out | apply IsS136.alloc | apply IsS136.drewN | apply IsS136.drew | apply IsS136.set_0 | apply IsS136.set_1 | apply IsS136.set_2 | refine IsS136.far ?_ NB301_297.out _ | refine IsS136.far ?_ NB301_314.out _) | exact HI301.out)); (case side2 => exact kB3 HB.out (IsS136.ge HI301.out) GE297.out GE314.out); rintro e w49 ⟨rfl, hi, hb, hk⟩; refine ⟨_, rfl, ?_⟩; replace HO_315002 := As (Kd.R_mono (Kd.R_keep (IsS136.apart (show IsS136 w _ g301 x302000_14 x302001_14 x302002_14 from by repeat (first | (with_reducible first | exact HI301.out | apply IsS136.alloc | apply IsS136.drewN | apply IsS136.drew | apply IsS136.set_0 | apply IsS136.set_1 | apply IsS136.set_2 | refine IsS136.far ?_ NB301_297.out _ | refine IsS136.far ?_ NB301_314.out _) | exact HI301.out)) (kR HO_315002.out) (by decide)) hk (fun _ h => h.2)) (fun _ h => h.1)); replace BK297 := As (KeepBut.blk hk (g' := gb297) (o := .cells #[.int .u64 x298000_1, .int .u64 x298001_1, .slice none 0 0, .int .i64 x298003_1, .string x298004_1] 80 (0, 0)) (kb BK297.out) NB297_301.out (by simp)); replace BK314 := As (KeepBut.blk hk (g' := gb314) (o := .cells #[.int .u64 (IntKind.u64.wrap (t302)), .int .u64 (IntKind.u64.wrap (t306)), u315002, .int .i64 x315003_1, .string (⟨#[]⟩ : ByteArray)] 80 (0, 0)) (kb BK314.out) NB314_301.out (by simp)); replace HB := As (hb); replace HI301 := As (hi); (try clear hb); (try clear hk); (try clear hi); have hnb50 := NB314_297.out; have hnc50 := NB297_314.out; have hnb51 := NB314_301.out; have hnc51 := NB301_314.out; have hcz52_0 := cells_5 BK314.out; have hfz52_0 := fun j_ => blk_frozen BK314.out j_; have hnb53 := NB297_301.out; have hnc53 := NB301_297.out; have hcz54_0 := cells_5 BK297.out; have hfz54_0 := fun j_ => blk_frozen BK297.out j_))
     refine bodyPost_ret (results_ct rfl _ _ gb297 80 #[.int .u64 0, .int .u64 0, .slice none 0 0, .int .i64 0, .string (⟨#[]⟩ : ByteArray)] (0, 0) _ rfl (by refine kb ?_; exact blk_all_5 (kb BK297.out) (by rfl)) Tryd.underlying80 rfl (by kernel_rfl)) rfl ?_
     exact ⟨_, kE, by first | exact Kd.R_nil _ _ _ _ _ | exact Kd.N_nil _ _ _ _ _ | exact Kd.V_nil _ _ _ _ _ | exact Kd.Q_nil _ _ _ _ _ | exact Kd.S_nil _ _ _ _ _, by exact kB3 HB.out (IsS136.ge HI301.out) GE297.out GE314.out⟩
    rw [if_neg c48] at H
    have c48b0 : decide (x315003_1 < 1536) = false := decide_eq_false c48
    clear c48
    replace H := Option.bind_eq_some_iff.mp H
    obtain ⟨⟨t335, t336, t337, t338⟩, A550, H⟩ := H
    replace H : (some ((IntKind.u64.wrap (t302)), (IntKind.u64.wrap (t306)), x315002_1, x315003_1, t335, 0)) = some (r1, r2, r3, r4, r5, r6) := H
    have A55 := As A550
    clear A550
    simp only [Option.some.injEq, Prod.mk.injEq] at H
    obtain ⟨rfl, rfl, rfl, rfl, rfl, rfl⟩ := H
    go_wp2_with (first | ((with_reducible refine gate_callee (f := 85) rfl ?_); refine goesL_ (some 43) rfl rfl Tryd.func85 (by kernel_rfl) rfl #[.pointer (some ⟨g301, 0, none⟩)] rfl kA ?_; (with_reducible refine (field_Reader_Err.calls g301 x302000_14 x302001_14 x302002_14 t331 t332 t333 t334 w _ ?side1 ?side2 A46.out).mono ?_); (case side1 => repeat (first | (with_reducible first | exact HI301.out | apply IsS136.alloc | apply IsS136.drewN | apply IsS136.drew | apply IsS136.set_0 | apply IsS136.set_1 | apply IsS136.set_2 | refine IsS136.far ?_ NB301_297.out _ | refine IsS136.far ?_ NB301_314.out _) | exact HI301.out)); (case side2 => exact kB3 HB.out (IsS136.ge HI301.out) GE297.out GE314.out); rintro e w56 ⟨rfl, hi, hb, hk⟩; refine ⟨_, rfl, ?_⟩; replace HO_315002 := As (Kd.R_mono (Kd.R_keep (IsS136.apart (show IsS136 w _ g301 x302000_14 x302001_14 x302002_14 from by repeat (first | (with_reducible first | exact HI301.out | apply IsS136.alloc | apply IsS136.drewN | apply IsS136.drew | apply IsS136.set_0 | apply IsS136.set_1 | apply IsS136.set_2 | refine IsS136.far ?_ NB301_297.out _ | refine IsS136.far ?_ NB301_314.out _) | exact HI301.out)) (kR HO_315002.out) (by decide)) hk (fun _ h => h.2)) (fun _ h => h.1)); replace BK297 := As (KeepBut.blk hk (g' := gb297) (o := .cells #[.int .u64 x298000_1, .int .u64 x298001_1, .slice none 0 0, .int .i64 x298003_1, .string x298004_1] 80 (0, 0)) (kb BK297.out) NB297_301.out (by simp)); replace BK314 := As (KeepBut.blk hk (g' := gb314) (o := .cells #[.int .u64 (IntKind.u64.wrap (t302)), .int .u64 (IntKind.u64.wrap (t306)), u315002, .int .i64 x315003_1, .string (⟨#[]⟩ : ByteArray)] 80 (0, 0)) (kb BK314.out) NB314_301.out (by simp)); replace HB := As (hb); replace HI301 := As (hi); (try clear hb); (try clear hk); (try clear hi); have hnb57 := NB314_297.out; have hnc57 := NB297_314.out; have hnb58 := NB314_301.out; have hnc58 := NB301_314.out; have hcz59_0 := cells_5 BK314.out; have hfz59_0 := fun j_ => blk_frozen BK314.out j_) | ((with_reducible refine gate_callee (f := 87) rfl ?_); refine goesL_ (some 53) rfl rfl Tryd.func87 (by kernel_rfl) rfl #[.pointer (some ⟨g301, 0, none⟩)] rfl kA ?_; (with_reducible refine (field_Reader_Rest.calls g301 t332 t333 t334 t335 t336 t337 t338 w _ ?side1 ?side2 A55.out).mono ?_); (case side1 => repeat (first | (with_reducible first | exact HI301.out | apply IsS136.alloc | apply IsS136.drewN | apply IsS136.drew | apply IsS136.set_0 | apply IsS136.set_1 | apply IsS136.set_2 | refine IsS136.far ?_ NB301_297.out _ | refine IsS136.far ?_ NB301_314.out _) | exact HI301.out)); (case side2 => exact kB3 HB.out (IsS136.ge HI301.out) GE297.out GE314.out); rintro e w60 ⟨rfl, hi, hb, hk⟩; refine ⟨_, rfl, ?_⟩; replace HO_315002 := As (Kd.R_mono (Kd.R_keep (IsS136.apart (show IsS136 w _ g301 t332 t333 t334 from by repeat (first | (with_reducible first | exact HI301.out | apply IsS136.alloc | apply IsS136.drewN | apply IsS136.drew | apply IsS136.set_0 | apply IsS136.set_1 | apply IsS136.set_2 | refine IsS136.far ?_ NB301_297.out _ | refine IsS136.far ?_ NB301_314.out _) | exact HI301.out)) (kR HO_315002.out) (by decide)) hk (fun _ h => h.2)) (fun _ h => h.1)); replace BK297 := As (KeepBut.blk hk (g' := gb297) (o := .cells #[.int .u64 x298000_1, .int .u64 x298001_1, .slice none 0 0, .int .i64 x298003_1, .string x298004_1] 80 (0, 0)) (kb BK297.out) NB297_301.out (by simp)); replace BK314 := As (KeepBut.blk hk (g' := gb314) (o := .cells #[.int .u64 (IntKind.u64.wrap (t302)), .int .u64 (IntKind.u64.wrap (t306)), u315002, .int .i64 x315003_1, .string (⟨#[]⟩ : ByteArray)] 80 (0, 0)) (kb BK314.out) NB314_301.out (by simp)); replace HB := As (hb); replace HI301 := As (hi); (try clear hb); (try clear hk); (try clear hi); have hcz61_0 := cells_5 BK314.out; have hfz61_0 := fun j_ => blk_frozen BK314.out j_; have hnb62 := NB297_301.out; have hnc62 := NB301_297.out; have hcz63_0 := cells_5 BK297.out; have hfz63_0 := fun j_ => blk_frozen BK297.out j_; obtain ⟨Ao64, co64, eo64⟩ := Kd.R_slice HO_315002.out; subst eo64))
    refine bodyPost_ret (results_ct rfl _ _ gb297 80 #[.int .u64 (IntKind.u64.wrap (t302)), .int .u64 (IntKind.u64.wrap (t306)), .slice Ao64 x315002_1.length co64, .int .i64 x315003_1, .string t335] (0, 0) _ rfl (by refine kb ?_; refine blk_all_5 (cs := #[.int .u64 x298000_1, .int .u64 x298001_1, .slice none 0 0, .int .i64 x298003_1, .string x298004_1]) ?_ rfl; refine kb ?_; refine blk_far ?_ NB297_314.out _; exact kb BK297.out) Tryd.underlying80 rfl (by kernel_rfl)) rfl ?_
    exact ⟨_, kE, by (with_reducible repeat (first | apply Kd.R_alloc | apply Kd.R_drewN | apply Kd.R_drew)); exact Kd.R_mono (Kd.R_puts_0_5 gb297 (.int .u64 (IntKind.u64.wrap (t302))) (.int .u64 (IntKind.u64.wrap (t306))) (.slice Ao64 x315002_1.length co64) (.int .i64 x315003_1) (.string t335) (Kd.R_far (p := ⟨gb314, 4, none⟩) (Kd.R_types (Kd.R_types HO_315002.out BK314.out (by decide)) BK297.out (by decide)) (fun _ hk => hk.1.2) (.string t335)) (fun _ hk => hk.2)) (fun _ hk => trivial), by exact kB3 HB.out (IsS136.ge HI301.out) GE297.out GE314.out⟩
   rw [if_neg c47] at H
   have c47b0 : (t331 == 0) = false := beq_eq_false_iff_ne.mpr c47
   have c47b1 : (t331 != 0) = true := bne_iff_ne.mpr c47
   simp only [Option.some.injEq, Prod.mk.injEq] at H
   obtain ⟨rfl, rfl, rfl, rfl, rfl, rfl⟩ := H
   go_wp2_with (first | ((with_reducible refine gate_callee (f := 85) rfl ?_); refine goesL_ (some 43) rfl rfl Tryd.func85 (by kernel_rfl) rfl #[.pointer (some ⟨g301, 0, none⟩)] rfl kA ?_; (with_reducible refine (field_Reader_Err.calls g301 x302000_14 x302001_14 x302002_14 t331 t332 t333 t334 w _ ?side1 ?side2 A46.out).mono ?_); (case side1 => repeat (first | (with_reducible first | exact HI301.out | apply IsS136.alloc | apply IsS136.drewN | apply IsS136.drew | apply IsS136.set_0 | apply IsS136.set_1 | apply IsS136.set_2 | refine IsS136.far ?_ NB301_297.out _ | refine IsS136.far ?_ NB301_314.out _) | exact HI301.out)); (case side2 => exact kB3 HB.out (IsS136.ge HI301.out) GE297.out GE314.out); rintro e w65 ⟨rfl, hi, hb, hk⟩; refine ⟨_, rfl, ?_⟩; replace HO_315002 := As (Kd.R_mono (Kd.R_keep (IsS136.apart (show IsS136 w _ g301 x302000_14 x302001_14 x302002_14 from by repeat (first | (with_reducible first | exact HI301.out | apply IsS136.alloc | apply IsS136.drewN | apply IsS136.drew | apply IsS136.set_0 | apply IsS136.set_1 | apply IsS136.set_2 | refine IsS136.far ?_ NB301_297.out _ | refine IsS136.far ?_ NB301_314.out _) | exact HI301.out)) (kR HO_315002.out) (by decide)) hk (fun _ h => h.2)) (fun _ h => h.1)); replace BK297 := As (KeepBut.blk hk (g' := gb297) (o := .cells #[.int .u64 x298000_1, .int .u64 x298001_1, .slice none 0 0, .int .i64 x298003_1, .string x298004_1] 80 (0, 0)) (kb BK297.out) NB297_301.out (by simp)); replace BK314 := As (KeepBut.blk hk (g' := gb314) (o := .cells #[.int .u64 (IntKind.u64.wrap (t302)), .int .u64 (IntKind.u64.wrap (t306)), u315002, .int .i64 x315003_1, .string (⟨#[]⟩ : ByteArray)] 80 (0, 0)) (kb BK314.out) NB314_301.out (by simp)); replace HB := As (hb); replace HI301 := As (hi); (try clear hb); (try clear hk); (try clear hi); have hnb66 := NB297_314.out; have hnc66 := NB314_297.out; have hnb67 := NB297_301.out; have hnc67 := NB301_297.out; have hcz68_0 := cells_5 BK297.out; have hfz68_0 := fun j_ => blk_frozen BK297.out j_))
   refine bodyPost_ret (results_ct rfl _ _ gb297 80 #[.int .u64 0, .int .u64 0, .slice none 0 0, .int .i64 0, .string (⟨#[]⟩ : ByteArray)] (0, 0) _ rfl (by refine kb ?_; exact blk_all_5 (kb BK297.out) (by rfl)) Tryd.underlying80 rfl (by kernel_rfl)) rfl ?_
   exact ⟨_, kE, by first | exact Kd.R_nil _ _ _ _ _ | exact Kd.N_nil _ _ _ _ _ | exact Kd.V_nil _ _ _ _ _ | exact Kd.Q_nil _ _ _ _ _ | exact Kd.S_nil _ _ _ _ _, by exact kB3 HB.out (IsS136.ge HI301.out) GE297.out GE314.out⟩

/-! ### tunnel_Frame: function 21 -/
def tunnel_Frame.f (k : Nat) (a0 : ByteArray) : Option (Int × ByteArray × Int) := (ethernet_Decode.f k a0).bind fun bt339 => (if bt339.2.2.2.2.2 = 0 then ((tunnel_kindOf.f bt339.2.2.2.1).bind fun t348 => (if t348 = 3 then (some (0, bt339.2.2.2.2.1, 0)) else (some (t348, bt339.2.2.2.2.1, 0)))) else (some (0, (⟨#[]⟩ : ByteArray), bt339.2.2.2.2.2)))
theorem tunnel_Frame.mono : ∀ a0 k, LeO (tunnel_Frame.f k a0) (tunnel_Frame.f (k + 1) a0) := by
 intro a0 k
 unfold tunnel_Frame.f
 repeat' first | with_reducible first | apply ethernet_Decode.mono | apply LeO.refl | apply LeO.none | refine LeO.ite ?_ ?_ | refine LeO.bind ?_ (fun _ => ?_)
set_option maxHeartbeats 8000000 in
set_option maxRecDepth 100000 in
theorem tunnel_Frame.calls (k : Nat) (a0 : ByteArray) (r1 : Int) (r2 : ByteArray) (r3 : Int) (w : World) (hLd : Laid w) (h : tunnel_Frame.f k a0 = some (r1, r2, r3)) :
  Calls Tryd.prog 21 #[.string a0] w fun e w' => e = .returned (.tuple #[.int .i64 r1, .string r2, .int .i64 r3]) ∧ Below w.heap.size w w' := by
 have hu80 := Tryd.underlying80
 have HLD := As hLd
 clear hLd
 have HB := As (Below.refl w.heap.size w)
 have H : ((ethernet_Decode.f k a0).bind fun bt339 => (if bt339.2.2.2.2.2 = 0 then ((tunnel_kindOf.f bt339.2.2.2.1).bind fun t348 => (if t348 = 3 then (some (0, bt339.2.2.2.2.1, 0)) else (some (t348, bt339.2.2.2.2.1, 0)))) else (some (0, (⟨#[]⟩ : ByteArray), bt339.2.2.2.2.2)))) = some (r1, r2, r3) := h
 clear h
 replace H := Option.bind_eq_some_iff.mp H
 obtain ⟨⟨t339, t340, t341, t344, t345, t346⟩, A20, H⟩ := H
 replace H : (if t346 = 0 then ((tunnel_kindOf.f t344).bind fun t348 => (if t348 = 3 then (some (0, t345, 0)) else (some (t348, t345, 0)))) else (some (0, (⟨#[]⟩ : ByteArray), t346))) = some (r1, r2, r3) := H
 have A2 := As A20
 clear A20
 by_cases c3 : t346 = 0
 ·rw [if_pos c3] at H
  have c3b0 : (t346 == 0) = true := beq_iff_eq.mpr c3
  have c3b1 : (t346 != 0) = false := bne_eq_false_iff_eq.mpr c3
  clear c3
  replace H := Option.bind_eq_some_iff.mp H
  obtain ⟨t348, A40, H⟩ := H
  replace H : (if t348 = 3 then (some (0, t345, 0)) else (some (t348, t345, 0))) = some (r1, r2, r3) := H
  have A4 := As A40
  clear A40
  by_cases c5 : t348 = 3
  ·rw [if_pos c5] at H
   have c5b0 : (t348 == 3) = true := beq_iff_eq.mpr c5
   have c5b1 : (t348 != 3) = false := bne_eq_false_iff_eq.mpr c5
   clear c5
   simp only [Option.some.injEq, Prod.mk.injEq] at H
   obtain ⟨rfl, rfl, rfl⟩ := H
   go_enter Tryd.func21, Tryd.ntmps21
   go_wp2_with (first | (go_at_call 47; (with_reducible refine (ethernet_Decode.calls k a0 t339 t340 t341 t344 t345 t346 _ ?side1 A2.out).mono ?_); (case side1 => exact laid_below HLD.out (kB HB.out)); rintro e w6 ⟨v342, rfl, ho0, hb⟩; have HO343 := As (Kd.R_lower ho0 (below_size (kB HB.out))); replace HB := As (below_step (kB HB.out) hb); (try clear hb); (try clear hk); (try clear hi); (try clear ho0)) | ((with_reducible refine gate_dst (N := 5) rfl ?_); refine box_event rfl (N := 5) rfl (cs := #[.int .u64 0, .int .u64 0, .slice none 0 0, .int .i64 0, .string (⟨#[]⟩ : ByteArray)]) (t := 80) kG ?_; intro gb347 hg w7 hbox hb; replace HO343 := As (Kd.R_below (kR HO343.out) hb); have BK347 := As (hbox); have GW347 := As ((by rw [hg]; exact (below_size (kB HB.out)) : w.heap.size ≤ gb347)); have GE347 := As ((by rw [hg]; exact (below_size (kB HB.out)) : w.heap.size ≤ gb347)); replace HB := As (below_step (kB HB.out) hb); clear hb hbox hg; have hcz8_0 := cells_5 BK347.out; have hfz8_0 := fun j_ => blk_frozen BK347.out j_; obtain ⟨Ao9, co9, eo9⟩ := Kd.R_slice HO343.out; subst eo9) | (go_at_call 48; (with_reducible refine (tunnel_kindOf.calls t344 t348 _ A4.out).mono ?_); rintro e w' ⟨rfl, ⟨nd, rfl⟩⟩; (try first | exact ⟨rfl, _, World.drewN_drewN _ _ _⟩ | exact ⟨rfl, _, Eq.trans (World.drewN_drewN _ _ _) (congrArg (World.drewN _) (Nat.add_assoc _ _ _))⟩)))
   repeat (go_quiet (first | (go_at_call 47; (with_reducible refine (ethernet_Decode.calls k a0 t339 t340 t341 t344 t345 t346 _ ?side1 A2.out).mono ?_); (case side1 => exact laid_below HLD.out (kB HB.out)); rintro e w6 ⟨v342, rfl, ho0, hb⟩; have HO343 := As (Kd.R_lower ho0 (below_size (kB HB.out))); replace HB := As (below_step (kB HB.out) hb); (try clear hb); (try clear ho0)) | ((with_reducible refine gate_dst (N := 5) rfl ?_); refine box_event rfl (N := 5) rfl (cs := #[.int .u64 0, .int .u64 0, .slice none 0 0, .int .i64 0, .string (⟨#[]⟩ : ByteArray)]) (t := 80) kG ?_; intro gb347 hg w7 hbox hb; replace HO343 := As (Kd.R_below (kR HO343.out) hb); have BK347 := As (hbox); have GW347 := As ((by rw [hg]; exact (below_size (kB HB.out)) : w.heap.size ≤ gb347)); have GE347 := As ((by rw [hg]; exact (below_size (kB HB.out)) : w.heap.size ≤ gb347)); replace HB := As (below_step (kB HB.out) hb); clear hb hbox hg; have hcz8_0 := cells_5 BK347.out; have hfz8_0 := fun j_ => blk_frozen BK347.out j_; obtain ⟨Ao9, co9, eo9⟩ := Kd.R_slice HO343.out; subst eo9) | (go_at_call 48; (with_reducible refine (tunnel_kindOf.calls t344 t348 _ A4.out).mono ?_); rintro e w' ⟨rfl, ⟨nd, rfl⟩⟩; (try first | exact ⟨rfl, _, World.drewN_drewN _ _ _⟩ | exact ⟨rfl, _, Eq.trans (World.drewN_drewN _ _ _) (congrArg (World.drewN _) (Nat.add_assoc _ _ _))⟩))); try go_wp2_with (first | (go_at_call 47; (with_reducible refine (ethernet_Decode.calls k a0 t339 t340 t341 t344 t345 t346 _ ?side1 A2.out).mono ?_); (case side1 => exact laid_below HLD.out (kB HB.out)); rintro e w6 ⟨v342, rfl, ho0, hb⟩; have HO343 := As (Kd.R_lower ho0 (below_size (kB HB.out))); replace HB := As (below_step (kB HB.out) hb); (try clear hb); (try clear ho0)) | ((with_reducible refine gate_dst (N := 5) rfl ?_); refine box_event rfl (N := 5) rfl (cs := #[.int .u64 0, .int .u64 0, .slice none 0 0, .int .i64 0, .string (⟨#[]⟩ : ByteArray)]) (t := 80) kG ?_; intro gb347 hg w7 hbox hb; replace HO343 := As (Kd.R_below (kR HO343.out) hb); have BK347 := As (hbox); have GW347 := As ((by rw [hg]; exact (below_size (kB HB.out)) : w.heap.size ≤ gb347)); have GE347 := As ((by rw [hg]; exact (below_size (kB HB.out)) : w.heap.size ≤ gb347)); replace HB := As (below_step (kB HB.out) hb); clear hb hbox hg; have hcz8_0 := cells_5 BK347.out; have hfz8_0 := fun j_ => blk_frozen BK347.out j_; obtain ⟨Ao9, co9, eo9⟩ := Kd.R_slice HO343.out; subst eo9) | (go_at_call 48; (with_reducible refine (tunnel_kindOf.calls t344 t348 _ A4.out).mono ?_); rintro e w' ⟨rfl, ⟨nd, rfl⟩⟩; (try first | exact ⟨rfl, _, World.drewN_drewN _ _ _⟩ | exact ⟨rfl, _, Eq.trans (World.drewN_drewN _ _ _) (congrArg (World.drewN _) (Nat.add_assoc _ _ _))⟩))))
   go_ret3
   exact ⟨kE, by exact kB1 HB.out GE347.out⟩
  rw [if_neg c5] at H
  have c5b0 : (t348 == 3) = false := beq_eq_false_iff_ne.mpr c5
  have c5b1 : (t348 != 3) = true := bne_iff_ne.mpr c5
  simp only [Option.some.injEq, Prod.mk.injEq] at H
  obtain ⟨rfl, rfl, rfl⟩ := H
  go_enter Tryd.func21, Tryd.ntmps21
  go_wp2_with (first | (go_at_call 47; (with_reducible refine (ethernet_Decode.calls k a0 t339 t340 t341 t344 t345 t346 _ ?side1 A2.out).mono ?_); (case side1 => exact laid_below HLD.out (kB HB.out)); rintro e w10 ⟨v342, rfl, ho0, hb⟩; have HO343 := As (Kd.R_lower ho0 (below_size (kB HB.out))); replace HB := As (below_step (kB HB.out) hb); (try clear hb); (try clear ho0)) | ((with_reducible refine gate_dst (N := 5) rfl ?_); refine box_event rfl (N := 5) rfl (cs := #[.int .u64 0, .int .u64 0, .slice none 0 0, .int .i64 0, .string (⟨#[]⟩ : ByteArray)]) (t := 80) kG ?_; intro gb347 hg w11 hbox hb; replace HO343 := As (Kd.R_below (kR HO343.out) hb); have BK347 := As (hbox); have GW347 := As ((by rw [hg]; exact (below_size (kB HB.out)) : w.heap.size ≤ gb347)); have GE347 := As ((by rw [hg]; exact (below_size (kB HB.out)) : w.heap.size ≤ gb347)); replace HB := As (below_step (kB HB.out) hb); clear hb hbox hg; have hcz12_0 := cells_5 BK347.out; have hfz12_0 := fun j_ => blk_frozen BK347.out j_; obtain ⟨Ao13, co13, eo13⟩ := Kd.R_slice HO343.out; subst eo13) | (go_at_call 48; (with_reducible refine (tunnel_kindOf.calls t344 t348 _ A4.out).mono ?_); rintro e w' ⟨rfl, ⟨nd, rfl⟩⟩; (try first | exact ⟨rfl, _, World.drewN_drewN _ _ _⟩ | exact ⟨rfl, _, Eq.trans (World.drewN_drewN _ _ _) (congrArg (World.drewN _) (Nat.add_assoc _ _ _))⟩)))
  repeat (go_quiet (first | (go_at_call 47; (with_reducible refine (ethernet_Decode.calls k a0 t339 t340 t341 t344 t345 t346 _ ?side1 A2.out).mono ?_); (case side1 => exact laid_below HLD.out (kB HB.out)); rintro e w10 ⟨v342, rfl, ho0, hb⟩; have HO343 := As (Kd.R_lower ho0 (below_size (kB HB.out))); replace HB := As (below_step (kB HB.out) hb); (try clear hb); (try clear ho0)) | ((with_reducible refine gate_dst (N := 5) rfl ?_); refine box_event rfl (N := 5) rfl (cs := #[.int .u64 0, .int .u64 0, .slice none 0 0, .int .i64 0, .string (⟨#[]⟩ : ByteArray)]) (t := 80) kG ?_; intro gb347 hg w11 hbox hb; replace HO343 := As (Kd.R_below (kR HO343.out) hb); have BK347 := As (hbox); have GW347 := As ((by rw [hg]; exact (below_size (kB HB.out)) : w.heap.size ≤ gb347)); have GE347 := As ((by rw [hg]; exact (below_size (kB HB.out)) : w.heap.size ≤ gb347)); replace HB := As (below_step (kB HB.out) hb); clear hb hbox hg; have hcz12_0 := cells_5 BK347.out; have hfz12_0 := fun j_ => blk_frozen BK347.out j_; obtain ⟨Ao13, co13, eo13⟩ := Kd.R_slice HO343.out; subst eo13) | (go_at_call 48; (with_reducible refine (tunnel_kindOf.calls t344 t348 _ A4.out).mono ?_); rintro e w' ⟨rfl, ⟨nd, rfl⟩⟩; (try first | exact ⟨rfl, _, World.drewN_drewN _ _ _⟩ | exact ⟨rfl, _, Eq.trans (World.drewN_drewN _ _ _) (congrArg (World.drewN _) (Nat.add_assoc _ _ _))⟩))); try go_wp2_with (first | (go_at_call 47; (with_reducible refine (ethernet_Decode.calls k a0 t339 t340 t341 t344 t345 t346 _ ?side1 A2.out).mono ?_); (case side1 => exact laid_below HLD.out (kB HB.out)); rintro e w10 ⟨v342, rfl, ho0, hb⟩; have HO343 := As (Kd.R_lower ho0 (below_size (kB HB.out))); replace HB := As (below_step (kB HB.out) hb); (try clear hb); (try clear ho0)) | ((with_reducible refine gate_dst (N := 5) rfl ?_); refine box_event rfl (N := 5) rfl (cs := #[.int .u64 0, .int .u64 0, .slice none 0 0, .int .i64 0, .string (⟨#[]⟩ : ByteArray)]) (t := 80) kG ?_; intro gb347 hg w11 hbox hb; replace HO343 := As (Kd.R_below (kR HO343.out) hb); have BK347 := As (hbox); have GW347 := As ((by rw [hg]; exact (below_size (kB HB.out)) : w.heap.size ≤ gb347)); have GE347 := As ((by rw [hg]; exact (below_size (kB HB.out)) : w.heap.size ≤ gb347)); replace HB := As (below_step (kB HB.out) hb); clear hb hbox hg; have hcz12_0 := cells_5 BK347.out; have hfz12_0 := fun j_ => blk_frozen BK347.out j_; obtain ⟨Ao13, co13, eo13⟩ := Kd.R_slice HO343.out; subst eo13) | (go_at_call 48; (with_reducible refine (tunnel_kindOf.calls t344 t348 _ A4.out).mono ?_); rintro e w' ⟨rfl, ⟨nd, rfl⟩⟩; (try first | exact ⟨rfl, _, World.drewN_drewN _ _ _⟩ | exact ⟨rfl, _, Eq.trans (World.drewN_drewN _ _ _) (congrArg (World.drewN _) (Nat.add_assoc _ _ _))⟩))))
  go_ret3
  exact ⟨kE, by exact kB1 HB.out GE347.out⟩
 rw [if_neg c3] at H
 have c3b0 : (t346 == 0) = false := beq_eq_false_iff_ne.mpr c3
 have c3b1 : (t346 != 0) = true := bne_iff_ne.mpr c3
 simp only [Option.some.injEq, Prod.mk.injEq] at H
 obtain ⟨rfl, rfl, rfl⟩ := H
 go_enter Tryd.func21, Tryd.ntmps21
 go_wp2_with (first | (go_at_call 47; (with_reducible refine (ethernet_Decode.calls k a0 t339 t340 t341 t344 t345 t346 _ ?side1 A2.out).mono ?_); (case side1 => exact laid_below HLD.out (kB HB.out)); rintro e w14 ⟨v342, rfl, ho0, hb⟩; have HO343 := As (Kd.R_lower ho0 (below_size (kB HB.out))); replace HB := As (below_step (kB HB.out) hb); (try clear hb); (try clear ho0)) | ((with_reducible refine gate_dst (N := 5) rfl ?_); refine box_event rfl (N := 5) rfl (cs := #[.int .u64 0, .int .u64 0, .slice none 0 0, .int .i64 0, .string (⟨#[]⟩ : ByteArray)]) (t := 80) kG ?_; intro gb347 hg w15 hbox hb; replace HO343 := As (Kd.R_below (kR HO343.out) hb); have BK347 := As (hbox); have GW347 := As ((by rw [hg]; exact (below_size (kB HB.out)) : w.heap.size ≤ gb347)); have GE347 := As ((by rw [hg]; exact (below_size (kB HB.out)) : w.heap.size ≤ gb347)); replace HB := As (below_step (kB HB.out) hb); clear hb hbox hg; have hcz16_0 := cells_5 BK347.out; have hfz16_0 := fun j_ => blk_frozen BK347.out j_; obtain ⟨Ao17, co17, eo17⟩ := Kd.R_slice HO343.out; subst eo17))
 repeat (go_quiet (first | (go_at_call 47; (with_reducible refine (ethernet_Decode.calls k a0 t339 t340 t341 t344 t345 t346 _ ?side1 A2.out).mono ?_); (case side1 => exact laid_below HLD.out (kB HB.out)); rintro e w14 ⟨v342, rfl, ho0, hb⟩; have HO343 := As (Kd.R_lower ho0 (below_size (kB HB.out))); replace HB := As (below_step (kB HB.out) hb); (try clear hb); (try clear ho0)) | ((with_reducible refine gate_dst (N := 5) rfl ?_); refine box_event rfl (N := 5) rfl (cs := #[.int .u64 0, .int .u64 0, .slice none 0 0, .int .i64 0, .string (⟨#[]⟩ : ByteArray)]) (t := 80) kG ?_; intro gb347 hg w15 hbox hb; replace HO343 := As (Kd.R_below (kR HO343.out) hb); have BK347 := As (hbox); have GW347 := As ((by rw [hg]; exact (below_size (kB HB.out)) : w.heap.size ≤ gb347)); have GE347 := As ((by rw [hg]; exact (below_size (kB HB.out)) : w.heap.size ≤ gb347)); replace HB := As (below_step (kB HB.out) hb); clear hb hbox hg; have hcz16_0 := cells_5 BK347.out; have hfz16_0 := fun j_ => blk_frozen BK347.out j_; obtain ⟨Ao17, co17, eo17⟩ := Kd.R_slice HO343.out; subst eo17)); try go_wp2_with (first | (go_at_call 47; (with_reducible refine (ethernet_Decode.calls k a0 t339 t340 t341 t344 t345 t346 _ ?side1 A2.out).mono ?_); (case side1 => exact laid_below HLD.out (kB HB.out)); rintro e w14 ⟨v342, rfl, ho0, hb⟩; have HO343 := As (Kd.R_lower ho0 (below_size (kB HB.out))); replace HB := As (below_step (kB HB.out) hb); (try clear hb); (try clear ho0)) | ((with_reducible refine gate_dst (N := 5) rfl ?_); refine box_event rfl (N := 5) rfl (cs := #[.int .u64 0, .int .u64 0, .slice none 0 0, .int .i64 0, .string (⟨#[]⟩ : ByteArray)]) (t := 80) kG ?_; intro gb347 hg w15 hbox hb; replace HO343 := As (Kd.R_below (kR HO343.out) hb); have BK347 := As (hbox); have GW347 := As ((by rw [hg]; exact (below_size (kB HB.out)) : w.heap.size ≤ gb347)); have GE347 := As ((by rw [hg]; exact (below_size (kB HB.out)) : w.heap.size ≤ gb347)); replace HB := As (below_step (kB HB.out) hb); clear hb hbox hg; have hcz16_0 := cells_5 BK347.out; have hfz16_0 := fun j_ => blk_frozen BK347.out j_; obtain ⟨Ao17, co17, eo17⟩ := Kd.R_slice HO343.out; subst eo17)))
 go_ret3
 exact ⟨kE, by exact kB1 HB.out GE347.out⟩

/-! ### intrusionref01_Value: function 88 -/
def intrusionref01_Value.l0 : Nat → ByteArray → Int → Int → Option (Int)
 | 0, _, _, _ => none
 | k + 1, x0, x3, x4 => if x4 < (x0.size : Int) then (if 0 ≤ x4 then (intrusionref01_Value.l0 k x0 (wrap64 ((wrap64 (x3 * 256)) + (wrap64 (bt x0 x4)))) (wrap64 (x4 + 1))) else (none)) else (some x3)
def intrusionref01_Value.f (k : Nat) (a0 : ByteArray) : Option (Int) := intrusionref01_Value.l0 k a0 0 0
theorem intrusionref01_Value.mono_l : ∀ k, (∀ y0 y1 y2, LeO (intrusionref01_Value.l0 k y0 y1 y2) (intrusionref01_Value.l0 (k + 1) y0 y1 y2))
 | 0 => fun _ _ _ r h => by simp [intrusionref01_Value.l0] at h
 | k + 1 => by
  have ih0 := intrusionref01_Value.mono_l k
  intro y0 y1 y2
  unfold intrusionref01_Value.l0
  repeat' first | with_reducible first | apply ih0 | apply LeO.refl | apply LeO.none | refine LeO.ite ?_ ?_ | refine LeO.bind ?_ (fun _ => ?_)
theorem intrusionref01_Value.mono : ∀ a0 k, LeO (intrusionref01_Value.f k a0) (intrusionref01_Value.f (k + 1) a0) := by
 intro a0 k
 have ih0 := intrusionref01_Value.mono_l k
 unfold intrusionref01_Value.f
 repeat' first | with_reducible first | apply ih0 | apply LeO.refl | apply LeO.none | refine LeO.ite ?_ ?_ | refine LeO.bind ?_ (fun _ => ?_)
set_option maxHeartbeats 8000000 in
set_option maxRecDepth 100000 in
theorem intrusionref01_Value.calls (k : Nat) (a0 : ByteArray) (r : Int) (w : World) (h : intrusionref01_Value.f k a0 = some r) :
  Calls Tryd.prog 88 #[.string a0] w fun e w' => e = .returned (.int .i64 r) ∧ Drawn0 w w' := by
 have H : (intrusionref01_Value.l0 k a0 0 0) = some r := h
 clear h
 have H' := As H
 clear H
 go_enter Tryd.func88, Tryd.ntmps88
 go_wp2
 go_loopg [3, 4] k (fun kq v3 v4 w' => ∃ (x3_1 : Int) (x4_1 : Int), v3 = .int .i64 x3_1 ∧ v4 = .int .i64 x4_1 ∧ Aside0 (intrusionref01_Value.l0 kq a0 x3_1 x4_1 = some r) ∧ Aside0 (kq ≤ k) ∧ Drawn0 w w')
 case atStart => exact ⟨(0), (0), kS, kS, H', ⟨Nat.le_refl _⟩, by repeat (first | exact Drawn0.refl _ | apply Drawn0.step)⟩
 clear H'
 obtain ⟨x3_1, x4_1, rfl, rfl, HA, HK1, ⟨m1, rfl⟩⟩ := hrel
 cases gk with
 | zero => exact absurd HA.out (by simp [intrusionref01_Value.l0])
 | succ k1 =>
  have H := HA.out
  clear HA
  simp only [intrusionref01_Value.l0] at H
  by_cases c2 : x4_1 < (a0.size : Int)
  ·rw [if_pos c2] at H
   have c2b0 : decide (x4_1 < (a0.size : Int)) = true := decide_eq_true c2
   clear c2
   by_cases c3 : 0 ≤ x4_1
   ·rw [if_pos c3] at H
    have c3b0 : decide (0 ≤ x4_1) = true := decide_eq_true c3
    clear c3
    have H' := As H
    clear H
    have p4 : 0 ≤ (x4_1 : Int) := of_decide_eq_true (by first | (with_reducible assumption) | assumption)
    have q4 : x4_1 < (a0.size : Int) := of_decide_eq_true (by first | (with_reducible assumption) | assumption)
    have hx4 := bt_at a0 x4_1
    replace p4 := eq_true p4
    replace q4 := eq_true q4
    go_wp2
    go_roundg k1
    case measure => have := HK1.out; omega
    case rel => exact ⟨(wrap64 ((wrap64 (x3_1 * 256)) + (wrap64 (bt a0 x4_1)))), (wrap64 (x4_1 + 1)), kS, kS, H', ⟨by have := HK1.out; omega⟩, by repeat (first | exact Drawn0.refl _ | apply Drawn0.step)⟩
   rw [if_neg c3] at H
   exact absurd H (by simp)
  rw [if_neg c2] at H
  have c2b0 : decide (x4_1 < (a0.size : Int)) = false := decide_eq_false c2
  clear c2
  obtain rfl := Option.some.inj H
  go_wp2
  go_ret
  exact ⟨by first | rfl | (simp; done) | (simp [*]; done), by repeat (first | exact Drawn0.refl _ | apply Drawn0.step)⟩

/-! ### intrusionref10_tag: function 89 -/
def intrusionref10_tag.f (a0 : Int) : Option (Bool) := if a0 = 33024 then (some true) else (some (a0 == 34984))
set_option maxHeartbeats 8000000 in
set_option maxRecDepth 100000 in
theorem intrusionref10_tag.calls (a0 : Int) (r : Bool) (w : World) (h : intrusionref10_tag.f a0 = some r) :
  Calls Tryd.prog 89 #[.int .i64 a0] w fun e w' => e = .returned (.bool r) ∧ Drawn0 w w' := by
 have H : (if a0 = 33024 then (some true) else (some (a0 == 34984))) = some r := h
 clear h
 by_cases c2 : a0 = 33024
 ·rw [if_pos c2] at H
  have c2b0 : (a0 == 33024) = true := beq_iff_eq.mpr c2
  have c2b1 : (a0 != 33024) = false := bne_eq_false_iff_eq.mpr c2
  clear c2
  obtain rfl := Option.some.inj H
  go_enter Tryd.func89, Tryd.ntmps89
  go_wp2
  go_ret
  exact ⟨by first | rfl | (simp; done) | (simp [*]; done), by repeat (first | exact Drawn0.refl _ | apply Drawn0.step)⟩
 rw [if_neg c2] at H
 have c2b0 : (a0 == 33024) = false := beq_eq_false_iff_ne.mpr c2
 have c2b1 : (a0 != 33024) = true := bne_iff_ne.mpr c2
 obtain rfl := Option.some.inj H
 go_enter Tryd.func89, Tryd.ntmps89
 go_wp2
 go_ret
 exact ⟨by first | rfl | (simp; done) | (simp [*]; done), by repeat (first | exact Drawn0.refl _ | apply Drawn0.step)⟩

end Go.Proofs.YtocobalkikkhlaaDoor.X
-- short
