/- What the functions of the translation that this claim's statement reaches compute, each proved by its walk. Written by xprint.py, a program of this claim's author, run over the kit's printer. -/
import Derived.Test.YtellbiicmiljcaaDoorX0
import Derived.Test.YtellbiicmiljcaaDoorX1
namespace Go.Proofs.YtellbiicmiljcaaDoor.X
open Go.RowKit Go.Proofs.YtellbiicmiljcaaDoorW.PrintWords Go.Proofs.YtellbiicmiljcaaDoorW.PrintLast Go.Proofs.YtellbiicmiljcaaDoorW.PrintMore
attribute [local go_sem] max2_int min2_int max_two min_two max_three min_three max_four min_four   -- for this text's walks alone
set_option linter.unusedVariables false
set_option linter.unusedSimpArgs false

/-! ### ethernet_Decode: function 9 -/
mutual
def ethernet_Decode.l0 : Nat → ByteArray → Int → Int → Int → Int → List Int → Int → ByteArray → Option (Int × Int × List Int × Int × ByteArray × Int)
  | 0, _, _, _, _, _, _, _, _ => none
  | k + 1, x127000, x127001, x127002, x140000, x140001, x140002, x140003, x140004 => (field_Reader_Err.f x127000 x127001 x127002).bind fun bt140 => (if bt140.1 = 0 then ((ethernet_tagged.f x140003).bind fun t144 => (ethernet_Decode.j1 k t144 bt140.2.1 bt140.2.2.1 bt140.2.2.2 x140000 x140001 x140002 x140003 x140004)) else (ethernet_Decode.j1 k false bt140.2.1 bt140.2.2.1 bt140.2.2.2 x140000 x140001 x140002 x140003 x140004))
def ethernet_Decode.j1 : Nat → Bool → ByteArray → Int → Int → Int → Int → List Int → Int → ByteArray → Option (Int × Int × List Int × Int × ByteArray × Int)
  | 0, _, _, _, _, _, _, _, _, _ => none
  | k + 1, x25, x127000, x127001, x127002, x140000, x140001, x140002, x140003, x140004 => if x25 = true then (if (x140002.length : Int) = 2 then (some (0, 0, ([] : List Int), 0, (⟨#[]⟩ : ByteArray), 9)) else ((field_Reader_Int.f k x127000 x127001 x127002 2).bind fun bt145 => (if x140002.length < 17592186044416 then ((field_Reader_Int.f k bt145.2.1 bt145.2.2.1 bt145.2.2.2 2).bind fun bt152 => (ethernet_Decode.l0 k bt152.2.1 bt152.2.2.1 bt152.2.2.2 x140000 x140001 (x140002 ++ [Go.bits .and .i64 bt145.1 4095]) bt152.1 x140004)) else (none)))) else ((field_Reader_Err.f x127000 x127001 x127002).bind fun bt156 => (if bt156.1 = 0 then (if x140003 < 1536 then (some (0, 0, ([] : List Int), 0, (⟨#[]⟩ : ByteArray), 2)) else ((field_Reader_Rest.f bt156.2.1 bt156.2.2.1 bt156.2.2.2).bind fun bt160 => (some (x140000, x140001, x140002, x140003, bt160.1, 0)))) else (some (0, 0, ([] : List Int), 0, (⟨#[]⟩ : ByteArray), bt156.1))))
end
def ethernet_Decode.f (k : Nat) (a0 : ByteArray) : Option (Int × Int × List Int × Int × ByteArray × Int) := (field_NewReader.f a0).bind fun bt123 => ((field_Reader_Int.f k bt123.1 bt123.2.1 bt123.2.2 6).bind fun bt127 => ((field_Reader_Int.f k bt127.2.1 bt127.2.2.1 bt127.2.2.2 6).bind fun bt131 => ((field_Reader_Int.f k bt131.2.1 bt131.2.2.1 bt131.2.2.2 2).bind fun bt135 => (ethernet_Decode.l0 k bt135.2.1 bt135.2.2.1 bt135.2.2.2 (IntKind.u64.wrap (bt127.1)) (IntKind.u64.wrap (bt131.1)) ([] : List Int) bt135.1 (⟨#[]⟩ : ByteArray)))))
theorem ethernet_Decode.mono_l : ∀ k, (∀ y0 y1 y2 y3 y4 y5 y6 y7, LeO (ethernet_Decode.l0 k y0 y1 y2 y3 y4 y5 y6 y7) (ethernet_Decode.l0 (k + 1) y0 y1 y2 y3 y4 y5 y6 y7)) ∧ (∀ y0 y1 y2 y3 y4 y5 y6 y7 y8, LeO (ethernet_Decode.j1 k y0 y1 y2 y3 y4 y5 y6 y7 y8) (ethernet_Decode.j1 (k + 1) y0 y1 y2 y3 y4 y5 y6 y7 y8))
  | 0 => ⟨fun _ _ _ _ _ _ _ _ r h => by simp [ethernet_Decode.l0] at h, fun _ _ _ _ _ _ _ _ _ r h => by simp [ethernet_Decode.j1] at h⟩
  | k + 1 => by
    obtain ⟨ih0, ih1⟩ := ethernet_Decode.mono_l k
    refine ⟨?_, ?_⟩
    · intro y0 y1 y2 y3 y4 y5 y6 y7
      unfold ethernet_Decode.l0
      repeat' first
      | (with_reducible exact ih0 _ _ _ _ _ _ _ _)
      | (with_reducible exact ih1 _ _ _ _ _ _ _ _ _)
      | (with_reducible exact field_Reader_Int.mono _ _ _ _ _)
      | (with_reducible exact LeO.refl _)
      | (with_reducible exact LeO.none _)
      | (with_reducible refine LeO.ite ?_ ?_)
      | (with_reducible refine LeO.bind ?_ (fun _ => ?_))
      | exact ih0 _ _ _ _ _ _ _ _
      | exact ih1 _ _ _ _ _ _ _ _ _
      | exact field_Reader_Int.mono _ _ _ _ _
      | exact LeO.none _
      | refine LeO.ite ?_ ?_
      | refine LeO.bind ?_ (fun _ => ?_)
    · intro y0 y1 y2 y3 y4 y5 y6 y7 y8
      unfold ethernet_Decode.j1
      repeat' first
      | (with_reducible exact ih0 _ _ _ _ _ _ _ _)
      | (with_reducible exact ih1 _ _ _ _ _ _ _ _ _)
      | (with_reducible exact field_Reader_Int.mono _ _ _ _ _)
      | (with_reducible exact LeO.refl _)
      | (with_reducible exact LeO.none _)
      | (with_reducible refine LeO.ite ?_ ?_)
      | (with_reducible refine LeO.bind ?_ (fun _ => ?_))
      | exact ih0 _ _ _ _ _ _ _ _
      | exact ih1 _ _ _ _ _ _ _ _ _
      | exact field_Reader_Int.mono _ _ _ _ _
      | exact LeO.none _
      | refine LeO.ite ?_ ?_
      | refine LeO.bind ?_ (fun _ => ?_)
theorem ethernet_Decode.mono : ∀ a0 k, LeO (ethernet_Decode.f k a0) (ethernet_Decode.f (k + 1) a0) := by
  intro a0 k
  obtain ⟨ih0, ih1⟩ := ethernet_Decode.mono_l k
  unfold ethernet_Decode.f
  repeat' first
      | (with_reducible exact ih0 _ _ _ _ _ _ _ _)
      | (with_reducible exact ih1 _ _ _ _ _ _ _ _ _)
      | (with_reducible exact field_Reader_Int.mono _ _ _ _ _)
      | (with_reducible exact LeO.refl _)
      | (with_reducible exact LeO.none _)
      | (with_reducible refine LeO.ite ?_ ?_)
      | (with_reducible refine LeO.bind ?_ (fun _ => ?_))
      | exact ih0 _ _ _ _ _ _ _ _
      | exact ih1 _ _ _ _ _ _ _ _ _
      | exact field_Reader_Int.mono _ _ _ _ _
      | exact LeO.none _
      | refine LeO.ite ?_ ?_
      | refine LeO.bind ?_ (fun _ => ?_)
def ethernet_Decode.T6 : Bool × List (List Nat × List Nat) := (true, [([], []), ([0], [0]), ([], []), ([2], [2]), ([3], [3]), ([4], [4]), ([1, 5, 3], [1, 5]), ([0, 1, 2, 3, 4, 5, 6], []), ([7, 6, 6, 0, 1, 2, 3, 4, 5, 6], [6, 7])])
def ethernet_Decode.B6 : List Nat := [0, 1, 0, 4, 12, 28, 63, 127, 255]
theorem ethernet_Decode.tab6 : rtab .any (opsOf Tryd.f9 6) = ethernet_Decode.T6 := by kernel_rfl
theorem ethernet_Decode.bits6 : waitsOk ethernet_Decode.T6.2 ethernet_Decode.B6 = true := by kernel_rfl
set_option maxHeartbeats 8000000 in
set_option maxRecDepth 100000 in
theorem ethernet_Decode.calls (k : Nat) (a0 : ByteArray) (r1 : Int) (r2 : Int) (r3 : List Int) (r4 : Int) (r5 : ByteArray) (r6 : Int) (w : World) (hLd : Laid w) (h : ethernet_Decode.f k a0 = some (r1, r2, r3, r4, r5, r6)) :
    Calls Tryd.prog 9 #[.string a0] w fun e w' => ∃ v2_ : Value, e = .returned (.tuple #[.agg #[.int .u64 r1, .int .u64 r2, v2_, .int .i64 r4, .string r5], .int .i64 r6]) ∧ Kd.R (Kd.int .i64) 3 w' w.heap.size (fun _ => True) v2_ r3 ∧ Below w.heap.size w w' := by
  have hu26 := Tryd.underlying26
  have HLD := Aside0.mk hLd
  clear hLd
  have HB := Aside0.mk (Below.refl w.heap.size w)
  have H : ((field_NewReader.f a0).bind fun bt123 => ((field_Reader_Int.f k bt123.1 bt123.2.1 bt123.2.2 6).bind fun bt127 => ((field_Reader_Int.f k bt127.2.1 bt127.2.2.1 bt127.2.2.2 6).bind fun bt131 => ((field_Reader_Int.f k bt131.2.1 bt131.2.2.1 bt131.2.2.2 2).bind fun bt135 => (ethernet_Decode.l0 k bt135.2.1 bt135.2.2.1 bt135.2.2.2 (IntKind.u64.wrap (bt127.1)) (IntKind.u64.wrap (bt131.1)) ([] : List Int) bt135.1 (⟨#[]⟩ : ByteArray)))))) = some (r1, r2, r3, r4, r5, r6) := h
  clear h
  replace H := Option.bind_eq_some_iff.mp H
  obtain ⟨⟨t123, t124, t125⟩, A20, H⟩ := H
  replace H : ((field_Reader_Int.f k t123 t124 t125 6).bind fun bt127 => ((field_Reader_Int.f k bt127.2.1 bt127.2.2.1 bt127.2.2.2 6).bind fun bt131 => ((field_Reader_Int.f k bt131.2.1 bt131.2.2.1 bt131.2.2.2 2).bind fun bt135 => (ethernet_Decode.l0 k bt135.2.1 bt135.2.2.1 bt135.2.2.2 (IntKind.u64.wrap (bt127.1)) (IntKind.u64.wrap (bt131.1)) ([] : List Int) bt135.1 (⟨#[]⟩ : ByteArray))))) = some (r1, r2, r3, r4, r5, r6) := H
  have A2 := Aside0.mk A20
  clear A20
  replace H := Option.bind_eq_some_iff.mp H
  obtain ⟨⟨t127, t128, t129, t130⟩, A30, H⟩ := H
  replace H : ((field_Reader_Int.f k t128 t129 t130 6).bind fun bt131 => ((field_Reader_Int.f k bt131.2.1 bt131.2.2.1 bt131.2.2.2 2).bind fun bt135 => (ethernet_Decode.l0 k bt135.2.1 bt135.2.2.1 bt135.2.2.2 (IntKind.u64.wrap (t127)) (IntKind.u64.wrap (bt131.1)) ([] : List Int) bt135.1 (⟨#[]⟩ : ByteArray)))) = some (r1, r2, r3, r4, r5, r6) := H
  have A3 := Aside0.mk A30
  clear A30
  replace H := Option.bind_eq_some_iff.mp H
  obtain ⟨⟨t131, t132, t133, t134⟩, A40, H⟩ := H
  replace H : ((field_Reader_Int.f k t132 t133 t134 2).bind fun bt135 => (ethernet_Decode.l0 k bt135.2.1 bt135.2.2.1 bt135.2.2.2 (IntKind.u64.wrap (t127)) (IntKind.u64.wrap (t131)) ([] : List Int) bt135.1 (⟨#[]⟩ : ByteArray))) = some (r1, r2, r3, r4, r5, r6) := H
  have A4 := Aside0.mk A40
  clear A40
  replace H := Option.bind_eq_some_iff.mp H
  obtain ⟨⟨t135, t136, t137, t138⟩, A50, H⟩ := H
  replace H : (ethernet_Decode.l0 k t136 t137 t138 (IntKind.u64.wrap (t127)) (IntKind.u64.wrap (t131)) ([] : List Int) t135 (⟨#[]⟩ : ByteArray)) = some (r1, r2, r3, r4, r5, r6) := H
  have A5 := Aside0.mk A50
  clear A50
  have H' := Aside0.mk H
  clear H
  go_enter Tryd.func9, Tryd.ntmps9
  go_wp2_with (first | ((with_reducible refine gate_dst (N := 2) rfl ?_); refine box_event ?hg (N := 2) ?hd (cs := #[.int .u64 0, .int .u64 0, .slice none 0 0, .int .i64 0, .string (⟨#[]⟩ : ByteArray)]) (t := 26) ?hr ?_; (case hd => rfl); (case hg => rfl); (case hr => first | (go_simp; done) | (go_simp; rfl)); intro gb122 hg w6 hbox hb; have n0_ := Aside0.mk (below_step (by repeat (first | (with_reducible first | exact HB.out | apply below_alloc | apply pw_below_drewN | apply below_drew1) | exact HB.out)) hb); have n1_ := Aside0.mk (hbox); have n2_ := Aside0.mk ((by rw [hg]; exact (below_size (by repeat (first | (with_reducible first | exact HB.out | apply below_alloc | apply pw_below_drewN | apply below_drew1) | exact HB.out))) : w.heap.size ≤ gb122)); have n3_ := Aside0.mk ((by rw [hg]; exact (below_size (by repeat (first | (with_reducible first | exact HB.out | apply below_alloc | apply pw_below_drewN | apply below_drew1) | exact HB.out))) : w.heap.size ≤ gb122)); clear HB; have HB := n0_; have BK122 := n1_; have GW122 := n2_; have GE122 := n3_; clear n0_ n1_ n2_ n3_; clear hb hbox hg) | ((with_reducible refine gate_callee (f := 18) rfl ?_); refine goesL_ (some 8) rfl rfl Tryd.func18 (by kernel_rfl) rfl #[.string a0] rfl (by (try simp only [List.map_toArray, List.map_cons, List.map_nil]); first | done | rfl | (simp only [List.length_drop, List.length_take]; rfl)) ?_; (with_reducible refine (field_NewReader.calls a0 t123 t124 t125 w _ ?side1 A2.out).mono ?_); (case side1 => repeat (first | (with_reducible first | exact HB.out | apply below_alloc | apply pw_below_drewN | apply below_drew1 | refine below_set ?_ GE122.out) | exact HB.out)); rintro e w7 ⟨g126, rfl, hi, hb, hb2⟩; refine ⟨_, rfl, ?_⟩; have n0_ := Aside0.mk (blk_below (g := gb122) (o := .cells #[.int .u64 0, .int .u64 0, .slice none 0 0, .int .i64 0, .string (⟨#[]⟩ : ByteArray)] 26 (0, 0)) (by (with_reducible repeat (first | refine blk_drewN ?_ _ | refine blk_drew ?_ | refine blk_alloc ?_ _)); exact BK122.out) hb2); have n1_ := Aside0.mk (hb); have n2_ := Aside0.mk (hi); have n3_ := Aside0.mk (IsS52.ne_blk hi (blk_below (g := gb122) (o := .cells #[.int .u64 0, .int .u64 0, .slice none 0 0, .int .i64 0, .string (⟨#[]⟩ : ByteArray)] 26 (0, 0)) (by (with_reducible repeat (first | refine blk_drewN ?_ _ | refine blk_drew ?_ | refine blk_alloc ?_ _)); exact BK122.out) hb2) (by decide)); have n4_ := Aside0.mk (Ne.symm (IsS52.ne_blk hi (blk_below (g := gb122) (o := .cells #[.int .u64 0, .int .u64 0, .slice none 0 0, .int .i64 0, .string (⟨#[]⟩ : ByteArray)] 26 (0, 0)) (by (with_reducible repeat (first | refine blk_drewN ?_ _ | refine blk_drew ?_ | refine blk_alloc ?_ _)); exact BK122.out) hb2) (by decide))); clear BK122; clear HB; have BK122 := n0_; have HB := n1_; have HI126 := n2_; have NB126_122 := n3_; have NB122_126 := n4_; clear n0_ n1_ n2_ n3_ n4_; (try clear hb); (try clear hb2); (try clear hk); (try clear hi)) | ((with_reducible refine gate_callee (f := 19) rfl ?_); refine goesL_ (some 10) rfl rfl Tryd.func19 (by kernel_rfl) rfl #[.pointer (some ⟨g126, 0, none⟩), .int .i64 6] rfl (by (try simp only [List.map_toArray, List.map_cons, List.map_nil]); first | done | rfl | (simp only [List.length_drop, List.length_take]; rfl)) ?_; (with_reducible refine (field_Reader_Int.calls k g126 t123 t124 t125 6 t127 t128 t129 t130 w _ ?side1 ?side2 A3.out).mono ?_); (case side1 => repeat (first | (with_reducible first | exact HI126.out | apply IsS52.alloc | apply IsS52.drewN | apply IsS52.drew | apply IsS52.set_0 | apply IsS52.set_1 | apply IsS52.set_2 | refine IsS52.far ?_ NB126_122.out _) | exact HI126.out)); (case side2 => repeat (first | (with_reducible first | exact HB.out | apply below_alloc | apply pw_below_drewN | apply below_drew1 | refine below_set ?_ (IsS52.ge HI126.out) | refine below_set ?_ GE122.out) | exact HB.out)); rintro e w8 ⟨rfl, hi, hb, hk⟩; refine ⟨_, rfl, ?_⟩; have n0_ := Aside0.mk (KeepBut.blk hk (g' := gb122) (o := .cells #[.int .u64 0, .int .u64 0, .slice none 0 0, .int .i64 0, .string (⟨#[]⟩ : ByteArray)] 26 (0, 0)) (by (with_reducible repeat (first | refine blk_drewN ?_ _ | refine blk_drew ?_ | refine blk_alloc ?_ _)); exact BK122.out) NB122_126.out (by simp)); have n1_ := Aside0.mk (hb); have n2_ := Aside0.mk (hi); clear BK122; clear HB; clear HI126; have BK122 := n0_; have HB := n1_; have HI126 := n2_; clear n0_ n1_ n2_; (try clear hb); (try clear hb2); (try clear hk); (try clear hi)) | ((with_reducible refine gate_callee (f := 19) rfl ?_); refine goesL_ (some 13) rfl rfl Tryd.func19 (by kernel_rfl) rfl #[.pointer (some ⟨g126, 0, none⟩), .int .i64 6] rfl (by (try simp only [List.map_toArray, List.map_cons, List.map_nil]); first | done | rfl | (simp only [List.length_drop, List.length_take]; rfl)) ?_; (with_reducible refine (field_Reader_Int.calls k g126 t128 t129 t130 6 t131 t132 t133 t134 w _ ?side1 ?side2 A4.out).mono ?_); (case side1 => repeat (first | (with_reducible first | exact HI126.out | apply IsS52.alloc | apply IsS52.drewN | apply IsS52.drew | apply IsS52.set_0 | apply IsS52.set_1 | apply IsS52.set_2 | refine IsS52.far ?_ NB126_122.out _) | exact HI126.out)); (case side2 => repeat (first | (with_reducible first | exact HB.out | apply below_alloc | apply pw_below_drewN | apply below_drew1 | refine below_set ?_ (IsS52.ge HI126.out) | refine below_set ?_ GE122.out) | exact HB.out)); rintro e w9 ⟨rfl, hi, hb, hk⟩; refine ⟨_, rfl, ?_⟩; have n0_ := Aside0.mk (KeepBut.blk hk (g' := gb122) (o := .cells #[.int .u64 0, .int .u64 0, .slice none 0 0, .int .i64 0, .string (⟨#[]⟩ : ByteArray)] 26 (0, 0)) (by (with_reducible repeat (first | refine blk_drewN ?_ _ | refine blk_drew ?_ | refine blk_alloc ?_ _)); exact BK122.out) NB122_126.out (by simp)); have n1_ := Aside0.mk (hb); have n2_ := Aside0.mk (hi); clear BK122; clear HB; clear HI126; have BK122 := n0_; have HB := n1_; have HI126 := n2_; clear n0_ n1_ n2_; (try clear hb); (try clear hb2); (try clear hk); (try clear hi)) | ((with_reducible refine gate_callee (f := 19) rfl ?_); refine goesL_ (some 16) rfl rfl Tryd.func19 (by kernel_rfl) rfl #[.pointer (some ⟨g126, 0, none⟩), .int .i64 2] rfl (by (try simp only [List.map_toArray, List.map_cons, List.map_nil]); first | done | rfl | (simp only [List.length_drop, List.length_take]; rfl)) ?_; (with_reducible refine (field_Reader_Int.calls k g126 t132 t133 t134 2 t135 t136 t137 t138 w _ ?side1 ?side2 A5.out).mono ?_); (case side1 => repeat (first | (with_reducible first | exact HI126.out | apply IsS52.alloc | apply IsS52.drewN | apply IsS52.drew | apply IsS52.set_0 | apply IsS52.set_1 | apply IsS52.set_2 | refine IsS52.far ?_ NB126_122.out _) | exact HI126.out)); (case side2 => repeat (first | (with_reducible first | exact HB.out | apply below_alloc | apply pw_below_drewN | apply below_drew1 | refine below_set ?_ (IsS52.ge HI126.out) | refine below_set ?_ GE122.out) | exact HB.out)); rintro e w10 ⟨rfl, hi, hb, hk⟩; refine ⟨_, rfl, ?_⟩; have n0_ := Aside0.mk (KeepBut.blk hk (g' := gb122) (o := .cells #[.int .u64 0, .int .u64 0, .slice none 0 0, .int .i64 0, .string (⟨#[]⟩ : ByteArray)] 26 (0, 0)) (by (with_reducible repeat (first | refine blk_drewN ?_ _ | refine blk_drew ?_ | refine blk_alloc ?_ _)); exact BK122.out) NB122_126.out (by simp)); have n1_ := Aside0.mk (hb); have n2_ := Aside0.mk (hi); clear BK122; clear HB; clear HI126; have BK122 := n0_; have HB := n1_; have HI126 := n2_; clear n0_ n1_ n2_; (try clear hb); (try clear hb2); (try clear hk); (try clear hi)) | ((with_reducible refine gate_dst (N := 5) rfl ?_); refine box_event ?hg (N := 5) ?hd (cs := #[.int .u64 0, .int .u64 0, .slice none 0 0, .int .i64 0, .string (⟨#[]⟩ : ByteArray)]) (t := 26) ?hr ?_; (case hd => rfl); (case hg => rfl); (case hr => first | (go_simp; done) | (go_simp; rfl)); intro gb139 hg w11 hbox hb; have n0_ := Aside0.mk (blk_below (g := gb122) (o := .cells #[.int .u64 0, .int .u64 0, .slice none 0 0, .int .i64 0, .string (⟨#[]⟩ : ByteArray)] 26 (0, 0)) (by (with_reducible repeat (first | refine blk_drewN ?_ _ | refine blk_drew ?_ | refine blk_alloc ?_ _)); exact BK122.out) hb); have n1_ := Aside0.mk (IsS52.below (by repeat (first | (with_reducible first | exact HI126.out | apply IsS52.alloc | apply IsS52.drewN | apply IsS52.drew | apply IsS52.set_0 | apply IsS52.set_1 | apply IsS52.set_2 | refine IsS52.far ?_ NB126_122.out _) | exact HI126.out)) hb); have n2_ := Aside0.mk (below_step (by repeat (first | (with_reducible first | exact HB.out | apply below_alloc | apply pw_below_drewN | apply below_drew1 | refine below_set ?_ (IsS52.ge HI126.out) | refine below_set ?_ GE122.out) | exact HB.out)) hb); have n3_ := Aside0.mk (hbox); have n4_ := Aside0.mk ((by rw [hg]; exact (below_size (by repeat (first | (with_reducible first | exact HB.out | apply below_alloc | apply pw_below_drewN | apply below_drew1 | refine below_set ?_ (IsS52.ge HI126.out) | refine below_set ?_ GE122.out) | exact HB.out))) : w.heap.size ≤ gb139)); have n5_ := Aside0.mk ((by rw [hg]; exact (below_size (by repeat (first | (with_reducible first | exact HB.out | apply below_alloc | apply pw_below_drewN | apply below_drew1 | refine below_set ?_ (IsS52.ge HI126.out) | refine below_set ?_ GE122.out) | exact HB.out))) : w.heap.size ≤ gb139)); have n6_ := Aside0.mk ((by rw [hg]; exact Nat.ne_of_lt (blk_lt (g := gb122) (o := .cells #[.int .u64 0, .int .u64 0, .slice none 0 0, .int .i64 0, .string (⟨#[]⟩ : ByteArray)] 26 (0, 0)) (by (with_reducible repeat (first | refine blk_drewN ?_ _ | refine blk_drew ?_ | refine blk_alloc ?_ _)); exact BK122.out)) : gb122 ≠ gb139)); have n7_ := Aside0.mk ((by rw [hg]; exact Nat.ne_of_gt (blk_lt (g := gb122) (o := .cells #[.int .u64 0, .int .u64 0, .slice none 0 0, .int .i64 0, .string (⟨#[]⟩ : ByteArray)] 26 (0, 0)) (by (with_reducible repeat (first | refine blk_drewN ?_ _ | refine blk_drew ?_ | refine blk_alloc ?_ _)); exact BK122.out)) : gb139 ≠ gb122)); have n8_ := Aside0.mk ((by rw [hg]; exact Nat.ne_of_lt (IsS52.lt (show IsS52 w _ g126 t136 t137 t138 from by repeat (first | (with_reducible first | exact HI126.out | apply IsS52.alloc | apply IsS52.drewN | apply IsS52.drew | apply IsS52.set_0 | apply IsS52.set_1 | apply IsS52.set_2 | refine IsS52.far ?_ NB126_122.out _) | exact HI126.out))) : g126 ≠ gb139)); have n9_ := Aside0.mk ((by rw [hg]; exact Nat.ne_of_gt (IsS52.lt (show IsS52 w _ g126 t136 t137 t138 from by repeat (first | (with_reducible first | exact HI126.out | apply IsS52.alloc | apply IsS52.drewN | apply IsS52.drew | apply IsS52.set_0 | apply IsS52.set_1 | apply IsS52.set_2 | refine IsS52.far ?_ NB126_122.out _) | exact HI126.out))) : gb139 ≠ g126)); clear BK122; clear HI126; clear HB; have BK122 := n0_; have HI126 := n1_; have HB := n2_; have BK139 := n3_; have GW139 := n4_; have GE139 := n5_; have NB122_139 := n6_; have NB139_122 := n7_; have NB126_139 := n8_; have NB139_126 := n9_; clear n0_ n1_ n2_ n3_ n4_ n5_ n6_ n7_ n8_ n9_; clear hb hbox hg; have hnb12 := NB139_122.out; have hnc12 := NB122_139.out; have hnb13 := NB139_126.out; have hnc13 := NB126_139.out; have hcz14_0 : w11.cell? ⟨gb139, 0, none⟩ = some (.int .u64 0) := (blk_cell BK139.out 0).trans rfl; have hcz14_1 : w11.cell? ⟨gb139, 1, none⟩ = some (.int .u64 0) := (blk_cell BK139.out 1).trans rfl; have hcz14_2 : w11.cell? ⟨gb139, 2, none⟩ = some (.slice none 0 0) := (blk_cell BK139.out 2).trans rfl; have hcz14_3 : w11.cell? ⟨gb139, 3, none⟩ = some (.int .i64 0) := (blk_cell BK139.out 3).trans rfl; have hcz14_4 : w11.cell? ⟨gb139, 4, none⟩ = some (.string (⟨#[]⟩ : ByteArray)) := (blk_cell BK139.out 4).trans rfl; have hfz14_0 := blk_frozen BK139.out 0; have hfz14_1 := blk_frozen BK139.out 1; have hfz14_2 := blk_frozen BK139.out 2; have hfz14_3 := blk_frozen BK139.out 3; have hfz14_4 := blk_frozen BK139.out 4))
  go_loopg [] k (fun kq w' => ∃ (x123000_1 : Int) (x123001_1 : Int) (x123003_1 : Int) (x123004_1 : ByteArray) (x127000_1 : ByteArray) (x127001_1 : Int) (x127002_1 : Int) (x140002_1 : List Int) (x140003_1 : Int) (u140002 : Value), Aside0 (ethernet_Decode.l0 kq x127000_1 x127001_1 x127002_1 (IntKind.u64.wrap (t127)) (IntKind.u64.wrap (t131)) x140002_1 x140003_1 (⟨#[]⟩ : ByteArray) = some (r1, r2, r3, r4, r5, r6)) ∧ Aside0 (kq ≤ k) ∧ Aside0 (Kd.R (Kd.int .i64) 3 w' w.heap.size (fun _ => True) u140002 x140002_1) ∧ Aside0 (w'.heap[gb122]? = some (.cells #[.int .u64 x123000_1, .int .u64 x123001_1, (.slice none 0 0), .int .i64 x123003_1, .string x123004_1] 26 (0, 0))) ∧ Aside0 (w'.heap[gb139]? = some (.cells #[.int .u64 (IntKind.u64.wrap (t127)), .int .u64 (IntKind.u64.wrap (t131)), u140002, .int .i64 x140003_1, .string (⟨#[]⟩ : ByteArray)] 26 (0, 0))) ∧ Aside0 (IsS52 w w' g126 x127000_1 x127001_1 x127002_1) ∧ Aside0 (Below w.heap.size w w'))
  case atStart => exact ⟨(0), (0), (0), ((⟨#[]⟩ : ByteArray)), (t136), (t137), (t138), (([] : List Int)), (t135), (.slice none 0 0), H', ⟨Nat.le_refl _⟩, ⟨by first | exact Kd.R_nil _ _ _ _ _ | exact Kd.N_nil _ _ _ _ _ | exact Kd.V_nil _ _ _ _ _ | exact Kd.Q_nil _ _ _ _ _ | exact Kd.S_nil _ _ _ _ _⟩, ⟨by (with_reducible repeat (first | refine blk_drewN ?_ _ | refine blk_drew ?_ | refine blk_alloc ?_ _)); refine blk_far ?_ NB122_139.out _; (with_reducible repeat (first | refine blk_drewN ?_ _ | refine blk_drew ?_ | refine blk_alloc ?_ _)); refine blk_far ?_ NB122_139.out _; (with_reducible repeat (first | refine blk_drewN ?_ _ | refine blk_drew ?_ | refine blk_alloc ?_ _)); refine blk_far ?_ NB122_139.out _; (with_reducible repeat (first | refine blk_drewN ?_ _ | refine blk_drew ?_ | refine blk_alloc ?_ _)); refine blk_far ?_ NB122_139.out _; (with_reducible repeat (first | refine blk_drewN ?_ _ | refine blk_drew ?_ | refine blk_alloc ?_ _)); refine blk_far ?_ NB122_139.out _; (with_reducible repeat (first | refine blk_drewN ?_ _ | refine blk_drew ?_ | refine blk_alloc ?_ _)); exact BK122.out⟩, ⟨by (with_reducible repeat (first | refine blk_drewN ?_ _ | refine blk_drew ?_ | refine blk_alloc ?_ _)); refine blk_put (cs := #[.int .u64 (IntKind.u64.wrap (t127)), .int .u64 (IntKind.u64.wrap (t131)), .slice none 0 0, .int .i64 t135, .string (⟨#[]⟩ : ByteArray)]) ?_ 4 _ rfl; (with_reducible repeat (first | refine blk_drewN ?_ _ | refine blk_drew ?_ | refine blk_alloc ?_ _)); refine blk_put (cs := #[.int .u64 (IntKind.u64.wrap (t127)), .int .u64 (IntKind.u64.wrap (t131)), .slice none 0 0, .int .i64 0, .string (⟨#[]⟩ : ByteArray)]) ?_ 3 _ rfl; (with_reducible repeat (first | refine blk_drewN ?_ _ | refine blk_drew ?_ | refine blk_alloc ?_ _)); refine blk_put (cs := #[.int .u64 (IntKind.u64.wrap (t127)), .int .u64 (IntKind.u64.wrap (t131)), .slice none 0 0, .int .i64 0, .string (⟨#[]⟩ : ByteArray)]) ?_ 2 _ rfl; (with_reducible repeat (first | refine blk_drewN ?_ _ | refine blk_drew ?_ | refine blk_alloc ?_ _)); refine blk_put (cs := #[.int .u64 (IntKind.u64.wrap (t127)), .int .u64 0, .slice none 0 0, .int .i64 0, .string (⟨#[]⟩ : ByteArray)]) ?_ 1 _ rfl; (with_reducible repeat (first | refine blk_drewN ?_ _ | refine blk_drew ?_ | refine blk_alloc ?_ _)); refine blk_put (cs := #[.int .u64 0, .int .u64 0, .slice none 0 0, .int .i64 0, .string (⟨#[]⟩ : ByteArray)]) ?_ 0 _ rfl; (with_reducible repeat (first | refine blk_drewN ?_ _ | refine blk_drew ?_ | refine blk_alloc ?_ _)); exact BK139.out⟩, ⟨by repeat (first | (with_reducible first | exact HI126.out | apply IsS52.alloc | apply IsS52.drewN | apply IsS52.drew | apply IsS52.set_0 | apply IsS52.set_1 | apply IsS52.set_2 | refine IsS52.far ?_ NB126_122.out _ | refine IsS52.far ?_ NB126_139.out _) | exact HI126.out)⟩, ⟨by repeat (first | (with_reducible first | exact HB.out | apply below_alloc | apply pw_below_drewN | apply below_drew1 | refine below_set ?_ (IsS52.ge HI126.out) | refine below_set ?_ GE122.out | refine below_set ?_ GE139.out) | exact HB.out)⟩⟩
  case round =>
    clear H'
    try clear c1
    try clear p2
    try clear c9
    try clear c12
    try clear c13
    try clear hcz14_0
    try clear hcz14_1
    try clear hcz14_2
    try clear hcz14_3
    try clear hcz14_4
    try clear hfz14_0
    try clear hfz14_1
    try clear hfz14_2
    try clear hfz14_3
    try clear hfz14_4
    obtain ⟨x123000_1, x123001_1, x123003_1, x123004_1, x127000_1, x127001_1, x127002_1, x140002_1, x140003_1, u140002, HA, HK1, HO_140002, BK122, BK139, HI126, HB⟩ := hrel
    cases gk with
    | zero => exact absurd HA.out (by simp [ethernet_Decode.l0])
    | succ k1 =>
      have H := HA.out
      clear HA
      simp only [ethernet_Decode.l0] at H
      have HC15 := Aside0.mk H
      clear H
      go_upto_region 3 with (fail)
      go_cut [25] (fun v25 wc => ∃ (kq : Nat) (x25_14 : Bool) (x127000_14 : ByteArray) (x127001_14 : Int) (x127002_14 : Int), v25 = .bool x25_14 ∧ Aside0 (ethernet_Decode.j1 kq x25_14 x127000_14 x127001_14 x127002_14 (IntKind.u64.wrap (t127)) (IntKind.u64.wrap (t131)) x140002_1 x140003_1 (⟨#[]⟩ : ByteArray) = some (r1, r2, r3, r4, r5, r6)) ∧ Aside0 (kq ≤ k1) ∧ Aside0 (Kd.R (Kd.int .i64) 3 wc w.heap.size (fun _ => True) u140002 x140002_1) ∧ Aside0 (wc.heap[gb122]? = some (.cells #[.int .u64 x123000_1, .int .u64 x123001_1, (.slice none 0 0), .int .i64 x123003_1, .string x123004_1] 26 (0, 0))) ∧ Aside0 (wc.heap[gb139]? = some (.cells #[.int .u64 (IntKind.u64.wrap (t127)), .int .u64 (IntKind.u64.wrap (t131)), u140002, .int .i64 x140003_1, .string (⟨#[]⟩ : ByteArray)] 26 (0, 0))) ∧ Aside0 (IsS52 w wc g126 x127000_14 x127001_14 x127002_14) ∧ Aside0 (Below w.heap.size w wc))
      case first =>
        have H := HC15.out
        clear HC15
        replace H := Option.bind_eq_some_iff.mp H
        obtain ⟨⟨t140, t141, t142, t143⟩, A160, H⟩ := H
        replace H : (if t140 = 0 then ((ethernet_tagged.f x140003_1).bind fun t144 => (ethernet_Decode.j1 k1 t144 t141 t142 t143 (IntKind.u64.wrap (t127)) (IntKind.u64.wrap (t131)) x140002_1 x140003_1 (⟨#[]⟩ : ByteArray))) else (ethernet_Decode.j1 k1 false t141 t142 t143 (IntKind.u64.wrap (t127)) (IntKind.u64.wrap (t131)) x140002_1 x140003_1 (⟨#[]⟩ : ByteArray))) = some (r1, r2, r3, r4, r5, r6) := H
        have A16 := Aside0.mk A160
        clear A160
        by_cases c17 : t140 = 0
        · rw [if_pos c17] at H
          have c17b0 : (t140 == 0) = true := beq_iff_eq.mpr c17
          have c17b1 : (t140 != 0) = false := bne_eq_false_iff_eq.mpr c17
          clear c17
          (first | rw [c17b0] | (simp only [i64_w, i32_w]; rw [c17b0]) | skip)
          replace H := Option.bind_eq_some_iff.mp H
          obtain ⟨t144, A180, H⟩ := H
          replace H : (ethernet_Decode.j1 k1 t144 t141 t142 t143 (IntKind.u64.wrap (t127)) (IntKind.u64.wrap (t131)) x140002_1 x140003_1 (⟨#[]⟩ : ByteArray)) = some (r1, r2, r3, r4, r5, r6) := H
          have A18 := Aside0.mk A180
          clear A180
          have H' := Aside0.mk H
          clear H
          go_wp2_with (first | ((with_reducible refine gate_callee (f := 20) rfl ?_); refine goesL_ (some 19) rfl rfl Tryd.func20 (by kernel_rfl) rfl #[.pointer (some ⟨g126, 0, none⟩)] rfl (by (try simp only [List.map_toArray, List.map_cons, List.map_nil]); first | done | rfl | (simp only [List.length_drop, List.length_take]; rfl)) ?_; (with_reducible refine (field_Reader_Err.calls g126 x127000_1 x127001_1 x127002_1 t140 t141 t142 t143 w _ ?side1 ?side2 A16.out).mono ?_); (case side1 => repeat (first | (with_reducible first | exact HI126.out | apply IsS52.alloc | apply IsS52.drewN | apply IsS52.drew | apply IsS52.set_0 | apply IsS52.set_1 | apply IsS52.set_2 | refine IsS52.far ?_ NB126_122.out _ | refine IsS52.far ?_ NB126_139.out _) | exact HI126.out)); (case side2 => repeat (first | (with_reducible first | exact HB.out | apply below_alloc | apply pw_below_drewN | apply below_drew1 | refine below_set ?_ (IsS52.ge HI126.out) | refine below_set ?_ GE122.out | refine below_set ?_ GE139.out) | exact HB.out)); rintro e w19 ⟨rfl, hi, hb, hk⟩; refine ⟨_, rfl, ?_⟩; have n0_ := Aside0.mk (Kd.R_mono (Kd.R_keep (IsS52.apart (show IsS52 w _ g126 x127000_1 x127001_1 x127002_1 from by repeat (first | (with_reducible first | exact HI126.out | apply IsS52.alloc | apply IsS52.drewN | apply IsS52.drew | apply IsS52.set_0 | apply IsS52.set_1 | apply IsS52.set_2 | refine IsS52.far ?_ NB126_122.out _ | refine IsS52.far ?_ NB126_139.out _) | exact HI126.out)) (by (with_reducible repeat (first | apply Kd.R_alloc | apply Kd.R_drewN | apply Kd.R_drew)); exact HO_140002.out) (by decide)) hk (fun _ h => h.2)) (fun _ h => h.1)); have n1_ := Aside0.mk (KeepBut.blk hk (g' := gb122) (o := .cells #[.int .u64 x123000_1, .int .u64 x123001_1, .slice none 0 0, .int .i64 x123003_1, .string x123004_1] 26 (0, 0)) (by (with_reducible repeat (first | refine blk_drewN ?_ _ | refine blk_drew ?_ | refine blk_alloc ?_ _)); exact BK122.out) NB122_126.out (by simp)); have n2_ := Aside0.mk (KeepBut.blk hk (g' := gb139) (o := .cells #[.int .u64 (IntKind.u64.wrap (t127)), .int .u64 (IntKind.u64.wrap (t131)), u140002, .int .i64 x140003_1, .string (⟨#[]⟩ : ByteArray)] 26 (0, 0)) (by (with_reducible repeat (first | refine blk_drewN ?_ _ | refine blk_drew ?_ | refine blk_alloc ?_ _)); exact BK139.out) NB139_126.out (by simp)); have n3_ := Aside0.mk (hb); have n4_ := Aside0.mk (hi); clear HO_140002; clear BK122; clear BK139; clear HB; clear HI126; have HO_140002 := n0_; have BK122 := n1_; have BK139 := n2_; have HB := n3_; have HI126 := n4_; clear n0_ n1_ n2_ n3_ n4_; (try clear hb); (try clear hb2); (try clear hk); (try clear hi); have hnb20 := NB139_122.out; have hnc20 := NB122_139.out; have hnb21 := NB139_126.out; have hnc21 := NB126_139.out; have hcz22_0 : w19.cell? ⟨gb139, 0, none⟩ = some (.int .u64 (IntKind.u64.wrap (t127))) := (blk_cell BK139.out 0).trans rfl; have hcz22_1 : w19.cell? ⟨gb139, 1, none⟩ = some (.int .u64 (IntKind.u64.wrap (t131))) := (blk_cell BK139.out 1).trans rfl; have hcz22_2 : w19.cell? ⟨gb139, 2, none⟩ = some (u140002) := (blk_cell BK139.out 2).trans rfl; have hcz22_3 : w19.cell? ⟨gb139, 3, none⟩ = some (.int .i64 x140003_1) := (blk_cell BK139.out 3).trans rfl; have hcz22_4 : w19.cell? ⟨gb139, 4, none⟩ = some (.string (⟨#[]⟩ : ByteArray)) := (blk_cell BK139.out 4).trans rfl; have hfz22_0 := blk_frozen BK139.out 0; have hfz22_1 := blk_frozen BK139.out 1; have hfz22_2 := blk_frozen BK139.out 2; have hfz22_3 := blk_frozen BK139.out 3; have hfz22_4 := blk_frozen BK139.out 4) | (go_at_call 21; (with_reducible refine (ethernet_tagged.calls x140003_1 t144 _ ?side1 A18.out).mono ?_); (case side1 => exact laid_below HLD.out (by repeat (first | (with_reducible first | exact HB.out | apply below_alloc | apply pw_below_drewN | apply below_drew1 | refine below_set ?_ (IsS52.ge HI126.out) | refine below_set ?_ GE122.out | refine below_set ?_ GE139.out) | exact HB.out))); rintro e w' ⟨rfl, ⟨nd, rfl⟩⟩))
          go_meet
          case rel => exact ⟨_, (t144), (t141), (t142), (t143), (by first | rfl | (simp; done) | (simp [*]; done)), H', ⟨by have := HK1.out; first | omega | exact Nat.le_refl _⟩, ⟨by (with_reducible repeat (first | apply Kd.R_alloc | apply Kd.R_drewN | apply Kd.R_drew)); exact HO_140002.out⟩, ⟨by (with_reducible repeat (first | refine blk_drewN ?_ _ | refine blk_drew ?_ | refine blk_alloc ?_ _)); exact BK122.out⟩, ⟨by (with_reducible repeat (first | refine blk_drewN ?_ _ | refine blk_drew ?_ | refine blk_alloc ?_ _)); exact BK139.out⟩, ⟨by repeat (first | (with_reducible first | exact HI126.out | apply IsS52.alloc | apply IsS52.drewN | apply IsS52.drew | apply IsS52.set_0 | apply IsS52.set_1 | apply IsS52.set_2 | refine IsS52.far ?_ NB126_122.out _ | refine IsS52.far ?_ NB126_139.out _) | exact HI126.out)⟩, ⟨by repeat (first | (with_reducible first | exact HB.out | apply below_alloc | apply pw_below_drewN | apply below_drew1 | refine below_set ?_ (IsS52.ge HI126.out) | refine below_set ?_ GE122.out | refine below_set ?_ GE139.out) | exact HB.out)⟩⟩
        · rw [if_neg c17] at H
          have c17b0 : (t140 == 0) = false := beq_eq_false_iff_ne.mpr c17
          have c17b1 : (t140 != 0) = true := bne_iff_ne.mpr c17
          (first | rw [c17b0] | (simp only [i64_w, i32_w]; rw [c17b0]) | skip)
          have H' := Aside0.mk H
          clear H
          go_wp2_with (first | ((with_reducible refine gate_callee (f := 20) rfl ?_); refine goesL_ (some 19) rfl rfl Tryd.func20 (by kernel_rfl) rfl #[.pointer (some ⟨g126, 0, none⟩)] rfl (by (try simp only [List.map_toArray, List.map_cons, List.map_nil]); first | done | rfl | (simp only [List.length_drop, List.length_take]; rfl)) ?_; (with_reducible refine (field_Reader_Err.calls g126 x127000_1 x127001_1 x127002_1 t140 t141 t142 t143 w _ ?side1 ?side2 A16.out).mono ?_); (case side1 => repeat (first | (with_reducible first | exact HI126.out | apply IsS52.alloc | apply IsS52.drewN | apply IsS52.drew | apply IsS52.set_0 | apply IsS52.set_1 | apply IsS52.set_2 | refine IsS52.far ?_ NB126_122.out _ | refine IsS52.far ?_ NB126_139.out _) | exact HI126.out)); (case side2 => repeat (first | (with_reducible first | exact HB.out | apply below_alloc | apply pw_below_drewN | apply below_drew1 | refine below_set ?_ (IsS52.ge HI126.out) | refine below_set ?_ GE122.out | refine below_set ?_ GE139.out) | exact HB.out)); rintro e w23 ⟨rfl, hi, hb, hk⟩; refine ⟨_, rfl, ?_⟩; have n0_ := Aside0.mk (Kd.R_mono (Kd.R_keep (IsS52.apart (show IsS52 w _ g126 x127000_1 x127001_1 x127002_1 from by repeat (first | (with_reducible first | exact HI126.out | apply IsS52.alloc | apply IsS52.drewN | apply IsS52.drew | apply IsS52.set_0 | apply IsS52.set_1 | apply IsS52.set_2 | refine IsS52.far ?_ NB126_122.out _ | refine IsS52.far ?_ NB126_139.out _) | exact HI126.out)) (by (with_reducible repeat (first | apply Kd.R_alloc | apply Kd.R_drewN | apply Kd.R_drew)); exact HO_140002.out) (by decide)) hk (fun _ h => h.2)) (fun _ h => h.1)); have n1_ := Aside0.mk (KeepBut.blk hk (g' := gb122) (o := .cells #[.int .u64 x123000_1, .int .u64 x123001_1, .slice none 0 0, .int .i64 x123003_1, .string x123004_1] 26 (0, 0)) (by (with_reducible repeat (first | refine blk_drewN ?_ _ | refine blk_drew ?_ | refine blk_alloc ?_ _)); exact BK122.out) NB122_126.out (by simp)); have n2_ := Aside0.mk (KeepBut.blk hk (g' := gb139) (o := .cells #[.int .u64 (IntKind.u64.wrap (t127)), .int .u64 (IntKind.u64.wrap (t131)), u140002, .int .i64 x140003_1, .string (⟨#[]⟩ : ByteArray)] 26 (0, 0)) (by (with_reducible repeat (first | refine blk_drewN ?_ _ | refine blk_drew ?_ | refine blk_alloc ?_ _)); exact BK139.out) NB139_126.out (by simp)); have n3_ := Aside0.mk (hb); have n4_ := Aside0.mk (hi); clear HO_140002; clear BK122; clear BK139; clear HB; clear HI126; have HO_140002 := n0_; have BK122 := n1_; have BK139 := n2_; have HB := n3_; have HI126 := n4_; clear n0_ n1_ n2_ n3_ n4_; (try clear hb); (try clear hb2); (try clear hk); (try clear hi)))
          go_meet
          case rel => exact ⟨_, (false), (t141), (t142), (t143), (by first | rfl | (simp; done) | (simp [*]; done)), H', ⟨by have := HK1.out; first | omega | exact Nat.le_refl _⟩, ⟨by (with_reducible repeat (first | apply Kd.R_alloc | apply Kd.R_drewN | apply Kd.R_drew)); exact HO_140002.out⟩, ⟨by (with_reducible repeat (first | refine blk_drewN ?_ _ | refine blk_drew ?_ | refine blk_alloc ?_ _)); exact BK122.out⟩, ⟨by (with_reducible repeat (first | refine blk_drewN ?_ _ | refine blk_drew ?_ | refine blk_alloc ?_ _)); exact BK139.out⟩, ⟨by repeat (first | (with_reducible first | exact HI126.out | apply IsS52.alloc | apply IsS52.drewN | apply IsS52.drew | apply IsS52.set_0 | apply IsS52.set_1 | apply IsS52.set_2 | refine IsS52.far ?_ NB126_122.out _ | refine IsS52.far ?_ NB126_139.out _) | exact HI126.out)⟩, ⟨by repeat (first | (with_reducible first | exact HB.out | apply below_alloc | apply pw_below_drewN | apply below_drew1 | refine below_set ?_ (IsS52.ge HI126.out) | refine below_set ?_ GE122.out | refine below_set ?_ GE139.out) | exact HB.out)⟩⟩
      case rest =>
        clear HC15
        try clear c1
        try clear c2
        try clear p2
        try clear c9
        try clear c12
        try clear c13
        try clear c17
        try clear c17b0
        try clear c17b1
        try clear c18
        try clear c19
        try clear c20
        try clear c21
        try clear hcz14_0
        try clear hcz14_1
        try clear hcz14_2
        try clear hcz14_3
        try clear hcz14_4
        try clear hcz22_0
        try clear hcz22_1
        try clear hcz22_2
        try clear hcz22_3
        try clear hcz22_4
        try clear hfz14_0
        try clear hfz14_1
        try clear hfz14_2
        try clear hfz14_3
        try clear hfz14_4
        try clear hfz22_0
        try clear hfz22_1
        try clear hfz22_2
        try clear hfz22_3
        try clear hfz22_4
        try clear p2
        obtain ⟨kq, x25_14, x127000_14, x127001_14, x127002_14, rfl, HA, HJ14, HO_140002, BK122, BK139, HI126, HB⟩ := hcut
        cases kq with
        | zero => exact absurd HA.out (by simp [ethernet_Decode.j1])
        | succ kj14 =>
          have H := HA.out
          clear HA
          simp only [ethernet_Decode.j1] at H
          by_cases c24 : x25_14 = true
          · subst c24
            have H1 : (if (x140002_1.length : Int) = 2 then (some (0, 0, ([] : List Int), 0, (⟨#[]⟩ : ByteArray), 9)) else ((field_Reader_Int.f kj14 x127000_14 x127001_14 x127002_14 2).bind fun bt145 => (if x140002_1.length < 17592186044416 then ((field_Reader_Int.f kj14 bt145.2.1 bt145.2.2.1 bt145.2.2.2 2).bind fun bt152 => (ethernet_Decode.l0 kj14 bt152.2.1 bt152.2.2.1 bt152.2.2.2 (IntKind.u64.wrap (t127)) (IntKind.u64.wrap (t131)) (x140002_1 ++ [Go.bits .and .i64 bt145.1 4095]) bt152.1 (⟨#[]⟩ : ByteArray))) else (none)))) = some (r1, r2, r3, r4, r5, r6) := by rw [if_pos rfl] at H; exact H
            clear H
            have H := H1
            clear H1
            by_cases c25 : (x140002_1.length : Int) = 2
            · rw [if_pos c25] at H
              have c25b0 : ((x140002_1.length : Int) == 2) = true := beq_iff_eq.mpr c25
              have c25b1 : ((x140002_1.length : Int) != 2) = false := bne_eq_false_iff_eq.mpr c25
              clear c25
              simp only [Option.some.injEq, Prod.mk.injEq] at H
              obtain ⟨rfl, rfl, rfl, rfl, rfl, rfl⟩ := H
              have hnb26 := NB139_122.out
              have hnc26 := NB122_139.out
              have hnb27 := NB139_126.out
              have hnc27 := NB126_139.out
              have hcz28_0 : wc.cell? ⟨gb139, 0, none⟩ = some (.int .u64 (IntKind.u64.wrap (t127))) := (blk_cell BK139.out 0).trans rfl
              have hcz28_1 : wc.cell? ⟨gb139, 1, none⟩ = some (.int .u64 (IntKind.u64.wrap (t131))) := (blk_cell BK139.out 1).trans rfl
              have hcz28_2 : wc.cell? ⟨gb139, 2, none⟩ = some (u140002) := (blk_cell BK139.out 2).trans rfl
              have hcz28_3 : wc.cell? ⟨gb139, 3, none⟩ = some (.int .i64 x140003_1) := (blk_cell BK139.out 3).trans rfl
              have hcz28_4 : wc.cell? ⟨gb139, 4, none⟩ = some (.string (⟨#[]⟩ : ByteArray)) := (blk_cell BK139.out 4).trans rfl
              have hfz28_0 := blk_frozen BK139.out 0
              have hfz28_1 := blk_frozen BK139.out 1
              have hfz28_2 := blk_frozen BK139.out 2
              have hfz28_3 := blk_frozen BK139.out 3
              have hfz28_4 := blk_frozen BK139.out 4
              obtain ⟨Ao29, co29, eo29⟩ := Kd.R_slice HO_140002.out
              subst eo29
              have hnb30 := NB122_126.out
              have hnc30 := NB126_122.out
              have hcz31_0 : wc.cell? ⟨gb122, 0, none⟩ = some (.int .u64 x123000_1) := (blk_cell BK122.out 0).trans rfl
              have hcz31_1 : wc.cell? ⟨gb122, 1, none⟩ = some (.int .u64 x123001_1) := (blk_cell BK122.out 1).trans rfl
              have hcz31_2 : wc.cell? ⟨gb122, 2, none⟩ = some (.slice none 0 0) := (blk_cell BK122.out 2).trans rfl
              have hcz31_3 : wc.cell? ⟨gb122, 3, none⟩ = some (.int .i64 x123003_1) := (blk_cell BK122.out 3).trans rfl
              have hcz31_4 : wc.cell? ⟨gb122, 4, none⟩ = some (.string x123004_1) := (blk_cell BK122.out 4).trans rfl
              have hfz31_0 := blk_frozen BK122.out 0
              have hfz31_1 := blk_frozen BK122.out 1
              have hfz31_2 := blk_frozen BK122.out 2
              have hfz31_3 := blk_frozen BK122.out 3
              have hfz31_4 := blk_frozen BK122.out 4
              go_wp2
              refine bodyPost_ret (results_ct rfl _ _ gb122 26 #[.int .u64 0, .int .u64 0, .slice none 0 0, .int .i64 0, .string (⟨#[]⟩ : ByteArray)] (0, 0) _ rfl (by (with_reducible repeat (first | refine blk_drewN ?_ _ | refine blk_drew ?_ | refine blk_alloc ?_ _)); refine blk_put (cs := #[.int .u64 0, .int .u64 0, .slice none 0 0, .int .i64 0, .string x123004_1]) ?_ 4 _ rfl; (with_reducible repeat (first | refine blk_drewN ?_ _ | refine blk_drew ?_ | refine blk_alloc ?_ _)); refine blk_put (cs := #[.int .u64 0, .int .u64 0, .slice none 0 0, .int .i64 x123003_1, .string x123004_1]) ?_ 3 _ rfl; (with_reducible repeat (first | refine blk_drewN ?_ _ | refine blk_drew ?_ | refine blk_alloc ?_ _)); refine blk_put (cs := #[.int .u64 0, .int .u64 0, .slice none 0 0, .int .i64 x123003_1, .string x123004_1]) ?_ 2 _ rfl; (with_reducible repeat (first | refine blk_drewN ?_ _ | refine blk_drew ?_ | refine blk_alloc ?_ _)); refine blk_put (cs := #[.int .u64 0, .int .u64 x123001_1, .slice none 0 0, .int .i64 x123003_1, .string x123004_1]) ?_ 1 _ rfl; (with_reducible repeat (first | refine blk_drewN ?_ _ | refine blk_drew ?_ | refine blk_alloc ?_ _)); refine blk_put (cs := #[.int .u64 x123000_1, .int .u64 x123001_1, .slice none 0 0, .int .i64 x123003_1, .string x123004_1]) ?_ 0 _ rfl; (with_reducible repeat (first | refine blk_drewN ?_ _ | refine blk_drew ?_ | refine blk_alloc ?_ _)); exact BK122.out) Tryd.underlying26 rfl (by kernel_rfl)) rfl ?_
              exact ⟨_, by first | rfl | (simp [errW_none, errW_some] <;> rfl) | (simp [*, errW_none, errW_some] <;> rfl), by first | exact Kd.R_nil _ _ _ _ _ | exact Kd.N_nil _ _ _ _ _ | exact Kd.V_nil _ _ _ _ _ | exact Kd.Q_nil _ _ _ _ _ | exact Kd.S_nil _ _ _ _ _, by repeat (first | (with_reducible first | exact HB.out | apply below_alloc | apply pw_below_drewN | apply below_drew1 | refine below_set ?_ (IsS52.ge HI126.out) | refine below_set ?_ GE122.out | refine below_set ?_ GE139.out) | exact HB.out)⟩
            · rw [if_neg c25] at H
              have c25b0 : ((x140002_1.length : Int) == 2) = false := beq_eq_false_iff_ne.mpr c25
              have c25b1 : ((x140002_1.length : Int) != 2) = true := bne_iff_ne.mpr c25
              replace H := Option.bind_eq_some_iff.mp H
              obtain ⟨⟨t145, t146, t147, t148⟩, A320, H⟩ := H
              replace H : (if x140002_1.length < 17592186044416 then ((field_Reader_Int.f kj14 t146 t147 t148 2).bind fun bt152 => (ethernet_Decode.l0 kj14 bt152.2.1 bt152.2.2.1 bt152.2.2.2 (IntKind.u64.wrap (t127)) (IntKind.u64.wrap (t131)) (x140002_1 ++ [Go.bits .and .i64 t145 4095]) bt152.1 (⟨#[]⟩ : ByteArray))) else (none)) = some (r1, r2, r3, r4, r5, r6) := H
              have A32 := Aside0.mk A320
              clear A320
              by_cases c33 : x140002_1.length < 17592186044416
              · rw [if_pos c33] at H
                have LMc33 := Aside0.mk c33
                clear c33
                obtain ⟨y149, hy149⟩ : ∃ y_ : List Int, y_ = (x140002_1 ++ [Go.bits .and .i64 t145 4095]) := ⟨_, rfl⟩
                replace H : ((field_Reader_Int.f kj14 t146 t147 t148 2).bind fun bt152 => (ethernet_Decode.l0 kj14 bt152.2.1 bt152.2.2.1 bt152.2.2.2 (IntKind.u64.wrap (t127)) (IntKind.u64.wrap (t131)) y149 bt152.1 (⟨#[]⟩ : ByteArray))) = some (r1, r2, r3, r4, r5, r6) := by first | (rw [hy149]; with_reducible exact H) | (have H2_ := (Option.bind_some _ _).symm.trans H; rw [hy149]; with_reducible exact H2_) | (have H2_ := (Option.bind_some _ _).symm.trans H; with_reducible exact H2_) | with_reducible exact H | (rw [hy149]; exact H) | exact H
                have Ny149 := Aside0.mk hy149
                clear hy149
                replace H := Option.bind_eq_some_iff.mp H
                obtain ⟨⟨t152, t153, t154, t155⟩, A340, H⟩ := H
                replace H : (ethernet_Decode.l0 kj14 t153 t154 t155 (IntKind.u64.wrap (t127)) (IntKind.u64.wrap (t131)) y149 t152 (⟨#[]⟩ : ByteArray)) = some (r1, r2, r3, r4, r5, r6) := H
                have A34 := Aside0.mk A340
                clear A340
                have H' := Aside0.mk H
                clear H
                have hnb35 := NB139_122.out
                have hnc35 := NB122_139.out
                have hnb36 := NB139_126.out
                have hnc36 := NB126_139.out
                have hcz37_0 : wc.cell? ⟨gb139, 0, none⟩ = some (.int .u64 (IntKind.u64.wrap (t127))) := (blk_cell BK139.out 0).trans rfl
                have hcz37_1 : wc.cell? ⟨gb139, 1, none⟩ = some (.int .u64 (IntKind.u64.wrap (t131))) := (blk_cell BK139.out 1).trans rfl
                have hcz37_2 : wc.cell? ⟨gb139, 2, none⟩ = some (u140002) := (blk_cell BK139.out 2).trans rfl
                have hcz37_3 : wc.cell? ⟨gb139, 3, none⟩ = some (.int .i64 x140003_1) := (blk_cell BK139.out 3).trans rfl
                have hcz37_4 : wc.cell? ⟨gb139, 4, none⟩ = some (.string (⟨#[]⟩ : ByteArray)) := (blk_cell BK139.out 4).trans rfl
                have hfz37_0 := blk_frozen BK139.out 0
                have hfz37_1 := blk_frozen BK139.out 1
                have hfz37_2 := blk_frozen BK139.out 2
                have hfz37_3 := blk_frozen BK139.out 3
                have hfz37_4 := blk_frozen BK139.out 4
                obtain ⟨Ao38, co38, eo38⟩ := Kd.R_slice HO_140002.out
                subst eo38
                try go_wp2
                have n0_ := Aside0.mk (Kd.R_drew HO_140002.out)
                have n1_ := Aside0.mk (blk_drew BK122.out)
                have n2_ := Aside0.mk (blk_drew BK139.out)
                have n3_ := Aside0.mk (IsS52.drew HI126.out)
                have n4_ := Aside0.mk (below_drew1 HB.out)
                clear HO_140002
                clear BK122
                clear BK139
                clear HI126
                clear HB
                have HO_140002 := n0_
                have BK122 := n1_
                have BK139 := n2_
                have HI126 := n3_
                have HB := n4_
                clear n0_ n1_ n2_ n3_ n4_
                refine start_ (n := 9) (S := fun w' => w'.cell? ⟨gb139, 0, none⟩ = some (.int .u64 (IntKind.u64.wrap (t127))) ∧ w'.cell? ⟨gb139, 1, none⟩ = some (.int .u64 (IntKind.u64.wrap (t131))) ∧ w'.cell? ⟨gb139, 2, none⟩ = some (.slice Ao38 x140002_1.length co38) ∧ w'.cell? ⟨gb139, 3, none⟩ = some (.int .i64 x140003_1) ∧ w'.cell? ⟨gb139, 4, none⟩ = some (.string (⟨#[]⟩ : ByteArray))) (ds := [8]) #[false, false, false, false, false, false, false, false, false] (by kernel_rfl) rfl rfl ⟨(blk_cell BK139.out 0).trans rfl, (blk_cell BK139.out 1).trans rfl, (blk_cell BK139.out 2).trans rfl, (blk_cell BK139.out 3).trans rfl, (blk_cell BK139.out 4).trans rfl⟩ (fun hHeld => ?_); refine with_tabW ethernet_Decode.tab6 ethernet_Decode.bits6 (fun HT_ HW_ => ?_)
                generalize wc.drew = w39 at HO_140002 BK122 BK139 HI126 HB hHeld ⊢
                refine pure_ (i := 0) (N := some 31) (v := ?_) (a' := ?_) #[true, false, false, false, false, false, false, false, false] rfl rfl (any_of HT_.out (by kernel_rfl)) (fun _ _ _ h => h) (Or.inl ⟨by rfl, ?_⟩) ?_ ?_
                rotate_left
                · intro w'
                  go_simp
                  with_reducible rfl
                rotate_left
                · simp only [Act.put, List.setIfInBounds_toArray, List.set_cons_zero, List.set_cons_succ, i64_w, i32_w]
                  rfl
                refine pure_ (i := 2) (N := some 33) (v := ?_) (a' := ?_) #[true, false, true, false, false, false, false, false, false] rfl rfl (any_of HT_.out (by kernel_rfl)) (fun _ _ _ h => h) (Or.inl ⟨by rfl, ?_⟩) ?_ ?_
                rotate_left
                · intro w'
                  go_simp
                  with_reducible rfl
                rotate_left
                · simp only [Act.put, List.setIfInBounds_toArray, List.set_cons_zero, List.set_cons_succ, i64_w, i32_w]
                  rfl
                refine take_ (i := 1) (N := some 32) (v := ?_) (a' := ?_) #[true, true, true, false, false, false, false, false, false] rfl rfl (take_ofW HT_.out HW_.out (by kernel_rfl)) (fun _ _ _ h => h) (Or.inl ⟨by rfl, ?_⟩) hHeld ?_ ?_
                rotate_left
                · rintro w' ⟨s0, s1, s2, s3, s4⟩
                  go_simp
                  with_reducible rfl
                rotate_left
                · simp only [Act.put, List.setIfInBounds_toArray, List.set_cons_zero, List.set_cons_succ, i64_w, i32_w]
                  rfl
                refine one_ (i := 3) (N := some 34) #[true, true, true, true, false, false, false, false, false] rfl rfl (one_of HT_.out (by kernel_rfl)) (by decide) (fun K hK => ?_)
                refine goes_ Tryd.func19 (by kernel_rfl) rfl #[.pointer (some ⟨g126, 0, none⟩), .int .i64 2] (by rfl) rfl rfl (by (try simp only [List.map_toArray, List.map_cons, List.map_nil]); first | done | rfl | (simp only [List.length_drop, List.length_take]; rfl)) ?_
                with_reducible refine (field_Reader_Int.calls kj14 g126 x127000_14 x127001_14 x127002_14 2 t145 t146 t147 t148 w _ ?side1 ?side2 A32.out).mono ?_
                (case side1 => repeat (first | (with_reducible first | exact HI126.out | apply IsS52.alloc | apply IsS52.drewN | apply IsS52.drew | apply IsS52.set_0 | apply IsS52.set_1 | apply IsS52.set_2 | refine IsS52.far ?_ NB126_122.out _ | refine IsS52.far ?_ NB126_139.out _) | exact HI126.out))
                (case side2 => repeat (first | (with_reducible first | exact HB.out | apply below_alloc | apply pw_below_drewN | apply below_drew1 | refine below_set ?_ (IsS52.ge HI126.out) | refine below_set ?_ GE122.out | refine below_set ?_ GE139.out) | exact HB.out))
                rintro e w40 ⟨rfl, hi, hb, hk⟩
                refine ⟨_, rfl, ?_⟩
                have n0_ := Aside0.mk (Kd.R_mono (Kd.R_keep (IsS52.apart (show IsS52 w _ g126 x127000_14 x127001_14 x127002_14 from by repeat (first | (with_reducible first | exact HI126.out | apply IsS52.alloc | apply IsS52.drewN | apply IsS52.drew | apply IsS52.set_0 | apply IsS52.set_1 | apply IsS52.set_2 | refine IsS52.far ?_ NB126_122.out _ | refine IsS52.far ?_ NB126_139.out _) | exact HI126.out)) (by (with_reducible repeat (first | apply Kd.R_alloc | apply Kd.R_drewN | apply Kd.R_drew)); exact HO_140002.out) (by decide)) hk (fun _ h => h.2)) (fun _ h => h.1))
                have n1_ := Aside0.mk (KeepBut.blk hk (g' := gb122) (o := .cells #[.int .u64 x123000_1, .int .u64 x123001_1, .slice none 0 0, .int .i64 x123003_1, .string x123004_1] 26 (0, 0)) (by (with_reducible repeat (first | refine blk_drewN ?_ _ | refine blk_drew ?_ | refine blk_alloc ?_ _)); exact BK122.out) NB122_126.out (by simp))
                have n2_ := Aside0.mk (KeepBut.blk hk (g' := gb139) (o := .cells #[.int .u64 (IntKind.u64.wrap (t127)), .int .u64 (IntKind.u64.wrap (t131)), .slice Ao38 x140002_1.length co38, .int .i64 x140003_1, .string (⟨#[]⟩ : ByteArray)] 26 (0, 0)) (by (with_reducible repeat (first | refine blk_drewN ?_ _ | refine blk_drew ?_ | refine blk_alloc ?_ _)); exact BK139.out) NB139_126.out (by simp))
                have n3_ := Aside0.mk (hb)
                have n4_ := Aside0.mk (hi)
                clear HO_140002
                clear BK122
                clear BK139
                clear HB
                clear HI126
                have HO_140002 := n0_
                have BK122 := n1_
                have BK139 := n2_
                have HB := n3_
                have HI126 := n4_
                clear n0_ n1_ n2_ n3_ n4_
                (try clear hb)
                (try clear hb2)
                (try clear hk)
                (try clear hi)
                refine hK.out _ _ ⟨(blk_cell BK139.out 0).trans rfl, (blk_cell BK139.out 1).trans rfl, (blk_cell BK139.out 2).trans rfl, (blk_cell BK139.out 3).trans rfl, (blk_cell BK139.out 4).trans rfl⟩ (fun hHeld => ?_)
                clear hK K
                refine norm_ (a' := ?_) ?_ ?_
                rotate_left
                · show Act.put _ (some 34) _ = _
                  simp only [Act.put, List.setIfInBounds_toArray, List.set_cons_zero, List.set_cons_succ, i64_w, i32_w]
                  rfl
                refine pure_ (i := 4) (N := some 35) (v := ?_) (a' := ?_) #[true, true, true, true, true, false, false, false, false] rfl rfl (any_of HT_.out (by kernel_rfl)) (fun _ _ _ h => h) (Or.inl ⟨by rfl, ?_⟩) ?_ ?_
                rotate_left
                · intro w'
                  go_simp
                  with_reducible rfl
                rotate_left
                · simp only [Act.put, List.setIfInBounds_toArray, List.set_cons_zero, List.set_cons_succ, i64_w, i32_w]
                  rfl
                refine one_ (i := 5) (N := some 36) #[true, true, true, true, true, true, false, false, false] rfl rfl (one_of HT_.out (by kernel_rfl)) (by decide) (fun K hK => ?_)
                refine value_ (w1 := ?_) (v := ?_) (by rfl) rfl ?_ ?_
                rotate_left 2
                · go_simp
                  constructor
                  · rfl
                  · rfl
                refine hK.out _ _ ⟨(blk_cell (blk_alloc BK139.out _) 0).trans rfl, (blk_cell (blk_alloc BK139.out _) 1).trans rfl, (blk_cell (blk_alloc BK139.out _) 2).trans rfl, (blk_cell (blk_alloc BK139.out _) 3).trans rfl, (blk_cell (blk_alloc BK139.out _) 4).trans rfl⟩ (fun hHeld => ?_)
                clear hK K
                refine norm_ (a' := ?_) ?_ ?_
                rotate_left
                · show Act.put _ (some 36) _ = _
                  simp only [Act.put, List.setIfInBounds_toArray, List.set_cons_zero, List.set_cons_succ, i64_w, i32_w]
                  rfl
                refine one_ (i := 6) (N := some 37) #[true, true, true, true, true, true, true, false, false] rfl rfl (one_of HT_.out (by kernel_rfl)) (by decide) (fun K hK => ?_)
                refine Kd.R_append_step (Kd.int .i64) (w0 := w) w.heap.size (by rfl) (.tmp 32) (.tmp 36) 24 3 (.int .i64 0) 8 rfl Tryd.underlying24 info3 rfl (by decide) (by omega) (.slice Ao38 x140002_1.length co38) x140002_1 (Go.bits .and .i64 t145 4095) [.int .i64 (Go.bits .and .i64 t145 4095)] (fun _ => True) (fun _ => False) rfl rfl ?aP (fun _ hk => hk.elim) ?aF ?aO ?aB ?aS ?aL ?_
                (case aP => exact rfl)
                (case aB => exact (by repeat (first | (with_reducible first | exact HB.out | apply below_alloc | apply pw_below_drewN | apply below_drew1 | refine below_set ?_ (IsS52.ge HI126.out) | refine below_set ?_ GE122.out | refine below_set ?_ GE139.out) | exact HB.out)))
                (case aF => exact (fun _ _ => trivial))
                (case aO => exact (by (with_reducible repeat (first | apply Kd.R_alloc | apply Kd.R_drewN | apply Kd.R_drew)); exact HO_140002.out))
                (case aS => exact (below_size (by repeat (first | (with_reducible first | exact HB.out | apply below_alloc | apply pw_below_drewN | apply below_drew1 | refine below_set ?_ (IsS52.ge HI126.out) | refine below_set ?_ GE122.out | refine below_set ?_ GE139.out) | exact HB.out))))
                (case aL => have := LMc33.out; omega)
                intro v150 w41 ho hb hg hat
                rw [← Ny149.out] at ho
                have n0_ := Aside0.mk (blk_grown (g := gb122) (o := .cells #[.int .u64 x123000_1, .int .u64 x123001_1, .slice none 0 0, .int .i64 x123003_1, .string x123004_1] 26 (0, 0)) (by (with_reducible repeat (first | refine blk_drewN ?_ _ | refine blk_drew ?_ | refine blk_alloc ?_ _)); exact BK122.out) hg (Kd.R_ne HO_140002.out BK122.out (by decide)))
                have n1_ := Aside0.mk (blk_grown (g := gb139) (o := .cells #[.int .u64 (IntKind.u64.wrap (t127)), .int .u64 (IntKind.u64.wrap (t131)), .slice Ao38 x140002_1.length co38, .int .i64 x140003_1, .string (⟨#[]⟩ : ByteArray)] 26 (0, 0)) (by (with_reducible repeat (first | refine blk_drewN ?_ _ | refine blk_drew ?_ | refine blk_alloc ?_ _)); exact BK139.out) hg (Kd.R_ne HO_140002.out BK139.out (by decide)))
                have n2_ := Aside0.mk (IsS52.grown (by repeat (first | (with_reducible first | exact HI126.out | apply IsS52.alloc | apply IsS52.drewN | apply IsS52.drew | apply IsS52.set_0 | apply IsS52.set_1 | apply IsS52.set_2 | refine IsS52.far ?_ NB126_122.out _ | refine IsS52.far ?_ NB126_139.out _) | exact HI126.out)) hg (IsS52.own_ne HI126.out HO_140002.out (by decide)))
                have n3_ := Aside0.mk (hb)
                have n4_ := Aside0.mk (ho)
                clear BK122
                clear BK139
                clear HI126
                clear HB
                clear HO_140002
                have BK122 := n0_
                have BK139 := n1_
                have HI126 := n2_
                have HB := n3_
                have HO151 := n4_
                clear n0_ n1_ n2_ n3_ n4_
                clear ho hb hg hat
                obtain ⟨Ao42, co42, eo42⟩ := Kd.R_slice HO151.out
                (first | subst eo42 | (injection eo42 with f1_ f2_ f3_; have f4_ := f1_.symm; have f5_ := f3_.symm; clear f1_ f2_ f3_; subst f4_; subst f5_))
                refine hK.out _ _ ⟨(blk_cell BK139.out 0).trans rfl, (blk_cell BK139.out 1).trans rfl, (blk_cell BK139.out 2).trans rfl, (blk_cell BK139.out 3).trans rfl, (blk_cell BK139.out 4).trans rfl⟩ (fun hHeld => ?_)
                clear hK K
                refine norm_ (a' := ?_) ?_ ?_
                rotate_left
                · show Act.put _ (some 37) _ = _
                  simp only [Act.put, List.setIfInBounds_toArray, List.set_cons_zero, List.set_cons_succ, i64_w, i32_w]
                  rfl
                refine pure_ (i := 7) (N := some 38) (v := ?_) (a' := ?_) #[true, true, true, true, true, true, true, true, false] rfl rfl (any_of HT_.out (by kernel_rfl)) (fun _ _ _ h => h) (Or.inl ⟨by rfl, ?_⟩) ?_ ?_
                rotate_left
                · intro w'
                  go_simp
                  with_reducible rfl
                rotate_left
                · simp only [Act.put, List.setIfInBounds_toArray, List.set_cons_zero, List.set_cons_succ, i64_w, i32_w]
                  rfl
                refine last_ (i := 8) (N := none) #[true, true, true, true, true, true, true, true, true] rfl rfl (one_of HT_.out (by kernel_rfl)) (by decide) (fun K hK => ?_)
                have hs43 : w41.cell? ⟨gb139, 2, none⟩ = some (.slice Ao38 x140002_1.length co38) := (blk_cell BK139.out 2).trans rfl
                have hfs43 := blk_frozen BK139.out 2
                have hns43_0 := NB122_139.out
                have hms43_0 := NB139_122.out
                refine skip_ (w1 := ?_) (by rfl) rfl ?_ ?_
                rotate_left
                · go_simp
                  rfl
                refine hK.out _ _ ?_
                clear hK K
                refine done_ (done_of HT_.out (by kernel_rfl)) ?_
                try go_wp2_with (first | ((with_reducible refine gate_callee (f := 19) rfl ?_); refine goesL_ (some 40) rfl rfl Tryd.func19 (by kernel_rfl) rfl #[.pointer (some ⟨g126, 0, none⟩), .int .i64 2] rfl (by (try simp only [List.map_toArray, List.map_cons, List.map_nil]); first | done | rfl | (simp only [List.length_drop, List.length_take]; rfl)) ?_; (with_reducible refine (field_Reader_Int.calls kj14 g126 t146 t147 t148 2 t152 t153 t154 t155 w _ ?side1 ?side2 A34.out).mono ?_); (case side1 => repeat (first | (with_reducible first | exact HI126.out | apply IsS52.alloc | apply IsS52.drewN | apply IsS52.drew | apply IsS52.set_0 | apply IsS52.set_1 | apply IsS52.set_2 | refine IsS52.far ?_ NB126_122.out _ | refine IsS52.far ?_ NB126_139.out _) | exact HI126.out)); (case side2 => repeat (first | (with_reducible first | exact HB.out | apply below_alloc | apply pw_below_drewN | apply below_drew1 | refine below_set ?_ (IsS52.ge HI126.out) | refine below_set ?_ GE122.out | refine below_set ?_ GE139.out) | exact HB.out)); rintro e w44 ⟨rfl, hi, hb, hk⟩; refine ⟨_, rfl, ?_⟩; have n0_ := Aside0.mk (KeepBut.blk hk (g' := gb122) (o := .cells #[.int .u64 x123000_1, .int .u64 x123001_1, .slice none 0 0, .int .i64 x123003_1, .string x123004_1] 26 (0, 0)) (by (with_reducible repeat (first | refine blk_drewN ?_ _ | refine blk_drew ?_ | refine blk_alloc ?_ _)); refine blk_far ?_ NB122_139.out _; (with_reducible repeat (first | refine blk_drewN ?_ _ | refine blk_drew ?_ | refine blk_alloc ?_ _)); exact BK122.out) NB122_126.out (by simp)); have n1_ := Aside0.mk (KeepBut.blk hk (g' := gb139) (o := .cells #[.int .u64 (IntKind.u64.wrap (t127)), .int .u64 (IntKind.u64.wrap (t131)), .slice Ao42 y149.length co42, .int .i64 x140003_1, .string (⟨#[]⟩ : ByteArray)] 26 (0, 0)) (by (with_reducible repeat (first | refine blk_drewN ?_ _ | refine blk_drew ?_ | refine blk_alloc ?_ _)); refine blk_put (cs := #[.int .u64 (IntKind.u64.wrap (t127)), .int .u64 (IntKind.u64.wrap (t131)), .slice Ao38 x140002_1.length co38, .int .i64 x140003_1, .string (⟨#[]⟩ : ByteArray)]) ?_ 2 _ rfl; (with_reducible repeat (first | refine blk_drewN ?_ _ | refine blk_drew ?_ | refine blk_alloc ?_ _)); exact BK139.out) NB139_126.out (by simp)); have n2_ := Aside0.mk (Kd.R_mono (Kd.R_keep (IsS52.apart (show IsS52 w _ g126 t146 t147 t148 from by repeat (first | (with_reducible first | exact HI126.out | apply IsS52.alloc | apply IsS52.drewN | apply IsS52.drew | apply IsS52.set_0 | apply IsS52.set_1 | apply IsS52.set_2 | refine IsS52.far ?_ NB126_122.out _ | refine IsS52.far ?_ NB126_139.out _) | exact HI126.out)) (by (with_reducible repeat (first | apply Kd.R_alloc | apply Kd.R_drewN | apply Kd.R_drew)); exact (Kd.R_mono (Kd.R_far (p := ⟨gb139, 2, none⟩) (Kd.R_types HO151.out BK139.out (by decide)) (fun _ hk => hk.2) (.slice Ao42 y149.length co42)) (fun _ h_ => h_.1))) (by decide)) hk (fun _ h => h.2)) (fun _ h => h.1)); have n3_ := Aside0.mk (hb); have n4_ := Aside0.mk (hi); clear BK122; clear BK139; clear HO151; clear HB; clear HI126; have BK122 := n0_; have BK139 := n1_; have HO151 := n2_; have HB := n3_; have HI126 := n4_; clear n0_ n1_ n2_ n3_ n4_; (try clear hb); (try clear hb2); (try clear hk); (try clear hi); have hcz45_0 : w44.cell? ⟨gb139, 0, none⟩ = some (.int .u64 (IntKind.u64.wrap (t127))) := (blk_cell BK139.out 0).trans rfl; have hcz45_1 : w44.cell? ⟨gb139, 1, none⟩ = some (.int .u64 (IntKind.u64.wrap (t131))) := (blk_cell BK139.out 1).trans rfl; have hcz45_2 : w44.cell? ⟨gb139, 2, none⟩ = some (.slice Ao42 y149.length co42) := (blk_cell BK139.out 2).trans rfl; have hcz45_3 : w44.cell? ⟨gb139, 3, none⟩ = some (.int .i64 x140003_1) := (blk_cell BK139.out 3).trans rfl; have hcz45_4 : w44.cell? ⟨gb139, 4, none⟩ = some (.string (⟨#[]⟩ : ByteArray)) := (blk_cell BK139.out 4).trans rfl; have hfz45_0 := blk_frozen BK139.out 0; have hfz45_1 := blk_frozen BK139.out 1; have hfz45_2 := blk_frozen BK139.out 2; have hfz45_3 := blk_frozen BK139.out 3; have hfz45_4 := blk_frozen BK139.out 4))
                go_roundg kj14
                case measure => have := HK1.out; have := HJ14.out; omega
                case rel => exact ⟨(x123000_1), (x123001_1), (x123003_1), (x123004_1), (t153), (t154), (t155), (y149), (t152), (.slice Ao42 y149.length co42), H', ⟨by have := HK1.out; have := HJ14.out; omega⟩, ⟨by (with_reducible repeat (first | apply Kd.R_alloc | apply Kd.R_drewN | apply Kd.R_drew)); exact Kd.R_mono (Kd.R_far (p := ⟨gb139, 3, none⟩) (Kd.R_types HO151.out BK139.out (by decide)) (fun _ hk => hk.2) (.int .i64 t152)) (fun _ hk => trivial)⟩, ⟨by (with_reducible repeat (first | refine blk_drewN ?_ _ | refine blk_drew ?_ | refine blk_alloc ?_ _)); refine blk_far ?_ NB122_139.out _; (with_reducible repeat (first | refine blk_drewN ?_ _ | refine blk_drew ?_ | refine blk_alloc ?_ _)); exact BK122.out⟩, ⟨by (with_reducible repeat (first | refine blk_drewN ?_ _ | refine blk_drew ?_ | refine blk_alloc ?_ _)); refine blk_put (cs := #[.int .u64 (IntKind.u64.wrap (t127)), .int .u64 (IntKind.u64.wrap (t131)), .slice Ao42 y149.length co42, .int .i64 x140003_1, .string (⟨#[]⟩ : ByteArray)]) ?_ 3 _ rfl; (with_reducible repeat (first | refine blk_drewN ?_ _ | refine blk_drew ?_ | refine blk_alloc ?_ _)); exact BK139.out⟩, ⟨by repeat (first | (with_reducible first | exact HI126.out | apply IsS52.alloc | apply IsS52.drewN | apply IsS52.drew | apply IsS52.set_0 | apply IsS52.set_1 | apply IsS52.set_2 | refine IsS52.far ?_ NB126_122.out _ | refine IsS52.far ?_ NB126_139.out _) | exact HI126.out)⟩, ⟨by repeat (first | (with_reducible first | exact HB.out | apply below_alloc | apply pw_below_drewN | apply below_drew1 | refine below_set ?_ (IsS52.ge HI126.out) | refine below_set ?_ GE122.out | refine below_set ?_ GE139.out) | exact HB.out)⟩⟩
              · rw [if_neg c33] at H
                exact absurd H (by simp)
          · replace c24 := Bool.eq_false_iff.mpr c24
            subst c24
            have H1 : ((field_Reader_Err.f x127000_14 x127001_14 x127002_14).bind fun bt156 => (if bt156.1 = 0 then (if x140003_1 < 1536 then (some (0, 0, ([] : List Int), 0, (⟨#[]⟩ : ByteArray), 2)) else ((field_Reader_Rest.f bt156.2.1 bt156.2.2.1 bt156.2.2.2).bind fun bt160 => (some ((IntKind.u64.wrap (t127)), (IntKind.u64.wrap (t131)), x140002_1, x140003_1, bt160.1, 0)))) else (some (0, 0, ([] : List Int), 0, (⟨#[]⟩ : ByteArray), bt156.1)))) = some (r1, r2, r3, r4, r5, r6) := by rw [if_neg (show ¬ (false = true) by decide)] at H; exact H
            clear H
            have H := H1
            clear H1
            replace H := Option.bind_eq_some_iff.mp H
            obtain ⟨⟨t156, t157, t158, t159⟩, A460, H⟩ := H
            replace H : (if t156 = 0 then (if x140003_1 < 1536 then (some (0, 0, ([] : List Int), 0, (⟨#[]⟩ : ByteArray), 2)) else ((field_Reader_Rest.f t157 t158 t159).bind fun bt160 => (some ((IntKind.u64.wrap (t127)), (IntKind.u64.wrap (t131)), x140002_1, x140003_1, bt160.1, 0)))) else (some (0, 0, ([] : List Int), 0, (⟨#[]⟩ : ByteArray), t156))) = some (r1, r2, r3, r4, r5, r6) := H
            have A46 := Aside0.mk A460
            clear A460
            by_cases c47 : t156 = 0
            · rw [if_pos c47] at H
              have c47b0 : (t156 == 0) = true := beq_iff_eq.mpr c47
              have c47b1 : (t156 != 0) = false := bne_eq_false_iff_eq.mpr c47
              clear c47
              by_cases c48 : x140003_1 < 1536
              · rw [if_pos c48] at H
                have c48b0 : decide (x140003_1 < 1536) = true := decide_eq_true c48
                clear c48
                simp only [Option.some.injEq, Prod.mk.injEq] at H
                obtain ⟨rfl, rfl, rfl, rfl, rfl, rfl⟩ := H
                go_wp2_with (first | ((with_reducible refine gate_callee (f := 20) rfl ?_); refine goesL_ (some 43) rfl rfl Tryd.func20 (by kernel_rfl) rfl #[.pointer (some ⟨g126, 0, none⟩)] rfl (by (try simp only [List.map_toArray, List.map_cons, List.map_nil]); first | done | rfl | (simp only [List.length_drop, List.length_take]; rfl)) ?_; (with_reducible refine (field_Reader_Err.calls g126 x127000_14 x127001_14 x127002_14 t156 t157 t158 t159 w _ ?side1 ?side2 A46.out).mono ?_); (case side1 => repeat (first | (with_reducible first | exact HI126.out | apply IsS52.alloc | apply IsS52.drewN | apply IsS52.drew | apply IsS52.set_0 | apply IsS52.set_1 | apply IsS52.set_2 | refine IsS52.far ?_ NB126_122.out _ | refine IsS52.far ?_ NB126_139.out _) | exact HI126.out)); (case side2 => repeat (first | (with_reducible first | exact HB.out | apply below_alloc | apply pw_below_drewN | apply below_drew1 | refine below_set ?_ (IsS52.ge HI126.out) | refine below_set ?_ GE122.out | refine below_set ?_ GE139.out) | exact HB.out)); rintro e w49 ⟨rfl, hi, hb, hk⟩; refine ⟨_, rfl, ?_⟩; have n0_ := Aside0.mk (Kd.R_mono (Kd.R_keep (IsS52.apart (show IsS52 w _ g126 x127000_14 x127001_14 x127002_14 from by repeat (first | (with_reducible first | exact HI126.out | apply IsS52.alloc | apply IsS52.drewN | apply IsS52.drew | apply IsS52.set_0 | apply IsS52.set_1 | apply IsS52.set_2 | refine IsS52.far ?_ NB126_122.out _ | refine IsS52.far ?_ NB126_139.out _) | exact HI126.out)) (by (with_reducible repeat (first | apply Kd.R_alloc | apply Kd.R_drewN | apply Kd.R_drew)); exact HO_140002.out) (by decide)) hk (fun _ h => h.2)) (fun _ h => h.1)); have n1_ := Aside0.mk (KeepBut.blk hk (g' := gb122) (o := .cells #[.int .u64 x123000_1, .int .u64 x123001_1, .slice none 0 0, .int .i64 x123003_1, .string x123004_1] 26 (0, 0)) (by (with_reducible repeat (first | refine blk_drewN ?_ _ | refine blk_drew ?_ | refine blk_alloc ?_ _)); exact BK122.out) NB122_126.out (by simp)); have n2_ := Aside0.mk (KeepBut.blk hk (g' := gb139) (o := .cells #[.int .u64 (IntKind.u64.wrap (t127)), .int .u64 (IntKind.u64.wrap (t131)), u140002, .int .i64 x140003_1, .string (⟨#[]⟩ : ByteArray)] 26 (0, 0)) (by (with_reducible repeat (first | refine blk_drewN ?_ _ | refine blk_drew ?_ | refine blk_alloc ?_ _)); exact BK139.out) NB139_126.out (by simp)); have n3_ := Aside0.mk (hb); have n4_ := Aside0.mk (hi); clear HO_140002; clear BK122; clear BK139; clear HB; clear HI126; have HO_140002 := n0_; have BK122 := n1_; have BK139 := n2_; have HB := n3_; have HI126 := n4_; clear n0_ n1_ n2_ n3_ n4_; (try clear hb); (try clear hb2); (try clear hk); (try clear hi); have hnb50 := NB139_122.out; have hnc50 := NB122_139.out; have hnb51 := NB139_126.out; have hnc51 := NB126_139.out; have hcz52_0 : w49.cell? ⟨gb139, 0, none⟩ = some (.int .u64 (IntKind.u64.wrap (t127))) := (blk_cell BK139.out 0).trans rfl; have hcz52_1 : w49.cell? ⟨gb139, 1, none⟩ = some (.int .u64 (IntKind.u64.wrap (t131))) := (blk_cell BK139.out 1).trans rfl; have hcz52_2 : w49.cell? ⟨gb139, 2, none⟩ = some (u140002) := (blk_cell BK139.out 2).trans rfl; have hcz52_3 : w49.cell? ⟨gb139, 3, none⟩ = some (.int .i64 x140003_1) := (blk_cell BK139.out 3).trans rfl; have hcz52_4 : w49.cell? ⟨gb139, 4, none⟩ = some (.string (⟨#[]⟩ : ByteArray)) := (blk_cell BK139.out 4).trans rfl; have hfz52_0 := blk_frozen BK139.out 0; have hfz52_1 := blk_frozen BK139.out 1; have hfz52_2 := blk_frozen BK139.out 2; have hfz52_3 := blk_frozen BK139.out 3; have hfz52_4 := blk_frozen BK139.out 4; have hnb53 := NB122_126.out; have hnc53 := NB126_122.out; have hcz54_0 : w49.cell? ⟨gb122, 0, none⟩ = some (.int .u64 x123000_1) := (blk_cell BK122.out 0).trans rfl; have hcz54_1 : w49.cell? ⟨gb122, 1, none⟩ = some (.int .u64 x123001_1) := (blk_cell BK122.out 1).trans rfl; have hcz54_2 : w49.cell? ⟨gb122, 2, none⟩ = some (.slice none 0 0) := (blk_cell BK122.out 2).trans rfl; have hcz54_3 : w49.cell? ⟨gb122, 3, none⟩ = some (.int .i64 x123003_1) := (blk_cell BK122.out 3).trans rfl; have hcz54_4 : w49.cell? ⟨gb122, 4, none⟩ = some (.string x123004_1) := (blk_cell BK122.out 4).trans rfl; have hfz54_0 := blk_frozen BK122.out 0; have hfz54_1 := blk_frozen BK122.out 1; have hfz54_2 := blk_frozen BK122.out 2; have hfz54_3 := blk_frozen BK122.out 3; have hfz54_4 := blk_frozen BK122.out 4))
                refine bodyPost_ret (results_ct rfl _ _ gb122 26 #[.int .u64 0, .int .u64 0, .slice none 0 0, .int .i64 0, .string (⟨#[]⟩ : ByteArray)] (0, 0) _ rfl (by (with_reducible repeat (first | refine blk_drewN ?_ _ | refine blk_drew ?_ | refine blk_alloc ?_ _)); refine blk_put (cs := #[.int .u64 0, .int .u64 0, .slice none 0 0, .int .i64 0, .string x123004_1]) ?_ 4 _ rfl; (with_reducible repeat (first | refine blk_drewN ?_ _ | refine blk_drew ?_ | refine blk_alloc ?_ _)); refine blk_put (cs := #[.int .u64 0, .int .u64 0, .slice none 0 0, .int .i64 x123003_1, .string x123004_1]) ?_ 3 _ rfl; (with_reducible repeat (first | refine blk_drewN ?_ _ | refine blk_drew ?_ | refine blk_alloc ?_ _)); refine blk_put (cs := #[.int .u64 0, .int .u64 0, .slice none 0 0, .int .i64 x123003_1, .string x123004_1]) ?_ 2 _ rfl; (with_reducible repeat (first | refine blk_drewN ?_ _ | refine blk_drew ?_ | refine blk_alloc ?_ _)); refine blk_put (cs := #[.int .u64 0, .int .u64 x123001_1, .slice none 0 0, .int .i64 x123003_1, .string x123004_1]) ?_ 1 _ rfl; (with_reducible repeat (first | refine blk_drewN ?_ _ | refine blk_drew ?_ | refine blk_alloc ?_ _)); refine blk_put (cs := #[.int .u64 x123000_1, .int .u64 x123001_1, .slice none 0 0, .int .i64 x123003_1, .string x123004_1]) ?_ 0 _ rfl; (with_reducible repeat (first | refine blk_drewN ?_ _ | refine blk_drew ?_ | refine blk_alloc ?_ _)); exact BK122.out) Tryd.underlying26 rfl (by kernel_rfl)) rfl ?_
                exact ⟨_, by first | rfl | (simp [errW_none, errW_some] <;> rfl) | (simp [*, errW_none, errW_some] <;> rfl), by first | exact Kd.R_nil _ _ _ _ _ | exact Kd.N_nil _ _ _ _ _ | exact Kd.V_nil _ _ _ _ _ | exact Kd.Q_nil _ _ _ _ _ | exact Kd.S_nil _ _ _ _ _, by repeat (first | (with_reducible first | exact HB.out | apply below_alloc | apply pw_below_drewN | apply below_drew1 | refine below_set ?_ (IsS52.ge HI126.out) | refine below_set ?_ GE122.out | refine below_set ?_ GE139.out) | exact HB.out)⟩
              · rw [if_neg c48] at H
                have c48b0 : decide (x140003_1 < 1536) = false := decide_eq_false c48
                clear c48
                replace H := Option.bind_eq_some_iff.mp H
                obtain ⟨⟨t160, t161, t162, t163⟩, A550, H⟩ := H
                replace H : (some ((IntKind.u64.wrap (t127)), (IntKind.u64.wrap (t131)), x140002_1, x140003_1, t160, 0)) = some (r1, r2, r3, r4, r5, r6) := H
                have A55 := Aside0.mk A550
                clear A550
                simp only [Option.some.injEq, Prod.mk.injEq] at H
                obtain ⟨rfl, rfl, rfl, rfl, rfl, rfl⟩ := H
                go_wp2_with (first | ((with_reducible refine gate_callee (f := 20) rfl ?_); refine goesL_ (some 43) rfl rfl Tryd.func20 (by kernel_rfl) rfl #[.pointer (some ⟨g126, 0, none⟩)] rfl (by (try simp only [List.map_toArray, List.map_cons, List.map_nil]); first | done | rfl | (simp only [List.length_drop, List.length_take]; rfl)) ?_; (with_reducible refine (field_Reader_Err.calls g126 x127000_14 x127001_14 x127002_14 t156 t157 t158 t159 w _ ?side1 ?side2 A46.out).mono ?_); (case side1 => repeat (first | (with_reducible first | exact HI126.out | apply IsS52.alloc | apply IsS52.drewN | apply IsS52.drew | apply IsS52.set_0 | apply IsS52.set_1 | apply IsS52.set_2 | refine IsS52.far ?_ NB126_122.out _ | refine IsS52.far ?_ NB126_139.out _) | exact HI126.out)); (case side2 => repeat (first | (with_reducible first | exact HB.out | apply below_alloc | apply pw_below_drewN | apply below_drew1 | refine below_set ?_ (IsS52.ge HI126.out) | refine below_set ?_ GE122.out | refine below_set ?_ GE139.out) | exact HB.out)); rintro e w56 ⟨rfl, hi, hb, hk⟩; refine ⟨_, rfl, ?_⟩; have n0_ := Aside0.mk (Kd.R_mono (Kd.R_keep (IsS52.apart (show IsS52 w _ g126 x127000_14 x127001_14 x127002_14 from by repeat (first | (with_reducible first | exact HI126.out | apply IsS52.alloc | apply IsS52.drewN | apply IsS52.drew | apply IsS52.set_0 | apply IsS52.set_1 | apply IsS52.set_2 | refine IsS52.far ?_ NB126_122.out _ | refine IsS52.far ?_ NB126_139.out _) | exact HI126.out)) (by (with_reducible repeat (first | apply Kd.R_alloc | apply Kd.R_drewN | apply Kd.R_drew)); exact HO_140002.out) (by decide)) hk (fun _ h => h.2)) (fun _ h => h.1)); have n1_ := Aside0.mk (KeepBut.blk hk (g' := gb122) (o := .cells #[.int .u64 x123000_1, .int .u64 x123001_1, .slice none 0 0, .int .i64 x123003_1, .string x123004_1] 26 (0, 0)) (by (with_reducible repeat (first | refine blk_drewN ?_ _ | refine blk_drew ?_ | refine blk_alloc ?_ _)); exact BK122.out) NB122_126.out (by simp)); have n2_ := Aside0.mk (KeepBut.blk hk (g' := gb139) (o := .cells #[.int .u64 (IntKind.u64.wrap (t127)), .int .u64 (IntKind.u64.wrap (t131)), u140002, .int .i64 x140003_1, .string (⟨#[]⟩ : ByteArray)] 26 (0, 0)) (by (with_reducible repeat (first | refine blk_drewN ?_ _ | refine blk_drew ?_ | refine blk_alloc ?_ _)); exact BK139.out) NB139_126.out (by simp)); have n3_ := Aside0.mk (hb); have n4_ := Aside0.mk (hi); clear HO_140002; clear BK122; clear BK139; clear HB; clear HI126; have HO_140002 := n0_; have BK122 := n1_; have BK139 := n2_; have HB := n3_; have HI126 := n4_; clear n0_ n1_ n2_ n3_ n4_; (try clear hb); (try clear hb2); (try clear hk); (try clear hi); have hnb57 := NB139_122.out; have hnc57 := NB122_139.out; have hnb58 := NB139_126.out; have hnc58 := NB126_139.out; have hcz59_0 : w56.cell? ⟨gb139, 0, none⟩ = some (.int .u64 (IntKind.u64.wrap (t127))) := (blk_cell BK139.out 0).trans rfl; have hcz59_1 : w56.cell? ⟨gb139, 1, none⟩ = some (.int .u64 (IntKind.u64.wrap (t131))) := (blk_cell BK139.out 1).trans rfl; have hcz59_2 : w56.cell? ⟨gb139, 2, none⟩ = some (u140002) := (blk_cell BK139.out 2).trans rfl; have hcz59_3 : w56.cell? ⟨gb139, 3, none⟩ = some (.int .i64 x140003_1) := (blk_cell BK139.out 3).trans rfl; have hcz59_4 : w56.cell? ⟨gb139, 4, none⟩ = some (.string (⟨#[]⟩ : ByteArray)) := (blk_cell BK139.out 4).trans rfl; have hfz59_0 := blk_frozen BK139.out 0; have hfz59_1 := blk_frozen BK139.out 1; have hfz59_2 := blk_frozen BK139.out 2; have hfz59_3 := blk_frozen BK139.out 3; have hfz59_4 := blk_frozen BK139.out 4) | ((with_reducible refine gate_callee (f := 22) rfl ?_); refine goesL_ (some 53) rfl rfl Tryd.func22 (by kernel_rfl) rfl #[.pointer (some ⟨g126, 0, none⟩)] rfl (by (try simp only [List.map_toArray, List.map_cons, List.map_nil]); first | done | rfl | (simp only [List.length_drop, List.length_take]; rfl)) ?_; (with_reducible refine (field_Reader_Rest.calls g126 t157 t158 t159 t160 t161 t162 t163 w _ ?side1 ?side2 A55.out).mono ?_); (case side1 => repeat (first | (with_reducible first | exact HI126.out | apply IsS52.alloc | apply IsS52.drewN | apply IsS52.drew | apply IsS52.set_0 | apply IsS52.set_1 | apply IsS52.set_2 | refine IsS52.far ?_ NB126_122.out _ | refine IsS52.far ?_ NB126_139.out _) | exact HI126.out)); (case side2 => repeat (first | (with_reducible first | exact HB.out | apply below_alloc | apply pw_below_drewN | apply below_drew1 | refine below_set ?_ (IsS52.ge HI126.out) | refine below_set ?_ GE122.out | refine below_set ?_ GE139.out) | exact HB.out)); rintro e w60 ⟨rfl, hi, hb, hk⟩; refine ⟨_, rfl, ?_⟩; have n0_ := Aside0.mk (Kd.R_mono (Kd.R_keep (IsS52.apart (show IsS52 w _ g126 t157 t158 t159 from by repeat (first | (with_reducible first | exact HI126.out | apply IsS52.alloc | apply IsS52.drewN | apply IsS52.drew | apply IsS52.set_0 | apply IsS52.set_1 | apply IsS52.set_2 | refine IsS52.far ?_ NB126_122.out _ | refine IsS52.far ?_ NB126_139.out _) | exact HI126.out)) (by (with_reducible repeat (first | apply Kd.R_alloc | apply Kd.R_drewN | apply Kd.R_drew)); exact HO_140002.out) (by decide)) hk (fun _ h => h.2)) (fun _ h => h.1)); have n1_ := Aside0.mk (KeepBut.blk hk (g' := gb122) (o := .cells #[.int .u64 x123000_1, .int .u64 x123001_1, .slice none 0 0, .int .i64 x123003_1, .string x123004_1] 26 (0, 0)) (by (with_reducible repeat (first | refine blk_drewN ?_ _ | refine blk_drew ?_ | refine blk_alloc ?_ _)); exact BK122.out) NB122_126.out (by simp)); have n2_ := Aside0.mk (KeepBut.blk hk (g' := gb139) (o := .cells #[.int .u64 (IntKind.u64.wrap (t127)), .int .u64 (IntKind.u64.wrap (t131)), u140002, .int .i64 x140003_1, .string (⟨#[]⟩ : ByteArray)] 26 (0, 0)) (by (with_reducible repeat (first | refine blk_drewN ?_ _ | refine blk_drew ?_ | refine blk_alloc ?_ _)); exact BK139.out) NB139_126.out (by simp)); have n3_ := Aside0.mk (hb); have n4_ := Aside0.mk (hi); clear HO_140002; clear BK122; clear BK139; clear HB; clear HI126; have HO_140002 := n0_; have BK122 := n1_; have BK139 := n2_; have HB := n3_; have HI126 := n4_; clear n0_ n1_ n2_ n3_ n4_; (try clear hb); (try clear hb2); (try clear hk); (try clear hi); have hcz61_0 : w60.cell? ⟨gb139, 0, none⟩ = some (.int .u64 (IntKind.u64.wrap (t127))) := (blk_cell BK139.out 0).trans rfl; have hcz61_1 : w60.cell? ⟨gb139, 1, none⟩ = some (.int .u64 (IntKind.u64.wrap (t131))) := (blk_cell BK139.out 1).trans rfl; have hcz61_2 : w60.cell? ⟨gb139, 2, none⟩ = some (u140002) := (blk_cell BK139.out 2).trans rfl; have hcz61_3 : w60.cell? ⟨gb139, 3, none⟩ = some (.int .i64 x140003_1) := (blk_cell BK139.out 3).trans rfl; have hcz61_4 : w60.cell? ⟨gb139, 4, none⟩ = some (.string (⟨#[]⟩ : ByteArray)) := (blk_cell BK139.out 4).trans rfl; have hfz61_0 := blk_frozen BK139.out 0; have hfz61_1 := blk_frozen BK139.out 1; have hfz61_2 := blk_frozen BK139.out 2; have hfz61_3 := blk_frozen BK139.out 3; have hfz61_4 := blk_frozen BK139.out 4; have hnb62 := NB122_126.out; have hnc62 := NB126_122.out; have hcz63_0 : w60.cell? ⟨gb122, 0, none⟩ = some (.int .u64 x123000_1) := (blk_cell BK122.out 0).trans rfl; have hcz63_1 : w60.cell? ⟨gb122, 1, none⟩ = some (.int .u64 x123001_1) := (blk_cell BK122.out 1).trans rfl; have hcz63_2 : w60.cell? ⟨gb122, 2, none⟩ = some (.slice none 0 0) := (blk_cell BK122.out 2).trans rfl; have hcz63_3 : w60.cell? ⟨gb122, 3, none⟩ = some (.int .i64 x123003_1) := (blk_cell BK122.out 3).trans rfl; have hcz63_4 : w60.cell? ⟨gb122, 4, none⟩ = some (.string x123004_1) := (blk_cell BK122.out 4).trans rfl; have hfz63_0 := blk_frozen BK122.out 0; have hfz63_1 := blk_frozen BK122.out 1; have hfz63_2 := blk_frozen BK122.out 2; have hfz63_3 := blk_frozen BK122.out 3; have hfz63_4 := blk_frozen BK122.out 4; obtain ⟨Ao64, co64, eo64⟩ := Kd.R_slice HO_140002.out; subst eo64))
                refine bodyPost_ret (results_ct rfl _ _ gb122 26 #[.int .u64 (IntKind.u64.wrap (t127)), .int .u64 (IntKind.u64.wrap (t131)), .slice Ao64 x140002_1.length co64, .int .i64 x140003_1, .string t160] (0, 0) _ rfl (by (with_reducible repeat (first | refine blk_drewN ?_ _ | refine blk_drew ?_ | refine blk_alloc ?_ _)); refine blk_put (cs := #[.int .u64 (IntKind.u64.wrap (t127)), .int .u64 (IntKind.u64.wrap (t131)), .slice Ao64 x140002_1.length co64, .int .i64 x140003_1, .string x123004_1]) ?_ 4 _ rfl; (with_reducible repeat (first | refine blk_drewN ?_ _ | refine blk_drew ?_ | refine blk_alloc ?_ _)); refine blk_put (cs := #[.int .u64 (IntKind.u64.wrap (t127)), .int .u64 (IntKind.u64.wrap (t131)), .slice Ao64 x140002_1.length co64, .int .i64 x123003_1, .string x123004_1]) ?_ 3 _ rfl; (with_reducible repeat (first | refine blk_drewN ?_ _ | refine blk_drew ?_ | refine blk_alloc ?_ _)); refine blk_put (cs := #[.int .u64 (IntKind.u64.wrap (t127)), .int .u64 (IntKind.u64.wrap (t131)), .slice none 0 0, .int .i64 x123003_1, .string x123004_1]) ?_ 2 _ rfl; (with_reducible repeat (first | refine blk_drewN ?_ _ | refine blk_drew ?_ | refine blk_alloc ?_ _)); refine blk_put (cs := #[.int .u64 (IntKind.u64.wrap (t127)), .int .u64 x123001_1, .slice none 0 0, .int .i64 x123003_1, .string x123004_1]) ?_ 1 _ rfl; (with_reducible repeat (first | refine blk_drewN ?_ _ | refine blk_drew ?_ | refine blk_alloc ?_ _)); refine blk_put (cs := #[.int .u64 x123000_1, .int .u64 x123001_1, .slice none 0 0, .int .i64 x123003_1, .string x123004_1]) ?_ 0 _ rfl; (with_reducible repeat (first | refine blk_drewN ?_ _ | refine blk_drew ?_ | refine blk_alloc ?_ _)); refine blk_far ?_ NB122_139.out _; (with_reducible repeat (first | refine blk_drewN ?_ _ | refine blk_drew ?_ | refine blk_alloc ?_ _)); exact BK122.out) Tryd.underlying26 rfl (by kernel_rfl)) rfl ?_
                exact ⟨_, by first | rfl | (simp [errW_none, errW_some] <;> rfl) | (simp [*, errW_none, errW_some] <;> rfl), by (with_reducible repeat (first | apply Kd.R_alloc | apply Kd.R_drewN | apply Kd.R_drew)); exact Kd.R_mono (Kd.R_far (p := ⟨gb122, 4, none⟩) (Kd.R_far (p := ⟨gb122, 3, none⟩) (Kd.R_far (p := ⟨gb122, 2, none⟩) (Kd.R_far (p := ⟨gb122, 1, none⟩) (Kd.R_far (p := ⟨gb122, 0, none⟩) (Kd.R_far (p := ⟨gb139, 4, none⟩) (Kd.R_types (Kd.R_types HO_140002.out BK139.out (by decide)) BK122.out (by decide)) (fun _ hk => hk.1.2) (.string t160)) (fun _ hk => hk.2) (.int .u64 (IntKind.u64.wrap (t127)))) (fun _ hk => hk.2) (.int .u64 (IntKind.u64.wrap (t131)))) (fun _ hk => hk.2) (.slice Ao64 x140002_1.length co64)) (fun _ hk => hk.2) (.int .i64 x140003_1)) (fun _ hk => hk.2) (.string t160)) (fun _ hk => trivial), by repeat (first | (with_reducible first | exact HB.out | apply below_alloc | apply pw_below_drewN | apply below_drew1 | refine below_set ?_ (IsS52.ge HI126.out) | refine below_set ?_ GE122.out | refine below_set ?_ GE139.out) | exact HB.out)⟩
            · rw [if_neg c47] at H
              have c47b0 : (t156 == 0) = false := beq_eq_false_iff_ne.mpr c47
              have c47b1 : (t156 != 0) = true := bne_iff_ne.mpr c47
              simp only [Option.some.injEq, Prod.mk.injEq] at H
              obtain ⟨rfl, rfl, rfl, rfl, rfl, rfl⟩ := H
              go_wp2_with (first | ((with_reducible refine gate_callee (f := 20) rfl ?_); refine goesL_ (some 43) rfl rfl Tryd.func20 (by kernel_rfl) rfl #[.pointer (some ⟨g126, 0, none⟩)] rfl (by (try simp only [List.map_toArray, List.map_cons, List.map_nil]); first | done | rfl | (simp only [List.length_drop, List.length_take]; rfl)) ?_; (with_reducible refine (field_Reader_Err.calls g126 x127000_14 x127001_14 x127002_14 t156 t157 t158 t159 w _ ?side1 ?side2 A46.out).mono ?_); (case side1 => repeat (first | (with_reducible first | exact HI126.out | apply IsS52.alloc | apply IsS52.drewN | apply IsS52.drew | apply IsS52.set_0 | apply IsS52.set_1 | apply IsS52.set_2 | refine IsS52.far ?_ NB126_122.out _ | refine IsS52.far ?_ NB126_139.out _) | exact HI126.out)); (case side2 => repeat (first | (with_reducible first | exact HB.out | apply below_alloc | apply pw_below_drewN | apply below_drew1 | refine below_set ?_ (IsS52.ge HI126.out) | refine below_set ?_ GE122.out | refine below_set ?_ GE139.out) | exact HB.out)); rintro e w65 ⟨rfl, hi, hb, hk⟩; refine ⟨_, rfl, ?_⟩; have n0_ := Aside0.mk (Kd.R_mono (Kd.R_keep (IsS52.apart (show IsS52 w _ g126 x127000_14 x127001_14 x127002_14 from by repeat (first | (with_reducible first | exact HI126.out | apply IsS52.alloc | apply IsS52.drewN | apply IsS52.drew | apply IsS52.set_0 | apply IsS52.set_1 | apply IsS52.set_2 | refine IsS52.far ?_ NB126_122.out _ | refine IsS52.far ?_ NB126_139.out _) | exact HI126.out)) (by (with_reducible repeat (first | apply Kd.R_alloc | apply Kd.R_drewN | apply Kd.R_drew)); exact HO_140002.out) (by decide)) hk (fun _ h => h.2)) (fun _ h => h.1)); have n1_ := Aside0.mk (KeepBut.blk hk (g' := gb122) (o := .cells #[.int .u64 x123000_1, .int .u64 x123001_1, .slice none 0 0, .int .i64 x123003_1, .string x123004_1] 26 (0, 0)) (by (with_reducible repeat (first | refine blk_drewN ?_ _ | refine blk_drew ?_ | refine blk_alloc ?_ _)); exact BK122.out) NB122_126.out (by simp)); have n2_ := Aside0.mk (KeepBut.blk hk (g' := gb139) (o := .cells #[.int .u64 (IntKind.u64.wrap (t127)), .int .u64 (IntKind.u64.wrap (t131)), u140002, .int .i64 x140003_1, .string (⟨#[]⟩ : ByteArray)] 26 (0, 0)) (by (with_reducible repeat (first | refine blk_drewN ?_ _ | refine blk_drew ?_ | refine blk_alloc ?_ _)); exact BK139.out) NB139_126.out (by simp)); have n3_ := Aside0.mk (hb); have n4_ := Aside0.mk (hi); clear HO_140002; clear BK122; clear BK139; clear HB; clear HI126; have HO_140002 := n0_; have BK122 := n1_; have BK139 := n2_; have HB := n3_; have HI126 := n4_; clear n0_ n1_ n2_ n3_ n4_; (try clear hb); (try clear hb2); (try clear hk); (try clear hi); have hnb66 := NB122_139.out; have hnc66 := NB139_122.out; have hnb67 := NB122_126.out; have hnc67 := NB126_122.out; have hcz68_0 : w65.cell? ⟨gb122, 0, none⟩ = some (.int .u64 x123000_1) := (blk_cell BK122.out 0).trans rfl; have hcz68_1 : w65.cell? ⟨gb122, 1, none⟩ = some (.int .u64 x123001_1) := (blk_cell BK122.out 1).trans rfl; have hcz68_2 : w65.cell? ⟨gb122, 2, none⟩ = some (.slice none 0 0) := (blk_cell BK122.out 2).trans rfl; have hcz68_3 : w65.cell? ⟨gb122, 3, none⟩ = some (.int .i64 x123003_1) := (blk_cell BK122.out 3).trans rfl; have hcz68_4 : w65.cell? ⟨gb122, 4, none⟩ = some (.string x123004_1) := (blk_cell BK122.out 4).trans rfl; have hfz68_0 := blk_frozen BK122.out 0; have hfz68_1 := blk_frozen BK122.out 1; have hfz68_2 := blk_frozen BK122.out 2; have hfz68_3 := blk_frozen BK122.out 3; have hfz68_4 := blk_frozen BK122.out 4))
              refine bodyPost_ret (results_ct rfl _ _ gb122 26 #[.int .u64 0, .int .u64 0, .slice none 0 0, .int .i64 0, .string (⟨#[]⟩ : ByteArray)] (0, 0) _ rfl (by (with_reducible repeat (first | refine blk_drewN ?_ _ | refine blk_drew ?_ | refine blk_alloc ?_ _)); refine blk_put (cs := #[.int .u64 0, .int .u64 0, .slice none 0 0, .int .i64 0, .string x123004_1]) ?_ 4 _ rfl; (with_reducible repeat (first | refine blk_drewN ?_ _ | refine blk_drew ?_ | refine blk_alloc ?_ _)); refine blk_put (cs := #[.int .u64 0, .int .u64 0, .slice none 0 0, .int .i64 x123003_1, .string x123004_1]) ?_ 3 _ rfl; (with_reducible repeat (first | refine blk_drewN ?_ _ | refine blk_drew ?_ | refine blk_alloc ?_ _)); refine blk_put (cs := #[.int .u64 0, .int .u64 0, .slice none 0 0, .int .i64 x123003_1, .string x123004_1]) ?_ 2 _ rfl; (with_reducible repeat (first | refine blk_drewN ?_ _ | refine blk_drew ?_ | refine blk_alloc ?_ _)); refine blk_put (cs := #[.int .u64 0, .int .u64 x123001_1, .slice none 0 0, .int .i64 x123003_1, .string x123004_1]) ?_ 1 _ rfl; (with_reducible repeat (first | refine blk_drewN ?_ _ | refine blk_drew ?_ | refine blk_alloc ?_ _)); refine blk_put (cs := #[.int .u64 x123000_1, .int .u64 x123001_1, .slice none 0 0, .int .i64 x123003_1, .string x123004_1]) ?_ 0 _ rfl; (with_reducible repeat (first | refine blk_drewN ?_ _ | refine blk_drew ?_ | refine blk_alloc ?_ _)); exact BK122.out) Tryd.underlying26 rfl (by kernel_rfl)) rfl ?_
              exact ⟨_, by first | rfl | (simp [errW_none, errW_some] <;> rfl) | (simp [*, errW_none, errW_some] <;> rfl), by first | exact Kd.R_nil _ _ _ _ _ | exact Kd.N_nil _ _ _ _ _ | exact Kd.V_nil _ _ _ _ _ | exact Kd.Q_nil _ _ _ _ _ | exact Kd.S_nil _ _ _ _ _, by repeat (first | (with_reducible first | exact HB.out | apply below_alloc | apply pw_below_drewN | apply below_drew1 | refine below_set ?_ (IsS52.ge HI126.out) | refine below_set ?_ GE122.out | refine below_set ?_ GE139.out) | exact HB.out)⟩

end Go.Proofs.YtellbiicmiljcaaDoor.X
