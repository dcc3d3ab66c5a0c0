/- Functions and their walks, printed by xprint.py. -/
import Derived.Test.YtobioaommmgehaaX0
import Derived.Test.YtobioaommmgehaaX5
import Derived.Test.YtobioaommmgehaaX7
import Derived.Test.YtobioaommmgehaaX10
import Derived.Test.YtobioaommmgehaaX12
namespace Go.Proofs.Ytobioaommmgehaa.X
open Go.RowKit Go.Proofs.YtobioaommmgehaaW.PrintWords Go.Proofs.YtobioaommmgehaaW.PrintLast Go.Proofs.YtobioaommmgehaaW.PrintMore
attribute [local go_sem] max2_int min2_int max_two min_two max_three min_three max_four min_four   -- for this text's walks alone
set_option linter.unusedVariables false
set_option linter.unusedSimpArgs false

/-! ### intrusionlaw11_Ipv4Accepts: function 7 -/
def intrusionlaw11_Ipv4Accepts.j0 : Nat → ByteArray → Bool → Int → Int → Int → Int → Bool → Bool → Int → Bool → Int → Int → Bool → Int → Int → List (S50) → ByteArray → Option (Bool)
 | 0, _, _, _, _, _, _, _, _, _, _, _, _, _, _, _, _, _ => none
 | k + 1, x5, x48, x591000, x591001, x591002, x591003, x591004, x591005, x591006, x591007, x591008, x591009, x591010, x591011, x591012, x591013, x591014 => if x48 = true then (none) else ((ipv4_Decode.f k x5).bind fun bt595 => (if bt595.2.2.2.2.2.2.2.2.2.2.2.2.2.2.2 = 0 then ((intrusionlaw11_same.f k x591000 x591001 x591002 x591003 x591004 x591005 x591006 x591007 x591008 x591009 x591010 x591011 x591012 x591013 x591014 bt595.1 bt595.2.1 bt595.2.2.1 bt595.2.2.2.1 bt595.2.2.2.2.1 bt595.2.2.2.2.2.1 bt595.2.2.2.2.2.2.1 bt595.2.2.2.2.2.2.2.1 bt595.2.2.2.2.2.2.2.2.1 bt595.2.2.2.2.2.2.2.2.2.1 bt595.2.2.2.2.2.2.2.2.2.2.1 bt595.2.2.2.2.2.2.2.2.2.2.2.1 bt595.2.2.2.2.2.2.2.2.2.2.2.2.1 bt595.2.2.2.2.2.2.2.2.2.2.2.2.2.1 bt595.2.2.2.2.2.2.2.2.2.2.2.2.2.2.1).bind fun t614 => (if t614 = true then (if 0 ≤ (wrap64 ((x5.size : Int) - (x591014.size : Int))) then (if (wrap64 ((x5.size : Int) - (x591014.size : Int))) ≤ (x5.size : Int) then ((checksum_Sum.f k (x5.extract 0 ((wrap64 ((x5.size : Int) - (x591014.size : Int))) : Int).toNat)).bind fun t615 => (if t615 = 0 then ((intrusionlaw11_awake.f k).bind fun t616 => (some t616)) else (none))) else (none)) else (none)) else (none))) else (none)))
def intrusionlaw11_Ipv4Accepts.f (k : Nat) (a0 : ByteArray) : Option (Bool) := if (a0.size : Int) > 70000 then ((intrusionlaw11_awake.f k).bind fun t571 => (some t571)) else ((ipv4_Decode.f k a0).bind fun bt572 => (if bt572.2.2.2.2.2.2.2.2.2.2.2.2.2.2.2 = 0 then ((ipv4_Encode.f k bt572.1 bt572.2.1 bt572.2.2.1 bt572.2.2.2.1 bt572.2.2.2.2.1 bt572.2.2.2.2.2.1 bt572.2.2.2.2.2.2.1 bt572.2.2.2.2.2.2.2.1 bt572.2.2.2.2.2.2.2.2.1 bt572.2.2.2.2.2.2.2.2.2.1 bt572.2.2.2.2.2.2.2.2.2.2.1 bt572.2.2.2.2.2.2.2.2.2.2.2.1 bt572.2.2.2.2.2.2.2.2.2.2.2.2.1 bt572.2.2.2.2.2.2.2.2.2.2.2.2.2.1 bt572.2.2.2.2.2.2.2.2.2.2.2.2.2.2.1).bind fun bt593 => (if bt593.2 = 0 then (if (bt593.1.size : Int) < (wrap64 (20 + (bt572.2.2.2.2.2.2.2.2.2.2.2.2.2.2.1.size : Int))) then (intrusionlaw11_Ipv4Accepts.j0 k bt593.1 true bt572.1 bt572.2.1 bt572.2.2.1 bt572.2.2.2.1 bt572.2.2.2.2.1 bt572.2.2.2.2.2.1 bt572.2.2.2.2.2.2.1 bt572.2.2.2.2.2.2.2.1 bt572.2.2.2.2.2.2.2.2.1 bt572.2.2.2.2.2.2.2.2.2.1 bt572.2.2.2.2.2.2.2.2.2.2.1 bt572.2.2.2.2.2.2.2.2.2.2.2.1 bt572.2.2.2.2.2.2.2.2.2.2.2.2.1 bt572.2.2.2.2.2.2.2.2.2.2.2.2.2.1 bt572.2.2.2.2.2.2.2.2.2.2.2.2.2.2.1) else (intrusionlaw11_Ipv4Accepts.j0 k bt593.1 (decide ((bt593.1.size : Int) > (a0.size : Int))) bt572.1 bt572.2.1 bt572.2.2.1 bt572.2.2.2.1 bt572.2.2.2.2.1 bt572.2.2.2.2.2.1 bt572.2.2.2.2.2.2.1 bt572.2.2.2.2.2.2.2.1 bt572.2.2.2.2.2.2.2.2.1 bt572.2.2.2.2.2.2.2.2.2.1 bt572.2.2.2.2.2.2.2.2.2.2.1 bt572.2.2.2.2.2.2.2.2.2.2.2.1 bt572.2.2.2.2.2.2.2.2.2.2.2.2.1 bt572.2.2.2.2.2.2.2.2.2.2.2.2.2.1 bt572.2.2.2.2.2.2.2.2.2.2.2.2.2.2.1)) else (intrusionlaw11_Ipv4Accepts.j0 k bt593.1 true bt572.1 bt572.2.1 bt572.2.2.1 bt572.2.2.2.1 bt572.2.2.2.2.1 bt572.2.2.2.2.2.1 bt572.2.2.2.2.2.2.1 bt572.2.2.2.2.2.2.2.1 bt572.2.2.2.2.2.2.2.2.1 bt572.2.2.2.2.2.2.2.2.2.1 bt572.2.2.2.2.2.2.2.2.2.2.1 bt572.2.2.2.2.2.2.2.2.2.2.2.1 bt572.2.2.2.2.2.2.2.2.2.2.2.2.1 bt572.2.2.2.2.2.2.2.2.2.2.2.2.2.1 bt572.2.2.2.2.2.2.2.2.2.2.2.2.2.2.1))) else ((intrusionlaw11_same.f k bt572.1 bt572.2.1 bt572.2.2.1 bt572.2.2.2.1 bt572.2.2.2.2.1 bt572.2.2.2.2.2.1 bt572.2.2.2.2.2.2.1 bt572.2.2.2.2.2.2.2.1 bt572.2.2.2.2.2.2.2.2.1 bt572.2.2.2.2.2.2.2.2.2.1 bt572.2.2.2.2.2.2.2.2.2.2.1 bt572.2.2.2.2.2.2.2.2.2.2.2.1 bt572.2.2.2.2.2.2.2.2.2.2.2.2.1 bt572.2.2.2.2.2.2.2.2.2.2.2.2.2.1 bt572.2.2.2.2.2.2.2.2.2.2.2.2.2.2.1 0 0 0 0 false false 0 false 0 0 false 0 0 ([] : List (S50)) (⟨#[]⟩ : ByteArray)).bind fun t591 => (if t591 = true then ((intrusionlaw11_awake.f k).bind fun t592 => (some t592)) else (none)))))
theorem intrusionlaw11_Ipv4Accepts.mono_l : ∀ k, (∀ y0 y1 y2 y3 y4 y5 y6 y7 y8 y9 y10 y11 y12 y13 y14 y15 y16, LeO (intrusionlaw11_Ipv4Accepts.j0 k y0 y1 y2 y3 y4 y5 y6 y7 y8 y9 y10 y11 y12 y13 y14 y15 y16) (intrusionlaw11_Ipv4Accepts.j0 (k + 1) y0 y1 y2 y3 y4 y5 y6 y7 y8 y9 y10 y11 y12 y13 y14 y15 y16))
 | 0 => fun _ _ _ _ _ _ _ _ _ _ _ _ _ _ _ _ _ r h => by simp [intrusionlaw11_Ipv4Accepts.j0] at h
 | k + 1 => by
  have ih0 := intrusionlaw11_Ipv4Accepts.mono_l k
  intro y0 y1 y2 y3 y4 y5 y6 y7 y8 y9 y10 y11 y12 y13 y14 y15 y16
  unfold intrusionlaw11_Ipv4Accepts.j0
  repeat' first | with_reducible first | apply ih0 | apply checksum_Sum.mono | apply intrusionlaw11_awake.mono | apply intrusionlaw11_same.mono | apply ipv4_Decode.mono | apply ipv4_Encode.mono | apply LeO.refl | apply LeO.none | refine LeO.ite ?_ ?_ | refine LeO.bind ?_ (fun _ => ?_)
theorem intrusionlaw11_Ipv4Accepts.mono : ∀ a0 k, LeO (intrusionlaw11_Ipv4Accepts.f k a0) (intrusionlaw11_Ipv4Accepts.f (k + 1) a0) := by
 intro a0 k
 have ih0 := intrusionlaw11_Ipv4Accepts.mono_l k
 unfold intrusionlaw11_Ipv4Accepts.f
 repeat' first | with_reducible first | apply ih0 | apply checksum_Sum.mono | apply intrusionlaw11_awake.mono | apply intrusionlaw11_same.mono | apply ipv4_Decode.mono | apply ipv4_Encode.mono | apply LeO.refl | apply LeO.none | refine LeO.ite ?_ ?_ | refine LeO.bind ?_ (fun _ => ?_)
set_option maxHeartbeats 8000000 in
set_option maxRecDepth 100000 in
theorem intrusionlaw11_Ipv4Accepts.calls (k : Nat) (a0 : ByteArray) (r : Bool) (w : World) (h : intrusionlaw11_Ipv4Accepts.f k a0 = some r) :
  Calls Try.prog 7 #[.string a0] w fun e w' => e = .returned (.bool r) ∧ Below w.heap.size w w' := by
 have hu28 := Try.underlying28
 have HB := As (Below.refl w.heap.size w)
 have H : (if (a0.size : Int) > 70000 then ((intrusionlaw11_awake.f k).bind fun t571 => (some t571)) else ((ipv4_Decode.f k a0).bind fun bt572 => (if bt572.2.2.2.2.2.2.2.2.2.2.2.2.2.2.2 = 0 then ((ipv4_Encode.f k bt572.1 bt572.2.1 bt572.2.2.1 bt572.2.2.2.1 bt572.2.2.2.2.1 bt572.2.2.2.2.2.1 bt572.2.2.2.2.2.2.1 bt572.2.2.2.2.2.2.2.1 bt572.2.2.2.2.2.2.2.2.1 bt572.2.2.2.2.2.2.2.2.2.1 bt572.2.2.2.2.2.2.2.2.2.2.1 bt572.2.2.2.2.2.2.2.2.2.2.2.1 bt572.2.2.2.2.2.2.2.2.2.2.2.2.1 bt572.2.2.2.2.2.2.2.2.2.2.2.2.2.1 bt572.2.2.2.2.2.2.2.2.2.2.2.2.2.2.1).bind fun bt593 => (if bt593.2 = 0 then (if (bt593.1.size : Int) < (wrap64 (20 + (bt572.2.2.2.2.2.2.2.2.2.2.2.2.2.2.1.size : Int))) then (intrusionlaw11_Ipv4Accepts.j0 k bt593.1 true bt572.1 bt572.2.1 bt572.2.2.1 bt572.2.2.2.1 bt572.2.2.2.2.1 bt572.2.2.2.2.2.1 bt572.2.2.2.2.2.2.1 bt572.2.2.2.2.2.2.2.1 bt572.2.2.2.2.2.2.2.2.1 bt572.2.2.2.2.2.2.2.2.2.1 bt572.2.2.2.2.2.2.2.2.2.2.1 bt572.2.2.2.2.2.2.2.2.2.2.2.1 bt572.2.2.2.2.2.2.2.2.2.2.2.2.1 bt572.2.2.2.2.2.2.2.2.2.2.2.2.2.1 bt572.2.2.2.2.2.2.2.2.2.2.2.2.2.2.1) else (intrusionlaw11_Ipv4Accepts.j0 k bt593.1 (decide ((bt593.1.size : Int) > (a0.size : Int))) bt572.1 bt572.2.1 bt572.2.2.1 bt572.2.2.2.1 bt572.2.2.2.2.1 bt572.2.2.2.2.2.1 bt572.2.2.2.2.2.2.1 bt572.2.2.2.2.2.2.2.1 bt572.2.2.2.2.2.2.2.2.1 bt572.2.2.2.2.2.2.2.2.2.1 bt572.2.2.2.2.2.2.2.2.2.2.1 bt572.2.2.2.2.2.2.2.2.2.2.2.1 bt572.2.2.2.2.2.2.2.2.2.2.2.2.1 bt572.2.2.2.2.2.2.2.2.2.2.2.2.2.1 bt572.2.2.2.2.2.2.2.2.2.2.2.2.2.2.1)) else (intrusionlaw11_Ipv4Accepts.j0 k bt593.1 true bt572.1 bt572.2.1 bt572.2.2.1 bt572.2.2.2.1 bt572.2.2.2.2.1 bt572.2.2.2.2.2.1 bt572.2.2.2.2.2.2.1 bt572.2.2.2.2.2.2.2.1 bt572.2.2.2.2.2.2.2.2.1 bt572.2.2.2.2.2.2.2.2.2.1 bt572.2.2.2.2.2.2.2.2.2.2.1 bt572.2.2.2.2.2.2.2.2.2.2.2.1 bt572.2.2.2.2.2.2.2.2.2.2.2.2.1 bt572.2.2.2.2.2.2.2.2.2.2.2.2.2.1 bt572.2.2.2.2.2.2.2.2.2.2.2.2.2.2.1))) else ((intrusionlaw11_same.f k bt572.1 bt572.2.1 bt572.2.2.1 bt572.2.2.2.1 bt572.2.2.2.2.1 bt572.2.2.2.2.2.1 bt572.2.2.2.2.2.2.1 bt572.2.2.2.2.2.2.2.1 bt572.2.2.2.2.2.2.2.2.1 bt572.2.2.2.2.2.2.2.2.2.1 bt572.2.2.2.2.2.2.2.2.2.2.1 bt572.2.2.2.2.2.2.2.2.2.2.2.1 bt572.2.2.2.2.2.2.2.2.2.2.2.2.1 bt572.2.2.2.2.2.2.2.2.2.2.2.2.2.1 bt572.2.2.2.2.2.2.2.2.2.2.2.2.2.2.1 0 0 0 0 false false 0 false 0 0 false 0 0 ([] : List (S50)) (⟨#[]⟩ : ByteArray)).bind fun t591 => (if t591 = true then ((intrusionlaw11_awake.f k).bind fun t592 => (some t592)) else (none)))))) = some r := h
 clear h
 by_cases c2 : (a0.size : Int) > 70000
 ·rw [if_pos c2] at H
  have c2b0 : decide (70000 < (a0.size : Int)) = true := decide_eq_true c2
  have c2b1 : decide (70000 < a0.size) = true := decide_eq_true (by omega)
  clear c2
  replace H := bS H
  obtain ⟨t571, A3, H⟩ := H
  obtain rfl := Option.some.inj H
  go_enter Try.func7, Try.ntmps7
  go_wp2_with (first | ((with_reducible refine gate_callee (f := 10) rfl ?_); refine goesL_ (some 12) rfl rfl Try.func10 (by kernel_rfl) rfl #[] rfl kA ?_; (with_reducible refine (intrusionlaw11_awake.calls k  t571 _ A3.out).mono ?_); rintro e w4 ⟨rfl, hb⟩; refine ⟨_, rfl, ?_⟩; replace HB := As (below_step (kB HB.out) hb); (try clear hb)))
  go_ret
  exact ⟨kE, by exact kB HB.out⟩
 rw [if_neg c2] at H
 have c2b0 : decide (70000 < (a0.size : Int)) = false := decide_eq_false c2
 have c2b1 : decide (70000 < a0.size) = false := decide_eq_false (by omega)
 clear c2
 replace H := bS H
 obtain ⟨⟨t572, t573, t574, t575, t576, t577, t578, t579, t580, t581, t582, t583, t584, t585, t588, t589⟩, A5, H⟩ := H
 try dsimp -simprocs only at H
 by_cases c6 : t589 = 0
 ·rw [if_pos c6] at H
  have c6b0 : (t589 == 0) = true := beq_iff_eq.mpr c6
  have c6b1 : (t589 != 0) = false := bne_eq_false_iff_eq.mpr c6
  clear c6
  replace H := bS H
  obtain ⟨⟨t593, t594⟩, A7, H⟩ := H
  try dsimp -simprocs only at H
  have HC8 := As H
  clear H
  go_enter Try.func7, Try.ntmps7
  go_upto_region 7 with (first | ((with_reducible refine gate_callee (f := 11) rfl ?_); refine goesL_ (some 15) rfl rfl Try.func11 (by kernel_rfl) rfl #[.string a0] rfl kA ?_; (with_reducible refine (ipv4_Decode.calls k a0 t572 t573 t574 t575 t576 t577 t578 t579 t580 t581 t582 t583 t584 t585 t588 t589 _ A5.out).mono ?_); rintro e w9 ⟨v586, rfl, ho0, hb⟩; refine ⟨_, rfl, ?_⟩; have HO587 := As (Kd.R_lower ho0 (below_size (kB HB.out))); replace HB := As (below_step (kB HB.out) hb); (try clear hb); (try clear ho0)) | ((with_reducible refine gate_dst (N := 3) rfl ?_); (try (refine gate_guard (by rfl) ?_; dsimp only)); refine box_event rfl (N := 3) rfl (cs := #[.int .i64 0, .int .i64 0, .int .i64 0, .int .i64 0, .bool false, .bool false, .int .i64 0, .bool false, .int .u64 0, .int .u64 0, .bool false, .int .u64 0, .int .u64 0, .slice none 0 0, .string (⟨#[]⟩ : ByteArray)]) (t := 28) kG ?_; intro gb590 hg w10 hbox hb; replace HO587 := As (Kd.R_below (kR HO587.out) hb); have BK590 := As (hbox); have GW590 := As (gS hg (below_size (kB HB.out))); have GE590 := As (gS hg (below_size (kB HB.out))); replace HB := As (below_step (kB HB.out) hb); clear hb hbox hg; obtain ⟨Ao11, co11, eo11⟩ := Kd.R_slice HO587.out; subst eo11) | ((with_reducible refine gate_store (t := 28) (p := 3) rfl ?_); refine store_rowev_15 gb590 (.int .i64 t572) (.int .i64 t573) (.int .i64 t574) (.int .i64 t575) (.bool t576) (.bool t577) (.int .i64 t578) (.bool t579) (.int .u64 t580) (.int .u64 t581) (.bool t582) (.int .u64 t583) (.int .u64 t584) (.slice Ao11 t585.length co11) (.string t588) rfl (t := 28) (p := 3) (v := _) rfl rfl rfl rfl (t' := 28) (kb BK590.out) (by rfl) (by kernel_rfl) (by rfl) ?_) | ((with_reducible refine gate_dst (N := 27) rfl ?_); (try (refine gate_guard (by rfl) ?_; dsimp only)); refine wpList_load_row ?hgd 28 _ rfl gb590 rfl 28 #[.int .i64 t572, .int .i64 t573, .int .i64 t574, .int .i64 t575, .bool t576, .bool t577, .int .i64 t578, .bool t579, .int .u64 t580, .int .u64 t581, .bool t582, .int .u64 t583, .int .u64 t584, .slice Ao11 t585.length co11, .string t588] (0, 0) _ (by refine kb ?_; exact blk_all_15 (kb BK590.out) (by rfl)) Try.underlying28 rfl (by kernel_rfl) ?_; (case hgd => rfl)) | ((with_reducible refine gate_callee (f := 15) rfl ?_); refine goesL_ (some 28) rfl rfl Try.func15 (by kernel_rfl) rfl #[.agg #[.int .i64 t572, .int .i64 t573, .int .i64 t574, .int .i64 t575, .bool t576, .bool t577, .int .i64 t578, .bool t579, .int .u64 t580, .int .u64 t581, .bool t582, .int .u64 t583, .int .u64 t584, .slice Ao11 t585.length co11, .string t588]] rfl kA ?_; (with_reducible refine (ipv4_Encode.calls k t572 t573 t574 t575 t576 t577 t578 t579 t580 t581 t582 t583 t584 _ _ t585 t588 t593 t594 _ ?side1 ?side2 A7.out).mono ?_); (case side1 => refine (Kd.R_reads' (e := 50) (base := w.heap.size) (ok := fun k_ => True) (n := t585.length) (c := co11) ?_).2.2; exact (by refine kR ?_; exact (Kd.R_mono (Kd.R_puts_0_15 gb590 (.int .i64 t572) (.int .i64 t573) (.int .i64 t574) (.int .i64 t575) (.bool t576) (.bool t577) (.int .i64 t578) (.bool t579) (.int .u64 t580) (.int .u64 t581) (.bool t582) (.int .u64 t583) (.int .u64 t584) (.slice Ao11 t585.length co11) (.string t588) (Kd.R_types HO587.out BK590.out (by decide)) (fun _ hk => hk.2)) (fun _ h_ => h_.1)))); (case side2 => exact (Kd.R_reads' HO587.out).2.1); rintro e w12 ⟨rfl, hb⟩; refine ⟨_, rfl, ?_⟩; replace HO587 := As (Kd.R_below (by refine kR ?_; exact (Kd.R_mono (Kd.R_puts_0_15 gb590 (.int .i64 t572) (.int .i64 t573) (.int .i64 t574) (.int .i64 t575) (.bool t576) (.bool t577) (.int .i64 t578) (.bool t579) (.int .u64 t580) (.int .u64 t581) (.bool t582) (.int .u64 t583) (.int .u64 t584) (.slice Ao11 t585.length co11) (.string t588) (Kd.R_types HO587.out BK590.out (by decide)) (fun _ hk => hk.2)) (fun _ h_ => h_.1))) hb); replace BK590 := As (blk_below (g := gb590) (o := .cells #[.int .i64 t572, .int .i64 t573, .int .i64 t574, .int .i64 t575, .bool t576, .bool t577, .int .i64 t578, .bool t579, .int .u64 t580, .int .u64 t581, .bool t582, .int .u64 t583, .int .u64 t584, .slice Ao11 t585.length co11, .string t588] 28 (0, 0)) (by refine kb ?_; exact blk_all_15 (kb BK590.out) (by rfl)) hb); replace HB := As (below_step (kB1 HB.out GE590.out) hb); (try clear hb); (try clear hk)))
  (try simp only [Act.put, sA, sZ, sS])
  go_cut [48] (fun v48 wc => ∃ (kq : Nat) (x48_7 : Bool), v48 = .bool x48_7 ∧ Aside0 (intrusionlaw11_Ipv4Accepts.j0 kq t593 x48_7 t572 t573 t574 t575 t576 t577 t578 t579 t580 t581 t582 t583 t584 t585 t588 = some r) ∧ Aside0 (kq ≤ k) ∧ Aside0 (Kd.R k50 50 wc w.heap.size (fun _ => True) (.slice Ao11 t585.length co11) t585) ∧ Aside0 (wc.heap[gb590]? = some (.cells #[.int .i64 t572, .int .i64 t573, .int .i64 t574, .int .i64 t575, .bool t576, .bool t577, .int .i64 t578, .bool t579, .int .u64 t580, .int .u64 t581, .bool t582, .int .u64 t583, .int .u64 t584, (.slice Ao11 t585.length co11), .string t588] 28 (0, 0))) ∧ Aside0 (Below w.heap.size w wc))
  case first =>
   have H := HC8.out
   clear HC8
   by_cases c13 : t594 = 0
   ·rw [if_pos c13] at H
    have c13b0 : (t594 == 0) = true := beq_iff_eq.mpr c13
    have c13b1 : (t594 != 0) = false := bne_eq_false_iff_eq.mpr c13
    clear c13
    (first | rw [c13b0] | (simp only [i64_w, i32_w]; rw [c13b0]) | skip)
    by_cases c14 : (t593.size : Int) < (wrap64 (20 + (t588.size : Int)))
    ·rw [if_pos c14] at H
     have c14b0 : decide ((t593.size : Int) < (wrap64 (20 + (t588.size : Int)))) = true := decide_eq_true c14
     clear c14
     have H' := As H
     clear H
     have hcz15_0 := cells_15 BK590.out
     have hfz15_0 := fun j_ => blk_frozen BK590.out j_
     go_wp2
     go_meet
     case rel => exact ⟨_, (true), kS, H', ⟨by first | omega | exact Nat.le_refl _⟩, ⟨by (with_reducible repeat (first | apply Kd.R_alloc | apply Kd.R_drewN | apply Kd.R_drew)); exact HO587.out⟩, ⟨kb BK590.out⟩, ⟨kB1 HB.out GE590.out⟩⟩
    rw [if_neg c14] at H
    have c14b0 : decide ((t593.size : Int) < (wrap64 (20 + (t588.size : Int)))) = false := decide_eq_false c14
    clear c14
    have H' := As H
    clear H
    have hcz16_0 := cells_15 BK590.out
    have hfz16_0 := fun j_ => blk_frozen BK590.out j_
    go_wp2
    go_meet
    case rel => exact ⟨_, (decide ((t593.size : Int) > (a0.size : Int))), kS, H', ⟨by first | omega | exact Nat.le_refl _⟩, ⟨by (with_reducible repeat (first | apply Kd.R_alloc | apply Kd.R_drewN | apply Kd.R_drew)); exact HO587.out⟩, ⟨kb BK590.out⟩, ⟨kB1 HB.out GE590.out⟩⟩
   rw [if_neg c13] at H
   have c13b0 : (t594 == 0) = false := beq_eq_false_iff_ne.mpr c13
   have c13b1 : (t594 != 0) = true := bne_iff_ne.mpr c13
   (first | rw [c13b0] | (simp only [i64_w, i32_w]; rw [c13b0]) | skip)
   have H' := As H
   clear H
   go_wp2
   go_meet
   case rel => exact ⟨_, (true), kS, H', ⟨by first | omega | exact Nat.le_refl _⟩, ⟨by (with_reducible repeat (first | apply Kd.R_alloc | apply Kd.R_drewN | apply Kd.R_drew)); exact HO587.out⟩, ⟨kb BK590.out⟩, ⟨kB1 HB.out GE590.out⟩⟩
  clear HC8
  try clear c2
  try clear c2b0
  try clear c2b1
  try clear c6
  try clear c6b0
  try clear c6b1
  obtain ⟨kq, x48_7, rfl, HA, HJ7, HO_591013, BK590, HB⟩ := hcut
  cases kq with
  | zero => exact absurd HA.out (by simp [intrusionlaw11_Ipv4Accepts.j0])
  | succ kj7 =>
   have H := HA.out
   clear HA
   simp only [intrusionlaw11_Ipv4Accepts.j0] at H
   by_cases c17 : x48_7 = true
   ·subst c17
    rw [if_pos rfl] at H
    exact absurd H (by simp)
   replace c17 := Bool.eq_false_iff.mpr c17
   subst c17
   rw [if_neg (show ¬ (false = true) by decide)] at H
   replace H := bS H
   obtain ⟨⟨t595, t596, t597, t598, t599, t600, t601, t602, t603, t604, t605, t606, t607, t608, t611, t612⟩, A18, H⟩ := H
   try dsimp -simprocs only at H
   replace H := iS H
   obtain ⟨c19, H⟩ := H
   have c19b0 : (t612 == 0) = true := beq_iff_eq.mpr c19
   have c19b1 : (t612 != 0) = false := bne_eq_false_iff_eq.mpr c19
   clear c19
   replace H := bS H
   obtain ⟨t614, A20, H⟩ := H
   by_cases c21 : t614 = true
   ·subst c21
    rw [if_pos rfl] at H
    obtain ⟨ji22, hji22⟩ : ∃ j_ : Int, (wrap64 ((t593.size : Int) - (t588.size : Int))) = j_ := ⟨_, rfl⟩
    replace H : (if 0 ≤ (ji22) then (if (ji22) ≤ (t593.size : Int) then ((checksum_Sum.f kj7 (t593.extract 0 ((ji22) : Int).toNat)).bind fun t615 => (if t615 = 0 then ((intrusionlaw11_awake.f kj7).bind fun t616 => (some t616)) else (none))) else (none)) else (none)) = some r := by first | (rw [hji22] at H; exact H) | (simp only [hji22] at H ⊢; exact H)
    (try rw [hji22] at A18)
    (try rw [hji22] at A20)
    have hji22w : (IntKind.i64.wrap ((t593.size : Int) - (t588.size : Int))) = ji22 := (i64_w _).trans hji22
    replace H := iS H
    obtain ⟨c23, H⟩ := H
    have c23b0 := eq_true c23
    have c23b1 := decide_eq_true c23
    clear c23
    replace H := iS H
    obtain ⟨c24, H⟩ := H
    have c24b0 := eq_true c24
    have c24b1 := decide_eq_true c24
    clear c24
    replace H := bS H
    obtain ⟨t615, A25, H⟩ := H
    replace H := iS H
    obtain ⟨c26, H⟩ := H
    have c26b0 : (t615 == 0) = true := beq_iff_eq.mpr c26
    have c26b1 : (t615 != 0) = false := bne_eq_false_iff_eq.mpr c26
    clear c26
    replace H := bS H
    obtain ⟨t616, A27, H⟩ := H
    obtain rfl := Option.some.inj H
    go_wp2_with (first | ((with_reducible refine gate_callee (f := 11) rfl ?_); refine goesL_ (some 51) rfl rfl Try.func11 (by kernel_rfl) rfl #[.string t593] rfl kA ?_; (with_reducible refine (ipv4_Decode.calls kj7 t593 t595 t596 t597 t598 t599 t600 t601 t602 t603 t604 t605 t606 t607 t608 t611 t612 _ A18.out).mono ?_); rintro e w28 ⟨v609, rfl, ho0, hb⟩; refine ⟨_, rfl, ?_⟩; have HO610 := As (Kd.R_lower (Kd.R_new' ho0 (Kd.R_lt (kR HO_591013.out))) (below_size (kB1 HB.out GE590.out))); replace HO_591013 := As (Kd.R_elder' (kR HO_591013.out) (Kd.R_base ho0) hb); replace BK590 := As (blk_below (kb BK590.out) hb); replace HB := As (below_step (kB1 HB.out GE590.out) hb); (try clear hb); (try clear ho0)) | ((with_reducible refine gate_dst (N := 7) rfl ?_); (try (refine gate_guard (by rfl) ?_; dsimp only)); refine box_event rfl (N := 7) rfl (cs := #[.int .i64 0, .int .i64 0, .int .i64 0, .int .i64 0, .bool false, .bool false, .int .i64 0, .bool false, .int .u64 0, .int .u64 0, .bool false, .int .u64 0, .int .u64 0, .slice none 0 0, .string (⟨#[]⟩ : ByteArray)]) (t := 28) kG ?_; intro gb613 hg w29 hbox hb; replace HO_591013 := As (Kd.R_below (kR HO_591013.out) hb); replace HO610 := As (Kd.R_below (kR HO610.out) hb); have BK613 := As (hbox); have GW613 := As (gS hg (below_size (kB1 HB.out GE590.out))); have GE613 := As (gS hg (below_size (kB1 HB.out GE590.out))); replace HB := As (below_step (kB1 HB.out GE590.out) hb); have NB590_613 := As (gN hg (blk_lt (kb BK590.out))); have NB613_590 := As (gM hg (blk_lt (kb BK590.out))); replace BK590 := As (blk_below (kb BK590.out) hb); clear hb hbox hg; obtain ⟨Ao30, co30, eo30⟩ := Kd.R_slice HO610.out; subst eo30) | ((with_reducible refine gate_store (t := 28) (p := 7) rfl ?_); refine store_rowev_15 gb613 (.int .i64 t595) (.int .i64 t596) (.int .i64 t597) (.int .i64 t598) (.bool t599) (.bool t600) (.int .i64 t601) (.bool t602) (.int .u64 t603) (.int .u64 t604) (.bool t605) (.int .u64 t606) (.int .u64 t607) (.slice Ao30 t608.length co30) (.string t611) rfl (t := 28) (p := 7) (v := _) rfl rfl rfl rfl (t' := 28) (kb BK613.out) (by rfl) (by kernel_rfl) (by rfl) ?_) | ((with_reducible refine gate_dst (N := 57) rfl ?_); (try (refine gate_guard (by rfl) ?_; dsimp only)); refine wpList_load_row ?hgd 28 _ rfl gb590 rfl 28 #[.int .i64 t572, .int .i64 t573, .int .i64 t574, .int .i64 t575, .bool t576, .bool t577, .int .i64 t578, .bool t579, .int .u64 t580, .int .u64 t581, .bool t582, .int .u64 t583, .int .u64 t584, .slice Ao11 t585.length co11, .string t588] (0, 0) _ (by refine kb ?_; (iterate 15 (refine blk_far ?_ NB590_613.out _; refine kb ?_)); exact BK590.out) Try.underlying28 rfl (by kernel_rfl) ?_; (case hgd => rfl)) | ((with_reducible refine gate_dst (N := 58) rfl ?_); (try (refine gate_guard (by rfl) ?_; dsimp only)); refine wpList_load_row ?hgd 28 _ rfl gb613 rfl 28 #[.int .i64 t595, .int .i64 t596, .int .i64 t597, .int .i64 t598, .bool t599, .bool t600, .int .i64 t601, .bool t602, .int .u64 t603, .int .u64 t604, .bool t605, .int .u64 t606, .int .u64 t607, .slice Ao30 t608.length co30, .string t611] (0, 0) _ (by refine kb ?_; exact blk_all_15 (kb BK613.out) (by rfl)) Try.underlying28 rfl (by kernel_rfl) ?_; (case hgd => rfl)) | (go_at_call 13; (with_reducible refine (intrusionlaw11_same.calls kj7 t572 t573 t574 t575 t576 t577 t578 t579 t580 t581 t582 t583 t584 _ _ t585 t588 t595 t596 t597 t598 t599 t600 t601 t602 t603 t604 t605 t606 t607 _ _ t608 t611 true _ ?side1 ?side2 ?side3 ?side4 A20.out).mono ?_); (case side1 => refine (Kd.R_reads' (e := 50) (base := w.heap.size) (ok := fun k_ => (True ∧ some k_ ≠ (.slice Ao30 t608.length co30 : Value).ownBlock)) (n := t585.length) (c := co11) ?_).2.2; exact (by refine kR ?_; exact (Kd.R_mono (Kd.R_puts_0_15 gb613 (.int .i64 t595) (.int .i64 t596) (.int .i64 t597) (.int .i64 t598) (.bool t599) (.bool t600) (.int .i64 t601) (.bool t602) (.int .u64 t603) (.int .u64 t604) (.bool t605) (.int .u64 t606) (.int .u64 t607) (.slice Ao30 t608.length co30) (.string t611) (Kd.R_types HO_591013.out BK613.out (by decide)) (fun _ hk => hk.2)) (fun _ h_ => h_.1)))); (case side2 => exact (Kd.R_reads' HO_591013.out).2.1); (case side3 => refine (Kd.R_reads' (e := 50) (base := w.heap.size) (ok := fun k_ => (True ∧ some k_ ≠ (.slice Ao11 t585.length co11 : Value).ownBlock)) (n := t608.length) (c := co30) ?_).2.2; exact (by refine kR ?_; exact (Kd.R_mono (Kd.R_puts_0_15 gb613 (.int .i64 t595) (.int .i64 t596) (.int .i64 t597) (.int .i64 t598) (.bool t599) (.bool t600) (.int .i64 t601) (.bool t602) (.int .u64 t603) (.int .u64 t604) (.bool t605) (.int .u64 t606) (.int .u64 t607) (.slice Ao30 t608.length co30) (.string t611) (Kd.R_types HO610.out BK613.out (by decide)) (fun _ hk => hk.2)) (fun _ h_ => h_.1)))); (case side4 => exact (Kd.R_reads' HO610.out).2.1); rintro e w31 ⟨rfl, hb⟩; replace HO_591013 := As (Kd.R_below (by refine kR ?_; exact (Kd.R_mono (Kd.R_puts_0_15 gb613 (.int .i64 t595) (.int .i64 t596) (.int .i64 t597) (.int .i64 t598) (.bool t599) (.bool t600) (.int .i64 t601) (.bool t602) (.int .u64 t603) (.int .u64 t604) (.bool t605) (.int .u64 t606) (.int .u64 t607) (.slice Ao30 t608.length co30) (.string t611) (Kd.R_types HO_591013.out BK613.out (by decide)) (fun _ hk => hk.2)) (fun _ h_ => h_.1))) hb); replace HO610 := As (Kd.R_below (by refine kR ?_; exact (Kd.R_mono (Kd.R_puts_0_15 gb613 (.int .i64 t595) (.int .i64 t596) (.int .i64 t597) (.int .i64 t598) (.bool t599) (.bool t600) (.int .i64 t601) (.bool t602) (.int .u64 t603) (.int .u64 t604) (.bool t605) (.int .u64 t606) (.int .u64 t607) (.slice Ao30 t608.length co30) (.string t611) (Kd.R_types HO610.out BK613.out (by decide)) (fun _ hk => hk.2)) (fun _ h_ => h_.1))) hb); replace BK590 := As (blk_below (g := gb590) (o := .cells #[.int .i64 t572, .int .i64 t573, .int .i64 t574, .int .i64 t575, .bool t576, .bool t577, .int .i64 t578, .bool t579, .int .u64 t580, .int .u64 t581, .bool t582, .int .u64 t583, .int .u64 t584, .slice Ao11 t585.length co11, .string t588] 28 (0, 0)) (by refine kb ?_; (iterate 15 (refine blk_far ?_ NB590_613.out _; refine kb ?_)); exact BK590.out) hb); replace BK613 := As (blk_below (g := gb613) (o := .cells #[.int .i64 t595, .int .i64 t596, .int .i64 t597, .int .i64 t598, .bool t599, .bool t600, .int .i64 t601, .bool t602, .int .u64 t603, .int .u64 t604, .bool t605, .int .u64 t606, .int .u64 t607, .slice Ao30 t608.length co30, .string t611] 28 (0, 0)) (by refine kb ?_; exact blk_all_15 (kb BK613.out) (by rfl)) hb); replace HB := As (below_step (kB2 HB.out GE590.out GE613.out) hb); (try clear hb); (try clear hk); have hnb32 := NB590_613.out; have hnc32 := NB613_590.out; have hcz33_0 := cells_15 BK590.out; have hfz33_0 := fun j_ => blk_frozen BK590.out j_) | (go_at_call 23; (with_reducible refine (checksum_Sum.calls kj7 (t593.extract 0 ((ji22) : Int).toNat) t615 _ A25.out).mono ?_); rintro e w' ⟨rfl, ⟨nd, rfl⟩⟩) | (go_at_call 10; (with_reducible refine (intrusionlaw11_awake.calls kj7  t616 _ A27.out).mono ?_); rintro e w34 ⟨rfl, hb⟩; replace HO_591013 := As (Kd.R_below (kR HO_591013.out) hb); replace HO610 := As (Kd.R_below (kR HO610.out) hb); replace BK590 := As (blk_below (kb BK590.out) hb); replace BK613 := As (blk_below (kb BK613.out) hb); replace HB := As (below_step (kB2 HB.out GE590.out GE613.out) hb); (try clear hb); (try clear hk)))
    go_ret
    exact ⟨by first | rfl | (simp [errW_none, errW_some] <;> rfl) | (simp only [← hji22]; first | rfl | (simp [errW_none, errW_some] <;> rfl)) | (simp [*, errW_none, errW_some] <;> rfl), by exact kB2 HB.out GE590.out GE613.out⟩
   replace c21 := Bool.eq_false_iff.mpr c21
   subst c21
   rw [if_neg (show ¬ (false = true) by decide)] at H
   exact absurd H (by simp)
 rw [if_neg c6] at H
 have c6b0 : (t589 == 0) = false := beq_eq_false_iff_ne.mpr c6
 have c6b1 : (t589 != 0) = true := bne_iff_ne.mpr c6
 replace H := bS H
 obtain ⟨t591, A35, H⟩ := H
 by_cases c36 : t591 = true
 ·subst c36
  rw [if_pos rfl] at H
  replace H := bS H
  obtain ⟨t592, A37, H⟩ := H
  obtain rfl := Option.some.inj H
  go_enter Try.func7, Try.ntmps7
  go_wp2_with (first | ((with_reducible refine gate_callee (f := 11) rfl ?_); refine goesL_ (some 15) rfl rfl Try.func11 (by kernel_rfl) rfl #[.string a0] rfl kA ?_; (with_reducible refine (ipv4_Decode.calls k a0 t572 t573 t574 t575 t576 t577 t578 t579 t580 t581 t582 t583 t584 t585 t588 t589 _ A5.out).mono ?_); rintro e w38 ⟨v586, rfl, ho0, hb⟩; refine ⟨_, rfl, ?_⟩; have HO587 := As (Kd.R_lower ho0 (below_size (kB HB.out))); replace HB := As (below_step (kB HB.out) hb); (try clear hb); (try clear ho0)) | ((with_reducible refine gate_dst (N := 3) rfl ?_); (try (refine gate_guard (by rfl) ?_; dsimp only)); refine box_event rfl (N := 3) rfl (cs := #[.int .i64 0, .int .i64 0, .int .i64 0, .int .i64 0, .bool false, .bool false, .int .i64 0, .bool false, .int .u64 0, .int .u64 0, .bool false, .int .u64 0, .int .u64 0, .slice none 0 0, .string (⟨#[]⟩ : ByteArray)]) (t := 28) kG ?_; intro gb590 hg w39 hbox hb; replace HO587 := As (Kd.R_below (kR HO587.out) hb); have BK590 := As (hbox); have GW590 := As (gS hg (below_size (kB HB.out))); have GE590 := As (gS hg (below_size (kB HB.out))); replace HB := As (below_step (kB HB.out) hb); clear hb hbox hg; obtain ⟨Ao40, co40, eo40⟩ := Kd.R_slice HO587.out; subst eo40) | ((with_reducible refine gate_store (t := 28) (p := 3) rfl ?_); refine store_rowev_15 gb590 (.int .i64 t572) (.int .i64 t573) (.int .i64 t574) (.int .i64 t575) (.bool t576) (.bool t577) (.int .i64 t578) (.bool t579) (.int .u64 t580) (.int .u64 t581) (.bool t582) (.int .u64 t583) (.int .u64 t584) (.slice Ao40 t585.length co40) (.string t588) rfl (t := 28) (p := 3) (v := _) rfl rfl rfl rfl (t' := 28) (kb BK590.out) (by rfl) (by kernel_rfl) (by rfl) ?_) | ((with_reducible refine gate_dst (N := 20) rfl ?_); (try (refine gate_guard (by rfl) ?_; dsimp only)); refine wpList_load_row ?hgd 28 _ rfl gb590 rfl 28 #[.int .i64 t572, .int .i64 t573, .int .i64 t574, .int .i64 t575, .bool t576, .bool t577, .int .i64 t578, .bool t579, .int .u64 t580, .int .u64 t581, .bool t582, .int .u64 t583, .int .u64 t584, .slice Ao40 t585.length co40, .string t588] (0, 0) _ (by refine kb ?_; exact blk_all_15 (kb BK590.out) (by rfl)) Try.underlying28 rfl (by kernel_rfl) ?_; (case hgd => rfl)) | ((with_reducible refine gate_callee (f := 13) rfl ?_); refine goesL_ (some 22) rfl rfl Try.func13 (by kernel_rfl) rfl #[.agg #[.int .i64 t572, .int .i64 t573, .int .i64 t574, .int .i64 t575, .bool t576, .bool t577, .int .i64 t578, .bool t579, .int .u64 t580, .int .u64 t581, .bool t582, .int .u64 t583, .int .u64 t584, .slice Ao40 t585.length co40, .string t588], .agg #[.int .i64 0, .int .i64 0, .int .i64 0, .int .i64 0, .bool false, .bool false, .int .i64 0, .bool false, .int .u64 0, .int .u64 0, .bool false, .int .u64 0, .int .u64 0, .slice none 0 0, .string (⟨#[]⟩ : ByteArray)]] rfl kA ?_; (refine (intrusionlaw11_same.calls k t572 t573 t574 t575 t576 t577 t578 t579 t580 t581 t582 t583 t584 _ _ t585 t588 0 0 0 0 false false 0 false 0 0 false 0 0 _ _ ([] : List (S50)) (⟨#[]⟩ : ByteArray) true _ ?side1 ?side2 ?side3 ?side4 A35.out).mono ?_); (case side1 => refine (Kd.R_reads' (e := 50) (base := w.heap.size) (ok := fun k_ => True) (n := t585.length) (c := co40) ?_).2.2; exact (by refine kR ?_; exact (Kd.R_mono (Kd.R_puts_0_15 gb590 (.int .i64 t572) (.int .i64 t573) (.int .i64 t574) (.int .i64 t575) (.bool t576) (.bool t577) (.int .i64 t578) (.bool t579) (.int .u64 t580) (.int .u64 t581) (.bool t582) (.int .u64 t583) (.int .u64 t584) (.slice Ao40 t585.length co40) (.string t588) (Kd.R_types HO587.out BK590.out (by decide)) (fun _ hk => hk.2)) (fun _ h_ => h_.1)))); (case side2 => exact (Kd.R_reads' HO587.out).2.1); (case side3 => exact Kd.C_nil _ _); (case side4 => exact Nat.le_refl _); rintro e w41 ⟨rfl, hb⟩; refine ⟨_, rfl, ?_⟩; replace HO587 := As (Kd.R_below (by refine kR ?_; exact (Kd.R_mono (Kd.R_puts_0_15 gb590 (.int .i64 t572) (.int .i64 t573) (.int .i64 t574) (.int .i64 t575) (.bool t576) (.bool t577) (.int .i64 t578) (.bool t579) (.int .u64 t580) (.int .u64 t581) (.bool t582) (.int .u64 t583) (.int .u64 t584) (.slice Ao40 t585.length co40) (.string t588) (Kd.R_types HO587.out BK590.out (by decide)) (fun _ hk => hk.2)) (fun _ h_ => h_.1))) hb); replace BK590 := As (blk_below (g := gb590) (o := .cells #[.int .i64 t572, .int .i64 t573, .int .i64 t574, .int .i64 t575, .bool t576, .bool t577, .int .i64 t578, .bool t579, .int .u64 t580, .int .u64 t581, .bool t582, .int .u64 t583, .int .u64 t584, .slice Ao40 t585.length co40, .string t588] 28 (0, 0)) (by refine kb ?_; exact blk_all_15 (kb BK590.out) (by rfl)) hb); replace HB := As (below_step (kB1 HB.out GE590.out) hb); (try clear hb); (try clear hk)) | (go_at_call 10; (with_reducible refine (intrusionlaw11_awake.calls k  t592 _ A37.out).mono ?_); rintro e w42 ⟨rfl, hb⟩; replace HO587 := As (Kd.R_below (kR HO587.out) hb); replace BK590 := As (blk_below (kb BK590.out) hb); replace HB := As (below_step (kB1 HB.out GE590.out) hb); (try clear hb); (try clear hk)))
  go_ret
  exact ⟨kE, by exact kB1 HB.out GE590.out⟩
 replace c36 := Bool.eq_false_iff.mpr c36
 subst c36
 rw [if_neg (show ¬ (false = true) by decide)] at H
 exact absurd H (by simp)

end Go.Proofs.Ytobioaommmgehaa.X
-- short
-- short2
