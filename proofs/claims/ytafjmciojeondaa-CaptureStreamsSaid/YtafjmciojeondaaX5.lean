/- Functions and their walks, printed by xprint.py. -/
import Derived.Test.YtafjmciojeondaaX0
import Derived.Test.YtafjmciojeondaaX3
import Derived.Test.YtafjmciojeondaaX4
namespace Go.Proofs.Ytafjmciojeondaa.X
open Go.RowKit Go.Proofs.YtafjmciojeondaaW.PrintWords Go.Proofs.YtafjmciojeondaaW.PrintLast Go.Proofs.YtafjmciojeondaaW.PrintMore
attribute [local go_sem] max2_int min2_int max_two min_two max_three min_three max_four min_four   -- for this text's walks alone
set_option linter.unusedVariables false
set_option linter.unusedSimpArgs false

/-! ### capture_Read: function 12 -/
def capture_Read.f (k : Nat) (a0 : ByteArray) : Option ((List (S33)) × Int × Int) := (capture_NewReader.f).bind fun bt226 => ((capture_Reader_Feed.f k bt226.1 bt226.2.1 bt226.2.2.1 bt226.2.2.2.1 bt226.2.2.2.2.1 bt226.2.2.2.2.2.1 bt226.2.2.2.2.2.2 a0).bind fun bt234 => (if bt234.2.1 = 0 then ((capture_Reader_Close.f bt234.2.2.1 bt234.2.2.2.1 bt234.2.2.2.2.1 bt234.2.2.2.2.2.1 bt234.2.2.2.2.2.2.1 bt234.2.2.2.2.2.2.2.1 bt234.2.2.2.2.2.2.2.2).bind fun bt245 => (if bt245.1 = 0 then (some (bt234.1, 0, 0)) else (some (([] : List (S33)), bt245.1, bt245.2.2.1)))) else (some (([] : List (S33)), bt234.2.1, bt234.2.2.2.1))))
theorem capture_Read.mono : ∀ a0 k, LeO (capture_Read.f k a0) (capture_Read.f (k + 1) a0) := by
 intro a0 k
 unfold capture_Read.f
 repeat' first | with_reducible first | apply capture_Reader_Feed.mono | apply LeO.refl | apply LeO.none | refine LeO.ite ?_ ?_ | refine LeO.bind ?_ (fun _ => ?_)
set_option maxHeartbeats 8000000 in
set_option maxRecDepth 100000 in
theorem capture_Read.calls (k : Nat) (a0 : ByteArray) (r1 : List (S33)) (r2 : Int) (r3 : Int) (w : World) (h : capture_Read.f k a0 = some (r1, r2, r3)) :
  Calls Try.prog 12 #[.string a0] w fun e w' => ∃ v0_ : Value, e = .returned (.tuple #[v0_, .int .i64 r2, .int .i64 r3]) ∧ Kd.R k33 33 w' w.heap.size (fun _ => True) v0_ r1 ∧ Below w.heap.size w w' := by
 have HB := As (Below.refl w.heap.size w)
 have H : ((capture_NewReader.f).bind fun bt226 => ((capture_Reader_Feed.f k bt226.1 bt226.2.1 bt226.2.2.1 bt226.2.2.2.1 bt226.2.2.2.2.1 bt226.2.2.2.2.2.1 bt226.2.2.2.2.2.2 a0).bind fun bt234 => (if bt234.2.1 = 0 then ((capture_Reader_Close.f bt234.2.2.1 bt234.2.2.2.1 bt234.2.2.2.2.1 bt234.2.2.2.2.2.1 bt234.2.2.2.2.2.2.1 bt234.2.2.2.2.2.2.2.1 bt234.2.2.2.2.2.2.2.2).bind fun bt245 => (if bt245.1 = 0 then (some (bt234.1, 0, 0)) else (some (([] : List (S33)), bt245.1, bt245.2.2.1)))) else (some (([] : List (S33)), bt234.2.1, bt234.2.2.2.1))))) = some (r1, r2, r3) := h
 clear h
 replace H := Option.bind_eq_some_iff.mp H
 obtain ⟨⟨t226, t227, t228, t229, t230, t231, t232⟩, A20, H⟩ := H
 replace H : ((capture_Reader_Feed.f k t226 t227 t228 t229 t230 t231 t232 a0).bind fun bt234 => (if bt234.2.1 = 0 then ((capture_Reader_Close.f bt234.2.2.1 bt234.2.2.2.1 bt234.2.2.2.2.1 bt234.2.2.2.2.2.1 bt234.2.2.2.2.2.2.1 bt234.2.2.2.2.2.2.2.1 bt234.2.2.2.2.2.2.2.2).bind fun bt245 => (if bt245.1 = 0 then (some (bt234.1, 0, 0)) else (some (([] : List (S33)), bt245.1, bt245.2.2.1)))) else (some (([] : List (S33)), bt234.2.1, bt234.2.2.2.1)))) = some (r1, r2, r3) := H
 have A2 := As A20
 clear A20
 replace H := Option.bind_eq_some_iff.mp H
 obtain ⟨⟨t234, t237, t238, t239, t240, t241, t242, t243, t244⟩, A30, H⟩ := H
 replace H : (if t237 = 0 then ((capture_Reader_Close.f t238 t239 t240 t241 t242 t243 t244).bind fun bt245 => (if bt245.1 = 0 then (some (t234, 0, 0)) else (some (([] : List (S33)), bt245.1, bt245.2.2.1)))) else (some (([] : List (S33)), t237, t239))) = some (r1, r2, r3) := H
 have A3 := As A30
 clear A30
 by_cases c4 : t237 = 0
 ·rw [if_pos c4] at H
  have c4b0 : (t237 == 0) = true := beq_iff_eq.mpr c4
  have c4b1 : (t237 != 0) = false := bne_eq_false_iff_eq.mpr c4
  clear c4
  replace H := Option.bind_eq_some_iff.mp H
  obtain ⟨⟨t245, t246, t247, t248, t249, t250, t251, t252⟩, A50, H⟩ := H
  replace H : (if t245 = 0 then (some (t234, 0, 0)) else (some (([] : List (S33)), t245, t247))) = some (r1, r2, r3) := H
  have A5 := As A50
  clear A50
  by_cases c6 : t245 = 0
  ·rw [if_pos c6] at H
   have c6b0 : (t245 == 0) = true := beq_iff_eq.mpr c6
   have c6b1 : (t245 != 0) = false := bne_eq_false_iff_eq.mpr c6
   clear c6
   simp only [Option.some.injEq, Prod.mk.injEq] at H
   obtain ⟨rfl, rfl, rfl⟩ := H
   go_enter Try.func12, Try.ntmps12
   go_wp2_with (first | (go_at_call 20; (with_reducible refine (capture_NewReader.calls  t226 t227 t228 t229 t230 t231 t232 w _ ?side1 A2.out).mono ?_); (case side1 => exact kB HB.out); rintro e w7 ⟨g233, rfl, hi, hb, hb2⟩; replace HB := As (hb); have HI233 := As (hi); (try clear hb); (try clear hb2); (try clear hi)) | (go_at_call 22; (with_reducible refine (capture_Reader_Feed.calls k g233 t226 t227 t228 t229 t230 t231 t232 a0 t234 t237 t238 t239 t240 t241 t242 t243 t244 w _ ?side1 ?side2 A3.out).mono ?_); (case side1 => repeat (first | (with_reducible first | exact HI233.out | apply IsS47.alloc | apply IsS47.drewN | apply IsS47.drew | apply IsS47.set_0 | apply IsS47.set_1 | apply IsS47.set_2 | apply IsS47.set_3 | apply IsS47.set_4 | apply IsS47.set_5 | apply IsS47.set_6) | exact HI233.out)); (case side2 => exact kB1 HB.out (IsS47.ge HI233.out)); rintro e w8 ⟨v235, rfl, ho0, hi, hb, hk⟩; have HO236 := As (Kd.R_lower ho0 (below_size (kB1 HB.out (IsS47.ge HI233.out)))); replace HB := As (hb); replace HI233 := As (hi); (try clear hb); (try clear hb2); (try clear hk); (try clear hi); (try clear ho0)) | (go_at_call 24; (with_reducible refine (capture_Reader_Close.calls g233 t238 t239 t240 t241 t242 t243 t244 t245 t246 t247 t248 t249 t250 t251 t252 w _ ?side1 ?side2 A5.out).mono ?_); (case side1 => repeat (first | (with_reducible first | exact HI233.out | apply IsS47.alloc | apply IsS47.drewN | apply IsS47.drew | apply IsS47.set_0 | apply IsS47.set_1 | apply IsS47.set_2 | apply IsS47.set_3 | apply IsS47.set_4 | apply IsS47.set_5 | apply IsS47.set_6) | exact HI233.out)); (case side2 => exact kB1 HB.out (IsS47.ge HI233.out)); rintro e w9 ⟨rfl, hi, hb, hk⟩; replace HO236 := As (Kd.R_mono (Kd.R_keep (IsS47.apart (show IsS47 w _ g233 t238 t239 t240 t241 t242 t243 t244 from by repeat (first | (with_reducible first | exact HI233.out | apply IsS47.alloc | apply IsS47.drewN | apply IsS47.drew | apply IsS47.set_0 | apply IsS47.set_1 | apply IsS47.set_2 | apply IsS47.set_3 | apply IsS47.set_4 | apply IsS47.set_5 | apply IsS47.set_6) | exact HI233.out)) (kR HO236.out) (by decide)) hk (fun _ h => h.2)) (fun _ h => h.1)); replace HB := As (hb); replace HI233 := As (hi); (try clear hb); (try clear hb2); (try clear hk); (try clear hi)))
   repeat (go_quiet (first | (go_at_call 20; (with_reducible refine (capture_NewReader.calls  t226 t227 t228 t229 t230 t231 t232 w _ ?side1 A2.out).mono ?_); (case side1 => exact kB HB.out); rintro e w7 ⟨g233, rfl, hi, hb, hb2⟩; replace HB := As (hb); have HI233 := As (hi); (try clear hb); (try clear hb2); (try clear hk); (try clear hi)) | (go_at_call 22; (with_reducible refine (capture_Reader_Feed.calls k g233 t226 t227 t228 t229 t230 t231 t232 a0 t234 t237 t238 t239 t240 t241 t242 t243 t244 w _ ?side1 ?side2 A3.out).mono ?_); (case side1 => repeat (first | (with_reducible first | exact HI233.out | apply IsS47.alloc | apply IsS47.drewN | apply IsS47.drew | apply IsS47.set_0 | apply IsS47.set_1 | apply IsS47.set_2 | apply IsS47.set_3 | apply IsS47.set_4 | apply IsS47.set_5 | apply IsS47.set_6) | exact HI233.out)); (case side2 => exact kB1 HB.out (IsS47.ge HI233.out)); rintro e w8 ⟨v235, rfl, ho0, hi, hb, hk⟩; have HO236 := As (Kd.R_lower ho0 (below_size (kB1 HB.out (IsS47.ge HI233.out)))); replace HB := As (hb); replace HI233 := As (hi); (try clear hb); (try clear hb2); (try clear hk); (try clear hi); (try clear ho0)) | (go_at_call 24; (with_reducible refine (capture_Reader_Close.calls g233 t238 t239 t240 t241 t242 t243 t244 t245 t246 t247 t248 t249 t250 t251 t252 w _ ?side1 ?side2 A5.out).mono ?_); (case side1 => repeat (first | (with_reducible first | exact HI233.out | apply IsS47.alloc | apply IsS47.drewN | apply IsS47.drew | apply IsS47.set_0 | apply IsS47.set_1 | apply IsS47.set_2 | apply IsS47.set_3 | apply IsS47.set_4 | apply IsS47.set_5 | apply IsS47.set_6) | exact HI233.out)); (case side2 => exact kB1 HB.out (IsS47.ge HI233.out)); rintro e w9 ⟨rfl, hi, hb, hk⟩; replace HO236 := As (Kd.R_mono (Kd.R_keep (IsS47.apart (show IsS47 w _ g233 t238 t239 t240 t241 t242 t243 t244 from by repeat (first | (with_reducible first | exact HI233.out | apply IsS47.alloc | apply IsS47.drewN | apply IsS47.drew | apply IsS47.set_0 | apply IsS47.set_1 | apply IsS47.set_2 | apply IsS47.set_3 | apply IsS47.set_4 | apply IsS47.set_5 | apply IsS47.set_6) | exact HI233.out)) (kR HO236.out) (by decide)) hk (fun _ h => h.2)) (fun _ h => h.1)); replace HB := As (hb); replace HI233 := As (hi); (try clear hb); (try clear hb2); (try clear hk); (try clear hi))); try go_wp2_with (first | (go_at_call 20; (with_reducible refine (capture_NewReader.calls  t226 t227 t228 t229 t230 t231 t232 w _ ?side1 A2.out).mono ?_); (case side1 => exact kB HB.out); rintro e w7 ⟨g233, rfl, hi, hb, hb2⟩; replace HB := As (hb); have HI233 := As (hi); (try clear hb); (try clear hb2); (try clear hk); (try clear hi)) | (go_at_call 22; (with_reducible refine (capture_Reader_Feed.calls k g233 t226 t227 t228 t229 t230 t231 t232 a0 t234 t237 t238 t239 t240 t241 t242 t243 t244 w _ ?side1 ?side2 A3.out).mono ?_); (case side1 => repeat (first | (with_reducible first | exact HI233.out | apply IsS47.alloc | apply IsS47.drewN | apply IsS47.drew | apply IsS47.set_0 | apply IsS47.set_1 | apply IsS47.set_2 | apply IsS47.set_3 | apply IsS47.set_4 | apply IsS47.set_5 | apply IsS47.set_6) | exact HI233.out)); (case side2 => exact kB1 HB.out (IsS47.ge HI233.out)); rintro e w8 ⟨v235, rfl, ho0, hi, hb, hk⟩; have HO236 := As (Kd.R_lower ho0 (below_size (kB1 HB.out (IsS47.ge HI233.out)))); replace HB := As (hb); replace HI233 := As (hi); (try clear hb); (try clear hb2); (try clear hk); (try clear hi); (try clear ho0)) | (go_at_call 24; (with_reducible refine (capture_Reader_Close.calls g233 t238 t239 t240 t241 t242 t243 t244 t245 t246 t247 t248 t249 t250 t251 t252 w _ ?side1 ?side2 A5.out).mono ?_); (case side1 => repeat (first | (with_reducible first | exact HI233.out | apply IsS47.alloc | apply IsS47.drewN | apply IsS47.drew | apply IsS47.set_0 | apply IsS47.set_1 | apply IsS47.set_2 | apply IsS47.set_3 | apply IsS47.set_4 | apply IsS47.set_5 | apply IsS47.set_6) | exact HI233.out)); (case side2 => exact kB1 HB.out (IsS47.ge HI233.out)); rintro e w9 ⟨rfl, hi, hb, hk⟩; replace HO236 := As (Kd.R_mono (Kd.R_keep (IsS47.apart (show IsS47 w _ g233 t238 t239 t240 t241 t242 t243 t244 from by repeat (first | (with_reducible first | exact HI233.out | apply IsS47.alloc | apply IsS47.drewN | apply IsS47.drew | apply IsS47.set_0 | apply IsS47.set_1 | apply IsS47.set_2 | apply IsS47.set_3 | apply IsS47.set_4 | apply IsS47.set_5 | apply IsS47.set_6) | exact HI233.out)) (kR HO236.out) (by decide)) hk (fun _ h => h.2)) (fun _ h => h.1)); replace HB := As (hb); replace HI233 := As (hi); (try clear hb); (try clear hb2); (try clear hk); (try clear hi))))
   go_ret3
   exact ⟨_, kE, by (with_reducible repeat (first | apply Kd.R_alloc | apply Kd.R_drewN | apply Kd.R_drew)); exact HO236.out, by exact kB1 HB.out (IsS47.ge HI233.out)⟩
  rw [if_neg c6] at H
  have c6b0 : (t245 == 0) = false := beq_eq_false_iff_ne.mpr c6
  have c6b1 : (t245 != 0) = true := bne_iff_ne.mpr c6
  simp only [Option.some.injEq, Prod.mk.injEq] at H
  obtain ⟨rfl, rfl, rfl⟩ := H
  go_enter Try.func12, Try.ntmps12
  go_wp2_with (first | (go_at_call 20; (with_reducible refine (capture_NewReader.calls  t226 t227 t228 t229 t230 t231 t232 w _ ?side1 A2.out).mono ?_); (case side1 => exact kB HB.out); rintro e w10 ⟨g233, rfl, hi, hb, hb2⟩; replace HB := As (hb); have HI233 := As (hi); (try clear hb); (try clear hb2); (try clear hk); (try clear hi)) | (go_at_call 22; (with_reducible refine (capture_Reader_Feed.calls k g233 t226 t227 t228 t229 t230 t231 t232 a0 t234 t237 t238 t239 t240 t241 t242 t243 t244 w _ ?side1 ?side2 A3.out).mono ?_); (case side1 => repeat (first | (with_reducible first | exact HI233.out | apply IsS47.alloc | apply IsS47.drewN | apply IsS47.drew | apply IsS47.set_0 | apply IsS47.set_1 | apply IsS47.set_2 | apply IsS47.set_3 | apply IsS47.set_4 | apply IsS47.set_5 | apply IsS47.set_6) | exact HI233.out)); (case side2 => exact kB1 HB.out (IsS47.ge HI233.out)); rintro e w11 ⟨v235, rfl, ho0, hi, hb, hk⟩; have HO236 := As (Kd.R_lower ho0 (below_size (kB1 HB.out (IsS47.ge HI233.out)))); replace HB := As (hb); replace HI233 := As (hi); (try clear hb); (try clear hb2); (try clear hk); (try clear hi); (try clear ho0)) | (go_at_call 24; (with_reducible refine (capture_Reader_Close.calls g233 t238 t239 t240 t241 t242 t243 t244 t245 t246 t247 t248 t249 t250 t251 t252 w _ ?side1 ?side2 A5.out).mono ?_); (case side1 => repeat (first | (with_reducible first | exact HI233.out | apply IsS47.alloc | apply IsS47.drewN | apply IsS47.drew | apply IsS47.set_0 | apply IsS47.set_1 | apply IsS47.set_2 | apply IsS47.set_3 | apply IsS47.set_4 | apply IsS47.set_5 | apply IsS47.set_6) | exact HI233.out)); (case side2 => exact kB1 HB.out (IsS47.ge HI233.out)); rintro e w12 ⟨rfl, hi, hb, hk⟩; replace HO236 := As (Kd.R_mono (Kd.R_keep (IsS47.apart (show IsS47 w _ g233 t238 t239 t240 t241 t242 t243 t244 from by repeat (first | (with_reducible first | exact HI233.out | apply IsS47.alloc | apply IsS47.drewN | apply IsS47.drew | apply IsS47.set_0 | apply IsS47.set_1 | apply IsS47.set_2 | apply IsS47.set_3 | apply IsS47.set_4 | apply IsS47.set_5 | apply IsS47.set_6) | exact HI233.out)) (kR HO236.out) (by decide)) hk (fun _ h => h.2)) (fun _ h => h.1)); replace HB := As (hb); replace HI233 := As (hi); (try clear hb); (try clear hb2); (try clear hk); (try clear hi); obtain ⟨HGz13, hgz13⟩ := HI233.out; have hcz13_0 := cellS47_0 HGz13; have hcz13_1 := cellS47_1 HGz13; have hcz13_2 := cellS47_2 HGz13; have hcz13_3 := cellS47_3 HGz13; have hcz13_4 := cellS47_4 HGz13; have hcz13_5 := cellS47_5 HGz13; have hcz13_6 := cellS47_6 HGz13; have hfz13_0 := blk_frozen HGz13 0; have hfz13_1 := blk_frozen HGz13 1; have hfz13_2 := blk_frozen HGz13 2; have hfz13_3 := blk_frozen HGz13 3; have hfz13_4 := blk_frozen HGz13 4; have hfz13_5 := blk_frozen HGz13 5; have hfz13_6 := blk_frozen HGz13 6; clear HGz13 hgz13))
  repeat (go_quiet (first | (go_at_call 20; (with_reducible refine (capture_NewReader.calls  t226 t227 t228 t229 t230 t231 t232 w _ ?side1 A2.out).mono ?_); (case side1 => exact kB HB.out); rintro e w10 ⟨g233, rfl, hi, hb, hb2⟩; replace HB := As (hb); have HI233 := As (hi); (try clear hb); (try clear hb2); (try clear hk); (try clear hi)) | (go_at_call 22; (with_reducible refine (capture_Reader_Feed.calls k g233 t226 t227 t228 t229 t230 t231 t232 a0 t234 t237 t238 t239 t240 t241 t242 t243 t244 w _ ?side1 ?side2 A3.out).mono ?_); (case side1 => repeat (first | (with_reducible first | exact HI233.out | apply IsS47.alloc | apply IsS47.drewN | apply IsS47.drew | apply IsS47.set_0 | apply IsS47.set_1 | apply IsS47.set_2 | apply IsS47.set_3 | apply IsS47.set_4 | apply IsS47.set_5 | apply IsS47.set_6) | exact HI233.out)); (case side2 => exact kB1 HB.out (IsS47.ge HI233.out)); rintro e w11 ⟨v235, rfl, ho0, hi, hb, hk⟩; have HO236 := As (Kd.R_lower ho0 (below_size (kB1 HB.out (IsS47.ge HI233.out)))); replace HB := As (hb); replace HI233 := As (hi); (try clear hb); (try clear hb2); (try clear hk); (try clear hi); (try clear ho0)) | (go_at_call 24; (with_reducible refine (capture_Reader_Close.calls g233 t238 t239 t240 t241 t242 t243 t244 t245 t246 t247 t248 t249 t250 t251 t252 w _ ?side1 ?side2 A5.out).mono ?_); (case side1 => repeat (first | (with_reducible first | exact HI233.out | apply IsS47.alloc | apply IsS47.drewN | apply IsS47.drew | apply IsS47.set_0 | apply IsS47.set_1 | apply IsS47.set_2 | apply IsS47.set_3 | apply IsS47.set_4 | apply IsS47.set_5 | apply IsS47.set_6) | exact HI233.out)); (case side2 => exact kB1 HB.out (IsS47.ge HI233.out)); rintro e w12 ⟨rfl, hi, hb, hk⟩; replace HO236 := As (Kd.R_mono (Kd.R_keep (IsS47.apart (show IsS47 w _ g233 t238 t239 t240 t241 t242 t243 t244 from by repeat (first | (with_reducible first | exact HI233.out | apply IsS47.alloc | apply IsS47.drewN | apply IsS47.drew | apply IsS47.set_0 | apply IsS47.set_1 | apply IsS47.set_2 | apply IsS47.set_3 | apply IsS47.set_4 | apply IsS47.set_5 | apply IsS47.set_6) | exact HI233.out)) (kR HO236.out) (by decide)) hk (fun _ h => h.2)) (fun _ h => h.1)); replace HB := As (hb); replace HI233 := As (hi); (try clear hb); (try clear hb2); (try clear hk); (try clear hi); obtain ⟨HGz13, hgz13⟩ := HI233.out; have hcz13_0 := cellS47_0 HGz13; have hcz13_1 := cellS47_1 HGz13; have hcz13_2 := cellS47_2 HGz13; have hcz13_3 := cellS47_3 HGz13; have hcz13_4 := cellS47_4 HGz13; have hcz13_5 := cellS47_5 HGz13; have hcz13_6 := cellS47_6 HGz13; have hfz13_0 := blk_frozen HGz13 0; have hfz13_1 := blk_frozen HGz13 1; have hfz13_2 := blk_frozen HGz13 2; have hfz13_3 := blk_frozen HGz13 3; have hfz13_4 := blk_frozen HGz13 4; have hfz13_5 := blk_frozen HGz13 5; have hfz13_6 := blk_frozen HGz13 6; clear HGz13 hgz13)); try go_wp2_with (first | (go_at_call 20; (with_reducible refine (capture_NewReader.calls  t226 t227 t228 t229 t230 t231 t232 w _ ?side1 A2.out).mono ?_); (case side1 => exact kB HB.out); rintro e w10 ⟨g233, rfl, hi, hb, hb2⟩; replace HB := As (hb); have HI233 := As (hi); (try clear hb); (try clear hb2); (try clear hk); (try clear hi)) | (go_at_call 22; (with_reducible refine (capture_Reader_Feed.calls k g233 t226 t227 t228 t229 t230 t231 t232 a0 t234 t237 t238 t239 t240 t241 t242 t243 t244 w _ ?side1 ?side2 A3.out).mono ?_); (case side1 => repeat (first | (with_reducible first | exact HI233.out | apply IsS47.alloc | apply IsS47.drewN | apply IsS47.drew | apply IsS47.set_0 | apply IsS47.set_1 | apply IsS47.set_2 | apply IsS47.set_3 | apply IsS47.set_4 | apply IsS47.set_5 | apply IsS47.set_6) | exact HI233.out)); (case side2 => exact kB1 HB.out (IsS47.ge HI233.out)); rintro e w11 ⟨v235, rfl, ho0, hi, hb, hk⟩; have HO236 := As (Kd.R_lower ho0 (below_size (kB1 HB.out (IsS47.ge HI233.out)))); replace HB := As (hb); replace HI233 := As (hi); (try clear hb); (try clear hb2); (try clear hk); (try clear hi); (try clear ho0)) | (go_at_call 24; (with_reducible refine (capture_Reader_Close.calls g233 t238 t239 t240 t241 t242 t243 t244 t245 t246 t247 t248 t249 t250 t251 t252 w _ ?side1 ?side2 A5.out).mono ?_); (case side1 => repeat (first | (with_reducible first | exact HI233.out | apply IsS47.alloc | apply IsS47.drewN | apply IsS47.drew | apply IsS47.set_0 | apply IsS47.set_1 | apply IsS47.set_2 | apply IsS47.set_3 | apply IsS47.set_4 | apply IsS47.set_5 | apply IsS47.set_6) | exact HI233.out)); (case side2 => exact kB1 HB.out (IsS47.ge HI233.out)); rintro e w12 ⟨rfl, hi, hb, hk⟩; replace HO236 := As (Kd.R_mono (Kd.R_keep (IsS47.apart (show IsS47 w _ g233 t238 t239 t240 t241 t242 t243 t244 from by repeat (first | (with_reducible first | exact HI233.out | apply IsS47.alloc | apply IsS47.drewN | apply IsS47.drew | apply IsS47.set_0 | apply IsS47.set_1 | apply IsS47.set_2 | apply IsS47.set_3 | apply IsS47.set_4 | apply IsS47.set_5 | apply IsS47.set_6) | exact HI233.out)) (kR HO236.out) (by decide)) hk (fun _ h => h.2)) (fun _ h => h.1)); replace HB := As (hb); replace HI233 := As (hi); (try clear hb); (try clear hb2); (try clear hk); (try clear hi); obtain ⟨HGz13, hgz13⟩ := HI233.out; have hcz13_0 := cellS47_0 HGz13; have hcz13_1 := cellS47_1 HGz13; have hcz13_2 := cellS47_2 HGz13; have hcz13_3 := cellS47_3 HGz13; have hcz13_4 := cellS47_4 HGz13; have hcz13_5 := cellS47_5 HGz13; have hcz13_6 := cellS47_6 HGz13; have hfz13_0 := blk_frozen HGz13 0; have hfz13_1 := blk_frozen HGz13 1; have hfz13_2 := blk_frozen HGz13 2; have hfz13_3 := blk_frozen HGz13 3; have hfz13_4 := blk_frozen HGz13 4; have hfz13_5 := blk_frozen HGz13 5; have hfz13_6 := blk_frozen HGz13 6; clear HGz13 hgz13)))
  go_ret3
  exact ⟨_, kE, by first | exact Kd.R_nil _ _ _ _ _ | exact Kd.N_nil _ _ _ _ _ | exact Kd.V_nil _ _ _ _ _ | exact Kd.Q_nil _ _ _ _ _ | exact Kd.S_nil _ _ _ _ _, by exact kB1 HB.out (IsS47.ge HI233.out)⟩
 rw [if_neg c4] at H
 have c4b0 : (t237 == 0) = false := beq_eq_false_iff_ne.mpr c4
 have c4b1 : (t237 != 0) = true := bne_iff_ne.mpr c4
 simp only [Option.some.injEq, Prod.mk.injEq] at H
 obtain ⟨rfl, rfl, rfl⟩ := H
 go_enter Try.func12, Try.ntmps12
 go_wp2_with (first | (go_at_call 20; (with_reducible refine (capture_NewReader.calls  t226 t227 t228 t229 t230 t231 t232 w _ ?side1 A2.out).mono ?_); (case side1 => exact kB HB.out); rintro e w14 ⟨g233, rfl, hi, hb, hb2⟩; replace HB := As (hb); have HI233 := As (hi); (try clear hb); (try clear hb2); (try clear hk); (try clear hi)) | (go_at_call 22; (with_reducible refine (capture_Reader_Feed.calls k g233 t226 t227 t228 t229 t230 t231 t232 a0 t234 t237 t238 t239 t240 t241 t242 t243 t244 w _ ?side1 ?side2 A3.out).mono ?_); (case side1 => repeat (first | (with_reducible first | exact HI233.out | apply IsS47.alloc | apply IsS47.drewN | apply IsS47.drew | apply IsS47.set_0 | apply IsS47.set_1 | apply IsS47.set_2 | apply IsS47.set_3 | apply IsS47.set_4 | apply IsS47.set_5 | apply IsS47.set_6) | exact HI233.out)); (case side2 => exact kB1 HB.out (IsS47.ge HI233.out)); rintro e w15 ⟨v235, rfl, ho0, hi, hb, hk⟩; have HO236 := As (Kd.R_lower ho0 (below_size (kB1 HB.out (IsS47.ge HI233.out)))); replace HB := As (hb); replace HI233 := As (hi); (try clear hb); (try clear hb2); (try clear hk); (try clear hi); (try clear ho0); obtain ⟨HGz16, hgz16⟩ := HI233.out; have hcz16_0 := cellS47_0 HGz16; have hcz16_1 := cellS47_1 HGz16; have hcz16_2 := cellS47_2 HGz16; have hcz16_3 := cellS47_3 HGz16; have hcz16_4 := cellS47_4 HGz16; have hcz16_5 := cellS47_5 HGz16; have hcz16_6 := cellS47_6 HGz16; have hfz16_0 := blk_frozen HGz16 0; have hfz16_1 := blk_frozen HGz16 1; have hfz16_2 := blk_frozen HGz16 2; have hfz16_3 := blk_frozen HGz16 3; have hfz16_4 := blk_frozen HGz16 4; have hfz16_5 := blk_frozen HGz16 5; have hfz16_6 := blk_frozen HGz16 6; clear HGz16 hgz16))
 repeat (go_quiet (first | (go_at_call 20; (with_reducible refine (capture_NewReader.calls  t226 t227 t228 t229 t230 t231 t232 w _ ?side1 A2.out).mono ?_); (case side1 => exact kB HB.out); rintro e w14 ⟨g233, rfl, hi, hb, hb2⟩; replace HB := As (hb); have HI233 := As (hi); (try clear hb); (try clear hb2); (try clear hk); (try clear hi)) | (go_at_call 22; (with_reducible refine (capture_Reader_Feed.calls k g233 t226 t227 t228 t229 t230 t231 t232 a0 t234 t237 t238 t239 t240 t241 t242 t243 t244 w _ ?side1 ?side2 A3.out).mono ?_); (case side1 => repeat (first | (with_reducible first | exact HI233.out | apply IsS47.alloc | apply IsS47.drewN | apply IsS47.drew | apply IsS47.set_0 | apply IsS47.set_1 | apply IsS47.set_2 | apply IsS47.set_3 | apply IsS47.set_4 | apply IsS47.set_5 | apply IsS47.set_6) | exact HI233.out)); (case side2 => exact kB1 HB.out (IsS47.ge HI233.out)); rintro e w15 ⟨v235, rfl, ho0, hi, hb, hk⟩; have HO236 := As (Kd.R_lower ho0 (below_size (kB1 HB.out (IsS47.ge HI233.out)))); replace HB := As (hb); replace HI233 := As (hi); (try clear hb); (try clear hb2); (try clear hk); (try clear hi); (try clear ho0); obtain ⟨HGz16, hgz16⟩ := HI233.out; have hcz16_0 := cellS47_0 HGz16; have hcz16_1 := cellS47_1 HGz16; have hcz16_2 := cellS47_2 HGz16; have hcz16_3 := cellS47_3 HGz16; have hcz16_4 := cellS47_4 HGz16; have hcz16_5 := cellS47_5 HGz16; have hcz16_6 := cellS47_6 HGz16; have hfz16_0 := blk_frozen HGz16 0; have hfz16_1 := blk_frozen HGz16 1; have hfz16_2 := blk_frozen HGz16 2; have hfz16_3 := blk_frozen HGz16 3; have hfz16_4 := blk_frozen HGz16 4; have hfz16_5 := blk_frozen HGz16 5; have hfz16_6 := blk_frozen HGz16 6; clear HGz16 hgz16)); try go_wp2_with (first | (go_at_call 20; (with_reducible refine (capture_NewReader.calls  t226 t227 t228 t229 t230 t231 t232 w _ ?side1 A2.out).mono ?_); (case side1 => exact kB HB.out); rintro e w14 ⟨g233, rfl, hi, hb, hb2⟩; replace HB := As (hb); have HI233 := As (hi); (try clear hb); (try clear hb2); (try clear hk); (try clear hi)) | (go_at_call 22; (with_reducible refine (capture_Reader_Feed.calls k g233 t226 t227 t228 t229 t230 t231 t232 a0 t234 t237 t238 t239 t240 t241 t242 t243 t244 w _ ?side1 ?side2 A3.out).mono ?_); (case side1 => repeat (first | (with_reducible first | exact HI233.out | apply IsS47.alloc | apply IsS47.drewN | apply IsS47.drew | apply IsS47.set_0 | apply IsS47.set_1 | apply IsS47.set_2 | apply IsS47.set_3 | apply IsS47.set_4 | apply IsS47.set_5 | apply IsS47.set_6) | exact HI233.out)); (case side2 => exact kB1 HB.out (IsS47.ge HI233.out)); rintro e w15 ⟨v235, rfl, ho0, hi, hb, hk⟩; have HO236 := As (Kd.R_lower ho0 (below_size (kB1 HB.out (IsS47.ge HI233.out)))); replace HB := As (hb); replace HI233 := As (hi); (try clear hb); (try clear hb2); (try clear hk); (try clear hi); (try clear ho0); obtain ⟨HGz16, hgz16⟩ := HI233.out; have hcz16_0 := cellS47_0 HGz16; have hcz16_1 := cellS47_1 HGz16; have hcz16_2 := cellS47_2 HGz16; have hcz16_3 := cellS47_3 HGz16; have hcz16_4 := cellS47_4 HGz16; have hcz16_5 := cellS47_5 HGz16; have hcz16_6 := cellS47_6 HGz16; have hfz16_0 := blk_frozen HGz16 0; have hfz16_1 := blk_frozen HGz16 1; have hfz16_2 := blk_frozen HGz16 2; have hfz16_3 := blk_frozen HGz16 3; have hfz16_4 := blk_frozen HGz16 4; have hfz16_5 := blk_frozen HGz16 5; have hfz16_6 := blk_frozen HGz16 6; clear HGz16 hgz16)))
 go_ret3
 exact ⟨_, kE, by first | exact Kd.R_nil _ _ _ _ _ | exact Kd.N_nil _ _ _ _ _ | exact Kd.V_nil _ _ _ _ _ | exact Kd.Q_nil _ _ _ _ _ | exact Kd.S_nil _ _ _ _ _, by exact kB1 HB.out (IsS47.ge HI233.out)⟩

/-! ### field_Put: function 33 -/
mutual
def field_Put.j0 : Nat → Int → Int → Bool → Option (ByteArray)
 | 0, _, _, _ => none
 | k + 1, x0, x1, x20 => if x20 = true then (some (⟨#[]⟩ : ByteArray)) else (if 0 ≤ x1 then (if (x1 : Int).toNat ≤ 281474976710656 then (field_Put.l0 k x0 x1 (List.replicate (x1 : Int).toNat 0) x1 0) else (none)) else (none))
def field_Put.l0 : Nat → Int → Int → List Int → Int → Int → Option (ByteArray)
 | 0, _, _, _, _, _ => none
 | k + 1, x0, x1, x5, x23, x24 => if x24 < x23 then (if 0 ≤ (wrap64 (8 * x24)) then (if 0 ≤ (wrap64 ((wrap64 (x1 - 1)) - x24)) then (if (wrap64 ((wrap64 (x1 - 1)) - x24)) < (x5.length : Int) then (field_Put.l0 k x0 x1 (x5.set ((wrap64 ((wrap64 (x1 - 1)) - x24)) : Int).toNat ((shr .i64 x0 (wrap64 (8 * x24))) % 256)) x23 (wrap64 (x24 + 1))) else (none)) else (none)) else (none)) else (some (strOfNums x5))
end
def field_Put.f (k : Nat) (a0 : Int) (a1 : Int) : Option (ByteArray) := (field_valid.f a1).bind fun t253 => (if t253 = true then (if a0 < 0 then (field_Put.j0 k a0 a1 true) else (if 0 ≤ (wrap64 (8 * a1)) then (field_Put.j0 k a0 a1 ((shr .i64 a0 (wrap64 (8 * a1))) != 0)) else (none))) else (field_Put.j0 k a0 a1 true))
theorem field_Put.mono_l : ∀ k, (∀ y0 y1 y2, LeO (field_Put.j0 k y0 y1 y2) (field_Put.j0 (k + 1) y0 y1 y2)) ∧ (∀ y0 y1 y2 y3 y4, LeO (field_Put.l0 k y0 y1 y2 y3 y4) (field_Put.l0 (k + 1) y0 y1 y2 y3 y4))
 | 0 => ⟨fun _ _ _ r h => by simp [field_Put.j0] at h, fun _ _ _ _ _ r h => by simp [field_Put.l0] at h⟩
 | k + 1 => by
  obtain ⟨ih0, ih1⟩ := field_Put.mono_l k
  refine ⟨?_, ?_⟩
  ·intro y0 y1 y2
   unfold field_Put.j0
   repeat' first | with_reducible first | apply ih0 | apply ih1 | apply LeO.refl | apply LeO.none | refine LeO.ite ?_ ?_ | refine LeO.bind ?_ (fun _ => ?_)
  intro y0 y1 y2 y3 y4
  unfold field_Put.l0
  repeat' first | with_reducible first | apply ih0 | apply ih1 | apply LeO.refl | apply LeO.none | refine LeO.ite ?_ ?_ | refine LeO.bind ?_ (fun _ => ?_)
theorem field_Put.mono : ∀ a0 a1 k, LeO (field_Put.f k a0 a1) (field_Put.f (k + 1) a0 a1) := by
 intro a0 a1 k
 obtain ⟨ih0, ih1⟩ := field_Put.mono_l k
 unfold field_Put.f
 repeat' first | with_reducible first | apply ih0 | apply ih1 | apply LeO.refl | apply LeO.none | refine LeO.ite ?_ ?_ | refine LeO.bind ?_ (fun _ => ?_)
set_option maxHeartbeats 8000000 in
set_option maxRecDepth 100000 in
theorem field_Put.calls (k : Nat) (a0 : Int) (a1 : Int) (r : ByteArray) (w : World) (h : field_Put.f k a0 a1 = some r) :
  Calls Try.prog 33 #[.int .i64 a0, .int .i64 a1] w fun e w' => e = .returned (.string r) ∧ Below w.heap.size w w' := by
 have HB := As (Below.refl w.heap.size w)
 have H : ((field_valid.f a1).bind fun t253 => (if t253 = true then (if a0 < 0 then (field_Put.j0 k a0 a1 true) else (if 0 ≤ (wrap64 (8 * a1)) then (field_Put.j0 k a0 a1 ((shr .i64 a0 (wrap64 (8 * a1))) != 0)) else (none))) else (field_Put.j0 k a0 a1 true))) = some r := h
 clear h
 have HC3 := As H
 clear H
 go_enter Try.func33, Try.ntmps33
 go_upto_region 1 with (fail)
 go_cut [20] (fun v20 wc => ∃ (kq : Nat) (x20_2 : Bool), v20 = .bool x20_2 ∧ Aside0 (field_Put.j0 kq a0 a1 x20_2 = some r) ∧ Aside0 (kq ≤ k) ∧ Aside0 (Below w.heap.size w wc))
 case first =>
  have H := HC3.out
  clear HC3
  replace H := Option.bind_eq_some_iff.mp H
  obtain ⟨t253, A40, H⟩ := H
  replace H : (if t253 = true then (if a0 < 0 then (field_Put.j0 k a0 a1 true) else (if 0 ≤ (wrap64 (8 * a1)) then (field_Put.j0 k a0 a1 ((shr .i64 a0 (wrap64 (8 * a1))) != 0)) else (none))) else (field_Put.j0 k a0 a1 true)) = some r := H
  have A4 := As A40
  clear A40
  by_cases c5 : t253 = true
  ·subst c5
   have H1 : (if a0 < 0 then (field_Put.j0 k a0 a1 true) else (if 0 ≤ (wrap64 (8 * a1)) then (field_Put.j0 k a0 a1 ((shr .i64 a0 (wrap64 (8 * a1))) != 0)) else (none))) = some r := by rw [if_pos rfl] at H; exact H
   clear H
   have H := H1
   clear H1
   by_cases c6 : a0 < 0
   ·rw [if_pos c6] at H
    have c6b0 : decide (a0 < 0) = true := decide_eq_true c6
    clear c6
    (first | rw [c6b0] | (simp only [i64_w, i32_w]; rw [c6b0]) | skip)
    have H' := As H
    clear H
    go_wp2_with (first | ((with_reducible refine gate_callee (f := 38) rfl ?_); refine goesL_ (some 8) rfl rfl Try.func38 (by kernel_rfl) rfl #[.int .i64 a1] rfl kA ?_; (with_reducible refine (field_valid.calls a1 true _ A4.out).mono ?_); rintro e w' ⟨rfl, ⟨nd, rfl⟩⟩; refine ⟨_, rfl, ?_⟩))
    go_meet
    case rel => exact ⟨_, (true), kS, H', ⟨by first | omega | exact Nat.le_refl _⟩, ⟨kB HB.out⟩⟩
   rw [if_neg c6] at H
   have c6b0 : decide (a0 < 0) = false := decide_eq_false c6
   clear c6
   (first | rw [c6b0] | (simp only [i64_w, i32_w]; rw [c6b0]) | skip)
   obtain ⟨ji7, hji7⟩ : ∃ j_ : Int, (wrap64 (8 * a1)) = j_ := ⟨_, rfl⟩
   replace H : (if 0 ≤ (ji7) then (field_Put.j0 k a0 a1 ((shr .i64 a0 (ji7)) != 0)) else (none)) = some r := by first | (rw [hji7] at H; exact H) | (simp only [hji7] at H ⊢; exact H)
   (try rw [hji7] at A4)
   have hji7w : (IntKind.i64.wrap (8 * a1)) = ji7 := (i64_w _).trans hji7
   by_cases c8 : 0 ≤ (ji7)
   ·rw [if_pos c8] at H
    have c8b0 := eq_true c8
    have c8b1 : decide (0 ≤ (ji7)) = true := decide_eq_true c8
    clear c8
    obtain ⟨ji9, hji9⟩ : ∃ j_ : Int, (shr .i64 a0 (ji7)) = j_ := ⟨_, rfl⟩
    replace H : (field_Put.j0 k a0 a1 ((ji9) != 0)) = some r := by first | (rw [hji9] at H; exact H) | (simp only [hji9] at H ⊢; exact H)
    (try rw [hji9] at A4)
    have hji9_ : (a0 / 2 ^ min (ji7).toNat 64) = ji9 := hji9
    have hji9z : (ji7) ≤ 64 → (a0 / 2 ^ (ji7).toNat) = ji9 := shr_small hji9
    have H' := As H
    clear H
    go_wp2_with (first | ((with_reducible refine gate_callee (f := 38) rfl ?_); refine goesL_ (some 8) rfl rfl Try.func38 (by kernel_rfl) rfl #[.int .i64 a1] rfl kA ?_; (with_reducible refine (field_valid.calls a1 true _ A4.out).mono ?_); rintro e w' ⟨rfl, ⟨nd, rfl⟩⟩; refine ⟨_, rfl, ?_⟩))
    go_meet
    case rel => exact ⟨_, (((ji9) != 0)), (by first | rfl | (simp; done) | (simp only [← hji9] <;> (first | rfl | simp)) | (simp [*]; done)), H', ⟨by first | omega | exact Nat.le_refl _⟩, ⟨kB HB.out⟩⟩
   rw [if_neg c8] at H
   exact absurd H (by simp)
  replace c5 := Bool.eq_false_iff.mpr c5
  subst c5
  have H1 : (field_Put.j0 k a0 a1 true) = some r := by rw [if_neg (show ¬ (false = true) by decide)] at H; exact H
  clear H
  have H := H1
  clear H1
  have H' := As H
  clear H
  go_wp2_with (first | ((with_reducible refine gate_callee (f := 38) rfl ?_); refine goesL_ (some 8) rfl rfl Try.func38 (by kernel_rfl) rfl #[.int .i64 a1] rfl kA ?_; (with_reducible refine (field_valid.calls a1 false _ A4.out).mono ?_); rintro e w' ⟨rfl, ⟨nd, rfl⟩⟩; refine ⟨_, rfl, ?_⟩))
  go_meet
  case rel => exact ⟨_, (true), kS, H', ⟨by first | omega | exact Nat.le_refl _⟩, ⟨kB HB.out⟩⟩
 clear HC3
 obtain ⟨kq, x20_2, rfl, HA, HJ2, HB⟩ := hcut
 cases kq with
 | zero => exact absurd HA.out (by simp [field_Put.j0])
 | succ kj2 =>
  have H := HA.out
  clear HA
  simp only [field_Put.j0] at H
  by_cases c10 : x20_2 = true
  ·subst c10
   have H1 : (some (⟨#[]⟩ : ByteArray)) = some r := by rw [if_pos rfl] at H; exact H
   clear H
   have H := H1
   clear H1
   obtain rfl := Option.some.inj H
   go_wp2
   go_ret
   exact ⟨kE, by exact kB HB.out⟩
  replace c10 := Bool.eq_false_iff.mpr c10
  subst c10
  have H1 : (if 0 ≤ a1 then (if (a1 : Int).toNat ≤ 281474976710656 then (field_Put.l0 kj2 a0 a1 (List.replicate (a1 : Int).toNat 0) a1 0) else (none)) else (none)) = some r := by rw [if_neg (show ¬ (false = true) by decide)] at H; exact H
  clear H
  have H := H1
  clear H1
  by_cases c11 : 0 ≤ a1
  ·rw [if_pos c11] at H
   have c11b0 := eq_true c11
   have c11b1 : decide (0 ≤ a1) = true := decide_eq_true c11
   clear c11
   by_cases c12 : (a1 : Int).toNat ≤ 281474976710656
   ·rw [if_pos c12] at H
    have c12b0 := eq_true c12
    have c12b1 : decide ((a1 : Int).toNat ≤ 281474976710656) = true := decide_eq_true c12
    clear c12
    obtain ⟨y254, hy254⟩ : ∃ y_ : List Int, y_ = (List.replicate (a1 : Int).toNat 0) := ⟨_, rfl⟩
    replace H : (field_Put.l0 kj2 a0 a1 y254 a1 0) = some r := by first | (rw [hy254]; with_reducible exact H) | (have H2_ := (Option.bind_some _ _).symm.trans H; rw [hy254]; with_reducible exact H2_) | (have H2_ := (Option.bind_some _ _).symm.trans H; with_reducible exact H2_) | with_reducible exact H | (rw [hy254]; exact H) | exact H
    have Ny254 := As hy254
    clear hy254
    have H' := As H
    clear H
    go_wp2_with (first | ((with_reducible refine gate_dst (N := 22) rfl ?_); refine Kd.R_make (Kd.int .u8) _ 5 rfl (N := 22) rfl 49 _ _ rfl a1 rfl rfl Try.underlying49 (.int .u8 0) 1 info5 rfl (by decide) (by omega) 0 (ok := fun _ => True) (okp := fun _ => True) rfl (fun _ hk => hk) trivial (of_decide_eq_true (by first | (with_reducible assumption) | assumption)) (Nat.le_trans (Nat.mul_le_mul_right _ (of_decide_eq_true (by first | (with_reducible assumption) | assumption) : a1.toNat ≤ 281474976710656)) (by omega)) (Below.refl _ _) (Nat.le_refl _) ?_; intro v255 w13 ho14 hb hg_ hnew_; clear hg_ hnew_; (first | rw [← Ny254.out] at ho14 | (simp only [Int.reduceToNat] at ho14; rw [← Ny254.out] at ho14)); have HO256 := As (Kd.R_lower ho14 (below_size (kB HB.out))); replace HB := As (below_step (kB HB.out) hb); clear hb ho14))
    go_loopg [24] kj2 (fun kq v24 w' => ∃ (x5_2 : List Int) (x24_2 : Int), v24 = .int .i64 x24_2 ∧ Aside0 (field_Put.l0 kq a0 a1 x5_2 a1 x24_2 = some r) ∧ Aside0 (kq ≤ kj2) ∧ Aside0 (Kd.R (Kd.int .u8) 5 w' w.heap.size (fun _ => True) v255 x5_2) ∧ Aside0 (Below w.heap.size w w'))
    case atStart => exact ⟨(y254), (0), kS, H', ⟨Nat.le_refl _⟩, ⟨by (with_reducible repeat (first | apply Kd.R_alloc | apply Kd.R_drewN | apply Kd.R_drew)); exact HO256.out⟩, ⟨kB HB.out⟩⟩
    clear H'
    try clear c10
    try clear c11
    try clear c11b0
    try clear c11b1
    try clear c12
    try clear c12b0
    try clear c12b1
    obtain ⟨x5_2, x24_2, rfl, HA, HK2, HO_5, HB⟩ := hrel
    cases gk with
    | zero => exact absurd HA.out (by simp [field_Put.l0])
    | succ k2 =>
     have H := HA.out
     clear HA
     simp only [field_Put.l0] at H
     by_cases c15 : x24_2 < a1
     ·rw [if_pos c15] at H
      have c15b0 : decide (x24_2 < a1) = true := decide_eq_true c15
      clear c15
      obtain ⟨ji16, hji16⟩ : ∃ j_ : Int, (wrap64 (8 * x24_2)) = j_ := ⟨_, rfl⟩
      replace H : (if 0 ≤ (ji16) then (if 0 ≤ (wrap64 ((wrap64 (a1 - 1)) - x24_2)) then (if (wrap64 ((wrap64 (a1 - 1)) - x24_2)) < (x5_2.length : Int) then (field_Put.l0 k2 a0 a1 (x5_2.set ((wrap64 ((wrap64 (a1 - 1)) - x24_2)) : Int).toNat ((shr .i64 a0 (ji16)) % 256)) a1 (wrap64 (x24_2 + 1))) else (none)) else (none)) else (none)) = some r := by first | (rw [hji16] at H; exact H) | (simp only [hji16] at H ⊢; exact H)
      have hji16w : (IntKind.i64.wrap (8 * x24_2)) = ji16 := (i64_w _).trans hji16
      by_cases c17 : 0 ≤ (ji16)
      ·rw [if_pos c17] at H
       have c17b0 := eq_true c17
       have c17b1 : decide (0 ≤ (ji16)) = true := decide_eq_true c17
       clear c17
       obtain ⟨ji18, hji18⟩ : ∃ j_ : Int, (shr .i64 a0 (ji16)) = j_ := ⟨_, rfl⟩
       replace H : (if 0 ≤ (wrap64 ((wrap64 (a1 - 1)) - x24_2)) then (if (wrap64 ((wrap64 (a1 - 1)) - x24_2)) < (x5_2.length : Int) then (field_Put.l0 k2 a0 a1 (x5_2.set ((wrap64 ((wrap64 (a1 - 1)) - x24_2)) : Int).toNat ((ji18) % 256)) a1 (wrap64 (x24_2 + 1))) else (none)) else (none)) = some r := by first | (rw [hji18] at H; exact H) | (simp only [hji18] at H ⊢; exact H)
       have hji18_ : (a0 / 2 ^ min (ji16).toNat 64) = ji18 := hji18
       have hji18z : (ji16) ≤ 64 → (a0 / 2 ^ (ji16).toNat) = ji18 := shr_small hji18
       obtain ⟨ji19, hji19⟩ : ∃ j_ : Int, (wrap64 ((wrap64 (a1 - 1)) - x24_2)) = j_ := ⟨_, rfl⟩
       replace H : (if 0 ≤ (ji19) then (if (ji19) < (x5_2.length : Int) then (field_Put.l0 k2 a0 a1 (x5_2.set ((ji19) : Int).toNat ((ji18) % 256)) a1 (wrap64 (x24_2 + 1))) else (none)) else (none)) = some r := by first | (rw [hji19] at H; exact H) | (simp only [hji19] at H ⊢; exact H)
       have hji19w : (IntKind.i64.wrap ((wrap64 (a1 - 1)) - x24_2)) = ji19 := (i64_w _).trans hji19
       by_cases c20 : 0 ≤ (ji19)
       ·rw [if_pos c20] at H
        have c20b0 : decide (0 ≤ (ji19)) = true := decide_eq_true c20
        clear c20
        by_cases c21 : (ji19) < (x5_2.length : Int)
        ·rw [if_pos c21] at H
         have c21b0 : decide ((ji19) < (x5_2.length : Int)) = true := decide_eq_true c21
         clear c21
         obtain ⟨y257, hy257⟩ : ∃ y_ : List Int, y_ = (x5_2.set ((ji19) : Int).toNat ((ji18) % 256)) := ⟨_, rfl⟩
         replace H : (field_Put.l0 k2 a0 a1 y257 a1 (wrap64 (x24_2 + 1))) = some r := by first | (rw [hy257]; with_reducible exact H) | (have H2_ := (Option.bind_some _ _).symm.trans H; rw [hy257]; with_reducible exact H2_) | (have H2_ := (Option.bind_some _ _).symm.trans H; with_reducible exact H2_) | with_reducible exact H | (rw [hy257]; exact H) | exact H
         have Ny257 := As hy257
         clear hy257
         have H' := As H
         clear H
         have p22 : 0 ≤ ((ji19) : Int) := of_decide_eq_true (by first | (with_reducible assumption) | assumption)
         have q22 : ((ji19) : Int) < ((x5_2.length : Int) : Int) := of_decide_eq_true (by first | (with_reducible assumption) | assumption)
         obtain ⟨go22, co22, eo22, gb22, gl22, cl22, HG22⟩ := Kd.R_form HO_5.out (by omega)
         (first | cases eo22 | (injection eo22 with ea_ en_ ec_; (first | subst ea_ | (injection ea_ with ea_; subst ea_)); subst ec_; clear en_))
         have GB22 := As gb22
         have GG22 := As HG22
         clear gb22 gl22 HG22
         obtain ⟨hx22_0, hf22_0⟩ := Kd.R_celln 0 HO_5.out ((ji19) : Int) p22 q22
         replace p22 := eq_true p22
         replace q22 := eq_true q22
         have HP23 := Kd.R_putg HO_5.out ((ji19) : Int) ((ji18) % 256)
         go_wp2_with (first | ((with_reducible refine gate_store (t := 5) (p := 37) rfl ?_); refine store_event (t := 5) (p := 37) (v := ?vo_w24) (w1 := (wr.setCell ⟨go22, ((ji19) : Int).toNat, none⟩ (.int .u8 ((ji18) % 256)))) ?hg ?ho ?hn ?hr ?_; (case ho => rfl); (case hg => rfl); (case hn => rfl); (case hr => first | (go_simp; done) | (go_simp; rfl)); intro w24 hw; have hg : wr.grownBy w24 (some go22) := (by rw [hw]; exact HP23.2); have hp_ : Kd.R (Kd.int .u8) 5 w24 w.heap.size (fun _ => True) (.slice (some ⟨go22, 0, none⟩) x5_2.length co22) y257 := (by rw [hw, Ny257.out]; exact HP23.1); clear HP23; replace HO_5 := As (hp_); replace HB := As ((by rw [hw]; exact below_set (HB.out) GB22.out : Below w.heap.size w w24)); clear hg hw hp_))
         go_roundg k2
         case measure => have := HJ2.out; have := HK2.out; omega
         case rel => exact ⟨(y257), (wrap64 (x24_2 + 1)), kS, H', ⟨by have := HJ2.out; have := HK2.out; omega⟩, ⟨by (with_reducible repeat (first | apply Kd.R_alloc | apply Kd.R_drewN | apply Kd.R_drew)); exact HO_5.out⟩, ⟨kB HB.out⟩⟩
        rw [if_neg c21] at H
        exact absurd H (by simp)
       rw [if_neg c20] at H
       exact absurd H (by simp)
      rw [if_neg c17] at H
      exact absurd H (by simp)
     rw [if_neg c15] at H
     have c15b0 : decide (x24_2 < a1) = false := decide_eq_false c15
     clear c15
     obtain rfl := Option.some.inj H
     have hcv25 := own_string (P := Try.prog) Try.underlying49 Try.underlying5 Try.underlying9 (Kd.own_of_R HO_5.out)
     go_wp2
     go_ret
     exact ⟨kE, by exact kB HB.out⟩
   rw [if_neg c12] at H
   exact absurd H (by simp)
  rw [if_neg c11] at H
  exact absurd H (by simp)

/-! ### field_PutLittle: function 26 -/
def field_PutLittle.f (k : Nat) (a0 : Int) (a1 : Int) : Option (ByteArray) := (field_Put.f k a0 a1).bind fun t => if t.size ≤ 9223372036854775807 then some (strOfNums (bytesOf t).reverse) else none
theorem field_PutLittle.mono : ∀ a0 a1 k, LeO (field_PutLittle.f k a0 a1) (field_PutLittle.f (k + 1) a0 a1) := by
  intro a0 a1 k
  unfold field_PutLittle.f
  exact LeO.bind (field_Put.mono a0 a1 k) (fun _ => LeO.refl _)
set_option maxHeartbeats 8000000 in
set_option maxRecDepth 100000 in
theorem field_PutLittle.calls (k : Nat) (a0 : Int) (a1 : Int) (r : ByteArray) (w : World) (h : field_PutLittle.f k a0 a1 = some r) :
    Calls Try.prog 26 #[.int .i64 a0, .int .i64 a1] w fun e w' => e = .returned (.string r) ∧ Below w.heap.size w w' := by
  unfold field_PutLittle.f at h
  replace h := Option.bind_eq_some_iff.mp h
  obtain ⟨t, A1, h⟩ := h
  by_cases hs : t.size ≤ 9223372036854775807
  · rw [if_pos hs] at h
    obtain rfl := Option.some.inj h
    have A2 := As A1
    clear A1 h
    go_enter Try.func26, Try.ntmps26
    go_wp2_with (first | (go_at_call 33; (with_reducible refine (field_Put.calls k a0 a1 t _ A2.out).mono ?_); rintro e w1 ⟨rfl, hb⟩) | ((with_reducible refine gate_dst (N := 9) rfl ?_); refine conv_at 5 rfl (N := 9) rfl 9 49 _ rfl Try.underlying9 Try.underlying49 Try.underlying5 t rfl ?_) | (go_at_call 34; refine (rev_calls w1.heap.size t.size _ (bytesOf t) _ (bytes_holds w1 5 t hs) (bytesOf_length t) hs).mono ?_; rintro e w2 ⟨rfl, hr, hb2⟩; have hst := string_of_reads (c := grownCap w1 t.size 0 5) Try.underlying49 Try.underlying5 Try.underlying9 hr))
    go_ret
    exact ⟨rfl, below_step hb ((bytes_below (Below.refl _ _) (Nat.le_refl _) 5 t).trans (hb2 _ (Nat.le_refl _)))⟩
  rw [if_neg hs] at h
  cases h

end Go.Proofs.Ytafjmciojeondaa.X
-- short
