/- Functions and their walks, printed by xprint.py. -/
import Derived.Test.YtobioaommmgehaaZ0
namespace Go.Proofs.Ytobioaommmgehaa.Z
open Go.RowKit Go.Proofs.YtobioaommmgehaaW.PrintWords Go.Proofs.YtobioaommmgehaaW.PrintLast Go.Proofs.YtobioaommmgehaaW.PrintMore
attribute [local go_sem] max2_int min2_int max_two min_two max_three min_three max_four min_four   -- for this text's walks alone
set_option linter.unusedVariables false
set_option linter.unusedSimpArgs false

/-! ### intrusionref11_Written: function 43 -/
mutual
def intrusionref11_Written.l0 : Nat → List (S50) → ByteArray → Int → Option (ByteArray)
 | 0, _, _, _ => none
 | k + 1, x0, x3, x4 => if x4 < (x0.length : Int) then (if 0 ≤ x4 then ((some (([((rd_T50 x0 x4).f0) % 256, (wrap64 (2 + (((rd_T50 x0 x4).f1).size : Int))) % 256] : List Int) : List Int)).bind fun y392 => (if x3.size + (strOfNums y392).size ≤ 9223372036854775807 then (if (x3 ++ (strOfNums y392)).size + ((rd_T50 x0 x4).f1).size ≤ 9223372036854775807 then (intrusionref11_Written.l0 k x0 ((x3 ++ (strOfNums y392)) ++ ((rd_T50 x0 x4).f1)) (wrap64 (x4 + 1))) else (none)) else (none))) else (none)) else (intrusionref11_Written.l1 k x3)
def intrusionref11_Written.l1 : Nat → ByteArray → Option (ByteArray)
 | 0, _ => none
 | k + 1, x3 => if ((x3.size : Int) % 4) = 0 then (some x3) else (if x3.size + 1 ≤ 9223372036854775807 then (intrusionref11_Written.l1 k (x3 ++ (⟨#[0]⟩ : ByteArray))) else (none))
end
def intrusionref11_Written.f (k : Nat) (l0 : List (S50)) : Option (ByteArray) := intrusionref11_Written.l0 k l0 (⟨#[]⟩ : ByteArray) 0
theorem intrusionref11_Written.mono_l : ∀ k, (∀ y0 y1 y2, LeO (intrusionref11_Written.l0 k y0 y1 y2) (intrusionref11_Written.l0 (k + 1) y0 y1 y2)) ∧ (∀ y0, LeO (intrusionref11_Written.l1 k y0) (intrusionref11_Written.l1 (k + 1) y0))
 | 0 => ⟨fun _ _ _ r h => by simp [intrusionref11_Written.l0] at h, fun _ r h => by simp [intrusionref11_Written.l1] at h⟩
 | k + 1 => by
  obtain ⟨ih0, ih1⟩ := intrusionref11_Written.mono_l k
  refine ⟨?_, ?_⟩
  ·intro y0 y1 y2
   unfold intrusionref11_Written.l0
   repeat' first | with_reducible first | apply ih0 | apply ih1 | apply LeO.refl | apply LeO.none | refine LeO.ite ?_ ?_ | refine LeO.bind ?_ (fun _ => ?_)
  intro y0
  unfold intrusionref11_Written.l1
  repeat' first | with_reducible first | apply ih0 | apply ih1 | apply LeO.refl | apply LeO.none | refine LeO.ite ?_ ?_ | refine LeO.bind ?_ (fun _ => ?_)
theorem intrusionref11_Written.mono : ∀ a0 k, LeO (intrusionref11_Written.f k a0) (intrusionref11_Written.f (k + 1) a0) := by
 intro a0 k
 obtain ⟨ih0, ih1⟩ := intrusionref11_Written.mono_l k
 unfold intrusionref11_Written.f
 repeat' first | with_reducible first | apply ih0 | apply ih1 | apply LeO.refl | apply LeO.none | refine LeO.ite ?_ ?_ | refine LeO.bind ?_ (fun _ => ?_)
def intrusionref11_Written.T5 : Bool × List (List Nat × List Nat) := (true, [([], []), ([], []), ([], []), ([1, 2], [1, 2]), ([3], [3]), ([4], [4]), ([5], [5]), ([], []), ([], []), ([7, 8], [7, 8]), ([9], [9]), ([10], [10]), ([11], [11]), ([12], [12]), ([13], [13]), ([6, 14], [6, 14]), ([15], [15]), ([0, 16], [0, 16]), ([], []), ([], []), ([18, 19], [18, 19]), ([20], [20]), ([21], [21]), ([17, 22], [17, 22]), ([23, 0, 1, 2, 3, 4, 5, 6, 7, 8, 9, 10, 11, 12, 13, 14, 15, 16, 17, 18, 19, 20, 21, 22, 23], [0, 23])])
def intrusionref11_Written.B5 : List Nat := [0, 0, 0, 6, 14, 30, 62, 0, 0, 384, 896, 1920, 3968, 8064, 16256, 32766, 65534, 131071, 0, 0, 786432, 1835008, 3932160, 8388607, 16777215]
theorem intrusionref11_Written.tab5 : rtab .any (opsOf Try.f43 5) = intrusionref11_Written.T5 := by kernel_rfl
theorem intrusionref11_Written.bits5 : waitsOk intrusionref11_Written.T5.2 intrusionref11_Written.B5 = true := by kernel_rfl
set_option maxHeartbeats 8000000 in
set_option maxRecDepth 100000 in
theorem intrusionref11_Written.calls (k : Nat) (A0 : Option Addr) (c0 : Nat) (l0 : List (S50)) (r : ByteArray) (w : World) (hr0 : Kd.C k50 w A0 l0.length l0) (hc0 : l0.length ≤ c0) (h : intrusionref11_Written.f k l0 = some r) :
  Calls Try.prog 43 #[.slice A0 l0.length c0] w fun e w' => e = .returned (.string r) ∧ Below w.heap.size w w' := by
 have HR0 := As hr0
 have HC0 := As hc0
 clear hr0 hc0
 have HB := As (Below.refl w.heap.size w)
 have H : (intrusionref11_Written.l0 k l0 (⟨#[]⟩ : ByteArray) 0) = some r := h
 clear h
 have H' := As H
 clear H
 go_enter Try.func43, Try.ntmps43
 go_wp2
 go_loopg [3, 4] k (fun kq v3 v4 w' => ∃ (x3_1 : ByteArray) (x4_1 : Int), v3 = .string x3_1 ∧ v4 = .int .i64 x4_1 ∧ Aside0 (intrusionref11_Written.l0 kq l0 x3_1 x4_1 = some r) ∧ Aside0 (kq ≤ k) ∧ Aside0 (Below w.heap.size w w'))
 case atStart => exact ⟨((⟨#[]⟩ : ByteArray)), (0), kS, kS, H', ⟨Nat.le_refl _⟩, ⟨kB HB.out⟩⟩
 clear H'
 obtain ⟨x3_1, x4_1, rfl, rfl, HA, HK1, HB⟩ := hrel
 cases gk with
 | zero => exact absurd HA.out (by simp [intrusionref11_Written.l0])
 | succ k1 =>
  have H := HA.out
  clear HA
  simp only [intrusionref11_Written.l0] at H
  by_cases c2 : x4_1 < (l0.length : Int)
  ·rw [if_pos c2] at H
   have c2b0 : decide (x4_1 < (l0.length : Int)) = true := decide_eq_true c2
   clear c2
   replace H := iS H
   obtain ⟨c3, H⟩ := H
   have c3b0 := decide_eq_true c3
   clear c3
   replace H := yS H
   obtain ⟨y392, Ny392, H⟩ := H
   replace H := iS H
   obtain ⟨c4, H⟩ := H
   have c4b0 := eq_true c4
   have c4b1 := decide_eq_true c4
   try have c4b2 := eq_false (Nat.not_lt.2 c4)
   replace H := iS H
   obtain ⟨c5, H⟩ := H
   have c5b0 := eq_true c5
   have c5b1 := decide_eq_true c5
   try obtain ⟨c5s0, c5s1, c5s2⟩ := sz_ (a := (x3_1.size + (strOfNums y392).size) + ((rd_T50 l0 x4_1).f1).size) c5
   try have c5b2 := eq_false (Nat.not_lt.2 c5)
   have H' := As H
   clear H
   try go_wp2
   replace HB := As (below_drew1 HB.out)
   have p390 : 0 ≤ (x4_1 : Int) := of_decide_eq_true (by first | (with_reducible assumption) | assumption)
   have q390 : x4_1 < (l0.length : Int) := of_decide_eq_true (by first | (with_reducible assumption) | assumption)
   obtain ⟨ad390, e390, hx390_0, hx390_1⟩ := at_T50 HR0.out x4_1 p390 q390
   have hw390_1 := hx390_1
   have hw390_0 := hx390_0
   cases e390
   replace hx390_0 := hcell HB.out hx390_0
   replace hx390_1 := hcell HB.out hx390_1
   replace p390 := eq_true p390
   replace q390 := eq_true q390
   have p391 : 0 ≤ (x4_1 : Int) := of_decide_eq_true (by first | (with_reducible assumption) | assumption)
   have q391 : x4_1 < (l0.length : Int) := of_decide_eq_true (by first | (with_reducible assumption) | assumption)
   obtain ⟨ad391, e391, hx391_0, hx391_1⟩ := at_T50 HR0.out x4_1 p391 q391
   have hw391_1 := hx391_1
   have hw391_0 := hx391_0
   obtain rfl : ad390 = ad391 := (by injection e391)
   replace hx391_0 := hcell HB.out hx391_0
   replace hx391_1 := hcell HB.out hx391_1
   replace p391 := eq_true p391
   replace q391 := eq_true q391
   have p395 : 0 ≤ (x4_1 : Int) := of_decide_eq_true (by first | (with_reducible assumption) | assumption)
   have q395 : x4_1 < (l0.length : Int) := of_decide_eq_true (by first | (with_reducible assumption) | assumption)
   obtain ⟨ad395, e395, hx395_0, hx395_1⟩ := at_T50 HR0.out x4_1 p395 q395
   have hw395_1 := hx395_1
   have hw395_0 := hx395_0
   obtain rfl : ad390 = ad395 := (by injection e395)
   replace hx395_0 := hcell HB.out hx395_0
   replace hx395_1 := hcell HB.out hx395_1
   replace p395 := eq_true p395
   replace q395 := eq_true q395
   refine start_ (n := 25) (S := fun w' => w'.cell? (ad390.add ((x4_1).toNat * 2)) = some (.int .i64 ((rd_T50 l0 x4_1).f0)) ∧ w'.cell? ⟨(ad390.add ((x4_1).toNat * 2)).block, (ad390.add ((x4_1).toNat * 2)).off + 1, none⟩ = some (.string ((rd_T50 l0 x4_1).f1)) ∧ w'.cell? (ad390.add ((x4_1).toNat * 2)) = some (.int .i64 ((rd_T50 l0 x4_1).f0)) ∧ w'.cell? ⟨(ad390.add ((x4_1).toNat * 2)).block, (ad390.add ((x4_1).toNat * 2)).off + 1, none⟩ = some (.string ((rd_T50 l0 x4_1).f1)) ∧ w'.cell? (ad390.add ((x4_1).toNat * 2)) = some (.int .i64 ((rd_T50 l0 x4_1).f0)) ∧ w'.cell? ⟨(ad390.add ((x4_1).toNat * 2)).block, (ad390.add ((x4_1).toNat * 2)).off + 1, none⟩ = some (.string ((rd_T50 l0 x4_1).f1))) (ds := []) #[O, O, O, O, O, O, O, O, O, O, O, O, O, O, O, O, O, O, O, O, O, O, O, O, O] (by kernel_rfl) rfl rfl ⟨(hcell HB.out hw390_0), (hcell HB.out hw390_1), (hcell HB.out hw391_0), (hcell HB.out hw391_1), (hcell HB.out hw395_0), (hcell HB.out hw395_1)⟩ (fun hHeld => ?_); refine with_tabW intrusionref11_Written.tab5 intrusionref11_Written.bits5 (fun HT_ HW_ => ?_)
   generalize wr.drew = w6 at HB hx390_0 hx390_1 hx391_0 hx391_1 hx395_0 hx395_1 hHeld ⊢
   refine kP 0 11 #[I, O, O, O, O, O, O, O, O, O, O, O, O, O, O, O, O, O, O, O, O, O, O, O, O] ?_ (any_of HT_.out (by kernel_rfl))
   refine kP 1 12 #[I, I, O, O, O, O, O, O, O, O, O, O, O, O, O, O, O, O, O, O, O, O, O, O, O] ?_ (any_of HT_.out (by kernel_rfl))
   refine kP 2 13 #[I, I, I, O, O, O, O, O, O, O, O, O, O, O, O, O, O, O, O, O, O, O, O, O, O] ?_ (any_of HT_.out (by kernel_rfl))
   refine kP 3 14 #[I, I, I, I, O, O, O, O, O, O, O, O, O, O, O, O, O, O, O, O, O, O, O, O, O] ?_ (any_of HT_.out (by kernel_rfl))
   refine kP 4 15 #[I, I, I, I, I, O, O, O, O, O, O, O, O, O, O, O, O, O, O, O, O, O, O, O, O] ?_ (any_of HT_.out (by kernel_rfl))
   refine kP 7 18 #[I, I, I, I, I, O, O, I, O, O, O, O, O, O, O, O, O, O, O, O, O, O, O, O, O] ?_ (any_of HT_.out (by kernel_rfl))
   refine kP 8 19 #[I, I, I, I, I, O, O, I, I, O, O, O, O, O, O, O, O, O, O, O, O, O, O, O, O] ?_ (any_of HT_.out (by kernel_rfl))
   refine kP 9 20 #[I, I, I, I, I, O, O, I, I, I, O, O, O, O, O, O, O, O, O, O, O, O, O, O, O] ?_ (any_of HT_.out (by kernel_rfl))
   refine kP 10 21 #[I, I, I, I, I, O, O, I, I, I, I, O, O, O, O, O, O, O, O, O, O, O, O, O, O] ?_ (any_of HT_.out (by kernel_rfl))
   refine kP 18 29 #[I, I, I, I, I, O, O, I, I, I, I, O, O, O, O, O, O, O, I, O, O, O, O, O, O] ?_ (any_of HT_.out (by kernel_rfl))
   refine kP 19 30 #[I, I, I, I, I, O, O, I, I, I, I, O, O, O, O, O, O, O, I, I, O, O, O, O, O] ?_ (any_of HT_.out (by kernel_rfl))
   refine kP 20 31 #[I, I, I, I, I, O, O, I, I, I, I, O, O, O, O, O, O, O, I, I, I, O, O, O, O] ?_ (any_of HT_.out (by kernel_rfl))
   refine kP 21 32 #[I, I, I, I, I, O, O, I, I, I, I, O, O, O, O, O, O, O, I, I, I, I, O, O, O] ?_ (any_of HT_.out (by kernel_rfl))
   refine take_ (i := 5) (N := some 16) (v := ?_) (a' := ?_) #[I, I, I, I, I, I, O, I, I, I, I, O, O, O, O, O, O, O, I, I, I, I, O, O, O] rfl rfl (take_ofW HT_.out HW_.out (by kernel_rfl)) (fun _ _ _ h => h) (Or.inl ⟨by rfl, ?_⟩) hHeld ?_ ?_
   rotate_left
   ·rintro w' ⟨s0, s1, s2, s3, s4, s5⟩
    go_simp
    with_reducible rfl
   rotate_left
   ·simp only [Act.put, sA, sZ, sS, i64_w, i32_w]
    rfl
   refine kP 6 17 #[I, I, I, I, I, I, I, I, I, I, I, O, O, O, O, O, O, O, I, I, I, I, O, O, O] ?_ (any_of HT_.out (by kernel_rfl))
   refine take_ (i := 11) (N := some 22) (v := ?_) (a' := ?_) #[I, I, I, I, I, I, I, I, I, I, I, I, O, O, O, O, O, O, I, I, I, I, O, O, O] rfl rfl (take_ofW HT_.out HW_.out (by kernel_rfl)) (fun _ _ _ h => h) (Or.inl ⟨by rfl, ?_⟩) hHeld ?_ ?_
   rotate_left
   ·rintro w' ⟨s0, s1, s2, s3, s4, s5⟩
    go_simp
    with_reducible rfl
   rotate_left
   ·simp only [Act.put, sA, sZ, sS, i64_w, i32_w]
    rfl
   refine kP 12 23 #[I, I, I, I, I, I, I, I, I, I, I, I, I, O, O, O, O, O, I, I, I, I, O, O, O] ?_ (any_of HT_.out (by kernel_rfl))
   refine kP 13 24 #[I, I, I, I, I, I, I, I, I, I, I, I, I, I, O, O, O, O, I, I, I, I, O, O, O] ?_ (any_of HT_.out (by kernel_rfl))
   refine kP 14 25 #[I, I, I, I, I, I, I, I, I, I, I, I, I, I, I, O, O, O, I, I, I, I, O, O, O] ?_ (any_of HT_.out (by kernel_rfl))
   refine take_ (i := 22) (N := some 33) (v := ?_) (a' := ?_) #[I, I, I, I, I, I, I, I, I, I, I, I, I, I, I, O, O, O, I, I, I, I, I, O, O] rfl rfl (take_ofW HT_.out HW_.out (by kernel_rfl)) (fun _ _ _ h => h) (Or.inl ⟨by rfl, ?_⟩) hHeld ?_ ?_
   rotate_left
   ·rintro w' ⟨s0, s1, s2, s3, s4, s5⟩
    go_simp
    with_reducible rfl
   rotate_left
   ·simp only [Act.put, sA, sZ, sS, i64_w, i32_w]
    rfl
   refine one_ (i := 15) (N := some 26) #[I, I, I, I, I, I, I, I, I, I, I, I, I, I, I, I, O, O, I, I, I, I, I, O, O] rfl rfl (one_of HT_.out (by kernel_rfl)) (by decide) (fun K hK => ?_)
   refine Kd.R_lit_step (Kd.int .u8) _ 5 rfl (N := 26) rfl (xs := ([((rd_T50 l0 x4_1).f0) % 256, (wrap64 (2 + (((rd_T50 l0 x4_1).f1).size : Int))) % 256] : List Int)) (inner := [.int .u8 (((rd_T50 l0 x4_1).f0) % 256), .int .u8 ((wrap64 (2 + (((rd_T50 l0 x4_1).f1).size : Int))) % 256)]) (ok := fun _ => True) (okp := fun _ => True) kG ?hp (fun _ hk => hk) trivial (Below.refl _ _) (Nat.le_refl _) (by simp) ?_; (case hp => exact (Reps.one (show Kd.M (Kd.int .u8) _ _ _ (((rd_T50 l0 x4_1).f0) % 256) [.int .u8 (((rd_T50 l0 x4_1).f0) % 256)] from rfl) (Reps.one (show Kd.M (Kd.int .u8) _ _ _ ((wrap64 (2 + (((rd_T50 l0 x4_1).f1).size : Int))) % 256) [.int .u8 ((wrap64 (2 + (((rd_T50 l0 x4_1).f1).size : Int))) % 256)] from rfl) (Reps.none _ _))))
   intro v393 w7 ho8 hb hg_ hnew_
   clear hg_ hnew_
   (first | rw [← Ny392.out] at ho8 | (simp only [Int.reduceToNat] at ho8; rw [← Ny392.out] at ho8))
   have HO394 := As (Kd.R_lower ho8 (below_size (kB HB.out)))
   replace HB := As (below_step (kB HB.out) hb)
   clear hb ho8
   refine hK.out _ _ ⟨(hcell HB.out hw390_0), (hcell HB.out hw390_1), (hcell HB.out hw391_0), (hcell HB.out hw391_1), (hcell HB.out hw395_0), (hcell HB.out hw395_1)⟩ (fun hHeld => ?_)
   clear hK K
   refine nP ?_
   refine one_ (i := 16) (N := some 27) #[I, I, I, I, I, I, I, I, I, I, I, I, I, I, I, I, I, O, I, I, I, I, I, O, O] rfl rfl (one_of HT_.out (by kernel_rfl)) (by decide) (fun K hK => ?_)
   have hcv9 := own_string (P := Try.prog) Try.underlying46 Try.underlying5 Try.underlying9 (Kd.own_of_R HO394.out)
   refine value_ (w1 := ?_) (v := ?_) (by rfl) rfl ?_ ?_
   rotate_left 2
   ·go_simp
    constructor
    ·rfl
    rfl
   clear hcv9
   refine hK.out _ _ ⟨(hcell HB.out hw390_0), (hcell HB.out hw390_1), (hcell HB.out hw391_0), (hcell HB.out hw391_1), (hcell HB.out hw395_0), (hcell HB.out hw395_1)⟩ (fun hHeld => ?_)
   clear hK K
   refine nP ?_
   refine kP 17 28 #[I, I, I, I, I, I, I, I, I, I, I, I, I, I, I, I, I, I, I, I, I, I, I, O, O] ?_ (any_of HT_.out (by kernel_rfl))
   refine kP 23 34 #[I, I, I, I, I, I, I, I, I, I, I, I, I, I, I, I, I, I, I, I, I, I, I, I, O] ?_ (any_of HT_.out (by kernel_rfl))
   refine kP 24 3 #[I, I, I, I, I, I, I, I, I, I, I, I, I, I, I, I, I, I, I, I, I, I, I, I, I] ?_ (any_of HT_.out (by kernel_rfl))
   refine done_ (done_of HT_.out (by kernel_rfl)) ?_
   try go_wp2
   go_roundg k1
   case measure => have := HK1.out; omega
   case rel => exact ⟨((x3_1 ++ (strOfNums y392)) ++ ((rd_T50 l0 x4_1).f1)), (wrap64 (x4_1 + 1)), kS, kS, H', ⟨by have := HK1.out; omega⟩, ⟨kB HB.out⟩⟩
  rw [if_neg c2] at H
  have c2b0 : decide (x4_1 < (l0.length : Int)) = false := decide_eq_false c2
  clear c2
  have H' := As H
  clear H
  go_wp2
  go_loopg [3] k1 (fun kq v3 w' => ∃ (x3_2 : ByteArray), v3 = .string x3_2 ∧ Aside0 (intrusionref11_Written.l1 kq x3_2 = some r) ∧ Aside0 (kq ≤ k1) ∧ Aside0 (Below w.heap.size w w'))
  case atStart => exact ⟨(x3_1), kS, H', ⟨Nat.le_refl _⟩, ⟨kB HB.out⟩⟩
  clear H'
  try clear c2
  try clear c2b0
  obtain ⟨x3_2, rfl, HA, HK2, HB⟩ := hrel
  cases gk with
  | zero => exact absurd HA.out (by simp [intrusionref11_Written.l1])
  | succ k2 =>
   have H := HA.out
   clear HA
   simp only [intrusionref11_Written.l1] at H
   by_cases c10 : ((x3_2.size : Int) % 4) = 0
   ·rw [if_pos c10] at H
    have c10b0 : (((x3_2.size : Int) % 4) == 0) = true := beq_iff_eq.mpr c10
    have c10b1 : (((x3_2.size : Int) % 4) != 0) = false := bne_eq_false_iff_eq.mpr c10
    clear c10
    obtain rfl := Option.some.inj H
    go_wp2
    go_ret
    exact ⟨kE, by exact kB HB.out⟩
   rw [if_neg c10] at H
   have c10b0 : (((x3_2.size : Int) % 4) == 0) = false := beq_eq_false_iff_ne.mpr c10
   have c10b1 : (((x3_2.size : Int) % 4) != 0) = true := bne_iff_ne.mpr c10
   replace H := iS H
   obtain ⟨c11, H⟩ := H
   have c11b0 := eq_true c11
   have c11b1 := decide_eq_true c11
   try have c11b2 := eq_false (Nat.not_lt.2 c11)
   have H' := As H
   clear H
   go_wp2
   go_roundg k2
   case measure => have := HK1.out; have := HK2.out; omega
   case rel => exact ⟨(x3_2 ++ (⟨#[0]⟩ : ByteArray)), kS, H', ⟨by have := HK1.out; have := HK2.out; omega⟩, ⟨kB HB.out⟩⟩

/-! ### intrusionref01_Power: function 68 -/
def intrusionref01_Power.l0 : Nat → Int → Int → Int → Option (Int)
 | 0, _, _, _ => none
 | k + 1, x0, x3, x4 => if x4 < x0 then (intrusionref01_Power.l0 k x0 (wrap64 (x3 * 256)) (wrap64 (x4 + 1))) else (some x3)
def intrusionref01_Power.f (k : Nat) (a0 : Int) : Option (Int) := intrusionref01_Power.l0 k a0 1 0
theorem intrusionref01_Power.mono_l : ∀ k, (∀ y0 y1 y2, LeO (intrusionref01_Power.l0 k y0 y1 y2) (intrusionref01_Power.l0 (k + 1) y0 y1 y2))
 | 0 => fun _ _ _ r h => by simp [intrusionref01_Power.l0] at h
 | k + 1 => by
  have ih0 := intrusionref01_Power.mono_l k
  intro y0 y1 y2
  unfold intrusionref01_Power.l0
  repeat' first | with_reducible first | apply ih0 | apply LeO.refl | apply LeO.none | refine LeO.ite ?_ ?_ | refine LeO.bind ?_ (fun _ => ?_)
theorem intrusionref01_Power.mono : ∀ a0 k, LeO (intrusionref01_Power.f k a0) (intrusionref01_Power.f (k + 1) a0) := by
 intro a0 k
 have ih0 := intrusionref01_Power.mono_l k
 unfold intrusionref01_Power.f
 repeat' first | with_reducible first | apply ih0 | apply LeO.refl | apply LeO.none | refine LeO.ite ?_ ?_ | refine LeO.bind ?_ (fun _ => ?_)
set_option maxHeartbeats 8000000 in
set_option maxRecDepth 100000 in
theorem intrusionref01_Power.calls (k : Nat) (a0 : Int) (r : Int) (w : World) (h : intrusionref01_Power.f k a0 = some r) :
  Calls Try.prog 68 #[.int .i64 a0] w fun e w' => e = .returned (.int .i64 r) ∧ Drawn0 w w' := by
 have H : (intrusionref01_Power.l0 k a0 1 0) = some r := h
 clear h
 have H' := As H
 clear H
 go_enter Try.func68, Try.ntmps68
 go_wp2
 go_loopg [3, 4] k (fun kq v3 v4 w' => ∃ (x3_1 : Int) (x4_1 : Int), v3 = .int .i64 x3_1 ∧ v4 = .int .i64 x4_1 ∧ Aside0 (intrusionref01_Power.l0 kq a0 x3_1 x4_1 = some r) ∧ Aside0 (kq ≤ k) ∧ Drawn0 w w')
 case atStart => exact ⟨(1), (0), kS, kS, H', ⟨Nat.le_refl _⟩, by repeat (first | exact Drawn0.refl _ | apply Drawn0.step)⟩
 clear H'
 obtain ⟨x3_1, x4_1, rfl, rfl, HA, HK1, ⟨m1, rfl⟩⟩ := hrel
 cases gk with
 | zero => exact absurd HA.out (by simp [intrusionref01_Power.l0])
 | succ k1 =>
  have H := HA.out
  clear HA
  simp only [intrusionref01_Power.l0] at H
  by_cases c2 : x4_1 < a0
  ·rw [if_pos c2] at H
   have c2b0 : decide (x4_1 < a0) = true := decide_eq_true c2
   clear c2
   have H' := As H
   clear H
   go_wp2
   go_roundg k1
   case measure => have := HK1.out; omega
   case rel => exact ⟨(wrap64 (x3_1 * 256)), (wrap64 (x4_1 + 1)), kS, kS, H', ⟨by have := HK1.out; omega⟩, by repeat (first | exact Drawn0.refl _ | apply Drawn0.step)⟩
  rw [if_neg c2] at H
  have c2b0 : decide (x4_1 < a0) = false := decide_eq_false c2
  clear c2
  obtain rfl := Option.some.inj H
  go_wp2
  go_ret
  exact ⟨by first | rfl | (simp; done) | (simp [*]; done), by repeat (first | exact Drawn0.refl _ | apply Drawn0.step)⟩

end Go.Proofs.Ytobioaommmgehaa.Z
-- short
-- short2
