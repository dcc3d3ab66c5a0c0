/- Functions and their walks, printed by xprint.py. -/
import Derived.Test.YtocobalkikkhlaaDoorX0
import Derived.Test.YtocobalkikkhlaaDoorX3
import Derived.Test.YtocobalkikkhlaaDoorX7
namespace Go.Proofs.YtocobalkikkhlaaDoor.X
open Go.RowKit Go.Proofs.YtocobalkikkhlaaDoorW.PrintWords Go.Proofs.YtocobalkikkhlaaDoorW.PrintLast Go.Proofs.YtocobalkikkhlaaDoorW.PrintMore
attribute [local go_sem] max2_int min2_int max_two min_two max_three min_three max_four min_four   -- for this text's walks alone
set_option linter.unusedVariables false
set_option linter.unusedSimpArgs false

/-! ### udp_ends_sum: function 92 -/
def udp_ends_sum.f (k : Nat) (b0 : Bool) (b1 : Int) (b2 : Int) (b3 : Bool) (b4 : Int) (b5 : Int) (a1 : ByteArray) : Option (Int) := (checksum_Pseudo.f k b0 b1 b2 b3 b4 b5 17 (a1.size : Int)).bind fun t228 => (if 0 ≤ 6 then (if 6 ≤ (a1.size : Int) then (if t228.size + (a1.extract 0 6).size ≤ 9223372036854775807 then (if (t228 ++ (a1.extract 0 6)).size + 2 ≤ 9223372036854775807 then (if 8 ≤ (a1.size : Int) then (if ((t228 ++ (a1.extract 0 6)) ++ (⟨#[0, 0]⟩ : ByteArray)).size + (a1.extract 8 a1.size).size ≤ 9223372036854775807 then ((checksum_Sum.f k (((t228 ++ (a1.extract 0 6)) ++ (⟨#[0, 0]⟩ : ByteArray)) ++ (a1.extract 8 a1.size))).bind fun t229 => (if t229 = 0 then (some 65535) else (some t229))) else (none)) else (none)) else (none)) else (none)) else (none)) else (none))
theorem udp_ends_sum.mono : ∀ a0 a1 a2 a3 a4 a5 a6 k, LeO (udp_ends_sum.f k a0 a1 a2 a3 a4 a5 a6) (udp_ends_sum.f (k + 1) a0 a1 a2 a3 a4 a5 a6) := by
 intro a0 a1 a2 a3 a4 a5 a6 k
 unfold udp_ends_sum.f
 repeat' first | with_reducible first | apply checksum_Pseudo.mono | apply checksum_Sum.mono | apply LeO.refl | apply LeO.none | refine LeO.ite ?_ ?_ | refine LeO.bind ?_ (fun _ => ?_)
def udp_ends_sum.T1 : Bool × List (List Nat × List Nat) := (true, [([], []), ([0], [0]), ([], []), ([2], [2]), ([], []), ([4], [4]), ([1, 3, 5], [1, 3, 5]), ([], []), ([7], [7]), ([6, 8], [6, 8]), ([9], [9]), ([], []), ([11], [11]), ([10, 12], [10, 12]), ([13, 6], [13]), ([14, 14, 0, 1, 2, 3, 4, 5, 6, 7, 8, 9, 10, 11, 12, 13, 14], [14])])
def udp_ends_sum.B1 : List Nat := [0, 1, 0, 4, 0, 16, 63, 0, 128, 511, 1023, 0, 2048, 8191, 16383, 32767]
theorem udp_ends_sum.tab1 : rtab .any (opsOf Tryd.f92 1) = udp_ends_sum.T1 := by kernel_rfl
theorem udp_ends_sum.bits1 : waitsOk udp_ends_sum.T1.2 udp_ends_sum.B1 = true := by kernel_rfl
set_option maxHeartbeats 8000000 in
set_option maxRecDepth 100000 in
theorem udp_ends_sum.calls (k : Nat) (b0 : Bool) (b1 : Int) (b2 : Int) (b3 : Bool) (b4 : Int) (b5 : Int) (a1 : ByteArray) (r : Int) (w : World) (hLd : Laid w) (h : udp_ends_sum.f k b0 b1 b2 b3 b4 b5 a1 = some r) :
  Calls Tryd.prog 92 #[.agg #[.bool b0, .int .u64 b1, .int .u64 b2, .bool b3, .int .u64 b4, .int .u64 b5], .string a1] w fun e w' => e = .returned (.int .i64 r) ∧ Below w.heap.size w w' := by
 have hu118 := Tryd.underlying118
 have hu24 := Tryd.underlying24
 have HLD := As hLd
 clear hLd
 have HB := As (Below.refl w.heap.size w)
 have H : ((checksum_Pseudo.f k b0 b1 b2 b3 b4 b5 17 (a1.size : Int)).bind fun t228 => (if 0 ≤ 6 then (if 6 ≤ (a1.size : Int) then (if t228.size + (a1.extract 0 6).size ≤ 9223372036854775807 then (if (t228 ++ (a1.extract 0 6)).size + 2 ≤ 9223372036854775807 then (if 8 ≤ (a1.size : Int) then (if ((t228 ++ (a1.extract 0 6)) ++ (⟨#[0, 0]⟩ : ByteArray)).size + (a1.extract 8 a1.size).size ≤ 9223372036854775807 then ((checksum_Sum.f k (((t228 ++ (a1.extract 0 6)) ++ (⟨#[0, 0]⟩ : ByteArray)) ++ (a1.extract 8 a1.size))).bind fun t229 => (if t229 = 0 then (some 65535) else (some t229))) else (none)) else (none)) else (none)) else (none)) else (none)) else (none))) = some r := h
 clear h
 replace H := Option.bind_eq_some_iff.mp H
 obtain ⟨t228, A30, H⟩ := H
 replace H : (if 0 ≤ 6 then (if 6 ≤ (a1.size : Int) then (if t228.size + (a1.extract 0 6).size ≤ 9223372036854775807 then (if (t228 ++ (a1.extract 0 6)).size + 2 ≤ 9223372036854775807 then (if 8 ≤ (a1.size : Int) then (if ((t228 ++ (a1.extract 0 6)) ++ (⟨#[0, 0]⟩ : ByteArray)).size + (a1.extract 8 a1.size).size ≤ 9223372036854775807 then ((checksum_Sum.f k (((t228 ++ (a1.extract 0 6)) ++ (⟨#[0, 0]⟩ : ByteArray)) ++ (a1.extract 8 a1.size))).bind fun t229 => (if t229 = 0 then (some 65535) else (some t229))) else (none)) else (none)) else (none)) else (none)) else (none)) else (none)) = some r := H
 have A3 := As A30
 clear A30
 by_cases c4 : 0 ≤ 6
 ·rw [if_pos c4] at H
  have c4b0 := eq_true c4
  have c4b1 : decide (0 ≤ 6) = true := decide_eq_true c4
  clear c4
  by_cases c5 : 6 ≤ (a1.size : Int)
  ·rw [if_pos c5] at H
   have c5b0 := eq_true c5
   have c5b1 : decide (6 ≤ (a1.size : Int)) = true := decide_eq_true c5
   clear c5
   by_cases c6 : t228.size + (a1.extract 0 6).size ≤ 9223372036854775807
   ·rw [if_pos c6] at H
    have c6b0 := eq_true c6
    have c6b1 : decide (t228.size + (a1.extract 0 6).size ≤ 9223372036854775807) = true := decide_eq_true c6
    (try (have c6s0 : (9223372036854775807 < t228.size + (min 6 a1.size)) = False := by have h_ := c6; simp only [ByteArray.size_append, ByteArray.size_extract] at h_; exact eq_false (by first | omega | (omega))))
    (try (have c6s1 : (9223372036854775807 < t228.size + ((min 6 a1.size))) = False := by have h_ := c6; simp only [ByteArray.size_append, ByteArray.size_extract] at h_; exact eq_false (by first | omega | (omega))))
    (try (have c6s2 : (9223372036854775807 < t228.size + 6) = False := by have h_ := c6; simp only [ByteArray.size_append, ByteArray.size_extract] at h_; exact eq_false (by first | omega | (omega))))
    (try (have c6s3 : (9223372036854775807 < t228.size + (6)) = False := by have h_ := c6; simp only [ByteArray.size_append, ByteArray.size_extract] at h_; exact eq_false (by first | omega | (omega))))
    (try (have c6s4 : (t228.size + (6) ≤ 9223372036854775807) = True := by have h_ := c6; simp only [ByteArray.size_append, Int.natCast_add, Int.toNat_natCast] at h_; first | exact eq_true h_ | exact eq_true (by omega)))
    (try (have c6s5 : decide (t228.size + (6) ≤ 9223372036854775807) = true := by have h_ := c6; first | (simp only [ByteArray.size_append, Int.toNat_natCast] at h_; first | exact beq_iff_eq.mpr h_ | exact beq_eq_false_iff_ne.mpr h_ | exact bne_iff_ne.mpr h_ | exact bne_eq_false_iff_eq.mpr h_ | (rw [beq_iff_eq.mpr h_]; rfl) | (rw [beq_eq_false_iff_ne.mpr h_]; rfl)) | (simp only [ByteArray.size_append, Int.natCast_add, Int.toNat_natCast] at h_ ⊢; first | exact h_ | simpa using h_ | simp [h_] | omega) | (simp only [ByteArray.size_append] at h_; simp at h_ ⊢; omega) | (simp only [ByteArray.size_append, Int.natCast_add, Int.toNat_natCast] at h_; simpa using h_)))
    try have c6b2 : (9223372036854775807 < t228.size + (a1.extract 0 6).size) = False := eq_false (Nat.not_lt.2 c6)
    by_cases c7 : (t228 ++ (a1.extract 0 6)).size + 2 ≤ 9223372036854775807
    ·rw [if_pos c7] at H
     have c7b0 := eq_true c7
     have c7b1 : decide ((t228 ++ (a1.extract 0 6)).size + 2 ≤ 9223372036854775807) = true := decide_eq_true c7
     (try (have c7s0 : (9223372036854775807 < (t228.size + (min 6 a1.size)) + 2) = False := by have h_ := c7; simp only [ByteArray.size_append, ByteArray.size_extract] at h_; exact eq_false (by first | omega | (omega))))
     (try (have c7s1 : (9223372036854775807 < (t228.size + min 6 a1.size) + 2) = False := by have h_ := c7; simp only [ByteArray.size_append, ByteArray.size_extract] at h_; exact eq_false (by first | omega | (omega))))
     (try (have c7s2 : (9223372036854775807 < t228.size + 6 + 2) = False := by have h_ := c7; simp only [ByteArray.size_append, ByteArray.size_extract] at h_; exact eq_false (by first | omega | (omega))))
     (try (have c7s3 : (9223372036854775807 < (t228.size + 6) + 2) = False := by have h_ := c7; simp only [ByteArray.size_append, ByteArray.size_extract] at h_; exact eq_false (by first | omega | (omega))))
     (try (have c7s4 : ((t228.size + 6) + 2 ≤ 9223372036854775807) = True := by have h_ := c7; simp only [ByteArray.size_append, Int.natCast_add, Int.toNat_natCast] at h_; first | exact eq_true h_ | exact eq_true (by omega)))
     (try (have c7s5 : decide ((t228.size + 6) + 2 ≤ 9223372036854775807) = true := by have h_ := c7; first | (simp only [ByteArray.size_append, Int.toNat_natCast] at h_; first | exact beq_iff_eq.mpr h_ | exact beq_eq_false_iff_ne.mpr h_ | exact bne_iff_ne.mpr h_ | exact bne_eq_false_iff_eq.mpr h_ | (rw [beq_iff_eq.mpr h_]; rfl) | (rw [beq_eq_false_iff_ne.mpr h_]; rfl)) | (simp only [ByteArray.size_append, Int.natCast_add, Int.toNat_natCast] at h_ ⊢; first | exact h_ | simpa using h_ | simp [h_] | omega) | (simp only [ByteArray.size_append] at h_; simp at h_ ⊢; omega) | (simp only [ByteArray.size_append, Int.natCast_add, Int.toNat_natCast] at h_; simpa using h_)))
     try have c7b2 : (9223372036854775807 < (t228 ++ (a1.extract 0 6)).size + 2) = False := eq_false (Nat.not_lt.2 c7)
     by_cases c8 : 8 ≤ (a1.size : Int)
     ·rw [if_pos c8] at H
      have c8b0 := eq_true c8
      have c8b1 : decide (8 ≤ (a1.size : Int)) = true := decide_eq_true c8
      clear c8
      by_cases c9 : ((t228 ++ (a1.extract 0 6)) ++ (⟨#[0, 0]⟩ : ByteArray)).size + (a1.extract 8 a1.size).size ≤ 9223372036854775807
      ·rw [if_pos c9] at H
       have c9b0 := eq_true c9
       have c9b1 : decide (((t228 ++ (a1.extract 0 6)) ++ (⟨#[0, 0]⟩ : ByteArray)).size + (a1.extract 8 a1.size).size ≤ 9223372036854775807) = true := decide_eq_true c9
       (try (have c9s0 : (9223372036854775807 < (t228.size + min 6 a1.size + 2) + ((a1.size - 8))) = False := by have h_ := c9; have z0_ : (⟨#[0, 0]⟩ : ByteArray).size = 2 := rfl; simp only [ByteArray.size_append, ByteArray.size_extract] at h_; exact eq_false (by first | omega | (omega))))
       (try (have c9s1 : (9223372036854775807 < (t228.size + (min 6 a1.size) + 2) + ((a1.size - 8))) = False := by have h_ := c9; have z0_ : (⟨#[0, 0]⟩ : ByteArray).size = 2 := rfl; simp only [ByteArray.size_append, ByteArray.size_extract] at h_; exact eq_false (by first | omega | (omega))))
       (try (have c9s2 : (9223372036854775807 < (t228.size + 6 + 2) + ((a1.size - 8))) = False := by have h_ := c9; have z0_ : (⟨#[0, 0]⟩ : ByteArray).size = 2 := rfl; simp only [ByteArray.size_append, ByteArray.size_extract] at h_; exact eq_false (by first | omega | (omega))))
       (try (have c9s3 : ((t228.size + 6 + 2) + ((a1.size - 8)) ≤ 9223372036854775807) = True := by have h_ := c9; simp only [ByteArray.size_append, Int.natCast_add, Int.toNat_natCast] at h_; first | exact eq_true h_ | exact eq_true (by omega)))
       (try (have c9s4 : decide ((t228.size + 6 + 2) + ((a1.size - 8)) ≤ 9223372036854775807) = true := by have h_ := c9; first | (simp only [ByteArray.size_append, Int.toNat_natCast] at h_; first | exact beq_iff_eq.mpr h_ | exact beq_eq_false_iff_ne.mpr h_ | exact bne_iff_ne.mpr h_ | exact bne_eq_false_iff_eq.mpr h_ | (rw [beq_iff_eq.mpr h_]; rfl) | (rw [beq_eq_false_iff_ne.mpr h_]; rfl)) | (simp only [ByteArray.size_append, Int.natCast_add, Int.toNat_natCast] at h_ ⊢; first | exact h_ | simpa using h_ | simp [h_] | omega) | (simp only [ByteArray.size_append] at h_; simp at h_ ⊢; omega) | (simp only [ByteArray.size_append, Int.natCast_add, Int.toNat_natCast] at h_; simpa using h_)))
       try have c9b2 : (9223372036854775807 < ((t228 ++ (a1.extract 0 6)) ++ (⟨#[0, 0]⟩ : ByteArray)).size + (a1.extract 8 a1.size).size) = False := eq_false (Nat.not_lt.2 c9)
       replace H := Option.bind_eq_some_iff.mp H
       obtain ⟨t229, A100, H⟩ := H
       replace H : (if t229 = 0 then (some 65535) else (some t229)) = some r := H
       have A10 := As A100
       clear A100
       by_cases c11 : t229 = 0
       ·rw [if_pos c11] at H
        have c11b0 : (t229 == 0) = true := beq_iff_eq.mpr c11
        have c11b1 : (t229 != 0) = false := bne_eq_false_iff_eq.mpr c11
        clear c11
        obtain rfl := Option.some.inj H
        go_enter Tryd.func92, Tryd.ntmps92
        try go_wp2_with (first | ((with_reducible refine gate_dst (N := 2) rfl ?_); refine box_event rfl (N := 2) rfl (cs := #[.bool b0, .int .u64 b1, .int .u64 b2, .bool b3, .int .u64 b4, .int .u64 b5]) (t := 118) kG ?_; intro gb227 hg w12 hbox hb; have BK227 := As (hbox); have GW227 := As ((by rw [hg]; exact (below_size (kB HB.out)) : w.heap.size ≤ gb227)); have GE227 := As ((by rw [hg]; exact (below_size (kB HB.out)) : w.heap.size ≤ gb227)); replace HB := As (below_step (kB HB.out) hb); clear hb hbox hg))
        replace BK227 := As (blk_drew BK227.out)
        replace HB := As (below_drew1 HB.out)
        refine start_ (n := 16) (S := fun w' => w'.cell? ⟨gb227, 0, none⟩ = some (.bool b0) ∧ w'.cell? ⟨gb227, 1, none⟩ = some (.int .u64 b1) ∧ w'.cell? ⟨gb227, 2, none⟩ = some (.int .u64 b2) ∧ w'.cell? ⟨gb227, 3, none⟩ = some (.bool b3) ∧ w'.cell? ⟨gb227, 4, none⟩ = some (.int .u64 b4) ∧ w'.cell? ⟨gb227, 5, none⟩ = some (.int .u64 b5)) (ds := []) #[O, O, O, O, O, O, O, O, O, O, O, O, O, O, O, O] (by kernel_rfl) rfl rfl ⟨kC BK227.out 0, kC BK227.out 1, kC BK227.out 2, kC BK227.out 3, kC BK227.out 4, kC BK227.out 5⟩ (fun hHeld => ?_); refine with_tabW udp_ends_sum.tab1 udp_ends_sum.bits1 (fun HT_ HW_ => ?_)
        generalize w12.drew = w13 at BK227 HB hHeld ⊢
        refine kP 0 6 #[I, O, O, O, O, O, O, O, O, O, O, O, O, O, O, O] ?_ (any_of HT_.out (by kernel_rfl))
        refine kP 2 8 #[I, O, I, O, O, O, O, O, O, O, O, O, O, O, O, O] ?_ (any_of HT_.out (by kernel_rfl))
        refine kP 4 10 #[I, O, I, O, I, O, O, O, O, O, O, O, O, O, O, O] ?_ (any_of HT_.out (by kernel_rfl))
        refine kP 5 11 #[I, O, I, O, I, I, O, O, O, O, O, O, O, O, O, O] ?_ (any_of HT_.out (by kernel_rfl))
        refine kP 7 13 #[I, O, I, O, I, I, O, I, O, O, O, O, O, O, O, O] ?_ (any_of HT_.out (by kernel_rfl))
        refine kP 8 14 #[I, O, I, O, I, I, O, I, I, O, O, O, O, O, O, O] ?_ (any_of HT_.out (by kernel_rfl))
        refine kP 11 17 #[I, O, I, O, I, I, O, I, I, O, O, I, O, O, O, O] ?_ (any_of HT_.out (by kernel_rfl))
        refine kP 12 18 #[I, O, I, O, I, I, O, I, I, O, O, I, I, O, O, O] ?_ (any_of HT_.out (by kernel_rfl))
        refine take_ (i := 1) (N := some 7) (v := ?_) (a' := ?_) #[I, I, I, O, I, I, O, I, I, O, O, I, I, O, O, O] rfl rfl (take_ofW HT_.out HW_.out (by kernel_rfl)) (fun _ _ _ h => h) (Or.inl ⟨by rfl, ?_⟩) hHeld ?_ ?_
        rotate_left
        ·rintro w' ⟨s0, s1, s2, s3, s4, s5⟩
         go_simp
         with_reducible rfl
        rotate_left
        ·simp only [Act.put, sA, sZ, sS, i64_w, i32_w]
         rfl
        refine take_ (i := 3) (N := some 9) (v := ?_) (a' := ?_) #[I, I, I, I, I, I, O, I, I, O, O, I, I, O, O, O] rfl rfl (take_ofW HT_.out HW_.out (by kernel_rfl)) (fun _ _ _ h => h) (Or.inl ⟨by rfl, ?_⟩) hHeld ?_ ?_
        rotate_left
        ·rintro w' ⟨s0, s1, s2, s3, s4, s5⟩
         go_simp
         with_reducible rfl
        rotate_left
        ·simp only [Act.put, sA, sZ, sS, i64_w, i32_w]
         rfl
        refine one_ (i := 6) (N := some 12) #[I, I, I, I, I, I, I, I, I, O, O, I, I, O, O, O] rfl rfl (one_of HT_.out (by kernel_rfl)) (by decide) (fun K hK => ?_)
        refine goes_ Tryd.func113 (by kernel_rfl) rfl #[.agg #[.bool b0, .int .u64 b1, .int .u64 b2], .agg #[.bool b3, .int .u64 b4, .int .u64 b5], .int .i64 17, .int .i64 (a1.size : Int)] (by rfl) rfl rfl kA ?_
        with_reducible refine (checksum_Pseudo.calls k b0 b1 b2 b3 b4 b5 17 (a1.size : Int) t228 _ ?side1 A3.out).mono ?_
        (case side1 => exact laid_below HLD.out (kB1 HB.out GE227.out))
        rintro e w14 ⟨rfl, hb⟩
        refine ⟨_, rfl, ?_⟩
        replace BK227 := As (blk_below (kb BK227.out) hb)
        replace HB := As (below_step (kB1 HB.out GE227.out) hb)
        (try clear hb)
        (try clear hb2)
        (try clear hk)
        (try clear hi)
        refine hK.out _ _ ⟨kC BK227.out 0, kC BK227.out 1, kC BK227.out 2, kC BK227.out 3, kC BK227.out 4, kC BK227.out 5⟩ (fun hHeld => ?_)
        clear hK K
        refine norm_ (a' := ?_) ?_ ?_
        rotate_left
        ·show Act.put _ (some 12) _ = _
         simp only [Act.put, sA, sZ, sS, i64_w, i32_w]
         rfl
        refine kP 9 15 #[I, I, I, I, I, I, I, I, I, I, O, I, I, O, O, O] ?_ (any_of HT_.out (by kernel_rfl))
        refine kP 10 16 #[I, I, I, I, I, I, I, I, I, I, I, I, I, O, O, O] ?_ (any_of HT_.out (by kernel_rfl))
        refine kP 13 19 #[I, I, I, I, I, I, I, I, I, I, I, I, I, I, O, O] ?_ (any_of HT_.out (by kernel_rfl))
        refine one_ (i := 14) (N := some 20) #[I, I, I, I, I, I, I, I, I, I, I, I, I, I, I, O] rfl rfl (one_of HT_.out (by kernel_rfl)) (by decide) (fun K hK => ?_)
        refine goes_ Tryd.func29 (by kernel_rfl) rfl #[.string (((t228 ++ (a1.extract 0 6)) ++ (⟨#[0, 0]⟩ : ByteArray)) ++ (a1.extract 8 a1.size))] (by rfl) rfl rfl kA ?_
        with_reducible refine (checksum_Sum.calls k (((t228 ++ (a1.extract 0 6)) ++ (⟨#[0, 0]⟩ : ByteArray)) ++ (a1.extract 8 a1.size)) t229 _ A10.out).mono ?_
        rintro e w' ⟨rfl, ⟨nd, rfl⟩⟩
        refine ⟨_, rfl, ?_⟩
        refine hK.out _ _ ⟨kC BK227.out 0, kC BK227.out 1, kC BK227.out 2, kC BK227.out 3, kC BK227.out 4, kC BK227.out 5⟩ (fun hHeld => ?_)
        clear hK K
        refine norm_ (a' := ?_) ?_ ?_
        rotate_left
        ·show Act.put _ (some 20) _ = _
         simp only [Act.put, sA, sZ, sS, i64_w, i32_w]
         rfl
        refine kP 15 5 #[I, I, I, I, I, I, I, I, I, I, I, I, I, I, I, I] ?_ (any_of HT_.out (by kernel_rfl))
        refine done_ (done_of HT_.out (by kernel_rfl)) ?_
        try go_wp2
        go_ret
        exact ⟨kE, by exact kB1 HB.out GE227.out⟩
       rw [if_neg c11] at H
       have c11b0 : (t229 == 0) = false := beq_eq_false_iff_ne.mpr c11
       have c11b1 : (t229 != 0) = true := bne_iff_ne.mpr c11
       obtain rfl := Option.some.inj H
       go_enter Tryd.func92, Tryd.ntmps92
       try go_wp2_with (first | ((with_reducible refine gate_dst (N := 2) rfl ?_); refine box_event rfl (N := 2) rfl (cs := #[.bool b0, .int .u64 b1, .int .u64 b2, .bool b3, .int .u64 b4, .int .u64 b5]) (t := 118) kG ?_; intro gb227 hg w15 hbox hb; have BK227 := As (hbox); have GW227 := As ((by rw [hg]; exact (below_size (kB HB.out)) : w.heap.size ≤ gb227)); have GE227 := As ((by rw [hg]; exact (below_size (kB HB.out)) : w.heap.size ≤ gb227)); replace HB := As (below_step (kB HB.out) hb); clear hb hbox hg))
       replace BK227 := As (blk_drew BK227.out)
       replace HB := As (below_drew1 HB.out)
       refine start_ (n := 16) (S := fun w' => w'.cell? ⟨gb227, 0, none⟩ = some (.bool b0) ∧ w'.cell? ⟨gb227, 1, none⟩ = some (.int .u64 b1) ∧ w'.cell? ⟨gb227, 2, none⟩ = some (.int .u64 b2) ∧ w'.cell? ⟨gb227, 3, none⟩ = some (.bool b3) ∧ w'.cell? ⟨gb227, 4, none⟩ = some (.int .u64 b4) ∧ w'.cell? ⟨gb227, 5, none⟩ = some (.int .u64 b5)) (ds := []) #[O, O, O, O, O, O, O, O, O, O, O, O, O, O, O, O] (by kernel_rfl) rfl rfl ⟨kC BK227.out 0, kC BK227.out 1, kC BK227.out 2, kC BK227.out 3, kC BK227.out 4, kC BK227.out 5⟩ (fun hHeld => ?_); refine with_tabW udp_ends_sum.tab1 udp_ends_sum.bits1 (fun HT_ HW_ => ?_)
       generalize w15.drew = w16 at BK227 HB hHeld ⊢
       refine kP 0 6 #[I, O, O, O, O, O, O, O, O, O, O, O, O, O, O, O] ?_ (any_of HT_.out (by kernel_rfl))
       refine kP 2 8 #[I, O, I, O, O, O, O, O, O, O, O, O, O, O, O, O] ?_ (any_of HT_.out (by kernel_rfl))
       refine kP 4 10 #[I, O, I, O, I, O, O, O, O, O, O, O, O, O, O, O] ?_ (any_of HT_.out (by kernel_rfl))
       refine kP 5 11 #[I, O, I, O, I, I, O, O, O, O, O, O, O, O, O, O] ?_ (any_of HT_.out (by kernel_rfl))
       refine kP 7 13 #[I, O, I, O, I, I, O, I, O, O, O, O, O, O, O, O] ?_ (any_of HT_.out (by kernel_rfl))
       refine kP 8 14 #[I, O, I, O, I, I, O, I, I, O, O, O, O, O, O, O] ?_ (any_of HT_.out (by kernel_rfl))
       refine kP 11 17 #[I, O, I, O, I, I, O, I, I, O, O, I, O, O, O, O] ?_ (any_of HT_.out (by kernel_rfl))
       refine kP 12 18 #[I, O, I, O, I, I, O, I, I, O, O, I, I, O, O, O] ?_ (any_of HT_.out (by kernel_rfl))
       refine take_ (i := 1) (N := some 7) (v := ?_) (a' := ?_) #[I, I, I, O, I, I, O, I, I, O, O, I, I, O, O, O] rfl rfl (take_ofW HT_.out HW_.out (by kernel_rfl)) (fun _ _ _ h => h) (Or.inl ⟨by rfl, ?_⟩) hHeld ?_ ?_
       rotate_left
       ·rintro w' ⟨s0, s1, s2, s3, s4, s5⟩
        go_simp
        with_reducible rfl
       rotate_left
       ·simp only [Act.put, sA, sZ, sS, i64_w, i32_w]
        rfl
       refine take_ (i := 3) (N := some 9) (v := ?_) (a' := ?_) #[I, I, I, I, I, I, O, I, I, O, O, I, I, O, O, O] rfl rfl (take_ofW HT_.out HW_.out (by kernel_rfl)) (fun _ _ _ h => h) (Or.inl ⟨by rfl, ?_⟩) hHeld ?_ ?_
       rotate_left
       ·rintro w' ⟨s0, s1, s2, s3, s4, s5⟩
        go_simp
        with_reducible rfl
       rotate_left
       ·simp only [Act.put, sA, sZ, sS, i64_w, i32_w]
        rfl
       refine one_ (i := 6) (N := some 12) #[I, I, I, I, I, I, I, I, I, O, O, I, I, O, O, O] rfl rfl (one_of HT_.out (by kernel_rfl)) (by decide) (fun K hK => ?_)
       refine goes_ Tryd.func113 (by kernel_rfl) rfl #[.agg #[.bool b0, .int .u64 b1, .int .u64 b2], .agg #[.bool b3, .int .u64 b4, .int .u64 b5], .int .i64 17, .int .i64 (a1.size : Int)] (by rfl) rfl rfl kA ?_
       with_reducible refine (checksum_Pseudo.calls k b0 b1 b2 b3 b4 b5 17 (a1.size : Int) t228 _ ?side1 A3.out).mono ?_
       (case side1 => exact laid_below HLD.out (kB1 HB.out GE227.out))
       rintro e w17 ⟨rfl, hb⟩
       refine ⟨_, rfl, ?_⟩
       replace BK227 := As (blk_below (kb BK227.out) hb)
       replace HB := As (below_step (kB1 HB.out GE227.out) hb)
       (try clear hb)
       (try clear hb2)
       (try clear hk)
       (try clear hi)
       refine hK.out _ _ ⟨kC BK227.out 0, kC BK227.out 1, kC BK227.out 2, kC BK227.out 3, kC BK227.out 4, kC BK227.out 5⟩ (fun hHeld => ?_)
       clear hK K
       refine norm_ (a' := ?_) ?_ ?_
       rotate_left
       ·show Act.put _ (some 12) _ = _
        simp only [Act.put, sA, sZ, sS, i64_w, i32_w]
        rfl
       refine kP 9 15 #[I, I, I, I, I, I, I, I, I, I, O, I, I, O, O, O] ?_ (any_of HT_.out (by kernel_rfl))
       refine kP 10 16 #[I, I, I, I, I, I, I, I, I, I, I, I, I, O, O, O] ?_ (any_of HT_.out (by kernel_rfl))
       refine kP 13 19 #[I, I, I, I, I, I, I, I, I, I, I, I, I, I, O, O] ?_ (any_of HT_.out (by kernel_rfl))
       refine one_ (i := 14) (N := some 20) #[I, I, I, I, I, I, I, I, I, I, I, I, I, I, I, O] rfl rfl (one_of HT_.out (by kernel_rfl)) (by decide) (fun K hK => ?_)
       refine goes_ Tryd.func29 (by kernel_rfl) rfl #[.string (((t228 ++ (a1.extract 0 6)) ++ (⟨#[0, 0]⟩ : ByteArray)) ++ (a1.extract 8 a1.size))] (by rfl) rfl rfl kA ?_
       with_reducible refine (checksum_Sum.calls k (((t228 ++ (a1.extract 0 6)) ++ (⟨#[0, 0]⟩ : ByteArray)) ++ (a1.extract 8 a1.size)) t229 _ A10.out).mono ?_
       rintro e w' ⟨rfl, ⟨nd, rfl⟩⟩
       refine ⟨_, rfl, ?_⟩
       refine hK.out _ _ ⟨kC BK227.out 0, kC BK227.out 1, kC BK227.out 2, kC BK227.out 3, kC BK227.out 4, kC BK227.out 5⟩ (fun hHeld => ?_)
       clear hK K
       refine norm_ (a' := ?_) ?_ ?_
       rotate_left
       ·show Act.put _ (some 20) _ = _
        simp only [Act.put, sA, sZ, sS, i64_w, i32_w]
        rfl
       refine kP 15 5 #[I, I, I, I, I, I, I, I, I, I, I, I, I, I, I, I] ?_ (any_of HT_.out (by kernel_rfl))
       refine done_ (done_of HT_.out (by kernel_rfl)) ?_
       try go_wp2
       go_ret
       exact ⟨kE, by exact kB1 HB.out GE227.out⟩
      rw [if_neg c9] at H
      exact absurd H (by simp)
     rw [if_neg c8] at H
     exact absurd H (by simp)
    rw [if_neg c7] at H
    exact absurd H (by simp)
   rw [if_neg c6] at H
   exact absurd H (by simp)
  rw [if_neg c5] at H
  exact absurd H (by simp)
 rw [if_neg c4] at H
 exact absurd H (by simp)

end Go.Proofs.YtocobalkikkhlaaDoor.X
-- short
