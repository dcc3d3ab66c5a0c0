/- Functions and their walks, printed by xprint.py. -/
import Derived.Test.YtocobalkikkhlaaDoorX0
import Derived.Test.YtocobalkikkhlaaDoorX4
import Derived.Test.YtocobalkikkhlaaDoorX5
import Derived.Test.YtocobalkikkhlaaDoorX6
namespace Go.Proofs.YtocobalkikkhlaaDoor.X
open Go.RowKit Go.Proofs.YtocobalkikkhlaaDoorW.PrintWords Go.Proofs.YtocobalkikkhlaaDoorW.PrintLast Go.Proofs.YtocobalkikkhlaaDoorW.PrintMore
attribute [local go_sem] max2_int min2_int max_two min_two max_three min_three max_four min_four   -- for this text's walks alone
set_option linter.unusedVariables false
set_option linter.unusedSimpArgs false

/-! ### field_Get: function 109 -/
def field_Get.f (k : Nat) (a0 : ByteArray) (a1 : Int) (a2 : Int) : Option (Int × Int) :=
  if a0.size ≤ 9223372036854775807 then (if (a2 < 1 ∨ 7 < a2) ∨ a1 < 0 then some (0, 4) else if (a0.size : Int) < a1 ∨ (a0.size : Int) - a1 < a2 then some (0, 1)
    else (field_number.f k (bytesOf (a0.extract a1.toNat (a1 + a2).toNat))).bind fun t => some (t, 0)) else none
theorem field_Get.mono : ∀ a0 a1 a2 k, LeO (field_Get.f k a0 a1 a2) (field_Get.f (k + 1) a0 a1 a2) := by
  intro a0 a1 a2 k
  unfold field_Get.f
  refine LeO.ite ?_ (LeO.none _)
  refine LeO.ite (LeO.refl _) ?_
  refine LeO.ite (LeO.refl _) ?_
  exact LeO.bind (field_number.mono _ k) (fun _ => LeO.refl _)
theorem field_Get.number_nil : field_number.f 1 [] = some 0 := by decide
set_option maxHeartbeats 8000000 in
set_option maxRecDepth 100000 in
theorem field_Get.calls (k : Nat) (a0 : ByteArray) (a1 : Int) (a2 : Int) (r1 : Int) (r2 : Int) (w : World) (h : field_Get.f k a0 a1 a2 = some (r1, r2)) :
    Calls Tryd.prog 109 #[.string a0, .int .i64 a1, .int .i64 a2] w fun e w' => e = .returned (.tuple #[.int .i64 r1, .int .i64 r2]) ∧ Below w.heap.size w w' := by
  unfold field_Get.f at h
  have hsz : a0.size ≤ 9223372036854775807 := by
    rcases Nat.lt_or_ge 9223372036854775807 a0.size with h' | h'
    · rw [if_neg (by omega)] at h; cases h
    exact h'
  rw [if_pos hsz] at h
  have hs0 : (0 : Int) ≤ (a0.size : Int) := by omega
  by_cases c1 : (a2 < 1 ∨ 7 < a2) ∨ a1 < 0
  · rw [if_pos c1] at h
    simp only [Option.some.injEq, Prod.mk.injEq] at h
    obtain ⟨rfl, rfl⟩ := h
    have HR := fun W => field_part.range a0 a1 a2 W c1
    have HRA := As HR
    clear HR
    by_cases hv : 1 ≤ a2 ∧ a2 ≤ 7
    · have ha : decide (0 ≤ a1) = false := decide_eq_false (by omega)
      have A1 := As (show field_valid.f a2 = some true by unfold field_valid.f; rw [if_pos hv.1]; simp [hv.2])
      clear hv c1
      go_enter Tryd.func109, Tryd.ntmps109
      go_wp2_with (first | (go_at_call 54; (with_reducible refine (field_valid.calls a2 true _ A1.out).mono ?_); rintro e w' ⟨rfl, ⟨nd, rfl⟩⟩) | (go_at_call 118; refine (HRA.out _).mono ?_; rintro e w1 ⟨rfl, hb⟩) | (go_at_call 106; refine (calls_of_args (args' := #[.slice none ([] : List Int).length 0]) rfl (field_number.calls 1 none 0 [] 0 _ (Kd.C_nil _ _) (Nat.zero_le _) field_Get.number_nil)).mono ?_; rintro e w2 ⟨rfl, ⟨nd2, rfl⟩⟩))
      go_ret2
      exact ⟨rfl, pw_below_drewN (below_step (pw_below_drewN (Below.refl _ _) _) hb) _⟩
    have A1 := As (show field_valid.f a2 = some false by unfold field_valid.f; split <;> simp; omega)
    clear hv c1
    go_enter Tryd.func109, Tryd.ntmps109
    go_wp2_with (first | (go_at_call 54; (with_reducible refine (field_valid.calls a2 false _ A1.out).mono ?_); rintro e w' ⟨rfl, ⟨nd, rfl⟩⟩) | (go_at_call 118; refine (HRA.out _).mono ?_; rintro e w1 ⟨rfl, hb⟩) | (go_at_call 106; refine (calls_of_args (args' := #[.slice none ([] : List Int).length 0]) rfl (field_number.calls 1 none 0 [] 0 _ (Kd.C_nil _ _) (Nat.zero_le _) field_Get.number_nil)).mono ?_; rintro e w2 ⟨rfl, ⟨nd2, rfl⟩⟩))
    go_ret2
    exact ⟨rfl, pw_below_drewN (below_step (pw_below_drewN (Below.refl _ _) _) hb) _⟩
  rw [if_neg c1] at h
  have A1 := As (show field_valid.f a2 = some true by unfold field_valid.f; rw [if_pos (by omega)]; simp; omega)
  have ha : decide (0 ≤ a1) = true := decide_eq_true (by omega)
  by_cases c2 : (a0.size : Int) < a1 ∨ (a0.size : Int) - a1 < a2
  · rw [if_pos c2] at h
    simp only [Option.some.injEq, Prod.mk.injEq] at h
    obtain ⟨rfl, rfl⟩ := h
    have HR := fun W => field_part.short a0 a1 a2 W (by omega) (by omega) (by omega) hsz c2
    have HRA := As HR
    clear HR
    by_cases hb : a1 ≤ (a0.size : Int)
    · have hc : decide (a1 ≤ (a0.size : Int)) = true := decide_eq_true hb
      have hd : decide (a2 ≤ (a0.size : Int) - a1) = false := decide_eq_false (by omega)
      have ha1 : 0 ≤ a1 := by omega
      clear c1 c2
      go_enter Tryd.func109, Tryd.ntmps109
      go_wp2_with (first | (go_at_call 54; (with_reducible refine (field_valid.calls a2 true _ A1.out).mono ?_); rintro e w' ⟨rfl, ⟨nd, rfl⟩⟩) | (go_at_call 118; refine (HRA.out _).mono ?_; rintro e w1 ⟨rfl, hb⟩) | (go_at_call 106; refine (calls_of_args (args' := #[.slice none ([] : List Int).length 0]) rfl (field_number.calls 1 none 0 [] 0 _ (Kd.C_nil _ _) (Nat.zero_le _) field_Get.number_nil)).mono ?_; rintro e w2 ⟨rfl, ⟨nd2, rfl⟩⟩))
      go_ret2
      exact ⟨rfl, pw_below_drewN (below_step (pw_below_drewN (Below.refl _ _) _) hb) _⟩
    have hc : decide (a1 ≤ (a0.size : Int)) = false := decide_eq_false hb
    clear c1 c2 hb
    go_enter Tryd.func109, Tryd.ntmps109
    go_wp2_with (first | (go_at_call 54; (with_reducible refine (field_valid.calls a2 true _ A1.out).mono ?_); rintro e w' ⟨rfl, ⟨nd, rfl⟩⟩) | (go_at_call 118; refine (HRA.out _).mono ?_; rintro e w1 ⟨rfl, hb⟩) | (go_at_call 106; refine (calls_of_args (args' := #[.slice none ([] : List Int).length 0]) rfl (field_number.calls 1 none 0 [] 0 _ (Kd.C_nil _ _) (Nat.zero_le _) field_Get.number_nil)).mono ?_; rintro e w2 ⟨rfl, ⟨nd2, rfl⟩⟩))
    go_ret2
    exact ⟨rfl, pw_below_drewN (below_step (pw_below_drewN (Below.refl _ _) _) hb) _⟩
  rw [if_neg c2] at h
  replace h := Option.bind_eq_some_iff.mp h
  obtain ⟨t, A20, h⟩ := h
  simp only [Option.some.injEq, Prod.mk.injEq] at h
  obtain ⟨rfl, rfl⟩ := h
  have A2 := As A20
  clear A20
  have hc : decide (a1 ≤ (a0.size : Int)) = true := decide_eq_true (by omega)
  have hd : decide (a2 ≤ (a0.size : Int) - a1) = true := decide_eq_true (by omega)
  have h1 : 0 ≤ a1 := by omega
  have h2 : a1 ≤ a1 + a2 := by omega
  have h3 : a1 + a2 ≤ (a0.size : Int) := by omega
  have h4 : a1 ≤ (a0.size : Int) := by omega
  have HX := As (show (((a0.extract a1.toNat (a1 + a2).toNat).size : Nat) : Int) = a2 by rw [ByteArray.size_extract]; omega)
  have h5 : 1 ≤ a2 := by omega
  have h6 : a2 ≤ 7 := by omega
  have HW := As (fun W => field_part.whole (a0.extract a1.toNat (a1 + a2).toNat) a2 W (by omega) (by omega) HX.out)
  clear c1 c2
  go_enter Tryd.func109, Tryd.ntmps109
  go_wp2_with (first | (go_at_call 54; (with_reducible refine (field_valid.calls a2 true _ A1.out).mono ?_); rintro e w' ⟨rfl, ⟨nd, rfl⟩⟩) | (go_at_call 118; refine (HW.out _).mono ?_; rintro e w1 ⟨W1, rfl, hb, rfl⟩) | (go_at_call 106; refine (calls_of_args (args' := #[.slice (some ⟨W1.heap.size, 0, none⟩) (bytesOf (a0.extract a1.toNat (a1 + a2).toNat)).length (a0.extract a1.toNat (a1 + a2).toNat).size]) (by rw [bytesOf_length, show (a0.extract a1.toNat (a1 + a2).toNat).size = (a1 + a2).toNat - a1.toNat from by rw [ByteArray.size_extract]; omega]) (field_number.calls k _ _ (bytesOf (a0.extract a1.toNat (a1 + a2).toNat)) t _ (Kd.C_of_reads (d := (0 : Int)) (h1 := fun _ => rfl) (by rw [bytesOf_length]; exact bytes_reads W1 5 _ (by have := HX.out; omega))) (by rw [bytesOf_length]; exact Nat.le_refl _) A2.out)).mono ?_; rintro e w2 ⟨rfl, ⟨nd2, rfl⟩⟩))
  go_ret2
  exact ⟨rfl, pw_below_drewN (bytes_below (below_step (pw_below_drewN (Below.refl _ _) _) hb) (below_size (below_step (pw_below_drewN (Below.refl _ _) _) hb)) 5 _) _⟩

/-! ### tunnel_Inner: function 18 -/
theorem push5 (h : Array Obj) (a b c d e : Obj) : (((((h.push a).push b).push c).push d).push e)[h.size]? = some a ∧ (((((h.push a).push b).push c).push d).push e)[h.size + 1]? = some b ∧ (((((h.push a).push b).push c).push d).push e)[h.size + 2]? = some c ∧
    (((((h.push a).push b).push c).push d).push e)[h.size + 3]? = some d ∧ (((((h.push a).push b).push c).push d).push e)[h.size + 4]? = some e := by
  refine ⟨?_, ?_, ?_, ?_, ?_⟩
  all_goals simp only [Array.getElem?_push, Array.size_push]
  all_goals repeat' split
  all_goals first | rfl | omega | exact absurd trivial (by assumption)
theorem run_func (fn : Fn) (first cap : Array Value) (w : World) : (Instr.makeFunc fn first cap).run Tryd.prog w = .ok (.func fn first cap) w := rfl
def waysRow (g : Nat) : Array Value := #[.int .i64 4, .func (.func 110) #[] #[.pointer (some ⟨g, 0, none⟩), .pointer (some ⟨g + 1, 0, none⟩)], .int .i64 41, .func (.func 110) #[] #[.pointer (some ⟨g + 2, 0, none⟩), .pointer (some ⟨g + 3, 0, none⟩)], .int .i64 47, .func (.func 81) #[] #[], .int .i64 17, .func (.func 82) #[] #[]]
/-- The rows that Inner reads: its argument's, and the tunnels'. -/
def InnerRows (b g : Nat) (D : Array Value) (W : World) : Prop := W.heap[b]? = some (.cells D 30 (0, 0)) ∧ W.heap[g]? = some (.cells #[.int .u8 4] 5 (0, 0)) ∧ W.heap[g + 1]? = some (.cells #[.int .i64 1] 3 (0, 0)) ∧ W.heap[g + 2]? = some (.cells #[.int .u8 6] 5 (0, 0)) ∧ W.heap[g + 3]? = some (.cells #[.int .i64 2] 3 (0, 0)) ∧ W.heap[g + 4]? = some (.cells (waysRow g) 76 (0, 0))
theorem InnerRows.below {b g : Nat} {D : Array Value} {w W : World} (h : InnerRows b g D w) (hb : Below w.heap.size w W) : InnerRows b g D W := ⟨blk_below h.1 hb, blk_below h.2.1 hb, blk_below h.2.2.1 hb, blk_below h.2.2.2.1 hb, blk_below h.2.2.2.2.1 hb, blk_below h.2.2.2.2.2 hb⟩
theorem past_cell {W : World} {a : Go.Addr} {v : Value} (h : W.cell? a = some v) (o : Obj) : (W.alloc o).cell? a = some v := ((below_alloc (Below.refl _ _) o).cell (World.block_lt_of_cell? W a h)).trans h
set_option maxHeartbeats 4000000 in
set_option maxRecDepth 100000 in
theorem ways_any (w : World) : Calls Tryd.prog 43 #[] w fun e w' => ∃ g, e = .returned (.slice (some ⟨g + 4, 0, none⟩) 4 4) ∧ Below w.heap.size w w' ∧
    w'.heap[g]? = some (.cells #[.int .u8 4] 5 (0, 0)) ∧ w'.heap[g + 1]? = some (.cells #[.int .i64 1] 3 (0, 0)) ∧ w'.heap[g + 2]? = some (.cells #[.int .u8 6] 5 (0, 0)) ∧ w'.heap[g + 3]? = some (.cells #[.int .i64 2] 3 (0, 0)) ∧
    w'.heap[g + 4]? = some (.cells (waysRow g) 76 (0, 0)) := by
  have hmf := run_func
  go_enter Tryd.func43, Tryd.ntmps43
  go_wp2
  go_ret
  have h5 := push5 w.heap (.cells #[.int .u8 4] 5) (.cells #[.int .i64 1] 3) (.cells #[.int .u8 6] 5) (.cells #[.int .i64 2] 3) (.cells (waysRow w.heap.size) 76)
  exact ⟨w.heap.size, rfl, below_alloc (below_alloc (below_alloc (below_alloc (below_alloc (Below.refl _ _) _) _) _) _) _, h5.1, h5.2.1, h5.2.2.1, h5.2.2.2.1, h5.2.2.2.2⟩
def plO (v kind : Int) (s : ByteArray) : Option (Int × ByteArray × Int) := if s.toList = ([] : List UInt8) then some (0, (⟨#[]⟩ : ByteArray), 1) else if 0 < (s.size : Int) then (if bt s 0 / 16 = v then some (kind, s, 0) else some (0, (⟨#[]⟩ : ByteArray), 2)) else none
set_option maxHeartbeats 4000000 in
set_option maxRecDepth 100000 in
theorem plain_any (b0 : Bool) (b1 : Int) (b2 : Int) (b3 : Bool) (b4 : Int) (b5 : Int) (b6 : Int) (b7 : Int) (b8 : ByteArray) (v kind : Int) (g h : Nat) (r1 : Int) (r2 : ByteArray) (r3 : Int) (w : World) (hf : plO v kind b8 = some (r1, r2, r3)) (hg : w.heap[g]? = some (.cells #[.int .u8 v] 5 (0, 0))) (hh : w.heap[h]? = some (.cells #[.int .i64 kind] 3 (0, 0))) :
    Calls Tryd.prog 110 #[.agg #[.bool b0, .int .u64 b1, .int .u64 b2, .bool b3, .int .u64 b4, .int .u64 b5, .int .i64 b6, .int .i64 b7, .string b8], .pointer (some ⟨g, 0, none⟩), .pointer (some ⟨h, 0, none⟩)] w fun e w' => e = .returned (.tuple #[.int .i64 r1, .string r2, .int .i64 r3]) ∧ Below w.heap.size w w' := by
  have hu30 := Tryd.underlying30
  have G1 : ∀ o, (w.alloc o).cell? ⟨g, 0, none⟩ = some (.int .u8 v) := past_cell ((blk_cell hg 0).trans rfl)
  have H1 : ∀ o, (w.alloc o).cell? ⟨h, 0, none⟩ = some (.int .i64 kind) := past_cell ((blk_cell hh 0).trans rfl)
  clear hg hh
  unfold plO at hf
  by_cases c4 : b8.toList = ([] : List UInt8)
  · rw [if_pos c4] at hf
    have c4b0 : (b8.toList == ([] : List UInt8)) = true := beq_iff_eq.mpr c4
    have c4b1 : (b8.toList != ([] : List UInt8)) = false := bne_eq_false_iff_eq.mpr c4
    simp only [Option.some.injEq, Prod.mk.injEq] at hf
    obtain ⟨rfl, rfl, rfl⟩ := hf
    clear c4
    go_enter Tryd.func110, Tryd.ntmps110
    go_wp2
    go_ret3
    exact ⟨rfl, below_alloc (Below.refl _ _) _⟩
  rw [if_neg c4] at hf
  have c4b0 : (b8.toList == ([] : List UInt8)) = false := beq_eq_false_iff_ne.mpr c4
  have c4b1 : (b8.toList != ([] : List UInt8)) = true := bne_iff_ne.mpr c4
  by_cases hp : 0 < (b8.size : Int)
  · rw [if_pos hp] at hf
    have qz : 0 < b8.size := by omega
    have hx6 : ∀ h : 0 < b8.size, ((b8[0]'h).toNat : Int) = bt b8 0 := bt_at b8 0
    have qi6 : (0 < (b8.size : Int)) = True := eq_true hp
    have q6 := eq_true qz
    by_cases c7 : bt b8 0 / 16 = v
    · rw [if_pos c7] at hf
      have c7b0 : (bt b8 0 / 16 == v) = true := beq_iff_eq.mpr c7
      have c7b1 : (bt b8 0 / 16 != v) = false := bne_eq_false_iff_eq.mpr c7
      simp only [Option.some.injEq, Prod.mk.injEq] at hf
      obtain ⟨rfl, rfl, rfl⟩ := hf
      clear c4 c7 hp qz
      go_enter Tryd.func110, Tryd.ntmps110
      go_wp2
      go_region
      all_goals (try go_wp2)
      all_goals go_region
      all_goals (try go_wp2)
      all_goals go_ret3
      all_goals exact ⟨rfl, below_drew1 (below_drew1 (below_alloc (Below.refl _ _) _))⟩
    rw [if_neg c7] at hf
    have c7b0 : (bt b8 0 / 16 == v) = false := beq_eq_false_iff_ne.mpr c7
    have c7b1 : (bt b8 0 / 16 != v) = true := bne_iff_ne.mpr c7
    simp only [Option.some.injEq, Prod.mk.injEq] at hf
    obtain ⟨rfl, rfl, rfl⟩ := hf
    clear c4 c7 hp qz
    go_enter Tryd.func110, Tryd.ntmps110
    go_wp2
    go_region
    all_goals (try go_wp2)
    all_goals go_ret3
    all_goals exact ⟨rfl, below_drew1 (below_alloc (Below.refl _ _) _)⟩
  rw [if_neg hp] at hf
  cases hf
theorem inner_old (b6 : Int) (b8 : ByteArray) (g : Option (Int × ByteArray × Int)) (r : Int × ByteArray × Int) (h : (if (4 : Int) = b6 then plO 4 1 b8 else if (41 : Int) = b6 then plO 6 2 b8 else if (47 : Int) = b6 then g else none) = some r) : (if (4 : Int) = b6 then plO 4 1 b8 else if (41 : Int) = b6 then plO 6 2 b8 else if (47 : Int) = b6 then g else if (17 : Int) = b6 then none else some (0, (⟨#[]⟩ : ByteArray), 0)) = some r := by
  by_cases c : (4 : Int) = b6
  · rw [if_pos c] at h ⊢
    exact h
  rw [if_neg c] at h ⊢
  by_cases c : (41 : Int) = b6
  · rw [if_pos c] at h ⊢
    exact h
  rw [if_neg c] at h ⊢
  by_cases c : (47 : Int) = b6
  · rw [if_pos c] at h ⊢
    exact h
  rw [if_neg c] at h
  cases h
def tunnel_Inner.f (k : Nat) (b0 : Bool) (b1 : Int) (b2 : Int) (b3 : Bool) (b4 : Int) (b5 : Int) (b6 : Int) (b7 : Int) (b8 : ByteArray) : Option (Int × ByteArray × Int) := if (4 : Int) = b6 then plO 4 1 b8 else if (41 : Int) = b6 then plO 6 2 b8 else if (47 : Int) = b6 then tunnel_gre.f k b0 b1 b2 b3 b4 b5 b6 b7 b8 else none
theorem tunnel_Inner.mono : ∀ b0 b1 b2 b3 b4 b5 b6 b7 b8 k, LeO (tunnel_Inner.f k b0 b1 b2 b3 b4 b5 b6 b7 b8) (tunnel_Inner.f (k + 1) b0 b1 b2 b3 b4 b5 b6 b7 b8) := by
  intro b0 b1 b2 b3 b4 b5 b6 b7 b8 k
  unfold tunnel_Inner.f
  exact LeO.ite (LeO.refl _) (LeO.ite (LeO.refl _) (LeO.ite (tunnel_gre.mono b0 b1 b2 b3 b4 b5 b6 b7 b8 k) (LeO.refl _)))
set_option maxHeartbeats 8000000 in
set_option maxRecDepth 100000 in
theorem tunnel_Inner.calls (k : Nat) (b0 : Bool) (b1 : Int) (b2 : Int) (b3 : Bool) (b4 : Int) (b5 : Int) (b6 : Int) (b7 : Int) (b8 : ByteArray) (r1 : Int) (r2 : ByteArray) (r3 : Int) (w : World) (hLd : Laid w) (h : tunnel_Inner.f k b0 b1 b2 b3 b4 b5 b6 b7 b8 = some (r1, r2, r3)) :
    Calls Tryd.prog 18 #[.agg #[.bool b0, .int .u64 b1, .int .u64 b2, .bool b3, .int .u64 b4, .int .u64 b5, .int .i64 b6, .int .i64 b7, .string b8]] w fun e w' => e = .returned (.tuple #[.int .i64 r1, .string r2, .int .i64 r3]) ∧ Below w.heap.size w w' := by
  have hu30 := Tryd.underlying30
  have H := As h
  have HLD := As hLd
  clear h hLd
  have HB := As (Below.refl w.heap.size w)
  unfold tunnel_Inner.f at H
  replace H := As (inner_old _ b8 _ _ H.out)
  go_enter Tryd.func18, Tryd.ntmps18
  go_wp2_with (first | ((with_reducible refine gate_dst (N := 1) rfl ?_); refine box_event rfl (N := 1) rfl (cs := #[.bool b0, .int .u64 b1, .int .u64 b2, .bool b3, .int .u64 b4, .int .u64 b5, .int .i64 b6, .int .i64 b7, .string b8]) (t := 30) kG ?_; intro b hgb w0 hbox hb0; have HB0 := As (below_step HB.out hb0); have BK := As hbox; have GE := As (show w.heap.size ≤ b by rw [hgb]; exact Nat.le_refl _); clear hgb hb0 hbox) | (go_at_call 43; refine (ways_any _).mono ?_; rintro e w1 ⟨g, rfl, hb, k0, k1, k2, k3, k4⟩; have HB1 := As (below_step HB0.out hb); have HR := As (show InnerRows b g #[.bool b0, .int .u64 b1, .int .u64 b2, .bool b3, .int .u64 b4, .int .u64 b5, .int .i64 b6, .int .i64 b7, .string b8] w1 from ⟨blk_below BK.out hb, k0, k1, k2, k3, k4⟩); clear hb k0 k1 k2 k3 k4))
  clear HB HB0 BK
  go_loopg [9] 4 (fun kq v9 w' => ∃ i : Int, v9 = .int .i64 i ∧ Aside0 (0 ≤ i ∧ i + kq = 4) ∧ Aside0 ((0 < i → (4 : Int) ≠ b6) ∧ (1 < i → (41 : Int) ≠ b6) ∧ (2 < i → (47 : Int) ≠ b6) ∧ (3 < i → (17 : Int) ≠ b6)) ∧ Aside0 (InnerRows b g #[.bool b0, .int .u64 b1, .int .u64 b2, .bool b3, .int .u64 b4, .int .u64 b5, .int .i64 b6, .int .i64 b7, .string b8] w') ∧ Aside0 (Below w.heap.size w w'))
  case atStart => exact ⟨0, rfl, ⟨by omega⟩, ⟨by omega, by omega, by omega, by omega⟩, HR, HB1⟩
  clear HB1 HR
  obtain ⟨i, rfl, HK, HN, HR, HB⟩ := hrel
  have D0 : ∀ o, (wr.alloc o).cell? ⟨b, 0, none⟩ = some (.bool b0) := past_cell ((blk_cell HR.out.1 0).trans rfl)
  have D1 : ∀ o, (wr.alloc o).cell? ⟨b, 1, none⟩ = some (.int .u64 b1) := past_cell ((blk_cell HR.out.1 1).trans rfl)
  have D2 : ∀ o, (wr.alloc o).cell? ⟨b, 2, none⟩ = some (.int .u64 b2) := past_cell ((blk_cell HR.out.1 2).trans rfl)
  have D3 : ∀ o, (wr.alloc o).cell? ⟨b, 3, none⟩ = some (.bool b3) := past_cell ((blk_cell HR.out.1 3).trans rfl)
  have D4 : ∀ o, (wr.alloc o).cell? ⟨b, 4, none⟩ = some (.int .u64 b4) := past_cell ((blk_cell HR.out.1 4).trans rfl)
  have D5 : ∀ o, (wr.alloc o).cell? ⟨b, 5, none⟩ = some (.int .u64 b5) := past_cell ((blk_cell HR.out.1 5).trans rfl)
  have D6 : ∀ o, (wr.alloc o).cell? ⟨b, 6, none⟩ = some (.int .i64 b6) := past_cell ((blk_cell HR.out.1 6).trans rfl)
  have D7 : ∀ o, (wr.alloc o).cell? ⟨b, 7, none⟩ = some (.int .i64 b7) := past_cell ((blk_cell HR.out.1 7).trans rfl)
  have D8 : ∀ o, (wr.alloc o).cell? ⟨b, 8, none⟩ = some (.string b8) := past_cell ((blk_cell HR.out.1 8).trans rfl)
  rcases (show i = 0 ∨ i = 1 ∨ i = 2 ∨ i = 3 ∨ i = 4 by have := HK.out; omega) with rfl | rfl | rfl | rfl | rfl
  · have x0 : wr.cell? ⟨g + 4, 0, none⟩ = some (.int .i64 4) := (blk_cell HR.out.2.2.2.2.2 0).trans rfl
    have x1 : wr.cell? ⟨g + 4, 1, none⟩ = some (.func (.func 110) #[] #[.pointer (some ⟨g, 0, none⟩), .pointer (some ⟨g + 1, 0, none⟩)]) := (blk_cell HR.out.2.2.2.2.2 1).trans rfl
    by_cases c : (4 : Int) = b6
    · have cb0 : ((4 : Int) == b6) = true := beq_iff_eq.mpr c
      have H1 : plO 4 1 b8 = some (r1, r2, r3) := by have q_ := H.out; rw [if_pos c] at q_; exact q_
      clear c
      go_wp2_with (first | (go_at_call 110; refine (plain_any b0 b1 b2 b3 b4 b5 b6 b7 b8 4 1 g (g + 1) r1 r2 r3 _ H1 (kb HR.out.2.1) (kb HR.out.2.2.1)).mono ?_; rintro e w2 ⟨rfl, hb⟩))
      all_goals (try go_wp2)
      all_goals go_ret3
      all_goals exact ⟨rfl, by repeat (first | exact below_step (kB HB.out) hb | apply below_drew1)⟩
    have cb0 : ((4 : Int) == b6) = false := beq_eq_false_iff_ne.mpr c
    go_wp2
    go_roundg (gk - 1)
    case measure => have := HK.out; omega
    case rel => exact ⟨1, by first | rfl | (simp; done), ⟨by have := HK.out; omega⟩, ⟨fun _ => c, fun h_ => absurd h_ (by omega), fun h_ => absurd h_ (by omega), fun h_ => absurd h_ (by omega)⟩, ⟨HR.out.below (kB (Below.refl wr.heap.size wr))⟩, ⟨kB HB.out⟩⟩
  · have x0 : wr.cell? ⟨g + 4, 2, none⟩ = some (.int .i64 41) := (blk_cell HR.out.2.2.2.2.2 2).trans rfl
    have x1 : wr.cell? ⟨g + 4, 3, none⟩ = some (.func (.func 110) #[] #[.pointer (some ⟨g + 2, 0, none⟩), .pointer (some ⟨g + 3, 0, none⟩)]) := (blk_cell HR.out.2.2.2.2.2 3).trans rfl
    by_cases c : (41 : Int) = b6
    · have cb0 : ((41 : Int) == b6) = true := beq_iff_eq.mpr c
      have H1 : plO 6 2 b8 = some (r1, r2, r3) := by have q_ := H.out; rw [if_neg (HN.out.1 (by omega)), if_pos c] at q_; exact q_
      clear c
      go_wp2_with (first | (go_at_call 110; refine (plain_any b0 b1 b2 b3 b4 b5 b6 b7 b8 6 2 (g + 2) (g + 3) r1 r2 r3 _ H1 (kb HR.out.2.2.2.1) (kb HR.out.2.2.2.2.1)).mono ?_; rintro e w2 ⟨rfl, hb⟩))
      all_goals (try go_wp2)
      all_goals go_ret3
      all_goals exact ⟨rfl, by repeat (first | exact below_step (kB HB.out) hb | apply below_drew1)⟩
    have cb0 : ((41 : Int) == b6) = false := beq_eq_false_iff_ne.mpr c
    go_wp2
    go_roundg (gk - 1)
    case measure => have := HK.out; omega
    case rel => exact ⟨2, by first | rfl | (simp; done), ⟨by have := HK.out; omega⟩, ⟨fun _ => HN.out.1 (by omega), fun _ => c, fun h_ => absurd h_ (by omega), fun h_ => absurd h_ (by omega)⟩, ⟨HR.out.below (kB (Below.refl wr.heap.size wr))⟩, ⟨kB HB.out⟩⟩
  · have x0 : wr.cell? ⟨g + 4, 4, none⟩ = some (.int .i64 47) := (blk_cell HR.out.2.2.2.2.2 4).trans rfl
    have x1 : wr.cell? ⟨g + 4, 5, none⟩ = some (.func (.func 81) #[] #[]) := (blk_cell HR.out.2.2.2.2.2 5).trans rfl
    by_cases c : (47 : Int) = b6
    · have cb0 : ((47 : Int) == b6) = true := beq_iff_eq.mpr c
      have H1 : tunnel_gre.f k b0 b1 b2 b3 b4 b5 b6 b7 b8 = some (r1, r2, r3) := by have q_ := H.out; rw [if_neg (HN.out.1 (by omega)), if_neg (HN.out.2.1 (by omega)), if_pos c] at q_; exact q_
      clear c
      go_wp2_with (first | (go_at_call 81; refine (tunnel_gre.calls k b0 b1 b2 b3 b4 b5 b6 b7 b8 r1 r2 r3 _ H1).mono ?_; rintro e w2 ⟨rfl, hb⟩))
      all_goals (try go_wp2)
      all_goals go_ret3
      all_goals exact ⟨rfl, by repeat (first | exact below_step (kB HB.out) hb | apply below_drew1)⟩
    have cb0 : ((47 : Int) == b6) = false := beq_eq_false_iff_ne.mpr c
    go_wp2
    go_roundg (gk - 1)
    case measure => have := HK.out; omega
    case rel => exact ⟨3, by first | rfl | (simp; done), ⟨by have := HK.out; omega⟩, ⟨fun _ => HN.out.1 (by omega), fun _ => HN.out.2.1 (by omega), fun _ => c, fun h_ => absurd h_ (by omega)⟩, ⟨HR.out.below (kB (Below.refl wr.heap.size wr))⟩, ⟨kB HB.out⟩⟩
  · have x0 : wr.cell? ⟨g + 4, 6, none⟩ = some (.int .i64 17) := (blk_cell HR.out.2.2.2.2.2 6).trans rfl
    have x1 : wr.cell? ⟨g + 4, 7, none⟩ = some (.func (.func 82) #[] #[]) := (blk_cell HR.out.2.2.2.2.2 7).trans rfl
    by_cases c : (17 : Int) = b6
    · have H1 : (none : Option (Int × ByteArray × Int)) = some (r1, r2, r3) := by have q_ := H.out; rw [if_neg (HN.out.1 (by omega)), if_neg (HN.out.2.1 (by omega)), if_neg (HN.out.2.2.1 (by omega)), if_pos c] at q_; exact q_
      cases H1
    have cb0 : ((17 : Int) == b6) = false := beq_eq_false_iff_ne.mpr c
    go_wp2
    go_roundg (gk - 1)
    case measure => have := HK.out; omega
    case rel => exact ⟨4, by first | rfl | (simp; done), ⟨by have := HK.out; omega⟩, ⟨fun _ => HN.out.1 (by omega), fun _ => HN.out.2.1 (by omega), fun _ => HN.out.2.2.1 (by omega), fun _ => c⟩, ⟨HR.out.below (kB (Below.refl wr.heap.size wr))⟩, ⟨kB HB.out⟩⟩
  have H1 : some ((0 : Int), (⟨#[]⟩ : ByteArray), (0 : Int)) = some (r1, r2, r3) := by have q_ := H.out; rw [if_neg (HN.out.1 (by omega)), if_neg (HN.out.2.1 (by omega)), if_neg (HN.out.2.2.1 (by omega)), if_neg (HN.out.2.2.2 (by omega))] at q_; exact q_
  simp only [Option.some.injEq, Prod.mk.injEq] at H1
  obtain ⟨rfl, rfl, rfl⟩ := H1
  go_wp2
  go_ret3
  exact ⟨rfl, kB HB.out⟩

/-! ### intrusionlaw17_awake: function 11 -/
def intrusionlaw17_awake.f (k : Nat)  : Option (Bool) := (tunnel_Inner.f k false 0 167772161 false 0 167772161 47 0 (⟨#[0, 0, 8, 0, 69]⟩ : ByteArray)).bind fun bt215 => ((tunnel_WrapGre.f k false 0 167772161 false 0 167772161 3 (⟨#[120, 121]⟩ : ByteArray) 1 false).bind fun bt218 => ((tunnel_WrapGre.f k false 0 167772161 false 0 167772161 3 (⟨#[120, 121]⟩ : ByteArray) 1 true).bind fun bt229 => (if bt215.2.2 = 0 then (if bt218.2.2.2.2.2.2.2.2.2 = 0 then (if bt229.2.2.2.2.2.2.2.2.2 = 0 then (if (bt218.2.2.2.2.2.2.2.2.1.size : Int) < 4 then (none) else (if (bt229.2.2.2.2.2.2.2.2.1.size : Int) < 4 then (none) else ((tunnel_Inner.f k bt229.1 bt229.2.1 bt229.2.2.1 bt229.2.2.2.1 bt229.2.2.2.2.1 bt229.2.2.2.2.2.1 bt229.2.2.2.2.2.2.1 bt229.2.2.2.2.2.2.2.1 bt229.2.2.2.2.2.2.2.2.1).bind fun bt240 => (if bt215.1 = 1 then (if bt215.2.1.toList = ([69] : List UInt8) then (if 0 ≤ 4 then (if 4 ≤ (bt218.2.2.2.2.2.2.2.2.1.size : Int) then (if (bt218.2.2.2.2.2.2.2.2.1.extract 0 4).toList = ([32, 0, 101, 88] : List UInt8) then (if 4 ≤ (bt229.2.2.2.2.2.2.2.2.1.size : Int) then (if (bt229.2.2.2.2.2.2.2.2.1.extract 0 4).toList = ([160, 0, 101, 88] : List UInt8) then (if bt240.1 = 3 then (if bt240.2.1.toList = ([120, 121] : List UInt8) then (if bt240.2.2 = 0 then (some (bt218.2.2.2.2.2.2.2.1 == 64)) else (none)) else (none)) else (none)) else (none)) else (none)) else (none)) else (none)) else (none)) else (none)) else (none))))) else (none)) else (none)) else (none))))
theorem intrusionlaw17_awake.mono : ∀ k, LeO (intrusionlaw17_awake.f k ) (intrusionlaw17_awake.f (k + 1) ) := by
 intro  k
 unfold intrusionlaw17_awake.f
 repeat' first | with_reducible first | apply tunnel_Inner.mono | apply tunnel_WrapGre.mono | apply LeO.refl | apply LeO.none | refine LeO.ite ?_ ?_ | refine LeO.bind ?_ (fun _ => ?_)
set_option maxHeartbeats 8000000 in
set_option maxRecDepth 100000 in
theorem intrusionlaw17_awake.calls (k : Nat)  (r : Bool) (w : World) (hLd : Laid w) (h : intrusionlaw17_awake.f k  = some r) :
  Calls Tryd.prog 11 #[] w fun e w' => e = .returned (.bool r) ∧ Below w.heap.size w w' := by
 have hu24 := Tryd.underlying24
 have hu30 := Tryd.underlying30
 have HLD := As hLd
 clear hLd
 have HB := As (Below.refl w.heap.size w)
 have H : ((tunnel_Inner.f k false 0 167772161 false 0 167772161 47 0 (⟨#[0, 0, 8, 0, 69]⟩ : ByteArray)).bind fun bt215 => ((tunnel_WrapGre.f k false 0 167772161 false 0 167772161 3 (⟨#[120, 121]⟩ : ByteArray) 1 false).bind fun bt218 => ((tunnel_WrapGre.f k false 0 167772161 false 0 167772161 3 (⟨#[120, 121]⟩ : ByteArray) 1 true).bind fun bt229 => (if bt215.2.2 = 0 then (if bt218.2.2.2.2.2.2.2.2.2 = 0 then (if bt229.2.2.2.2.2.2.2.2.2 = 0 then (if (bt218.2.2.2.2.2.2.2.2.1.size : Int) < 4 then (none) else (if (bt229.2.2.2.2.2.2.2.2.1.size : Int) < 4 then (none) else ((tunnel_Inner.f k bt229.1 bt229.2.1 bt229.2.2.1 bt229.2.2.2.1 bt229.2.2.2.2.1 bt229.2.2.2.2.2.1 bt229.2.2.2.2.2.2.1 bt229.2.2.2.2.2.2.2.1 bt229.2.2.2.2.2.2.2.2.1).bind fun bt240 => (if bt215.1 = 1 then (if bt215.2.1.toList = ([69] : List UInt8) then (if 0 ≤ 4 then (if 4 ≤ (bt218.2.2.2.2.2.2.2.2.1.size : Int) then (if (bt218.2.2.2.2.2.2.2.2.1.extract 0 4).toList = ([32, 0, 101, 88] : List UInt8) then (if 4 ≤ (bt229.2.2.2.2.2.2.2.2.1.size : Int) then (if (bt229.2.2.2.2.2.2.2.2.1.extract 0 4).toList = ([160, 0, 101, 88] : List UInt8) then (if bt240.1 = 3 then (if bt240.2.1.toList = ([120, 121] : List UInt8) then (if bt240.2.2 = 0 then (some (bt218.2.2.2.2.2.2.2.1 == 64)) else (none)) else (none)) else (none)) else (none)) else (none)) else (none)) else (none)) else (none)) else (none)) else (none))))) else (none)) else (none)) else (none))))) = some r := h
 clear h
 replace H := bS H
 obtain ⟨⟨t215, t216, t217⟩, A1, H⟩ := H
 try dsimp -simprocs only at H
 replace H := bS H
 obtain ⟨⟨t218, t219, t220, t221, t222, t223, t224, t225, t226, t227⟩, A2, H⟩ := H
 try dsimp -simprocs only at H
 replace H := bS H
 obtain ⟨⟨t229, t230, t231, t232, t233, t234, t235, t236, t237, t238⟩, A3, H⟩ := H
 try dsimp -simprocs only at H
 replace H := iS H
 obtain ⟨c4, H⟩ := H
 have c4b0 : (t217 == 0) = true := beq_iff_eq.mpr c4
 have c4b1 : (t217 != 0) = false := bne_eq_false_iff_eq.mpr c4
 clear c4
 replace H := iS H
 obtain ⟨c5, H⟩ := H
 have c5b0 : (t227 == 0) = true := beq_iff_eq.mpr c5
 have c5b1 : (t227 != 0) = false := bne_eq_false_iff_eq.mpr c5
 clear c5
 replace H := iS H
 obtain ⟨c6, H⟩ := H
 have c6b0 : (t238 == 0) = true := beq_iff_eq.mpr c6
 have c6b1 : (t238 != 0) = false := bne_eq_false_iff_eq.mpr c6
 clear c6
 by_cases c7 : (t226.size : Int) < 4
 ·rw [if_pos c7] at H
  exact absurd H (by simp)
 rw [if_neg c7] at H
 have c7b0 : decide ((t226.size : Int) < 4) = false := decide_eq_false c7
 have c7b1 : decide (t226.size < 4) = false := decide_eq_false (by omega)
 clear c7
 by_cases c8 : (t237.size : Int) < 4
 ·rw [if_pos c8] at H
  exact absurd H (by simp)
 rw [if_neg c8] at H
 have c8b0 : decide ((t237.size : Int) < 4) = false := decide_eq_false c8
 have c8b1 : decide (t237.size < 4) = false := decide_eq_false (by omega)
 clear c8
 replace H := bS H
 obtain ⟨⟨t240, t241, t242⟩, A9, H⟩ := H
 try dsimp -simprocs only at H
 replace H := iS H
 obtain ⟨c10, H⟩ := H
 have c10b0 : (t215 == 1) = true := beq_iff_eq.mpr c10
 have c10b1 : (t215 != 1) = false := bne_eq_false_iff_eq.mpr c10
 clear c10
 replace H := iS H
 obtain ⟨c11, H⟩ := H
 have c11b0 : (t216.toList == ([69] : List UInt8)) = true := beq_iff_eq.mpr c11
 have c11b1 : (t216.toList != ([69] : List UInt8)) = false := bne_eq_false_iff_eq.mpr c11
 clear c11
 replace H := iS H
 obtain ⟨c12, H⟩ := H
 have c12b0 := eq_true c12
 have c12b1 := decide_eq_true c12
 clear c12
 replace H := iS H
 obtain ⟨c13, H⟩ := H
 have c13b0 := eq_true c13
 have c13b1 := decide_eq_true c13
 clear c13
 replace H := iS H
 obtain ⟨c14, H⟩ := H
 have c14b0 : ((t226.extract 0 4).toList == ([32, 0, 101, 88] : List UInt8)) = true := beq_iff_eq.mpr c14
 have c14b1 : ((t226.extract 0 4).toList != ([32, 0, 101, 88] : List UInt8)) = false := bne_eq_false_iff_eq.mpr c14
 clear c14
 have c15b0 := eq_true (of_decide_eq_true (by first | (with_reducible assumption) | assumption) : 0 ≤ 4)
 replace H := iS H
 obtain ⟨c16, H⟩ := H
 have c16b0 := eq_true c16
 have c16b1 := decide_eq_true c16
 clear c16
 replace H := iS H
 obtain ⟨c17, H⟩ := H
 have c17b0 : ((t237.extract 0 4).toList == ([160, 0, 101, 88] : List UInt8)) = true := beq_iff_eq.mpr c17
 have c17b1 : ((t237.extract 0 4).toList != ([160, 0, 101, 88] : List UInt8)) = false := bne_eq_false_iff_eq.mpr c17
 clear c17
 replace H := iS H
 obtain ⟨c18, H⟩ := H
 have c18b0 : (t240 == 3) = true := beq_iff_eq.mpr c18
 have c18b1 : (t240 != 3) = false := bne_eq_false_iff_eq.mpr c18
 clear c18
 replace H := iS H
 obtain ⟨c19, H⟩ := H
 have c19b0 : (t241.toList == ([120, 121] : List UInt8)) = true := beq_iff_eq.mpr c19
 have c19b1 : (t241.toList != ([120, 121] : List UInt8)) = false := bne_eq_false_iff_eq.mpr c19
 clear c19
 replace H := iS H
 obtain ⟨c20, H⟩ := H
 have c20b0 : (t242 == 0) = true := beq_iff_eq.mpr c20
 have c20b1 : (t242 != 0) = false := bne_eq_false_iff_eq.mpr c20
 clear c20
 obtain rfl := Option.some.inj H
 go_enter Tryd.func11, Tryd.ntmps11
 go_wp2_with (first | ((with_reducible refine gate_dst (N := 1) rfl ?_); (try (refine gate_guard (by rfl) ?_; dsimp only)); refine box_event rfl (N := 1) rfl (cs := #[.bool false, .int .u64 0, .int .u64 0]) (t := 24) kG ?_; intro gb214 hg w21 hbox hb; have BK214 := As (hbox); have GW214 := As (gS hg (below_size (kB HB.out))); have GE214 := As (gS hg (below_size (kB HB.out))); replace HB := As (below_step (kB HB.out) hb); clear hb hbox hg; have hcz22_0 := cells_3 BK214.out; have hfz22_0 := fun j_ => blk_frozen BK214.out j_) | ((with_reducible refine gate_callee (f := 18) rfl ?_); refine goesL_ (some 17) rfl rfl Tryd.func18 (by kernel_rfl) rfl #[.agg #[.bool false, .int .u64 0, .int .u64 167772161, .bool false, .int .u64 0, .int .u64 167772161, .int .i64 47, .int .i64 0, .string (⟨#[0, 0, 8, 0, 69]⟩ : ByteArray)]] rfl kA ?_; (with_reducible refine (tunnel_Inner.calls k false 0 167772161 false 0 167772161 47 0 (⟨#[0, 0, 8, 0, 69]⟩ : ByteArray) t215 t216 t217 _ ?side1 A1.out).mono ?_); (case side1 => exact laid_below HLD.out (kB1 HB.out GE214.out)); rintro e w23 ⟨rfl, hb⟩; refine ⟨_, rfl, ?_⟩; replace BK214 := As (blk_below (g := gb214) (o := .cells #[.bool false, .int .u64 0, .int .u64 167772161] 24 (0, 0)) (by refine kb ?_; exact blk_all_3 (kb BK214.out) (by rfl)) hb); replace HB := As (below_step (kB1 HB.out GE214.out) hb); (try clear hb); have hcz24_0 := cells_3 BK214.out; have hfz24_0 := fun j_ => blk_frozen BK214.out j_) | ((with_reducible refine gate_callee (f := 12) rfl ?_); refine goesL_ (some 24) rfl rfl Tryd.func12 (by kernel_rfl) rfl #[.agg #[.bool false, .int .u64 0, .int .u64 167772161], .agg #[.bool false, .int .u64 0, .int .u64 167772161], .int .i64 3, .string (⟨#[120, 121]⟩ : ByteArray), .int .u32 1, .bool false] rfl kA ?_; (with_reducible refine (tunnel_WrapGre.calls k false 0 167772161 false 0 167772161 3 (⟨#[120, 121]⟩ : ByteArray) 1 false t218 t219 t220 t221 t222 t223 t224 t225 t226 t227 _ A2.out).mono ?_); rintro e w25 ⟨rfl, hb⟩; refine ⟨_, rfl, ?_⟩; replace BK214 := As (blk_below (kb BK214.out) hb); replace HB := As (below_step (kB1 HB.out GE214.out) hb); (try clear hb)) | ((with_reducible refine gate_dst (N := 5) rfl ?_); (try (refine gate_guard (by rfl) ?_; dsimp only)); refine box_event rfl (N := 5) rfl (cs := #[.bool false, .int .u64 0, .int .u64 0, .bool false, .int .u64 0, .int .u64 0, .int .i64 0, .int .i64 0, .string (⟨#[]⟩ : ByteArray)]) (t := 30) kG ?_; intro gb228 hg w26 hbox hb; have BK228 := As (hbox); have GW228 := As (gS hg (below_size (kB1 HB.out GE214.out))); have GE228 := As (gS hg (below_size (kB1 HB.out GE214.out))); replace HB := As (below_step (kB1 HB.out GE214.out) hb); have NB214_228 := As (gN hg (blk_lt (kb BK214.out))); have NB228_214 := As (gM hg (blk_lt (kb BK214.out))); replace BK214 := As (blk_below (kb BK214.out) hb); clear hb hbox hg) | ((with_reducible refine gate_store (t := 30) (p := 5) rfl ?_); refine store_rowev_9 gb228 (.bool t218) (.int .u64 t219) (.int .u64 t220) (.bool t221) (.int .u64 t222) (.int .u64 t223) (.int .i64 t224) (.int .i64 t225) (.string t226) rfl (t := 30) (p := 5) (v := _) rfl rfl rfl rfl (t' := 30) (kb BK228.out) (by rfl) (by kernel_rfl) (by rfl) ?_; have hnb27 := NB214_228.out; have hnc27 := NB228_214.out; have hcz28_0 := cells_3 BK214.out; have hfz28_0 := fun j_ => blk_frozen BK214.out j_) | ((with_reducible refine gate_callee (f := 12) rfl ?_); refine goesL_ (some 30) rfl rfl Tryd.func12 (by kernel_rfl) rfl #[.agg #[.bool false, .int .u64 0, .int .u64 167772161], .agg #[.bool false, .int .u64 0, .int .u64 167772161], .int .i64 3, .string (⟨#[120, 121]⟩ : ByteArray), .int .u32 1, .bool true] rfl kA ?_; (with_reducible refine (tunnel_WrapGre.calls k false 0 167772161 false 0 167772161 3 (⟨#[120, 121]⟩ : ByteArray) 1 true t229 t230 t231 t232 t233 t234 t235 t236 t237 t238 _ A3.out).mono ?_); rintro e w29 ⟨rfl, hb⟩; refine ⟨_, rfl, ?_⟩; replace BK214 := As (blk_below (g := gb214) (o := .cells #[.bool false, .int .u64 0, .int .u64 167772161] 24 (0, 0)) (by refine kb ?_; (iterate 9 (refine blk_far ?_ NB214_228.out _; refine kb ?_)); exact BK214.out) hb); replace BK228 := As (blk_below (g := gb228) (o := .cells #[.bool t218, .int .u64 t219, .int .u64 t220, .bool t221, .int .u64 t222, .int .u64 t223, .int .i64 t224, .int .i64 t225, .string t226] 30 (0, 0)) (by refine kb ?_; exact blk_all_9 (kb BK228.out) (by rfl)) hb); replace HB := As (below_step (kB2 HB.out GE214.out GE228.out) hb); (try clear hb)) | ((with_reducible refine gate_dst (N := 7) rfl ?_); (try (refine gate_guard (by rfl) ?_; dsimp only)); refine box_event rfl (N := 7) rfl (cs := #[.bool false, .int .u64 0, .int .u64 0, .bool false, .int .u64 0, .int .u64 0, .int .i64 0, .int .i64 0, .string (⟨#[]⟩ : ByteArray)]) (t := 30) kG ?_; intro gb239 hg w30 hbox hb; have BK239 := As (hbox); have GW239 := As (gS hg (below_size (kB2 HB.out GE214.out GE228.out))); have GE239 := As (gS hg (below_size (kB2 HB.out GE214.out GE228.out))); replace HB := As (below_step (kB2 HB.out GE214.out GE228.out) hb); have NB214_239 := As (gN hg (blk_lt (kb BK214.out))); have NB239_214 := As (gM hg (blk_lt (kb BK214.out))); replace BK214 := As (blk_below (kb BK214.out) hb); have NB228_239 := As (gN hg (blk_lt (kb BK228.out))); have NB239_228 := As (gM hg (blk_lt (kb BK228.out))); replace BK228 := As (blk_below (kb BK228.out) hb); clear hb hbox hg) | ((with_reducible refine gate_store (t := 30) (p := 7) rfl ?_); refine store_rowev_9 gb239 (.bool t229) (.int .u64 t230) (.int .u64 t231) (.bool t232) (.int .u64 t233) (.int .u64 t234) (.int .i64 t235) (.int .i64 t236) (.string t237) rfl (t := 30) (p := 7) (v := _) rfl rfl rfl rfl (t' := 30) (kb BK239.out) (by rfl) (by kernel_rfl) (by rfl) ?_; have hnb31 := NB228_239.out; have hnc31 := NB239_228.out; have hcz32_0 := cells_9 BK228.out; have hfz32_0 := fun j_ => blk_frozen BK228.out j_; have hnb33 := NB239_214.out; have hnc33 := NB214_239.out; have hcz34_0 := cells_9 BK239.out; have hfz34_0 := fun j_ => blk_frozen BK239.out j_) | ((with_reducible refine gate_dst (N := 56) rfl ?_); (try (refine gate_guard (by rfl) ?_; dsimp only)); refine wpList_load_row ?hgd 30 _ rfl gb239 rfl 30 #[.bool t229, .int .u64 t230, .int .u64 t231, .bool t232, .int .u64 t233, .int .u64 t234, .int .i64 t235, .int .i64 t236, .string t237] (0, 0) _ (by refine kb ?_; exact blk_all_9 (kb BK239.out) (by rfl)) Tryd.underlying30 rfl (by kernel_rfl) ?_; (case hgd => rfl)) | ((with_reducible refine gate_callee (f := 18) rfl ?_); refine goesL_ (some 57) rfl rfl Tryd.func18 (by kernel_rfl) rfl #[.agg #[.bool t229, .int .u64 t230, .int .u64 t231, .bool t232, .int .u64 t233, .int .u64 t234, .int .i64 t235, .int .i64 t236, .string t237]] rfl kA ?_; (with_reducible refine (tunnel_Inner.calls k t229 t230 t231 t232 t233 t234 t235 t236 t237 t240 t241 t242 _ ?side1 A9.out).mono ?_); (case side1 => exact laid_below HLD.out (kB3 HB.out GE214.out GE228.out GE239.out)); rintro e w35 ⟨rfl, hb⟩; refine ⟨_, rfl, ?_⟩; replace BK214 := As (blk_below (g := gb214) (o := .cells #[.bool false, .int .u64 0, .int .u64 167772161] 24 (0, 0)) (by refine kb ?_; (iterate 9 (refine blk_far ?_ NB214_239.out _; refine kb ?_)); exact BK214.out) hb); replace BK228 := As (blk_below (g := gb228) (o := .cells #[.bool t218, .int .u64 t219, .int .u64 t220, .bool t221, .int .u64 t222, .int .u64 t223, .int .i64 t224, .int .i64 t225, .string t226] 30 (0, 0)) (by refine kb ?_; (iterate 9 (refine blk_far ?_ NB228_239.out _; refine kb ?_)); exact BK228.out) hb); replace BK239 := As (blk_below (g := gb239) (o := .cells #[.bool t229, .int .u64 t230, .int .u64 t231, .bool t232, .int .u64 t233, .int .u64 t234, .int .i64 t235, .int .i64 t236, .string t237] 30 (0, 0)) (by refine kb ?_; exact blk_all_9 (kb BK239.out) (by rfl)) hb); replace HB := As (below_step (kB3 HB.out GE214.out GE228.out GE239.out) hb); (try clear hb); have hcz36_0 := cells_9 BK228.out; have hfz36_0 := fun j_ => blk_frozen BK228.out j_; have hcz37_0 := cells_9 BK239.out; have hfz37_0 := fun j_ => blk_frozen BK239.out j_))
 go_ret
 exact ⟨kE, by exact kB3 HB.out GE214.out GE228.out GE239.out⟩

/-! ### ipv6_within: function 95 -/
def ipv6_within.l0 : Nat → Int → List Int → Int → Int → Option (Bool)
 | 0, _, _, _, _ => none
 | k + 1, x0, x7, x8, x9 => if x9 < x8 then (if 0 ≤ x9 then (if x9 < (x7.length : Int) then (if (rd x7 x9) < 0 then (some false) else (if (rd x7 x9) > x0 then (some false) else (ipv6_within.l0 k x0 x7 x8 (wrap64 (x9 + 1))))) else (none)) else (none)) else (some true)
def ipv6_within.f (k : Nat) (a0 : Int) (l1 : List Int) : Option (Bool) := ipv6_within.l0 k a0 l1 (l1.length : Int) 0
theorem ipv6_within.mono_l : ∀ k, (∀ y0 y1 y2 y3, LeO (ipv6_within.l0 k y0 y1 y2 y3) (ipv6_within.l0 (k + 1) y0 y1 y2 y3))
 | 0 => fun _ _ _ _ r h => by simp [ipv6_within.l0] at h
 | k + 1 => by
  have ih0 := ipv6_within.mono_l k
  intro y0 y1 y2 y3
  unfold ipv6_within.l0
  repeat' first | with_reducible first | apply ih0 | apply LeO.refl | apply LeO.none | refine LeO.ite ?_ ?_ | refine LeO.bind ?_ (fun _ => ?_)
theorem ipv6_within.mono : ∀ a0 a1 k, LeO (ipv6_within.f k a0 a1) (ipv6_within.f (k + 1) a0 a1) := by
 intro a0 a1 k
 have ih0 := ipv6_within.mono_l k
 unfold ipv6_within.f
 repeat' first | with_reducible first | apply ih0 | apply LeO.refl | apply LeO.none | refine LeO.ite ?_ ?_ | refine LeO.bind ?_ (fun _ => ?_)
set_option maxHeartbeats 8000000 in
set_option maxRecDepth 100000 in
theorem ipv6_within.calls (k : Nat) (a0 : Int) (A1 : Option Addr) (c1 : Nat) (l1 : List Int) (r : Bool) (w : World) (hr1 : Kd.C (Kd.int .i64) w A1 l1.length l1) (hc1 : l1.length ≤ c1) (h : ipv6_within.f k a0 l1 = some r) :
  Calls Tryd.prog 95 #[.int .i64 a0, .slice A1 l1.length c1] w fun e w' => e = .returned (.bool r) ∧ Drawn0 w w' := by
 have HR1 := As hr1
 have HC1 := As hc1
 clear hr1 hc1
 have H : (ipv6_within.l0 k a0 l1 (l1.length : Int) 0) = some r := h
 clear h
 have H' := As H
 clear H
 go_enter Tryd.func95, Tryd.ntmps95
 go_wp2
 go_loopg [9] k (fun kq v9 w' => ∃ (x9_1 : Int), v9 = .int .i64 x9_1 ∧ Aside0 (ipv6_within.l0 kq a0 l1 (l1.length : Int) x9_1 = some r) ∧ Aside0 (kq ≤ k) ∧ Drawn0 w w')
 case atStart => exact ⟨(0), kS, H', ⟨Nat.le_refl _⟩, by repeat (first | exact Drawn0.refl _ | apply Drawn0.step)⟩
 clear H'
 try clear c1
 obtain ⟨x9_1, rfl, HA, HK1, ⟨m1, rfl⟩⟩ := hrel
 cases gk with
 | zero => exact absurd HA.out (by simp [ipv6_within.l0])
 | succ k1 =>
  have H := HA.out
  clear HA
  simp only [ipv6_within.l0] at H
  by_cases c3 : x9_1 < (l1.length : Int)
  ·rw [if_pos c3] at H
   have c3b0 : decide (x9_1 < (l1.length : Int)) = true := decide_eq_true c3
   clear c3
   replace H := iS H
   obtain ⟨c4, H⟩ := H
   have c4b0 := decide_eq_true c4
   clear c4
   replace H := iS H
   obtain ⟨c5, H⟩ := H
   have c5b0 := decide_eq_true c5
   clear c5
   by_cases c6 : (rd l1 x9_1) < 0
   ·rw [if_pos c6] at H
    have c6b0 : decide ((rd l1 x9_1) < 0) = true := decide_eq_true c6
    clear c6
    obtain rfl := Option.some.inj H
    have p243 : 0 ≤ (x9_1 : Int) := of_decide_eq_true (by first | (with_reducible assumption) | assumption)
    have q243 : x9_1 < (l1.length : Int) := of_decide_eq_true (by first | (with_reducible assumption) | assumption)
    obtain ⟨ad243, e243, hx243_0⟩ := Kd.at_int HR1.out x9_1 p243 q243
    cases e243
    replace p243 := eq_true p243
    replace q243 := eq_true q243
    go_wp2
    go_ret
    exact ⟨by first | rfl | (simp; done) | (simp [*]; done), by repeat (first | exact Drawn0.refl _ | apply Drawn0.step)⟩
   rw [if_neg c6] at H
   have c6b0 : decide ((rd l1 x9_1) < 0) = false := decide_eq_false c6
   clear c6
   by_cases c7 : (rd l1 x9_1) > a0
   ·rw [if_pos c7] at H
    have c7b0 : decide (a0 < (rd l1 x9_1)) = true := decide_eq_true c7
    clear c7
    obtain rfl := Option.some.inj H
    have p243 : 0 ≤ (x9_1 : Int) := of_decide_eq_true (by first | (with_reducible assumption) | assumption)
    have q243 : x9_1 < (l1.length : Int) := of_decide_eq_true (by first | (with_reducible assumption) | assumption)
    obtain ⟨ad243, e243, hx243_0⟩ := Kd.at_int HR1.out x9_1 p243 q243
    cases e243
    replace p243 := eq_true p243
    replace q243 := eq_true q243
    go_wp2
    go_ret
    exact ⟨by first | rfl | (simp; done) | (simp [*]; done), by repeat (first | exact Drawn0.refl _ | apply Drawn0.step)⟩
   rw [if_neg c7] at H
   have c7b0 : decide (a0 < (rd l1 x9_1)) = false := decide_eq_false c7
   clear c7
   have H' := As H
   clear H
   have p243 : 0 ≤ (x9_1 : Int) := of_decide_eq_true (by first | (with_reducible assumption) | assumption)
   have q243 : x9_1 < (l1.length : Int) := of_decide_eq_true (by first | (with_reducible assumption) | assumption)
   obtain ⟨ad243, e243, hx243_0⟩ := Kd.at_int HR1.out x9_1 p243 q243
   cases e243
   replace p243 := eq_true p243
   replace q243 := eq_true q243
   go_wp2
   go_roundg k1
   case measure => have := HK1.out; omega
   case rel => exact ⟨(wrap64 (x9_1 + 1)), kS, H', ⟨by have := HK1.out; omega⟩, by repeat (first | exact Drawn0.refl _ | apply Drawn0.step)⟩
  rw [if_neg c3] at H
  have c3b0 : decide (x9_1 < (l1.length : Int)) = false := decide_eq_false c3
  clear c3
  obtain rfl := Option.some.inj H
  go_wp2
  go_ret
  exact ⟨by first | rfl | (simp; done) | (simp [*]; done), by repeat (first | exact Drawn0.refl _ | apply Drawn0.step)⟩

/-! ### ipv6_extension: function 96 -/
def ipv6_extension.f (a0 : Int) : Option (Bool) := if a0 = 0 then (some true) else (if a0 = 43 then (some true) else (some (a0 == 60)))
set_option maxHeartbeats 8000000 in
set_option maxRecDepth 100000 in
theorem ipv6_extension.calls (a0 : Int) (r : Bool) (w : World) (h : ipv6_extension.f a0 = some r) :
  Calls Tryd.prog 96 #[.int .i64 a0] w fun e w' => e = .returned (.bool r) ∧ Drawn0 w w' := by
 have H : (if a0 = 0 then (some true) else (if a0 = 43 then (some true) else (some (a0 == 60)))) = some r := h
 clear h
 by_cases c2 : a0 = 0
 ·rw [if_pos c2] at H
  have c2b0 : (a0 == 0) = true := beq_iff_eq.mpr c2
  have c2b1 : (a0 != 0) = false := bne_eq_false_iff_eq.mpr c2
  clear c2
  obtain rfl := Option.some.inj H
  go_enter Tryd.func96, Tryd.ntmps96
  go_wp2
  go_ret
  exact ⟨by first | rfl | (simp; done) | (simp [*]; done), by repeat (first | exact Drawn0.refl _ | apply Drawn0.step)⟩
 rw [if_neg c2] at H
 have c2b0 : (a0 == 0) = false := beq_eq_false_iff_ne.mpr c2
 have c2b1 : (a0 != 0) = true := bne_iff_ne.mpr c2
 by_cases c3 : a0 = 43
 ·rw [if_pos c3] at H
  have c3b0 : (a0 == 43) = true := beq_iff_eq.mpr c3
  have c3b1 : (a0 != 43) = false := bne_eq_false_iff_eq.mpr c3
  clear c3
  obtain rfl := Option.some.inj H
  go_enter Tryd.func96, Tryd.ntmps96
  go_wp2
  go_ret
  exact ⟨by first | rfl | (simp; done) | (simp [*]; done), by repeat (first | exact Drawn0.refl _ | apply Drawn0.step)⟩
 rw [if_neg c3] at H
 have c3b0 : (a0 == 43) = false := beq_eq_false_iff_ne.mpr c3
 have c3b1 : (a0 != 43) = true := bne_iff_ne.mpr c3
 obtain rfl := Option.some.inj H
 go_enter Tryd.func96, Tryd.ntmps96
 go_wp2
 go_ret
 exact ⟨by first | rfl | (simp; done) | (simp [*]; done), by repeat (first | exact Drawn0.refl _ | apply Drawn0.step)⟩

end Go.Proofs.YtocobalkikkhlaaDoor.X
-- short
-- short2
