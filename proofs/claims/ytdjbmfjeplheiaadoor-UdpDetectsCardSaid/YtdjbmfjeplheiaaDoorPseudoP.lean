/- What the program's Pseudo computes, in closed form. -/
import Derived.Test.YtdjbmfjeplheiaaDoorField
import Derived.Test.YtdjbmfjeplheiaaDoorX4
import Derived.Test.YtdjbmfjeplheiaaDoorX3
namespace Go.Proofs.YtdjbmfjeplheiaaDoor.Pure
open Go.RowKit Go.Proofs.YtdjbmfjeplheiaaDoor.X Go.Proofs.YtdjbmfjeplheiaaDoorW.PrintWords Go.Proofs.YtdjbmfjeplheiaaDoorW.PrintLast Go.Proofs.YtdjbmfjeplheiaaDoorW.PrintMore

theorem cast2 : ((2 : Nat) : Int) = 2 := rfl
theorem cast4 : ((4 : Nat) : Int) = 4 := rfl
theorem cast8 : ((8 : Nat) : Int) = 8 := rfl
/-- The table of shifts gives the last digits. -/
theorem number_tab (n : Int) (_h0 : 0 ≤ n) (_h1 : n < 18446744073709551616) (z : Nat) (h1 : z = 2 ∨ z = 4 ∨ z = 8) : checksum_number.f n z = some (strOfNums (beN z n)) := by
  have sh : ∀ i : Nat, i ≤ 7 → shr .u64 n (8 * (i : Int)) = n / 256 ^ i := by
    intro i hi
    unfold shr
    have e : IntKind.u64.bits = 64 := rfl
    rw [e, show (8 * (i : Int)).toNat = 8 * i by omega, Nat.min_eq_left (by omega), Int.pow_mul]
    rfl
  have s0 := sh 0 (by omega)
  have s1 := sh 1 (by omega)
  have s2 := sh 2 (by omega)
  have s3 := sh 3 (by omega)
  have s4 := sh 4 (by omega)
  have s5 := sh 5 (by omega)
  have s6 := sh 6 (by omega)
  have s7 := sh 7 (by omega)
  simp only [Int.natCast_zero, Int.mul_zero] at s0
  have k1 : (8 * ((1 : Nat) : Int)) = 8 := rfl
  have k2 : (8 * ((2 : Nat) : Int)) = 16 := rfl
  have k3 : (8 * ((3 : Nat) : Int)) = 24 := rfl
  have k4 : (8 * ((4 : Nat) : Int)) = 32 := rfl
  have k5 : (8 * ((5 : Nat) : Int)) = 40 := rfl
  have k6 : (8 * ((6 : Nat) : Int)) = 48 := rfl
  have k7 : (8 * ((7 : Nat) : Int)) = 56 := rfl
  rw [k1] at s1
  rw [k2] at s2
  rw [k3] at s3
  rw [k4] at s4
  rw [k5] at s5
  rw [k6] at s6
  rw [k7] at s7
  unfold checksum_number.f
  rcases h1 with rfl | rfl | rfl
  · rw [if_pos (by omega)]
    simp only [TAB0, show 8 - Int.toNat ((2 : Nat) : Int) = 6 from rfl, List.drop_succ_cons, List.drop_zero, List.map_cons, List.map_nil, s0, s1, beN]
  · rw [if_pos (by omega)]
    simp only [TAB0, show 8 - Int.toNat ((4 : Nat) : Int) = 4 from rfl, List.drop_succ_cons, List.drop_zero, List.map_cons, List.map_nil, s0, s1, s2, s3, beN]
  · rw [if_pos (by omega)]
    simp only [TAB0, show 8 - Int.toNat ((8 : Nat) : Int) = 0 from rfl, List.drop_zero, List.map_cons, List.map_nil, s0, s1, s2, s3, s4, s5, s6, s7, beN]
theorem beN_top : ∀ (i j : Nat) (n : Int), beN (i + j) n = beN i (n / 256 ^ j) ++ beN j n
  | 0, j, n => by simp [beN]
  | i + 1, j, n => by
    rw [show i + 1 + j = (i + j) + 1 by omega, beN, beN_top i j n, beN, Int.pow_add, Int.mul_comm, ← Int.ediv_ediv_of_nonneg (Int.le_of_lt (Int.pow_pos (by decide)))]
    rfl
/-- The bytes of an address. -/
def addrOf (v6 : Bool) (hi lo : Int) : List Int := if v6 = true then beN 8 hi ++ beN 8 lo else beN 4 lo
theorem addrOf_len (v6 : Bool) (hi lo : Int) : (addrOf v6 hi lo).length ≤ 16 := by unfold addrOf; split <;> simp [beN_length]
/-- Whether an address is one. -/
def okAddr (v6 : Bool) (hi lo : Int) : Prop := v6 = true ∨ (hi = 0 ∧ lo < 4294967296)
instance (v6 : Bool) (hi lo : Int) : Decidable (okAddr v6 hi lo) := by unfold okAddr; infer_instance
theorem valid_is (v6 : Bool) (hi lo : Int) : checksum_valid.f v6 hi lo = some (decide (okAddr v6 hi lo)) := by
  unfold checksum_valid.f okAddr
  by_cases h : v6 = true
  · simp [h]
  · by_cases h2 : hi = 0 <;> simp [h, h2]
/-- The pseudo-header. -/
def pseudoOf (v6 : Bool) (hi lo : Int) (w6 : Bool) (hj lp : Int) (proto size : Int) : ByteArray :=
  if okAddr v6 hi lo ∧ okAddr w6 hj lp ∧ v6 = w6 ∧ 0 ≤ proto ∧ proto ≤ 255 ∧ 0 ≤ size ∧ size ≤ (if v6 = true then 4294967295 else 65535) then
    (if v6 = true then strOfNums (addrOf v6 hi lo ++ addrOf w6 hj lp ++ beN 4 size ++ beN 4 proto) else strOfNums (addrOf v6 hi lo ++ addrOf w6 hj lp ++ beN 2 proto ++ beN 2 size))
  else ⟨#[]⟩
theorem u64w {n : Int} (h : 0 ≤ n) (h' : n < 18446744073709551616) : IntKind.u64.wrap n = n := u64_wrap_id n h h'
theorem pseudo_bad (k : Nat) (a b : Int) (c : Bool) (d e : Int) (f : Bool) (g h : Int) : checksum_Pseudo.j1 (k + 1) a b true c d e f g h = some ⟨#[]⟩ := by
  rw [checksum_Pseudo.j1, if_pos rfl]
theorem pseudo_is (v6 : Bool) (hi lo : Int) (w6 : Bool) (hj lp : Int) (proto size : Int) (h0 : 0 ≤ hi) (h1 : hi < 18446744073709551616) (h2 : 0 ≤ lo) (h3 : lo < 18446744073709551616)
    (g0 : 0 ≤ hj) (g1 : hj < 18446744073709551616) (g2 : 0 ≤ lp) (g3 : lp < 18446744073709551616) (k : Nat) (hk : 3 ≤ k) :
    checksum_Pseudo.f k v6 hi lo w6 hj lp proto size = some (pseudoOf v6 hi lo w6 hj lp proto size) := by
  obtain ⟨k, rfl⟩ : ∃ m, k = m + 2 := ⟨k - 2, by omega⟩
  have J : ∀ lim : Int, lim = (if v6 = true then 4294967295 else 65535) → checksum_Pseudo.j0 (k + 2) proto size lim v6 hi lo w6 hj lp = some (pseudoOf v6 hi lo w6 hj lp proto size) := by
    intro lim hlim
    unfold pseudoOf
    rw [← hlim, checksum_Pseudo.j0, valid_is, valid_is]
    simp only [Option.bind_some, decide_eq_true_eq]
    by_cases c1 : okAddr v6 hi lo
    · rw [if_pos c1]
      by_cases c2 : okAddr w6 hj lp
      · rw [if_pos c2]
        by_cases c3 : v6 = w6
        · subst c3
          rw [if_neg (by simp)]
          by_cases c4 : proto < 0
          · rw [if_pos c4, pseudo_bad, if_neg (by omega)]
          · rw [if_neg c4]
            by_cases c5 : proto > 255
            · rw [if_pos c5, pseudo_bad, if_neg (by omega)]
            · rw [if_neg c5]
              by_cases c6 : size < 0
              · rw [if_pos c6, pseudo_bad, if_neg (by omega)]
              · rw [if_neg c6]
                by_cases c7 : size > lim
                · rw [decide_eq_true c7, pseudo_bad, if_neg (by omega)]
                · rw [decide_eq_false c7, if_pos ⟨c1, c2, rfl, by omega, by omega, by omega, by omega⟩, checksum_Pseudo.j1, if_neg (by simp)]
                  have hs : size ≤ 4294967295 := by split at hlim <;> omega
                  rw [u64w (n := size) (by omega) (by omega), u64w (n := proto) (by omega) (by omega)]
                  cases v6 with
                  | true =>
                    have n1 := number_tab hi h0 h1 8 (by omega)
                    have n2 := number_tab lo h2 h3 8 (by omega)
                    have n3 := number_tab hj g0 g1 8 (by omega)
                    have n4 := number_tab lp g2 g3 8 (by omega)
                    have n5 := number_tab size (by omega) (by omega) 4 (by omega)
                    have n6 := number_tab proto (by omega) (by omega) 4 (by omega)
                    simp only [cast4, cast8] at n1 n2 n3 n4 n5 n6
                    simp only [if_true, n1, n2, n3, n4, n5, n6, Option.bind_some, size_append, strOfNums_size, beN_length, addrOf, ← strOfNums_append]
                    simp
                  | false =>
                    have n2 := number_tab lo h2 h3 4 (by omega)
                    have n4 := number_tab lp g2 g3 4 (by omega)
                    have n5 := number_tab size (by omega) (by omega) 2 (by omega)
                    have n6 := number_tab proto (by omega) (by omega) 2 (by omega)
                    simp only [cast2, cast4] at n2 n4 n5 n6
                    simp only [Bool.false_eq_true, if_false, n2, n4, n5, n6, Option.bind_some, size_append, strOfNums_size, beN_length, addrOf, ← strOfNums_append]
                    simp
        · rw [if_pos (by simpa using c3), pseudo_bad, if_neg (fun h => c3 h.2.2.1)]
      · rw [if_neg c2, pseudo_bad, if_neg (fun h => c2 h.2.1)]
    · rw [if_neg c1, pseudo_bad, if_neg (fun h => c1 h.1)]
  unfold checksum_Pseudo.f
  split
  · rename_i h
    exact J _ (by rw [if_pos h])
  · rename_i h
    exact J _ (by rw [if_neg h])
end Go.Proofs.YtdjbmfjeplheiaaDoor.Pure
