/- What the document's Pseudo computes, in closed form. -/
import Derived.Test.YtdjbmfjeplheiaaDoorPseudoP
import Derived.Test.YtdjbmfjeplheiaaDoorX10
import Derived.Test.YtdjbmfjeplheiaaDoorX9
namespace Go.Proofs.YtdjbmfjeplheiaaDoor.Pure
open Go.RowKit Go.Proofs.YtdjbmfjeplheiaaDoor.X Go.Proofs.YtdjbmfjeplheiaaDoorW.PrintWords Go.Proofs.YtdjbmfjeplheiaaDoorW.PrintLast Go.Proofs.YtdjbmfjeplheiaaDoorW.PrintMore

theorem rnumber_loop (n : Int) (z : Nat) (hz : z ≤ 8) (h0 : 0 ≤ n) (h1 : n < 9223372036854775808) : ∀ (m i k : Nat), i + m = z →
    intrusionref02_number.l0 (k + m + 1) (n / 256 ^ i) z (strOfNums (beN i n)) i = some (strOfNums (beN z n))
  | 0, i, k, h => by
    unfold intrusionref02_number.l0
    rw [if_neg (by omega), show i = z by omega]
  | m + 1, i, k, h => by
    have hp : (0 : Int) < 256 ^ i := Int.pow_pos (by decide)
    have hq : 0 ≤ n / 256 ^ i := Int.ediv_nonneg h0 (by omega)
    have hq2 : n / 256 ^ i ≤ n := Int.ediv_le_self _ h0
    rw [show k + (m + 1) + 1 = (k + m + 1) + 1 by omega]
    unfold intrusionref02_number.l0
    rw [if_pos (by omega), Int.tmod_eq_emod_of_nonneg hq, Int.tdiv_eq_ediv_of_nonneg hq, w64 (n := n / 256 ^ i / 256) (by omega) (by omega), w64 (n := (i : Int) + 1) (by omega) (by omega)]
    simp only [Option.bind_some]
    rw [if_pos (by rw [strOfNums_size, strOfNums_size, beN_length]; simp; omega), ← strOfNums_append, Int.ediv_ediv_of_nonneg (by omega), ← Int.pow_succ, show (i : Int) + 1 = ((i + 1 : Nat) : Int) by omega]
    have e : [n / 256 ^ i % 256 % 256] ++ beN i n = beN (i + 1) n := by simp [beN]
    rw [e]
    exact rnumber_loop n z hz h0 h1 m (i + 1) k (by omega)
theorem rnumber_is (n : Int) (z : Nat) (hz : z ≤ 8) (h0 : 0 ≤ n) (h1 : n < 9223372036854775808) (k : Nat) (hk : 10 ≤ k) : intrusionref02_number.f k n z = some (strOfNums (beN z n)) := by
  have h := rnumber_loop n z hz h0 h1 z 0 (k - z - 1) (by omega)
  rw [show k - z - 1 + z + 1 = k by omega] at h
  unfold intrusionref02_number.f
  simpa [beN, strOfNums] using h
theorem str_size (l : List Int) (z : Nat) (n : Int) (h : l = beN z n) : (strOfNums l).size = z := by rw [strOfNums_size, h, beN_length]
theorem rhalf_is (n : Int) (h0 : 0 ≤ n) (h1 : n < 18446744073709551616) (k : Nat) (hk : 10 ≤ k) : intrusionref02_half.f k n = some (strOfNums (beN 8 n)) := by
  unfold intrusionref02_half.f
  rw [w64 (n := n / 4294967296) (by omega) (by omega), Int.tmod_eq_emod_of_nonneg h0, w64 (n := n % 4294967296) (by omega) (by omega)]
  have a1 := rnumber_is (n / 4294967296) 4 (by omega) (by omega) (by omega) k hk
  have a2 := rnumber_is (n % 4294967296) 4 (by omega) (by omega) (by omega) k hk
  rw [show ((4 : Nat) : Int) = 4 from rfl] at a1 a2
  rw [a1, a2]
  simp only [Option.bind_some]
  rw [if_pos (by rw [strOfNums_size, strOfNums_size, beN_length, beN_length]; omega), ← strOfNums_append]
  have e1 := beN_top 4 4 n
  have e2 : beN 4 (n % 4294967296) = beN 4 n := by
    have := beN_add 4 (n % 4294967296) (n / 4294967296)
    rw [show (256 : Int) ^ 4 = 4294967296 by decide, show n / 4294967296 * 4294967296 + n % 4294967296 = n by omega] at this
    exact this.symm
  rw [e2]
  simp only [show (256 : Int) ^ 4 = 4294967296 by decide] at e1
  rw [← e1]
theorem raddress_is (v6 : Bool) (hi lo : Int) (h0 : 0 ≤ hi) (h1 : hi < 18446744073709551616) (h2 : 0 ≤ lo) (h3 : lo < 18446744073709551616) (hv : v6 = false → lo < 4294967296) (k : Nat) (hk : 10 ≤ k) :
    intrusionref02_address.f k v6 hi lo = some (strOfNums (addrOf v6 hi lo)) := by
  unfold intrusionref02_address.f addrOf
  cases v6 with
  | true =>
    rw [if_pos rfl, if_pos rfl, rhalf_is hi h0 h1 k hk, rhalf_is lo h2 h3 k hk]
    simp only [Option.bind_some]
    rw [if_pos (by rw [strOfNums_size, strOfNums_size, beN_length, beN_length]; omega), ← strOfNums_append]
  | false =>
    have := hv rfl
    have a1 := rnumber_is lo 4 (by omega) (by omega) (by omega) k hk
    rw [show ((4 : Nat) : Int) = 4 from rfl] at a1
    rw [if_neg (by simp), if_neg (by simp), w64 (n := lo) (by omega) (by omega), a1]
    rfl
theorem rvalid_is (v6 : Bool) (hi lo : Int) : intrusionref02_valid.f v6 hi lo = some (decide (okAddr v6 hi lo)) := by
  unfold intrusionref02_valid.f okAddr
  by_cases h : v6 = true
  · simp [h]
  · by_cases h2 : hi = 0 <;> simp [h, h2]
theorem rpseudo_is (v6 : Bool) (hi lo : Int) (w6 : Bool) (hj lp : Int) (proto size : Int) (h0 : 0 ≤ hi) (h1 : hi < 18446744073709551616) (h2 : 0 ≤ lo) (h3 : lo < 18446744073709551616)
    (g0 : 0 ≤ hj) (g1 : hj < 18446744073709551616) (g2 : 0 ≤ lp) (g3 : lp < 18446744073709551616) (hS : size < 9223372036854775808) (k : Nat) (hk : 20 ≤ k) :
    intrusionref02_Pseudo.f k v6 hi lo w6 hj lp proto size = some (pseudoOf v6 hi lo w6 hj lp proto size) := by
  obtain ⟨k, rfl⟩ : ∃ m, k = m + 1 := ⟨k - 1, by omega⟩
  have bad : intrusionref02_Pseudo.j0 (k + 1) proto size true v6 hi lo w6 hj lp = some ⟨#[]⟩ := by rw [intrusionref02_Pseudo.j0, if_pos rfl]
  unfold intrusionref02_Pseudo.f pseudoOf
  rw [rvalid_is, rvalid_is]
  simp only [Option.bind_some, decide_eq_true_eq]
  by_cases c1 : okAddr v6 hi lo
  · rw [if_pos c1]
    by_cases c2 : okAddr w6 hj lp
    · rw [if_pos c2]
      by_cases c3 : v6 = w6
      · subst c3
        rw [if_neg (by simp)]
        by_cases c4 : proto < 0
        · rw [if_pos c4, bad, if_neg (by omega)]
        · rw [if_neg c4]
          by_cases c5 : proto > 255
          · rw [if_pos c5, bad, if_neg (by omega)]
          · rw [if_neg c5]
            by_cases c6 : size < 0
            · rw [decide_eq_true c6, bad, if_neg (by omega)]
            · rw [decide_eq_false c6, intrusionref02_Pseudo.j0, if_neg (by simp)]
              have hv : v6 = false → lo < 4294967296 := fun h => by
                rcases c1 with c | c
                · simp [h] at c
                · exact c.2
              have hw : v6 = false → lp < 4294967296 := fun h => by
                rcases c2 with c | c
                · simp [h] at c
                · exact c.2
              rw [raddress_is v6 hi lo h0 h1 h2 h3 hv k (by omega), raddress_is v6 hj lp g0 g1 g2 g3 hw k (by omega)]
              have l1 := addrOf_len v6 hi lo
              have l2 := addrOf_len v6 hj lp
              have q1 : (addrOf v6 hi lo).length + (addrOf v6 hj lp).length ≤ 9223372036854775807 := by omega
              cases v6 with
              | true =>
                by_cases c7 : size > 4294967295
                · rw [if_neg (by simp; omega)]
                  simp [c7, strOfNums_size, q1]
                · have n5 := rnumber_is size 4 (by omega) (by omega) (by omega) k (by omega)
                  have n6 := rnumber_is proto 4 (by omega) (by omega) (by omega) k (by omega)
                  simp only [cast4] at n5 n6
                  have q2 : (addrOf true hi lo).length + (addrOf true hj lp).length + 4 ≤ 9223372036854775807 := by omega
                  have q3 : (addrOf true hi lo).length + (addrOf true hj lp).length + 4 + 4 ≤ 9223372036854775807 := by omega
                  rw [if_pos ⟨c1, c2, rfl, by omega, by omega, by omega, by simp; omega⟩]
                  simp only [if_true, n5, n6, Option.bind_some, size_append, strOfNums_size, beN_length, ← strOfNums_append, q1, q2, q3, if_neg c7]
              | false =>
                by_cases c7 : size > 65535
                · rw [if_neg (by simp; omega)]
                  simp [c7, strOfNums_size, q1]
                · have n5 := rnumber_is size 2 (by omega) (by omega) (by omega) k (by omega)
                  have n6 := rnumber_is proto 2 (by omega) (by omega) (by omega) k (by omega)
                  simp only [cast2] at n5 n6
                  have q2 : (addrOf false hi lo).length + (addrOf false hj lp).length + 2 ≤ 9223372036854775807 := by omega
                  have q3 : (addrOf false hi lo).length + (addrOf false hj lp).length + 2 + 2 ≤ 9223372036854775807 := by omega
                  rw [if_pos ⟨c1, c2, rfl, by omega, by omega, by omega, by simp; omega⟩]
                  simp only [Bool.false_eq_true, if_false, if_true, n5, n6, Option.bind_some, size_append, strOfNums_size, beN_length, ← strOfNums_append, q1, q2, q3, if_neg c7]
      · rw [if_pos (by simpa using c3), bad, if_neg (fun h => c3 h.2.2.1)]
    · rw [if_neg c2, bad, if_neg (fun h => c2 h.2.1)]
  · rw [if_neg c1, bad, if_neg (fun h => c1 h.1)]
end Go.Proofs.YtdjbmfjeplheiaaDoor.Pure
