/- ChecksumPseudo as a plain law: the program's Pseudo and the document's return the same bytes for any addresses and numbers; no further condition. -/
import Derived.Test.YtjlhicpkceplhaaDoorXDChecksumPseudo
import Derived.Test.YtjlhicpkceplhaaDoorRef02
import Derived.Test.YtjlhicpkceplhaaDoorField
namespace Go.Proofs.YtjlhicpkceplhaaDoor.Pure
open Go.RowKit Go.Proofs.YtjlhicpkceplhaaDoor.X Go.Proofs.YtjlhicpkceplhaaDoorW.PrintWords Go.Proofs.YtjlhicpkceplhaaDoorW.PrintLast Go.Proofs.YtjlhicpkceplhaaDoorW.PrintMore

theorem cast2 : ((2 : Nat) : Int) = 2 := rfl
theorem cast4 : ((4 : Nat) : Int) = 4 := rfl
theorem cast8 : ((8 : Nat) : Int) = 8 := rfl
/-- The table of shifts gives the last digits. -/
theorem number_tab (n : Int) (_h0 : 0 ≤ n) (_h1 : n < 18446744073709551616) (z : Nat) (h1 : z = 2 ∨ z = 4 ∨ z = 8) : checksum_number.f n z = some (strOfNums (beN z n)) := by
  have sh : ∀ i : Nat, i ≤ 7 → shr .u64 n (8 * (i : Int)) = n / 256 ^ i := by
    intro i hi
    unfold shr
    have e : IntKind.u64.bits = 64 := rfl
    rw [e, show (8 * (i : Int)).toNat = 8 * i by omega, Nat.min_eq_left (by omega), Int.pow_mul]
    rfl
  have s0 := sh 0 (by omega)
  have s1 := sh 1 (by omega)
  have s2 := sh 2 (by omega)
  have s3 := sh 3 (by omega)
  have s4 := sh 4 (by omega)
  have s5 := sh 5 (by omega)
  have s6 := sh 6 (by omega)
  have s7 := sh 7 (by omega)
  simp only [Int.natCast_zero, Int.mul_zero] at s0
  have k1 : (8 * ((1 : Nat) : Int)) = 8 := rfl
  have k2 : (8 * ((2 : Nat) : Int)) = 16 := rfl
  have k3 : (8 * ((3 : Nat) : Int)) = 24 := rfl
  have k4 : (8 * ((4 : Nat) : Int)) = 32 := rfl
  have k5 : (8 * ((5 : Nat) : Int)) = 40 := rfl
  have k6 : (8 * ((6 : Nat) : Int)) = 48 := rfl
  have k7 : (8 * ((7 : Nat) : Int)) = 56 := rfl
  rw [k1] at s1
  rw [k2] at s2
  rw [k3] at s3
  rw [k4] at s4
  rw [k5] at s5
  rw [k6] at s6
  rw [k7] at s7
  unfold checksum_number.f
  rcases h1 with rfl | rfl | rfl
  · rw [if_pos (by omega)]
    simp only [TAB0, show 8 - Int.toNat ((2 : Nat) : Int) = 6 from rfl, List.drop_succ_cons, List.drop_zero, List.map_cons, List.map_nil, s0, s1, beN]
  · rw [if_pos (by omega)]
    simp only [TAB0, show 8 - Int.toNat ((4 : Nat) : Int) = 4 from rfl, List.drop_succ_cons, List.drop_zero, List.map_cons, List.map_nil, s0, s1, s2, s3, beN]
  · rw [if_pos (by omega)]
    simp only [TAB0, show 8 - Int.toNat ((8 : Nat) : Int) = 0 from rfl, List.drop_zero, List.map_cons, List.map_nil, s0, s1, s2, s3, s4, s5, s6, s7, beN]
theorem beN_top : ∀ (i j : Nat) (n : Int), beN (i + j) n = beN i (n / 256 ^ j) ++ beN j n
  | 0, j, n => by simp [beN]
  | i + 1, j, n => by
    rw [show i + 1 + j = (i + j) + 1 by omega, beN, beN_top i j n, beN, Int.pow_add, Int.mul_comm, ← Int.ediv_ediv_of_nonneg (Int.le_of_lt (Int.pow_pos (by decide)))]
    rfl
theorem rnumber_loop (n : Int) (z : Nat) (hz : z ≤ 8) (h0 : 0 ≤ n) (h1 : n < 9223372036854775808) : ∀ (m i k : Nat), i + m = z →
    intrusionref02_number.l0 (k + m + 1) (n / 256 ^ i) z (strOfNums (beN i n)) i = some (strOfNums (beN z n))
  | 0, i, k, h => by
    unfold intrusionref02_number.l0
    rw [if_neg (by omega), show i = z by omega]
  | m + 1, i, k, h => by
    have hp : (0 : Int) < 256 ^ i := Int.pow_pos (by decide)
    have hq : 0 ≤ n / 256 ^ i := Int.ediv_nonneg h0 (by omega)
    have hq2 : n / 256 ^ i ≤ n := Int.ediv_le_self _ h0
    rw [show k + (m + 1) + 1 = (k + m + 1) + 1 by omega]
    unfold intrusionref02_number.l0
    rw [if_pos (by omega), Int.tmod_eq_emod_of_nonneg hq, Int.tdiv_eq_ediv_of_nonneg hq, w64 (n := n / 256 ^ i / 256) (by omega) (by omega), w64 (n := (i : Int) + 1) (by omega) (by omega)]
    simp only [Option.bind_some]
    rw [if_pos (by rw [strOfNums_size, strOfNums_size, beN_length]; simp; omega), ← strOfNums_append, Int.ediv_ediv_of_nonneg (by omega), ← Int.pow_succ, show (i : Int) + 1 = ((i + 1 : Nat) : Int) by omega]
    have e : [n / 256 ^ i % 256 % 256] ++ beN i n = beN (i + 1) n := by simp [beN]
    rw [e]
    exact rnumber_loop n z hz h0 h1 m (i + 1) k (by omega)
theorem rnumber_is (n : Int) (z : Nat) (hz : z ≤ 8) (h0 : 0 ≤ n) (h1 : n < 9223372036854775808) (k : Nat) (hk : 10 ≤ k) : intrusionref02_number.f k n z = some (strOfNums (beN z n)) := by
  have h := rnumber_loop n z hz h0 h1 z 0 (k - z - 1) (by omega)
  rw [show k - z - 1 + z + 1 = k by omega] at h
  unfold intrusionref02_number.f
  simpa [beN, strOfNums] using h
theorem str_size (l : List Int) (z : Nat) (n : Int) (h : l = beN z n) : (strOfNums l).size = z := by rw [strOfNums_size, h, beN_length]
theorem rhalf_is (n : Int) (h0 : 0 ≤ n) (h1 : n < 18446744073709551616) (k : Nat) (hk : 10 ≤ k) : intrusionref02_half.f k n = some (strOfNums (beN 8 n)) := by
  unfold intrusionref02_half.f
  rw [w64 (n := n / 4294967296) (by omega) (by omega), Int.tmod_eq_emod_of_nonneg h0, w64 (n := n % 4294967296) (by omega) (by omega)]
  have a1 := rnumber_is (n / 4294967296) 4 (by omega) (by omega) (by omega) k hk
  have a2 := rnumber_is (n % 4294967296) 4 (by omega) (by omega) (by omega) k hk
  rw [show ((4 : Nat) : Int) = 4 from rfl] at a1 a2
  rw [a1, a2]
  simp only [Option.bind_some]
  rw [if_pos (by rw [strOfNums_size, strOfNums_size, beN_length, beN_length]; omega), ← strOfNums_append]
  have e1 := beN_top 4 4 n
  have e2 : beN 4 (n % 4294967296) = beN 4 n := by
    have := beN_add 4 (n % 4294967296) (n / 4294967296)
    rw [show (256 : Int) ^ 4 = 4294967296 by decide, show n / 4294967296 * 4294967296 + n % 4294967296 = n by omega] at this
    exact this.symm
  rw [e2]
  simp only [show (256 : Int) ^ 4 = 4294967296 by decide] at e1
  rw [← e1]
/-- The bytes of an address. -/
def addrOf (v6 : Bool) (hi lo : Int) : List Int := if v6 = true then beN 8 hi ++ beN 8 lo else beN 4 lo
theorem addrOf_len (v6 : Bool) (hi lo : Int) : (addrOf v6 hi lo).length ≤ 16 := by unfold addrOf; split <;> simp [beN_length]
theorem raddress_is (v6 : Bool) (hi lo : Int) (h0 : 0 ≤ hi) (h1 : hi < 18446744073709551616) (h2 : 0 ≤ lo) (h3 : lo < 18446744073709551616) (hv : v6 = false → lo < 4294967296) (k : Nat) (hk : 10 ≤ k) :
    intrusionref02_address.f k v6 hi lo = some (strOfNums (addrOf v6 hi lo)) := by
  unfold intrusionref02_address.f addrOf
  cases v6 with
  | true =>
    rw [if_pos rfl, if_pos rfl, rhalf_is hi h0 h1 k hk, rhalf_is lo h2 h3 k hk]
    simp only [Option.bind_some]
    rw [if_pos (by rw [strOfNums_size, strOfNums_size, beN_length, beN_length]; omega), ← strOfNums_append]
  | false =>
    have := hv rfl
    have a1 := rnumber_is lo 4 (by omega) (by omega) (by omega) k hk
    rw [show ((4 : Nat) : Int) = 4 from rfl] at a1
    rw [if_neg (by simp), if_neg (by simp), w64 (n := lo) (by omega) (by omega), a1]
    rfl
/-- Whether an address is one. -/
def okAddr (v6 : Bool) (hi lo : Int) : Prop := v6 = true ∨ (hi = 0 ∧ lo < 4294967296)
instance (v6 : Bool) (hi lo : Int) : Decidable (okAddr v6 hi lo) := by unfold okAddr; infer_instance
theorem valid_is (v6 : Bool) (hi lo : Int) : checksum_valid.f v6 hi lo = some (decide (okAddr v6 hi lo)) := by
  unfold checksum_valid.f okAddr
  by_cases h : v6 = true
  · simp [h]
  · by_cases h2 : hi = 0 <;> simp [h, h2]
theorem rvalid_is (v6 : Bool) (hi lo : Int) : intrusionref02_valid.f v6 hi lo = some (decide (okAddr v6 hi lo)) := by
  unfold intrusionref02_valid.f okAddr
  by_cases h : v6 = true
  · simp [h]
  · by_cases h2 : hi = 0 <;> simp [h, h2]
/-- The pseudo-header. -/
def pseudoOf (v6 : Bool) (hi lo : Int) (w6 : Bool) (hj lp : Int) (proto size : Int) : ByteArray :=
  if okAddr v6 hi lo ∧ okAddr w6 hj lp ∧ v6 = w6 ∧ 0 ≤ proto ∧ proto ≤ 255 ∧ 0 ≤ size ∧ size ≤ (if v6 = true then 4294967295 else 65535) then
    (if v6 = true then strOfNums (addrOf v6 hi lo ++ addrOf w6 hj lp ++ beN 4 size ++ beN 4 proto) else strOfNums (addrOf v6 hi lo ++ addrOf w6 hj lp ++ beN 2 proto ++ beN 2 size))
  else ⟨#[]⟩
theorem u64w {n : Int} (h : 0 ≤ n) (h' : n < 18446744073709551616) : IntKind.u64.wrap n = n := u64_wrap_id n h h'
theorem pseudo_bad (k : Nat) (a b : Int) (c : Bool) (d e : Int) (f : Bool) (g h : Int) : checksum_Pseudo.j1 (k + 1) a b true c d e f g h = some ⟨#[]⟩ := by
  rw [checksum_Pseudo.j1, if_pos rfl]
theorem pseudo_is (v6 : Bool) (hi lo : Int) (w6 : Bool) (hj lp : Int) (proto size : Int) (h0 : 0 ≤ hi) (h1 : hi < 18446744073709551616) (h2 : 0 ≤ lo) (h3 : lo < 18446744073709551616)
    (g0 : 0 ≤ hj) (g1 : hj < 18446744073709551616) (g2 : 0 ≤ lp) (g3 : lp < 18446744073709551616) (k : Nat) (hk : 3 ≤ k) :
    checksum_Pseudo.f k v6 hi lo w6 hj lp proto size = some (pseudoOf v6 hi lo w6 hj lp proto size) := by
  obtain ⟨k, rfl⟩ : ∃ m, k = m + 2 := ⟨k - 2, by omega⟩
  have J : ∀ lim : Int, lim = (if v6 = true then 4294967295 else 65535) → checksum_Pseudo.j0 (k + 2) proto size lim v6 hi lo w6 hj lp = some (pseudoOf v6 hi lo w6 hj lp proto size) := by
    intro lim hlim
    unfold pseudoOf
    rw [← hlim, checksum_Pseudo.j0, valid_is, valid_is]
    simp only [Option.bind_some, decide_eq_true_eq]
    by_cases c1 : okAddr v6 hi lo
    · rw [if_pos c1]
      by_cases c2 : okAddr w6 hj lp
      · rw [if_pos c2]
        by_cases c3 : v6 = w6
        · subst c3
          rw [if_neg (by simp)]
          by_cases c4 : proto < 0
          · rw [if_pos c4, pseudo_bad, if_neg (by omega)]
          · rw [if_neg c4]
            by_cases c5 : proto > 255
            · rw [if_pos c5, pseudo_bad, if_neg (by omega)]
            · rw [if_neg c5]
              by_cases c6 : size < 0
              · rw [if_pos c6, pseudo_bad, if_neg (by omega)]
              · rw [if_neg c6]
                by_cases c7 : size > lim
                · rw [decide_eq_true c7, pseudo_bad, if_neg (by omega)]
                · rw [decide_eq_false c7, if_pos ⟨c1, c2, rfl, by omega, by omega, by omega, by omega⟩, checksum_Pseudo.j1, if_neg (by simp)]
                  have hs : size ≤ 4294967295 := by split at hlim <;> omega
                  rw [u64w (n := size) (by omega) (by omega), u64w (n := proto) (by omega) (by omega)]
                  cases v6 with
                  | true =>
                    have n1 := number_tab hi h0 h1 8 (by omega)
                    have n2 := number_tab lo h2 h3 8 (by omega)
                    have n3 := number_tab hj g0 g1 8 (by omega)
                    have n4 := number_tab lp g2 g3 8 (by omega)
                    have n5 := number_tab size (by omega) (by omega) 4 (by omega)
                    have n6 := number_tab proto (by omega) (by omega) 4 (by omega)
                    simp only [cast4, cast8] at n1 n2 n3 n4 n5 n6
                    simp only [if_true, n1, n2, n3, n4, n5, n6, Option.bind_some, size_append, strOfNums_size, beN_length, addrOf, ← strOfNums_append]
                    simp
                  | false =>
                    have n2 := number_tab lo h2 h3 4 (by omega)
                    have n4 := number_tab lp g2 g3 4 (by omega)
                    have n5 := number_tab size (by omega) (by omega) 2 (by omega)
                    have n6 := number_tab proto (by omega) (by omega) 2 (by omega)
                    simp only [cast2, cast4] at n2 n4 n5 n6
                    simp only [Bool.false_eq_true, if_false, n2, n4, n5, n6, Option.bind_some, size_append, strOfNums_size, beN_length, addrOf, ← strOfNums_append]
                    simp
        · rw [if_pos (by simpa using c3), pseudo_bad, if_neg (fun h => c3 h.2.2.1)]
      · rw [if_neg c2, pseudo_bad, if_neg (fun h => c2 h.2.1)]
    · rw [if_neg c1, pseudo_bad, if_neg (fun h => c1 h.1)]
  unfold checksum_Pseudo.f
  split
  · rename_i h
    exact J _ (by rw [if_pos h])
  · rename_i h
    exact J _ (by rw [if_neg h])
theorem rpseudo_is (v6 : Bool) (hi lo : Int) (w6 : Bool) (hj lp : Int) (proto size : Int) (h0 : 0 ≤ hi) (h1 : hi < 18446744073709551616) (h2 : 0 ≤ lo) (h3 : lo < 18446744073709551616)
    (g0 : 0 ≤ hj) (g1 : hj < 18446744073709551616) (g2 : 0 ≤ lp) (g3 : lp < 18446744073709551616) (hS : size < 9223372036854775808) (k : Nat) (hk : 20 ≤ k) :
    intrusionref02_Pseudo.f k v6 hi lo w6 hj lp proto size = some (pseudoOf v6 hi lo w6 hj lp proto size) := by
  obtain ⟨k, rfl⟩ : ∃ m, k = m + 1 := ⟨k - 1, by omega⟩
  have bad : intrusionref02_Pseudo.j0 (k + 1) proto size true v6 hi lo w6 hj lp = some ⟨#[]⟩ := by rw [intrusionref02_Pseudo.j0, if_pos rfl]
  unfold intrusionref02_Pseudo.f pseudoOf
  rw [rvalid_is, rvalid_is]
  simp only [Option.bind_some, decide_eq_true_eq]
  by_cases c1 : okAddr v6 hi lo
  · rw [if_pos c1]
    by_cases c2 : okAddr w6 hj lp
    · rw [if_pos c2]
      by_cases c3 : v6 = w6
      · subst c3
        rw [if_neg (by simp)]
        by_cases c4 : proto < 0
        · rw [if_pos c4, bad, if_neg (by omega)]
        · rw [if_neg c4]
          by_cases c5 : proto > 255
          · rw [if_pos c5, bad, if_neg (by omega)]
          · rw [if_neg c5]
            by_cases c6 : size < 0
            · rw [decide_eq_true c6, bad, if_neg (by omega)]
            · rw [decide_eq_false c6, intrusionref02_Pseudo.j0, if_neg (by simp)]
              have hv : v6 = false → lo < 4294967296 := fun h => by
                rcases c1 with c | c
                · simp [h] at c
                · exact c.2
              have hw : v6 = false → lp < 4294967296 := fun h => by
                rcases c2 with c | c
                · simp [h] at c
                · exact c.2
              rw [raddress_is v6 hi lo h0 h1 h2 h3 hv k (by omega), raddress_is v6 hj lp g0 g1 g2 g3 hw k (by omega)]
              have l1 := addrOf_len v6 hi lo
              have l2 := addrOf_len v6 hj lp
              have q1 : (addrOf v6 hi lo).length + (addrOf v6 hj lp).length ≤ 9223372036854775807 := by omega
              cases v6 with
              | true =>
                by_cases c7 : size > 4294967295
                · rw [if_neg (by simp; omega)]
                  simp [c7, strOfNums_size, q1]
                · have n5 := rnumber_is size 4 (by omega) (by omega) (by omega) k (by omega)
                  have n6 := rnumber_is proto 4 (by omega) (by omega) (by omega) k (by omega)
                  simp only [cast4] at n5 n6
                  have q2 : (addrOf true hi lo).length + (addrOf true hj lp).length + 4 ≤ 9223372036854775807 := by omega
                  have q3 : (addrOf true hi lo).length + (addrOf true hj lp).length + 4 + 4 ≤ 9223372036854775807 := by omega
                  rw [if_pos ⟨c1, c2, rfl, by omega, by omega, by omega, by simp; omega⟩]
                  simp only [if_true, n5, n6, Option.bind_some, size_append, strOfNums_size, beN_length, ← strOfNums_append, q1, q2, q3, if_neg c7]
              | false =>
                by_cases c7 : size > 65535
                · rw [if_neg (by simp; omega)]
                  simp [c7, strOfNums_size, q1]
                · have n5 := rnumber_is size 2 (by omega) (by omega) (by omega) k (by omega)
                  have n6 := rnumber_is proto 2 (by omega) (by omega) (by omega) k (by omega)
                  simp only [cast2] at n5 n6
                  have q2 : (addrOf false hi lo).length + (addrOf false hj lp).length + 2 ≤ 9223372036854775807 := by omega
                  have q3 : (addrOf false hi lo).length + (addrOf false hj lp).length + 2 + 2 ≤ 9223372036854775807 := by omega
                  rw [if_pos ⟨c1, c2, rfl, by omega, by omega, by omega, by simp; omega⟩]
                  simp only [Bool.false_eq_true, if_false, if_true, n5, n6, Option.bind_some, size_append, strOfNums_size, beN_length, ← strOfNums_append, q1, q2, q3, if_neg c7]
      · rw [if_pos (by simpa using c3), bad, if_neg (fun h => c3 h.2.2.1)]
    · rw [if_neg c2, bad, if_neg (fun h => c2 h.2.1)]
  · rw [if_neg c1, bad, if_neg (fun h => c1 h.1)]
theorem ChecksumPseudo : intrusionlaw02_ChecksumPseudo.Pure := by
  intro v6 hi lo w6 hj lp proto size a b c d e f
  have a := wf_u64 a
  have b := wf_u64 b
  have c := wf_u64 c
  have d := wf_u64 d
  have f := wf_i64 f
  refine ⟨30, ?_⟩
  unfold intrusionlaw02_ChecksumPseudo.f
  rw [pseudo_is _ _ _ _ _ _ _ _ a.1 a.2 b.1 b.2 c.1 c.2 d.1 d.2 _ (by omega), rpseudo_is _ _ _ _ _ _ _ _ a.1 a.2 b.1 b.2 c.1 c.2 d.1 d.2 f.2 _ (by omega), awake_is _ (by omega)]
  simp

end Go.Proofs.YtjlhicpkceplhaaDoor.Pure
