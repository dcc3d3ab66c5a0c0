/- Decode of layer 12 in closed form: the walk over the headers. -/
import Derived.Test.YtljboandbjahdaaIp6C
import Derived.Test.YtljboandbjahdaaIp06
import Derived.Test.YtljboandbjahdaaIp6A
import Derived.Lib.QuoteBits
import Derived.Test.YtljboandbjahdaaX5
namespace Go.Proofs.Ytljboandbjahdaa.Pure
open Go.RowKit Go.Proofs.Ytljboandbjahdaa.X Go.Proofs.YtljboandbjahdaaW.PrintWords Go.Proofs.YtljboandbjahdaaW.PrintLast Go.Proofs.YtljboandbjahdaaW.PrintMore

theorem andNot7 (x : Int) (h0 : 0 ≤ x) (h1 : x < 9223372036854775807) : Go.bits .andNot .i64 x 7 = x / 8 * 8 := by
  obtain ⟨i, rfl⟩ := Int.eq_ofNat_of_zero_le h0
  show IntKind.i64.wrap ((BitVec.ofInt 64 (i : Int) &&& ~~~BitVec.ofInt 64 ((7 : Nat) : Int)).toNat : Int) = _
  rw [BitVec.toNat_and, BitVec.toNat_not, ofInt_u64 i (by omega), ofInt_u64 7 (by omega)]
  have e : 2 ^ 64 - 1 - 7 = 18446744073709551608 := by decide
  rw [e, nat_hi64_3, Nat.mod_eq_of_lt (by omega), Go.Lib.wrap_i64_small _ (by omega)]
  omega
theorem and1_i64 (x : Int) (h0 : 0 ≤ x) (h1 : x < 9223372036854775807) : Go.bits .and .i64 x 1 = x % 2 :=
  bits_mask .i64 63 (by decide) wraps_i64' 1 (by omega) x h0 (by omega)
theorem and255 (x : Int) (h0 : 0 ≤ x) (h1 : x < 9223372036854775807) : Go.bits .and .i64 x 255 = x % 256 :=
  bits_mask .i64 63 (by decide) wraps_i64' 8 (by omega) x h0 (by omega)
theorem and20 (x : Int) (h0 : 0 ≤ x) (h1 : x < 9223372036854775807) : Go.bits .and .i64 x 1048575 = x % 1048576 :=
  bits_mask .i64 63 (by decide) wraps_i64' 20 (by omega) x h0 (by omega)
theorem bt0 (s : ByteArray) : bt s 0 = (bytesOf s).getD 0 0 := bt_eq s 0
theorem bt1 (s : ByteArray) : bt s 1 = (bytesOf s).getD 1 0 := bt_eq s 1
theorem getD_range (l : List Int) (hl : ∀ x ∈ l, 0 ≤ x ∧ x < 256) (i : Nat) : 0 ≤ l.getD i 0 ∧ l.getD i 0 ≤ 255 := by
  rw [List.getD_eq_getElem?_getD]
  by_cases h : i < l.length
  · rw [List.getElem?_eq_getElem h]
    have := hl l[i] (List.getElem_mem h)
    simp only [Option.getD_some]
    omega
  · rw [List.getElem?_eq_none (by omega)]
    simp
theorem get_is (s : ByteArray) (hs : s.size ≤ 4611686018427387904) (p z : Nat) (hz : 1 ≤ z ∧ z ≤ 7) (hp : p + z ≤ s.size) (k : Nat) (hk : 10 ≤ k) :
    field_Get.f k s p z = some (valBE (((bytesOf s).drop p).take z), 0) := by
  unfold field_Get.f
  rw [if_pos (by omega), if_neg (by omega), if_neg (by omega), show ((p : Int) + z).toNat = p + z by omega, Int.toNat_natCast, bytesOf_extract, show p + z - p = z by omega,
    number_is _ (fun x hx => bytesOf_range s x (List.mem_of_mem_drop (List.mem_of_mem_take hx))) (by simp; omega) _ (by omega)]
  simp only [bs]
abbrev WR := Int × List S60 × Bool × Int × Int × Bool × ByteArray × Int
/-- The walk over the headers: the next kind, the headers, the fragment's numbers, the payload and the error. -/
def walkOf : Nat → Bool → Int → List S60 → Bool → Int → Int → Bool → List Int → WR
  | 0, _, _, _, _, _, _, _, _ => (0, [], false, 0, 0, false, ⟨#[]⟩, 7)
  | m + 1, first, nx, l, fr, id, off, mo, r =>
    if ¬ (isExt nx ∨ nx = 44) then (nx, l, fr, id, off, mo, strOfNums r, 0)
    else if (nx = 0 ∧ first = false) ∨ fr = true then (0, [], false, 0, 0, false, ⟨#[]⟩, 2)
    else if nx ≠ 44 ∧ l.length = 8 then (0, [], false, 0, 0, false, ⟨#[]⟩, 9)
    else if r.length < 8 ∨ (nx ≠ 44 ∧ (r.length : Int) < 8 + 8 * r.getD 1 0) then (0, [], false, 0, 0, false, ⟨#[]⟩, 1)
    else if nx = 44 then walkOf m false (r.getD 0 0) l true (valBE ((r.drop 4).take 4)) (valBE ((r.drop 2).take 2) / 8 * 8) (valBE ((r.drop 2).take 2) % 2 == 1) (r.drop 8)
    else walkOf m false (r.getD 0 0) (l ++ [(⟨nx, strOfNums ((r.drop 2).take (6 + 8 * (r.getD 1 0).toNat))⟩ : S60)]) fr id off mo (r.drop (8 + 8 * (r.getD 1 0).toNat))
abbrev PR := Int × Int × Int × Int × Bool × Int × Int × Bool × Int × Int × (List (S60)) × Bool × Int × Int × Bool × ByteArray × Int
def badP (e : Int) : PR := (0, 0, 0, 0, false, 0, 0, false, 0, 0, ([] : List (S60)), false, 0, 0, false, (⟨#[]⟩ : ByteArray), e)
def packP (c lb h : Int) (v : Bool) (s1 s2 : Int) (w : Bool) (d1 d2 : Int) (r : WR) : PR :=
  if r.2.2.2.2.2.2.2 = 0 then (c, lb, h, r.1, v, s1, s2, w, d1, d2, r.2.1, r.2.2.1, r.2.2.2.1, r.2.2.2.2.1, r.2.2.2.2.2.1, r.2.2.2.2.2.2.1, 0) else badP r.2.2.2.2.2.2.2
theorem ext_str (s : ByteArray) (i j : Nat) : s.extract i j = strOfNums (((bytesOf s).drop i).take (j - i)) := by rw [← bytesOf_extract, str_bytes]
theorem ext_end (s : ByteArray) (i : Nat) : bytesOf (s.extract i s.size) = (bytesOf s).drop i := by
  rw [bytesOf_extract, List.take_of_length_le (by simp [bytesOf_length])]
section
variable (c lb h : Int) (v : Bool) (s1 s2 : Int) (w : Bool) (d1 d2 : Int)
theorem heads_walk : ∀ (m k : Nat) (first : Bool) (nx : Int) (l : List S60) (fr : Bool) (id off : Int) (mo : Bool) (s : ByteArray), s.size < 8 * m → s.size ≤ 4611686018427387904 → l.length ≤ 8 →
    ipv6_headers.l0 (k + 5 * m + 10) first c lb h nx v s1 s2 w d1 d2 l fr id off mo s = some (packP c lb h v s1 s2 w d1 d2 (walkOf m first nx l fr id off mo (bytesOf s)))
  | 0, k, first, nx, l, fr, id, off, mo, s, hm, _, _ => by omega
  | m + 1, k, first, nx, l, fr, id, off, mo, s, hm, hs, hl => by
    have hbl := bytesOf_length s
    rw [show k + 5 * (m + 1) + 10 = (k + 5 * m + 10) + 1 + 1 + 1 + 1 + 1 by omega, ipv6_headers.l0, ext_is]
    simp only [bs]
    have hj1 : (if decide (isExt nx) = true then ipv6_headers.j1 (k + 5 * m + 10 + 1 + 1 + 1 + 1) first nx false c lb h nx v s1 s2 w d1 d2 l fr id off mo s else ipv6_headers.j1 (k + 5 * m + 10 + 1 + 1 + 1 + 1) first nx (nx != 44) c lb h nx v s1 s2 w d1 d2 l fr id off mo s)
        = ipv6_headers.j1 (k + 5 * m + 10 + 1 + 1 + 1 + 1) first nx (decide (¬ (isExt nx ∨ nx = 44))) c lb h nx v s1 s2 w d1 d2 l fr id off mo s := by
      by_cases a : isExt nx
      · rw [if_pos (decide_eq_true a), show decide (¬ (isExt nx ∨ nx = 44)) = false from decide_eq_false (fun z => z (.inl a))]
      · rw [if_neg (by rw [decide_eq_true_iff]; exact a)]
        by_cases b : nx = 44
        · rw [show decide (¬ (isExt nx ∨ nx = 44)) = false from decide_eq_false (fun z => z (.inr b)), show (nx != 44) = false from bne_eq_false_iff_eq.mpr b]
        · rw [show decide (¬ (isExt nx ∨ nx = 44)) = true from decide_eq_true (fun z => z.elim a b), show (nx != 44) = true from bne_iff_ne.mpr b]
    rw [hj1, ipv6_headers.j1]
    unfold walkOf
    by_cases hext : isExt nx ∨ nx = 44
    · rw [if_neg (by rw [decide_eq_true_iff]; exact fun z => z hext), if_neg (fun z : ¬ (isExt nx ∨ nx = 44) => z hext)]
      have hj2 : (if nx = 0 then ipv6_headers.j2 (k + 5 * m + 10 + 1 + 1 + 1) nx (!first) c lb h nx v s1 s2 w d1 d2 l fr id off mo s else ipv6_headers.j2 (k + 5 * m + 10 + 1 + 1 + 1) nx false c lb h nx v s1 s2 w d1 d2 l fr id off mo s)
          = ipv6_headers.j3 (k + 5 * m + 10 + 1 + 1) nx (decide ((nx = 0 ∧ first = false) ∨ fr = true)) c lb h nx v s1 s2 w d1 d2 l fr id off mo s := by
        by_cases a : nx = 0
        · rw [if_pos a, ipv6_headers.j2]
          cases first with
          | true => rw [if_neg (by decide), show decide ((nx = 0 ∧ true = false) ∨ fr = true) = fr by cases fr <;> simp]
          | false => rw [if_pos (by decide), show decide ((nx = 0 ∧ false = false) ∨ fr = true) = true from decide_eq_true (.inl ⟨a, rfl⟩)]; rfl
        · rw [if_neg a, ipv6_headers.j2, if_neg (by decide), show decide ((nx = 0 ∧ first = false) ∨ fr = true) = fr by cases fr <;> simp [a]]
      rw [hj2, ipv6_headers.j3]
      by_cases hbad : (nx = 0 ∧ first = false) ∨ fr = true
      · rw [if_pos (decide_eq_true hbad), if_pos hbad]
        rfl
      · rw [if_neg (by rw [decide_eq_true_iff]; exact hbad), if_neg hbad]
        have hfr : fr = false := by cases fr with | true => exact absurd (.inr rfl) hbad | false => rfl
        by_cases h44 : nx = 44
        · rw [if_pos h44, if_neg (fun z : nx ≠ 44 ∧ l.length = 8 => z.1 h44), ipv6_headers.j4, if_neg (by decide)]
          by_cases h8 : s.size < 8
          · rw [if_pos (by omega), if_pos (show (bytesOf s).length < 8 ∨ (nx ≠ 44 ∧ ((bytesOf s).length : Int) < 8 + 8 * (bytesOf s).getD 1 0) from .inl (by omega))]
            rfl
          · rw [if_neg (by omega), if_neg (show ¬ ((bytesOf s).length < 8 ∨ (nx ≠ 44 ∧ ((bytesOf s).length : Int) < 8 + 8 * (bytesOf s).getD 1 0)) from fun z => z.elim (fun y => by omega) (fun y => y.1 h44)), if_pos (by omega), if_pos h44, if_pos h44]
            have g2 := get_is s hs 2 2 (by omega) (by omega) (k + 5 * m + 10) (by omega)
            have g4 := get_is s hs 4 4 (by omega) (by omega) (k + 5 * m + 10) (by omega)
            rw [show ((2 : Nat) : Int) = 2 from rfl] at g2
            rw [show ((4 : Nat) : Int) = 4 from rfl] at g4
            rw [g2, g4]
            have hv := valBE_range (((bytesOf s).drop 2).take 2) (fun x hx => bytesOf_range s x (List.mem_of_mem_drop (List.mem_of_mem_take hx)))
            have hv2 : (((bytesOf s).drop 2).take 2).length = 2 := by simp; omega
            rw [hv2] at hv
            simp only [bs]
            rw [if_pos (by omega), andNot7 _ hv.1 (by omega), and1_i64 _ hv.1 (by omega), bt0, heads_walk m k false _ l true _ _ _ (s.extract 8 s.size) (by simp; omega) (by simp; omega) hl, ext_end]
        · rw [if_neg h44, ipv6_headers.j4]
          by_cases hl8 : l.length = 8
          · rw [if_pos (by rw [beq_iff_eq]; omega), if_pos (show nx ≠ 44 ∧ l.length = 8 from ⟨h44, hl8⟩)]
            rfl
          · rw [if_neg (by rw [beq_iff_eq]; omega), if_neg (fun z : nx ≠ 44 ∧ l.length = 8 => hl8 z.2)]
            by_cases h8 : s.size < 8
            · rw [if_pos (by omega), if_pos (show (bytesOf s).length < 8 ∨ (nx ≠ 44 ∧ ((bytesOf s).length : Int) < 8 + 8 * (bytesOf s).getD 1 0) from .inl (by omega))]
              rfl
            · rw [if_neg (by omega), if_pos (by omega), if_neg h44, if_pos (by omega), bt1]
              have hr := getD_range (bytesOf s) (bytesOf_range s) 1
              by_cases hlen : ((bytesOf s).length : Int) < 8 + 8 * (bytesOf s).getD 1 0
              · rw [if_pos (by omega), if_pos (show (bytesOf s).length < 8 ∨ (nx ≠ 44 ∧ ((bytesOf s).length : Int) < 8 + 8 * (bytesOf s).getD 1 0) from .inr ⟨h44, hlen⟩)]
                rfl
              · rw [if_neg (by omega), if_neg (show ¬ ((bytesOf s).length < 8 ∨ (nx ≠ 44 ∧ ((bytesOf s).length : Int) < 8 + 8 * (bytesOf s).getD 1 0)) from fun z => z.elim (fun y => by omega) (fun y => hlen y.2)), if_pos (by omega), if_pos (by omega), if_pos (by omega), if_pos (by omega), if_neg h44, bt0]
                rw [heads_walk m k false _ _ fr _ _ _ _ (by rw [ByteArray.size_extract]; omega) (by rw [ByteArray.size_extract]; omega) (by simp; omega), ext_end, ext_str]
                have e1 : (8 + 8 * (bytesOf s).getD 1 0).toNat = 8 + 8 * ((bytesOf s).getD 1 0).toNat := by omega
                have e2 : 8 + 8 * ((bytesOf s).getD 1 0).toNat - 2 = 6 + 8 * ((bytesOf s).getD 1 0).toNat := by omega
                rw [e1, e2]
    · rw [if_pos (decide_eq_true hext), if_pos hext, str_bytes]
      rfl
end
end Go.Proofs.Ytljboandbjahdaa.Pure
