/- CaptureWrites as a plain law: Write of any list is the document's, under the law's own bounds, and the examples hold; the records are as large as a machine's memory lets them be. -/
import Derived.Test.YtafjmciojeondaaXDCaptureWrites
import Derived.Test.YtafjmciojeondaaX0
import Derived.Laws.Bits128
import Derived.Laws.BitsAllLaws
import Derived.Lib.EndianBits
import Derived.Test.YtafjmciojeondaaX7
import Derived.Test.YtafjmciojeondaaX8
import Derived.Test.YtafjmciojeondaaX9
import Derived.Test.YtafjmciojeondaaX21
import Derived.Test.YtafjmciojeondaaX5
import Derived.Test.YtafjmciojeondaaX3
import Derived.Test.YtafjmciojeondaaX6
import Derived.Test.YtafjmciojeondaaX16
import Derived.Test.YtafjmciojeondaaX15
/-! ### Base -/
set_option linter.unusedVariables false
set_option linter.unusedSimpArgs false
namespace Go.Proofs.Ytafjmciojeondaa.Pure
open Go.RowKit Go.Proofs.Ytafjmciojeondaa.X Go.Proofs.YtafjmciojeondaaW.PrintWords Go.Proofs.YtafjmciojeondaaW.PrintLast Go.Proofs.YtafjmciojeondaaW.PrintMore

/-- Told without 'rfl': a simp by it leaves the kernel little to compare. -/
theorem bs {α β : Type} (a : α) (f : α → Option β) : (some a).bind f = f a := by
  cases h : (some a) with
  | none => cases h
  | some b => injection h with h; subst h; rfl
theorem w64 {n : Int} (h : -9223372036854775808 ≤ n) (h' : n < 9223372036854775808) : wrap64 n = n := by unfold wrap64; omega
theorem bytesOf_range (s : ByteArray) : ∀ x ∈ bytesOf s, 0 ≤ x ∧ x < 256 := by
  intro x hx
  obtain ⟨b, _, rfl⟩ := List.mem_map.mp hx
  have := b.toNat_lt
  omega
theorem bytesOf_inj {a b : ByteArray} (h : bytesOf a = bytesOf b) : a = b := by
  have h2 : a.data.toList = b.data.toList := by
    refine List.map_inj_right (f := fun (b : UInt8) => (b.toNat : Int)) ?_ |>.mp h
    intro x y hxy
    exact UInt8.toNat_inj.mp (by exact_mod_cast hxy)
  cases a; cases b
  simp at h2
  simp [h2]
theorem bytesOf_strOfNums (l : List Int) (h : ∀ x ∈ l, 0 ≤ x ∧ x < 256) : bytesOf (strOfNums l) = l := by
  induction l with
  | nil => rfl
  | cons x l ih =>
    have h1 := h x (by simp)
    have h2 := ih (fun y hy => h y (by simp [hy]))
    simp only [bytesOf, strOfNums_data, List.map_map, List.map_cons] at h2 ⊢
    refine List.cons_eq_cons.mpr ⟨?_, h2⟩
    simp only [UInt8.toNat_ofNat']
    omega
theorem size_append (a b : ByteArray) : (a ++ b).size = a.size + b.size := by simp
theorem strOfNums_append (a b : List Int) : strOfNums (a ++ b) = strOfNums a ++ strOfNums b := by
  apply ByteArray.ext; simp [strOfNums, ByteArray.data_append]
/-! ### Cap -/

theorem lives100 : intrusionlaw09_lives.f 100 = some true := by decide +kernel
theorem lives_is (k : Nat) (hk : 100 ≤ k) : intrusionlaw09_lives.f k = some true := at_rounds intrusionlaw09_lives.mono hk lives100
theorem rd33 (l : List S33) (i : Nat) (h : i < l.length) : rd_T33 l (i : Int) = l[i] := by
  unfold rd_T33
  rw [Int.toNat_natCast, List.getD_eq_getElem?_getD, List.getElem?_eq_getElem h]
  rfl
theorem long_loop (l : List S33) : ∀ (m i k : Nat), i + m = 41 → (∀ j, j < i → (h : j < l.length) → l[j].f2.size ≤ 5000) → i ≤ l.length →
    ∃ b, intrusionref09_Long.l0 (k + 2 * m + 2) l (i : Int) = some b ∧ (b = false → l.length ≤ 40 ∧ ∀ x ∈ l, x.f2.size ≤ 5000)
  | 0, i, k, h, hi, hil => by
    refine ⟨decide ((l.length : Int) > 40), ?_, fun hb => ?_⟩
    · rw [show k + 2 * 0 + 2 = (k + 1) + 1 by omega, intrusionref09_Long.l0]
      by_cases c : (i : Int) < (l.length : Int)
      · rw [if_pos c, decide_eq_false (by omega), intrusionref09_Long.j1, if_neg (by decide)]
      · rw [if_neg c, intrusionref09_Long.j1, if_neg (by decide)]
    · have := of_decide_eq_false hb
      omega
  | m + 1, i, k, h, hi, hil => by
    rw [show k + 2 * (m + 1) + 2 = (k + 2 * m + 2 + 1) + 1 by omega, intrusionref09_Long.l0]
    by_cases c : (i : Int) < (l.length : Int)
    · rw [if_pos c, decide_eq_true (by omega), intrusionref09_Long.j1, if_pos rfl, if_pos (by omega), if_pos c, rd33 l i (by omega)]
      by_cases d : (l[i].f2.size : Int) > 5000
      · rw [if_pos d]
        exact ⟨true, rfl, fun hb => by cases hb⟩
      · rw [if_neg d, w64 (n := (i : Int) + 1) (by omega) (by omega), show (i : Int) + 1 = ((i + 1 : Nat) : Int) by omega]
        refine long_loop l m (i + 1) k (by omega) (fun j hj hjl => ?_) (by omega)
        by_cases e : j = i
        · subst e; omega
        · exact hi j (by omega) hjl
    · rw [if_neg c, intrusionref09_Long.j1, if_neg (by decide)]
      refine ⟨_, rfl, fun hb => ⟨by have := of_decide_eq_false hb; omega, fun x hx => ?_⟩⟩
      obtain ⟨j, hj, rfl⟩ := List.getElem_of_mem hx
      exact hi j (by omega) hj
theorem long_is (l : List S33) (k : Nat) (hk : 90 ≤ k) : ∃ b, intrusionref09_Long.f k l = some b ∧ (b = false → l.length ≤ 40 ∧ ∀ x ∈ l, x.f2.size ≤ 5000) := by
  have := long_loop l 41 0 (k - 84) (by omega) (fun j hj => by omega) (by omega)
  rw [show k - 84 + 2 * 41 + 2 = k by omega] at this
  exact this
/-! ### Field -/

/-- The last digits of a number to the base 256, the most significant first. -/
def beN : Nat → Int → List Int
  | 0, _ => []
  | i + 1, n => n / 256 ^ i % 256 :: beN i n
theorem beN_length : ∀ (i : Nat) (n : Int), (beN i n).length = i
  | 0, _ => rfl
  | i + 1, n => by simp [beN, beN_length i n]
theorem beN_range : ∀ (i : Nat) (n : Int), ∀ x ∈ beN i n, 0 ≤ x ∧ x < 256
  | 0, _, x, h => by simp [beN] at h
  | i + 1, n, x, h => by
    simp only [beN, List.mem_cons] at h
    rcases h with rfl | h
    · omega
    · exact beN_range i n x h
/-- The number of digits, the most significant first. -/
def valBE (l : List Int) : Int := l.foldl (fun n c => n * 256 + c) 0
theorem shr64 (n : Int) (i : Nat) (h : i ≤ 8) : shr .i64 n (8 * (i : Int)) = n / 256 ^ i := by
  unfold shr
  have e : IntKind.i64.bits = 64 := rfl
  rw [e, show (8 * (i : Int)).toNat = 8 * i by omega, Nat.min_eq_left (by omega), Int.pow_mul]
  rfl
theorem put_loop (n : Int) (size : Nat) (hs : size ≤ 7) : ∀ (m i k : Nat), i + m = size →
    field_Put.l0 (k + m + 1) n size (List.replicate m 0 ++ beN i n) size i = some (strOfNums (beN size n))
  | 0, i, k, h => by
    unfold field_Put.l0
    rw [if_neg (by omega)]
    simp only [List.replicate_zero, List.nil_append]
    rw [show i = size by omega]
  | m + 1, i, k, h => by
    rw [show k + (m + 1) + 1 = (k + m + 1) + 1 by omega]
    unfold field_Put.l0
    have hl : (List.replicate (m + 1) (0 : Int) ++ beN i n).length = size := by simp [beN_length]; omega
    rw [w64 (n := 8 * (i : Int)) (by omega) (by omega), w64 (n := (size : Int) - 1) (by omega) (by omega), w64 (n := (size : Int) - 1 - i) (by omega) (by omega), w64 (n := (i : Int) + 1) (by omega) (by omega), hl]
    rw [if_pos (by omega), if_pos (by omega), if_pos (by omega), if_pos (by omega), shr64 n i (by omega)]
    have e : (List.replicate (m + 1) (0 : Int) ++ beN i n).set ((size : Int) - 1 - i).toNat (n / 256 ^ i % 256) = List.replicate m 0 ++ beN (i + 1) n := by
      rw [show ((size : Int) - 1 - i).toNat = m by omega, List.replicate_succ', List.append_assoc, List.set_append_right _ _ (by simp)]
      simp [beN]
    rw [e, show (i : Int) + 1 = ((i + 1 : Nat) : Int) by omega]
    exact put_loop n size hs m (i + 1) k (by omega)
/-- Put in closed form. -/
def putOf (n size : Int) : ByteArray := if 1 ≤ size ∧ size ≤ 7 ∧ 0 ≤ n ∧ n < 256 ^ size.toNat then strOfNums (beN size.toNat n) else ⟨#[]⟩
theorem put_is (n size : Int) (k : Nat) (hk : 10 ≤ k) : field_Put.f k n size = some (putOf n size) := by
  obtain ⟨k, rfl⟩ : ∃ m, k = m + 1 := ⟨k - 1, by omega⟩
  unfold field_Put.f field_valid.f putOf
  by_cases h1 : 1 ≤ size
  · by_cases h7 : size ≤ 7
    · obtain ⟨z, rfl⟩ := Int.eq_ofNat_of_zero_le (show 0 ≤ size by omega)
      have hp : (0 : Int) < 256 ^ z := Int.pow_pos (by decide)
      simp only [ge_iff_le, h1, h7, if_true, decide_true, Option.bind_some, true_and, Int.toNat_natCast]
      rw [w64 (n := 8 * (z : Int)) (by omega) (by omega), shr64 n z (by omega)]
      by_cases h0 : n < 0
      · rw [if_pos h0, if_neg (show ¬ (0 ≤ n ∧ n < 256 ^ z) by omega)]
        unfold field_Put.j0
        simp
      · rw [if_neg h0, if_pos (show 0 ≤ 8 * (z : Int) by omega)]
        by_cases hb : n < 256 ^ z
        · rw [if_pos ⟨by omega, hb⟩, Int.ediv_eq_zero_of_lt (by omega) hb]
          unfold field_Put.j0
          have hl := put_loop n z (by omega) z 0 (k - z - 1) (by omega)
          rw [show k - z - 1 + z + 1 = k by omega] at hl
          simp only [bne_self_eq_false, Bool.false_eq_true, if_false]
          rw [if_pos (by omega), if_pos (by omega)]
          simpa [beN] using hl
        · have h3 : n / 256 ^ z ≠ 0 := by
            intro hz
            have := Int.lt_ediv_add_one_mul_self n hp
            rw [hz] at this
            omega
          rw [if_neg (fun h => hb h.2)]
          unfold field_Put.j0
          simp [h3]
    · have hn : ¬ (1 ≤ size ∧ size ≤ 7 ∧ 0 ≤ n ∧ n < 256 ^ size.toNat) := fun h => h7 h.2.1
      rw [if_pos (show size ≥ 1 from h1), if_neg hn]
      unfold field_Put.j0
      simp [h7]
  · have hn : ¬ (1 ≤ size ∧ size ≤ 7 ∧ 0 ≤ n ∧ n < 256 ^ size.toNat) := fun h => h1 h.1
    rw [if_neg (show ¬ size ≥ 1 from h1), if_neg hn]
    unfold field_Put.j0
    simp
theorem putOf_size (n size : Int) (h1 : 1 ≤ size) (h7 : size ≤ 7) (h0 : 0 ≤ n) (hb : n < 256 ^ size.toNat) : bytesOf (putOf n size) = beN size.toNat n := by
  unfold putOf
  rw [if_pos ⟨h1, h7, h0, hb⟩, bytesOf_strOfNums _ (beN_range _ _)]
theorem putOf_len (n size : Int) : (putOf n size).size ≤ 7 := by
  unfold putOf
  split
  · rw [strOfNums_size, beN_length]; omega
  · decide
/-! ### CapW -/

/-- The bytes of a number, the least significant first. -/
def leN (z : Nat) (n : Int) : List Int := (beN z n).reverse
theorem leN_length (z : Nat) (n : Int) : (leN z n).length = z := by unfold leN; rw [List.length_reverse, beN_length]
theorem leN_range (z : Nat) (n : Int) : ∀ x ∈ leN z n, 0 ≤ x ∧ x < 256 := fun x hx => beN_range z n x (List.mem_reverse.mp hx)
theorem bytes_leN (z : Nat) (n : Int) : bytesOf (strOfNums (leN z n)) = leN z n := bytesOf_strOfNums _ (leN_range z n)
theorem little_is (n : Int) (z : Nat) (h1 : 1 ≤ z) (h7 : z ≤ 7) (h0 : 0 ≤ n) (hn : n < 256 ^ z) (k : Nat) (hk : 10 ≤ k) : field_PutLittle.f k n (z : Int) = some (strOfNums (leN z n)) := by
  unfold field_PutLittle.f
  rw [put_is n z k hk]
  simp only [bs]
  have := putOf_len n z
  rw [if_pos (by omega), putOf_size n z (by omega) (by omega) h0 (by rw [Int.toNat_natCast]; exact hn), Int.toNat_natCast, leN]
/-- The bytes of a record. -/
def recW (x : S33) : List Int := leN 4 (x.f0 / 1000) ++ leN 4 (x.f0 % 1000 * 1000) ++ leN 4 (x.f2.size : Int) ++ leN 4 x.f1 ++ bytesOf x.f2
theorem recW_length (x : S33) : (recW x).length = 16 + x.f2.size := by
  unfold recW
  simp only [List.length_append, leN_length, bytesOf_length]
/-- The bytes of the header. -/
def hdrW : List Int := leN 4 2712847316 ++ leN 2 2 ++ leN 2 4 ++ leN 4 0 ++ leN 4 0 ++ leN 4 4096 ++ leN 4 1
def badRec (x : S33) : Prop := x.f0 < 0 ∨ x.f0 > 1099511627776 ∨ x.f1 < (x.f2.size : Int) ∨ x.f1 > 65535
instance (x : S33) : Decidable (badRec x) := by unfold badRec; infer_instance
/-- What Write answers from record i on, behind the bytes that there are. -/
def wrG (l : List S33) : Nat → Nat → List Int → ByteArray × Int
  | 0, i, L => (strOfNums L, 0)
  | m + 1, i, L => if h : i < l.length then (if (l[i].f2.size : Int) > 4096 then (⟨#[]⟩, 3) else if badRec l[i] then (⟨#[]⟩, 4) else if 0 < i ∧ l[i].f0 < (l[i - 1]'(by omega)).f0 then (⟨#[]⟩, 12) else wrG l m (i + 1) (L ++ recW l[i])) else (strOfNums L, 0)
def wrOf (l : List S33) : ByteArray × Int := if l.length > 2000 then (⟨#[]⟩, 3) else wrG l l.length 0 hdrW
theorem rd50 (l : List S50) (i : Nat) (h : i < l.length) : rd_T50 l (i : Int) = l[i] := by
  unfold rd_T50
  rw [Int.toNat_natCast, List.getD_eq_getElem?_getD, List.getElem?_eq_getElem h]
  rfl
theorem hdr_loop (l : List S33) (ys : List S50) (hy : ∀ y ∈ ys, 0 ≤ y.f0 ∧ ∃ z : Nat, y.f1 = z ∧ 1 ≤ z ∧ z ≤ 7 ∧ y.f0 < 256 ^ z) (hl : ys.length ≤ 100) : ∀ (m i k : Nat) (L : List Int), i + m = ys.length → L.length ≤ 7 * i → 10 ≤ k →
    capture_Write.l0 (k + m + 1) l L ys ys.length (i : Int) = capture_Write.l1 k l (L ++ (ys.drop i).flatMap fun y => leN y.f1.toNat y.f0) l l.length 0
  | 0, i, k, L, h, hL, hk => by
    rw [capture_Write.l0, if_neg (by omega), List.drop_eq_nil_of_le (by omega), List.flatMap_nil, List.append_nil]
  | m + 1, i, k, L, h, hL, hk => by
    have hlt : i < ys.length := by omega
    obtain ⟨h0, z, hz, z1, z7, hb⟩ := hy ys[i] (List.getElem_mem hlt)
    rw [show k + (m + 1) + 1 = (k + m + 1) + 1 by omega, capture_Write.l0, if_pos (by omega), if_pos (by omega), if_pos (by omega), rd50 ys i hlt, hz, little_is _ z z1 z7 h0 hb _ (by omega)]
    simp only [bs]
    rw [if_pos (by rw [strOfNums_size, leN_length]; omega), bytes_leN, w64 (n := (i : Int) + 1) (by omega) (by omega), show (i : Int) + 1 = ((i + 1 : Nat) : Int) by omega,
      hdr_loop l ys hy hl m (i + 1) k _ (by omega) (by rw [List.length_append, leN_length]; omega) hk, List.drop_eq_getElem_cons hlt, List.flatMap_cons, hz, Int.toNat_natCast, List.append_assoc]
theorem rdI (l : List Int) (i : Nat) (h : i < l.length) : rd l (i : Int) = l[i] := by
  unfold rd
  rw [Int.toNat_natCast, List.getD_eq_getElem?_getD, List.getElem?_eq_getElem h]
  rfl
theorem four_loop (l : List S33) (ys : List Int) (hy : ∀ y ∈ ys, 0 ≤ y ∧ y < 256 ^ 4) (hl : ys.length ≤ 100) (x39 a b : Int) (c : ByteArray) : ∀ (m i k : Nat) (L : List Int), i + m = ys.length → L.length + 4 * m < 1000000000 → 10 ≤ k → (L ++ (ys.drop i).flatMap fun y => leN 4 y).length + c.size < 140737488355328 →
    capture_Write.l2 (k + m + 1) l L l l.length x39 ys ys.length (i : Int) a b c = capture_Write.l1 k l ((L ++ (ys.drop i).flatMap fun y => leN 4 y) ++ bytesOf c) l l.length (wrap64 (x39 + 1))
  | 0, i, k, L, h, hL, hk, hc => by
    rw [List.drop_eq_nil_of_le (by omega), List.flatMap_nil, List.append_nil] at hc ⊢
    rw [capture_Write.l2, if_neg (by omega), if_pos hc]
  | m + 1, i, k, L, h, hL, hk, hc => by
    have hlt : i < ys.length := by omega
    obtain ⟨h0, hb⟩ := hy ys[i] (List.getElem_mem hlt)
    have hP := little_is ys[i] 4 (by omega) (by omega) h0 hb (k + m + 1) (by omega)
    rw [show ((4 : Nat) : Int) = 4 from rfl] at hP
    rw [List.drop_eq_getElem_cons hlt, List.flatMap_cons, ← List.append_assoc] at hc ⊢
    rw [show k + (m + 1) + 1 = (k + m + 1) + 1 by omega, capture_Write.l2, if_pos (by omega), if_pos (by omega), if_pos (by omega), rdI ys i hlt, hP]
    simp only [bs]
    rw [if_pos (by rw [strOfNums_size, leN_length]; omega), bytes_leN, w64 (n := (i : Int) + 1) (by omega) (by omega), show (i : Int) + 1 = ((i + 1 : Nat) : Int) by omega,
      four_loop l ys hy hl x39 a b c m (i + 1) k _ (by omega) (by rw [List.length_append, leN_length]; omega) hk hc]
theorem j3_is (l : List S33) (i k : Nat) (L : List Int) (x : S33) (hi : i < l.length) (hl : l.length ≤ 2000) (hL : L.length ≤ 100000000) (hs : ¬ (x.f2.size : Int) > 4096) (hx : ¬ badRec x) (hk : 10 ≤ k) :
    capture_Write.j3 (k + 6) l L l l.length (i : Int) x.f0 x.f1 x.f2 = capture_Write.l1 k l (L ++ recW x) l l.length ((i + 1 : Nat) : Int) := by
  unfold badRec at hx
  have e1 : wrap64 (Int.tdiv x.f0 1000) = x.f0 / 1000 := by rw [Int.tdiv_eq_ediv_of_nonneg (by omega), w64 (by omega) (by omega)]
  have e2 : wrap64 (Int.tmod x.f0 1000 * 1000) = x.f0 % 1000 * 1000 := by rw [Int.tmod_eq_emod_of_nonneg (by omega), w64 (by omega) (by omega)]
  rw [show k + 6 = (k + 4 + 1) + 1 by omega, capture_Write.j3, e1, e2]
  simp only [bs]
  have main := four_loop l [x.f0 / 1000, x.f0 % 1000 * 1000, (x.f2.size : Int), x.f1] (by
    intro y hy
    simp only [List.mem_cons, List.not_mem_nil, or_false] at hy
    rcases hy with rfl | rfl | rfl | rfl <;> omega) (by simp) (i : Int) x.f0 x.f1 x.f2 4 0 k L (by simp) (by omega) hk (by simp [leN_length]; omega)
  rw [show ((0 : Nat) : Int) = 0 from rfl, List.drop_zero] at main
  rw [main, w64 (n := (i : Int) + 1) (by omega) (by omega)]
  unfold recW
  simp only [List.flatMap_cons, List.flatMap_nil, List.append_nil, List.append_assoc]
  rfl
theorem w1_loop (l : List S33) (hl : l.length ≤ 2000) : ∀ (m i k : Nat) (L : List Int), i + m = l.length → L.length ≤ 24 + 5000 * i →
    capture_Write.l1 (k + 8 * m + 20) l L l l.length (i : Int) = some (wrG l m i L)
  | 0, i, k, L, h, hL => by
    rw [show k + 8 * 0 + 20 = (k + 19) + 1 by omega, capture_Write.l1, if_neg (by omega), wrG]
  | m + 1, i, k, L, h, hL => by
    have hlt : i < l.length := by omega
    rw [show k + 8 * (m + 1) + 20 = (k + 8 * m + 20 + 7) + 1 by omega, capture_Write.l1, if_pos (by omega), if_pos (by omega), if_pos (by omega), rd33 l i hlt, wrG, dif_pos hlt]
    by_cases hs : (l[i].f2.size : Int) > 4096
    · rw [if_pos hs, if_pos hs]
    rw [if_neg hs, if_neg hs]
    have hj2 : ∀ b : Bool, capture_Write.j2 (k + 8 * m + 20 + 7) l L (i : Int) l l.length (i : Int) b l[i].f0 l[i].f1 l[i].f2 = if b = true then some ((⟨#[]⟩ : ByteArray), 4) else (if 0 < i ∧ l[i].f0 < (l[i - 1]'(by omega)).f0 then some ((⟨#[]⟩ : ByteArray), 12) else capture_Write.j3 (k + 8 * m + 20 + 6) l L l l.length (i : Int) l[i].f0 l[i].f1 l[i].f2) := by
      intro b
      rw [show k + 8 * m + 20 + 7 = (k + 8 * m + 20 + 6) + 1 by omega, capture_Write.j2]
      cases b with
      | true => rw [if_pos rfl, if_pos rfl]
      | false =>
        rw [if_neg (show ¬ (false = true) by decide), if_neg (show ¬ (false = true) by decide)]
        by_cases c : (i : Int) > 0
        · rw [if_pos c, w64 (n := (i : Int) - 1) (by omega) (by omega), show (i : Int) - 1 = ((i - 1 : Nat) : Int) by omega, if_pos (by omega), if_pos (by omega), rd33 l (i - 1) (by omega)]
          by_cases d : l[i].f0 < (l[i - 1]'(by omega)).f0
          · rw [if_pos d, if_pos ⟨by omega, d⟩]
          · rw [if_neg d, if_neg (fun y => d y.2)]
        · rw [if_neg c, if_neg (fun y => c (by omega))]
    have hb : (if l[i].f0 < 0 then capture_Write.j2 (k + 8 * m + 20 + 7) l L (i : Int) l l.length (i : Int) true l[i].f0 l[i].f1 l[i].f2 else if l[i].f0 > 1099511627776 then capture_Write.j2 (k + 8 * m + 20 + 7) l L (i : Int) l l.length (i : Int) true l[i].f0 l[i].f1 l[i].f2
        else if l[i].f1 < (l[i].f2.size : Int) then capture_Write.j2 (k + 8 * m + 20 + 7) l L (i : Int) l l.length (i : Int) true l[i].f0 l[i].f1 l[i].f2 else capture_Write.j2 (k + 8 * m + 20 + 7) l L (i : Int) l l.length (i : Int) (decide (l[i].f1 > 65535)) l[i].f0 l[i].f1 l[i].f2)
        = capture_Write.j2 (k + 8 * m + 20 + 7) l L (i : Int) l l.length (i : Int) (decide (badRec l[i])) l[i].f0 l[i].f1 l[i].f2 := by
      by_cases a1 : l[i].f0 < 0
      · rw [if_pos a1, decide_eq_true (show badRec l[i] from .inl a1)]
      rw [if_neg a1]
      by_cases a2 : l[i].f0 > 1099511627776
      · rw [if_pos a2, decide_eq_true (show badRec l[i] from .inr (.inl a2))]
      rw [if_neg a2]
      by_cases a3 : l[i].f1 < (l[i].f2.size : Int)
      · rw [if_pos a3, decide_eq_true (show badRec l[i] from .inr (.inr (.inl a3)))]
      rw [if_neg a3]
      congr 1
      apply decide_eq_decide.mpr
      unfold badRec
      omega
    rw [hb, hj2]
    by_cases bad : badRec l[i]
    · rw [if_pos (decide_eq_true bad), if_pos bad]
    rw [if_neg (by rw [decide_eq_true_iff]; exact bad), if_neg bad]
    by_cases t : 0 < i ∧ l[i].f0 < (l[i - 1]'(by omega)).f0
    · rw [if_pos t, if_pos t]
    have hr := recW_length l[i]
    rw [if_neg t, if_neg t, j3_is l i (k + 8 * m + 20) L l[i] hlt hl (by omega) hs bad (by omega), w1_loop l hl m (i + 1) k _ (by omega) (by rw [List.length_append]; omega)]
theorem write_is (l : List S33) (k : Nat) (hk : 8 * l.length + 40 ≤ k) : capture_Write.f k l = some (wrOf l) := by
  unfold capture_Write.f wrOf
  by_cases h : l.length > 2000
  · rw [if_pos (by omega), if_pos h]
  rw [if_neg (by omega), if_neg h]
  simp only [bs]
  have h1 := hdr_loop l [(⟨2712847316, 4⟩ : S50), (⟨2, 2⟩ : S50), (⟨4, 2⟩ : S50), (⟨0, 4⟩ : S50), (⟨0, 4⟩ : S50), (⟨4096, 4⟩ : S50), (⟨1, 4⟩ : S50)] (by
    intro y hy
    simp only [List.mem_cons, List.not_mem_nil, or_false] at hy
    rcases hy with rfl | rfl | rfl | rfl | rfl | rfl | rfl
    · exact ⟨by decide, 4, rfl, by decide, by decide, by decide⟩
    · exact ⟨by decide, 2, rfl, by decide, by decide, by decide⟩
    · exact ⟨by decide, 2, rfl, by decide, by decide, by decide⟩
    · exact ⟨by decide, 4, rfl, by decide, by decide, by decide⟩
    · exact ⟨by decide, 4, rfl, by decide, by decide, by decide⟩
    · exact ⟨by decide, 4, rfl, by decide, by decide, by decide⟩
    · exact ⟨by decide, 4, rfl, by decide, by decide, by decide⟩) (by simp) 7 0 (k - 8) [] (by simp) (by simp) (by omega)
  rw [show k - 8 + 7 + 1 = k by omega, show ((0 : Nat) : Int) = 0 from rfl, List.drop_zero, List.nil_append] at h1
  rw [h1]
  have h2 := w1_loop l (by omega) l.length 0 (k - 8 - 8 * l.length - 20) hdrW (by omega) (by decide)
  rw [show k - 8 - 8 * l.length - 20 + 8 * l.length + 20 = k - 8 by omega, show ((0 : Nat) : Int) = 0 from rfl] at h2
  rw [← h2]
  congr 1
theorem rput_loop (n : Int) (z : Nat) (hz : z ≤ 7) : ∀ (m i k : Nat), i + m = z → intrusionref09_put.l0 (k + m + 1) n z (leN i n) (i : Int) = some (strOfNums (leN z n))
  | 0, i, k, h => by
    rw [intrusionref09_put.l0, if_neg (by omega), show i = z by omega]
  | m + 1, i, k, h => by
    have e : (IntKind.u64.wrap (wrap64 (8 * (i : Int)))) = 8 * (i : Int) := by
      rw [w64 (by omega) (by omega)]
      have e0 : ∀ n : Int, IntKind.u64.wrap n = n % 18446744073709551616 := fun n => by simp [IntKind.wrap, IntKind.bits, IntKind.signed]
      rw [e0]
      omega
    rw [show k + (m + 1) + 1 = (k + m + 1) + 1 by omega, intrusionref09_put.l0, if_pos (by omega), e, if_pos (by omega), if_pos (by rw [leN_length]; omega), shr64 n i (by omega), w64 (n := (i : Int) + 1) (by omega) (by omega), show (i : Int) + 1 = ((i + 1 : Nat) : Int) by omega]
    have e2 : leN i n ++ [n / 256 ^ i % 256] = leN (i + 1) n := by unfold leN; rw [beN, List.reverse_cons]
    rw [e2]
    exact rput_loop n z hz m (i + 1) k (by omega)
theorem rput_is (n : Int) (z : Nat) (hz : z ≤ 7) (k : Nat) (hk : 10 ≤ k) : intrusionref09_put.f k n (z : Int) = some (strOfNums (leN z n)) := by
  have := rput_loop n z hz z 0 (k - z - 1) (by omega)
  rw [show k - z - 1 + z + 1 = k by omega] at this
  exact this
theorem rput4 (n : Int) (k : Nat) (hk : 10 ≤ k) : intrusionref09_put.f k n 4 = some (strOfNums (leN 4 n)) := rput_is n 4 (by omega) k hk
theorem rput2 (n : Int) (k : Nat) (hk : 10 ≤ k) : intrusionref09_put.f k n 2 = some (strOfNums (leN 2 n)) := rput_is n 2 (by omega) k hk
theorem rj2_is (l : List S33) (i k : Nat) (L : List Int) (x : S33) (hi : i < l.length) (hl : l.length ≤ 2000) (hL : L.length ≤ 100000000) (hs : ¬ (x.f2.size : Int) > 4096) (hx : ¬ badRec x) (hk : 10 ≤ k) :
    intrusionref09_Write.j2 (k + 1) l (strOfNums L) (i : Int) x.f0 x.f1 x.f2 = intrusionref09_Write.l0 k l (strOfNums (L ++ recW x)) ((i + 1 : Nat) : Int) := by
  unfold badRec at hx
  have zs : ∀ q : List Int, (strOfNums q).size = q.length := strOfNums_size
  have e1 : wrap64 (Int.tdiv x.f0 1000) = x.f0 / 1000 := by rw [Int.tdiv_eq_ediv_of_nonneg (by omega), w64 (by omega) (by omega)]
  have e2 : wrap64 (Int.tmod x.f0 1000 * 1000) = x.f0 % 1000 * 1000 := by rw [Int.tmod_eq_emod_of_nonneg (by omega), w64 (by omega) (by omega)]
  rw [intrusionref09_Write.j2, e1, e2, rput4 _ k hk, rput4 _ k hk, rput4 _ k hk, rput4 _ k hk]
  simp only [bs]
  rw [if_pos (by simp only [zs, leN_length]; omega), if_pos (by simp only [size_append, zs, leN_length]; omega), if_pos (by simp only [size_append, zs, leN_length]; omega), if_pos (by simp only [size_append, zs, leN_length]; omega), if_pos (by simp only [size_append, zs, leN_length]; omega), w64 (n := (i : Int) + 1) (by omega) (by omega)]
  have e : strOfNums L ++ (strOfNums (leN 4 (x.f0 / 1000)) ++ strOfNums (leN 4 (x.f0 % 1000 * 1000)) ++ strOfNums (leN 4 (x.f2.size : Int)) ++ strOfNums (leN 4 x.f1) ++ x.f2) = strOfNums (L ++ recW x) := by
    unfold recW
    simp only [strOfNums_append]
    rw [show strOfNums (bytesOf x.f2) = x.f2 from bytesOf_inj (bytesOf_strOfNums _ (bytesOf_range _))]
  rw [e]
  rfl
theorem rw_loop (l : List S33) (hl : l.length ≤ 2000) : ∀ (m i k : Nat) (L : List Int), i + m = l.length → L.length ≤ 24 + 5000 * i →
    intrusionref09_Write.l0 (k + 3 * m + 20) l (strOfNums L) (i : Int) = some (wrG l m i L)
  | 0, i, k, L, h, hL => by
    rw [show k + 3 * 0 + 20 = (k + 19) + 1 by omega, intrusionref09_Write.l0, if_neg (by omega), wrG]
  | m + 1, i, k, L, h, hL => by
    have hlt : i < l.length := by omega
    rw [show k + 3 * (m + 1) + 20 = (k + 3 * m + 20 + 2) + 1 by omega, intrusionref09_Write.l0, if_pos (by omega), if_pos (by omega), rd33 l i hlt, wrG, dif_pos hlt]
    by_cases hs : (l[i].f2.size : Int) > 4096
    · rw [if_pos hs, if_pos hs]
    rw [if_neg hs, if_neg hs]
    have hj2 : ∀ b : Bool, intrusionref09_Write.j1 (k + 3 * m + 20 + 2) l (strOfNums L) (i : Int) b l[i].f0 l[i].f1 l[i].f2 = if b = true then some ((⟨#[]⟩ : ByteArray), 4) else (if 0 < i ∧ l[i].f0 < (l[i - 1]'(by omega)).f0 then some ((⟨#[]⟩ : ByteArray), 12) else intrusionref09_Write.j2 (k + 3 * m + 20 + 1) l (strOfNums L) (i : Int) l[i].f0 l[i].f1 l[i].f2) := by
      intro b
      rw [show k + 3 * m + 20 + 2 = (k + 3 * m + 20 + 1) + 1 by omega, intrusionref09_Write.j1]
      cases b with
      | true => rw [if_pos rfl, if_pos rfl]
      | false =>
        rw [if_neg (show ¬ (false = true) by decide), if_neg (show ¬ (false = true) by decide)]
        by_cases c : (i : Int) > 0
        · rw [if_pos c, w64 (n := (i : Int) - 1) (by omega) (by omega), show (i : Int) - 1 = ((i - 1 : Nat) : Int) by omega, if_pos (by omega), if_pos (by omega), rd33 l (i - 1) (by omega)]
          by_cases d : l[i].f0 < (l[i - 1]'(by omega)).f0
          · rw [if_pos d, if_pos ⟨by omega, d⟩]
          · rw [if_neg d, if_neg (fun y => d y.2)]
        · rw [if_neg c, if_neg (fun y => c (by omega))]
    have hb : (if l[i].f0 < 0 then intrusionref09_Write.j1 (k + 3 * m + 20 + 2) l (strOfNums L) (i : Int) true l[i].f0 l[i].f1 l[i].f2 else if l[i].f0 > 1099511627776 then intrusionref09_Write.j1 (k + 3 * m + 20 + 2) l (strOfNums L) (i : Int) true l[i].f0 l[i].f1 l[i].f2
        else if l[i].f1 < (l[i].f2.size : Int) then intrusionref09_Write.j1 (k + 3 * m + 20 + 2) l (strOfNums L) (i : Int) true l[i].f0 l[i].f1 l[i].f2 else intrusionref09_Write.j1 (k + 3 * m + 20 + 2) l (strOfNums L) (i : Int) (decide (l[i].f1 > 65535)) l[i].f0 l[i].f1 l[i].f2)
        = intrusionref09_Write.j1 (k + 3 * m + 20 + 2) l (strOfNums L) (i : Int) (decide (badRec l[i])) l[i].f0 l[i].f1 l[i].f2 := by
      by_cases a1 : l[i].f0 < 0
      · rw [if_pos a1, decide_eq_true (show badRec l[i] from .inl a1)]
      rw [if_neg a1]
      by_cases a2 : l[i].f0 > 1099511627776
      · rw [if_pos a2, decide_eq_true (show badRec l[i] from .inr (.inl a2))]
      rw [if_neg a2]
      by_cases a3 : l[i].f1 < (l[i].f2.size : Int)
      · rw [if_pos a3, decide_eq_true (show badRec l[i] from .inr (.inr (.inl a3)))]
      rw [if_neg a3]
      congr 1
      apply decide_eq_decide.mpr
      unfold badRec
      omega
    rw [hb, hj2]
    by_cases bad : badRec l[i]
    · rw [if_pos (decide_eq_true bad), if_pos bad]
    rw [if_neg (by rw [decide_eq_true_iff]; exact bad), if_neg bad]
    by_cases t : 0 < i ∧ l[i].f0 < (l[i - 1]'(by omega)).f0
    · rw [if_pos t, if_pos t]
    have hr := recW_length l[i]
    rw [if_neg t, if_neg t, rj2_is l i (k + 3 * m + 20) L l[i] hlt hl (by omega) hs bad (by omega), rw_loop l hl m (i + 1) k _ (by omega) (by rw [List.length_append]; omega)]
theorem rwrite_is (l : List S33) (k : Nat) (hk : 8 * l.length + 40 ≤ k) : intrusionref09_Write.f k l = some (wrOf l) := by
  have zs : ∀ q : List Int, (strOfNums q).size = q.length := strOfNums_size
  unfold intrusionref09_Write.f wrOf
  by_cases h : l.length > 2000
  · rw [if_pos (by omega), if_pos h]
  rw [if_neg (by omega), if_neg h, rput4 _ k (by omega), rput2 _ k (by omega), rput2 _ k (by omega), rput4 _ k (by omega), rput4 _ k (by omega), rput4 _ k (by omega)]
  simp only [bs]
  rw [if_pos (by simp only [size_append, zs, leN_length]; omega), if_pos (by simp only [size_append, zs, leN_length]; omega), if_pos (by simp only [size_append, zs, leN_length]; omega), if_pos (by simp only [size_append, zs, leN_length]; omega), if_pos (by simp only [size_append, zs, leN_length]; omega), if_pos (by simp only [size_append, zs, leN_length]; omega)]
  simp only [← strOfNums_append]
  have h2 := rw_loop l (by omega) l.length 0 (k - 3 * l.length - 20) hdrW (by omega) (by decide)
  rw [show k - 3 * l.length - 20 + 3 * l.length + 20 = k by omega, show ((0 : Nat) : Int) = 0 from rfl] at h2
  exact h2
/-! ### PureCaptureWrites -/

theorem CaptureWrites : intrusionlaw09_CaptureWrites.Pure := by
  intro l _ _
  obtain ⟨K, hK⟩ : ∃ K, 1000 = K := ⟨_, rfl⟩
  refine ⟨K, ?_⟩
  unfold intrusionlaw09_CaptureWrites.f
  obtain ⟨p, hp, hp2⟩ := long_is l K (by omega)
  rw [hp, lives_is K (by omega)]
  simp only [bs]
  cases p with
  | true => rw [if_pos rfl]
  | false =>
    have hl := (hp2 rfl).1
    rw [if_neg (by decide), write_is l K (by omega), rwrite_is l K (by omega)]
    simp only [bs]
    rw [if_pos trivial, if_pos trivial]
end Go.Proofs.Ytafjmciojeondaa.Pure

