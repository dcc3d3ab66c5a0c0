/- EthernetMacs as a plain law: the program's and the document's texts of hardware addresses are the same, and reading what was written returns the address, for texts of at most 100 bytes; no further condition. -/
import Derived.Test.YtellbiicmiljcaaDoorXDEthernetMacs
import Derived.Test.YtellbiicmiljcaaDoorEther
import Derived.Test.YtellbiicmiljcaaDoorRefPut
import Derived.Test.YtellbiicmiljcaaDoorX12
import Derived.Test.YtellbiicmiljcaaDoorX4
import Derived.Test.YtellbiicmiljcaaDoorX11
namespace Go.Proofs.YtellbiicmiljcaaDoor.Pure
open Go.RowKit Go.Proofs.YtellbiicmiljcaaDoor.X Go.Proofs.YtellbiicmiljcaaDoorW.PrintWords Go.Proofs.YtellbiicmiljcaaDoorW.PrintLast Go.Proofs.YtellbiicmiljcaaDoorW.PrintMore

/-- The digits. -/
def DIG : ByteArray := ⟨#[48, 49, 50, 51, 52, 53, 54, 55, 56, 57, 97, 98, 99, 100, 101, 102]⟩
def hx (x : Int) : Int := bt DIG x
theorem upto16 {P : Int → Prop} (h : ∀ i : Fin 16, P (i.val : Int)) (x : Int) (h0 : 0 ≤ x) (h1 : x < 16) : P x := by
  have := h ⟨x.toNat, by omega⟩
  rwa [show (((⟨x.toNat, by omega⟩ : Fin 16).val : Nat) : Int) = x by simp; omega] at this
theorem hx_range (x : Int) : 0 ≤ hx x ∧ hx x < 256 := by have := bt_range DIG x; unfold hx; omega
theorem dig_cut : ∀ x : Int, 0 ≤ x → x < 16 → DIG.extract x.toNat (x + 1).toNat = strOfNums [hx x] :=
  upto16 (P := fun x => DIG.extract x.toNat (x + 1).toNat = strOfNums [hx x]) (by decide +kernel)
/-- The text of the last m bytes. -/
def fmtL : Nat → Int → List Int
  | 0, _ => []
  | i + 1, n => [hx (n / 256 ^ i % 256 / 16), hx (n / 256 ^ i % 256 % 16)] ++ (if i = 0 then [] else [58]) ++ fmtL i n
theorem and15 (c : Int) (h0 : 0 ≤ c) (h1 : c < 256) : Go.bits .and .u8 c 15 = c % 16 :=
  bits_mask .u8 8 (by decide) wraps_u8 4 (by decide) c h0 h1
theorem shr_u64 (n : Int) (i : Nat) (h : i ≤ 8) : shr .u64 n (8 * (i : Int)) = n / 256 ^ i := by
  unfold shr
  have e : IntKind.u64.bits = 64 := rfl
  rw [e, show (8 * (i : Int)).toNat = 8 * i by omega, Nat.min_eq_left (by omega), Int.pow_mul]
  rfl
theorem fmt_loop (n : Int) : ∀ (m k : Nat) (acc : List Int), m ≤ 6 → acc.length + 3 * m ≤ 100 → ethernet_FormatMac.l0 (k + m + 1) n acc ((m : Int) - 1) = some (strOfNums (acc ++ fmtL m n))
  | 0, k, acc, hm, ha => by
    rw [ethernet_FormatMac.l0, if_neg (by omega)]
    simp [fmtL]
  | m + 1, k, acc, hm, ha => by
    rw [show k + (m + 1) + 1 = (k + m + 1) + 1 by omega]
    obtain ⟨K, hK⟩ : ∃ K, k + m + 1 = K := ⟨_, rfl⟩
    have ih := fun acc' h' => fmt_loop n m k acc' (by omega) h'
    rw [hK] at ih ⊢
    rw [ethernet_FormatMac.l0, show ((m + 1 : Nat) : Int) - 1 = (m : Int) by omega, w64 (n := 8 * (m : Int)) (by omega) (by omega), shr_u64 n m (by omega), w64 (n := (m : Int) - 1) (by omega) (by omega)]
    generalize hc : n / 256 ^ m % 256 = c
    have c0 : 0 ≤ c := by omega
    have c1 : c < 256 := by omega
    rw [and15 c c0 c1, if_pos (by omega), if_pos (by omega), if_pos (by omega), if_pos (by omega), if_pos (by omega), if_pos (by omega)]
    simp only [bs]
    rw [if_pos (by simp; omega)]
    have e1 : bt (⟨#[48, 49, 50, 51, 52, 53, 54, 55, 56, 57, 97, 98, 99, 100, 101, 102]⟩ : ByteArray) (c / 16) = hx (c / 16) := rfl
    have e2 : bt (⟨#[48, 49, 50, 51, 52, 53, 54, 55, 56, 57, 97, 98, 99, 100, 101, 102]⟩ : ByteArray) (c % 16) = hx (c % 16) := rfl
    rw [e1, e2]
    by_cases hm0 : m = 0
    · subst hm0
      rw [if_neg (by omega), ih _ (by simp; omega)]
      simp only [fmtL, hc, if_true, List.append_nil]
    · rw [if_pos (by omega), if_pos (by simp; omega), ih _ (by simp; omega), fmtL, hc, if_neg hm0]
      simp
theorem beN_getD : ∀ (z : Nat) (n : Int) (i : Nat), i < z → (beN z n).getD i 0 = n / 256 ^ (z - 1 - i) % 256
  | z + 1, n, 0, _ => by simp [beN]
  | z + 1, n, i + 1, h => by
    rw [beN, List.getD_cons_succ, beN_getD z n i (by omega)]
    congr 3
    omega
theorem rfmt_loop (n : Int) (b : ByteArray) (hb : bytesOf b = beN 6 n) : ∀ (m i k : Nat) (acc : List Int), i + m = 6 → acc.length ≤ 3 * i →
    intrusionref10_FormatMac.l0 (k + m + 1) DIG b (strOfNums acc) i = some (strOfNums (acc ++ (if m = 6 ∨ m = 0 then [] else [58]) ++ fmtL m n))
  | 0, i, k, acc, h, ha => by
    rw [intrusionref10_FormatMac.l0, if_neg (by omega)]
    simp [fmtL]
  | m + 1, i, k, acc, h, ha => by
    rw [show k + (m + 1) + 1 = (k + m + 1) + 1 by omega]
    obtain ⟨K, hK⟩ : ∃ K, k + m + 1 = K := ⟨_, rfl⟩
    have ih := fun acc' h' => rfmt_loop n b hb m (i + 1) k acc' (by omega) h'
    rw [hK] at ih ⊢
    have hbl : b.size = 6 := by rw [size_bytes, hb, beN_length]
    have hbt : bt b (i : Int) = n / 256 ^ m % 256 := by rw [bt_eq, hb, beN_getD 6 n i (by omega), show 6 - 1 - i = m by omega]
    generalize hc : n / 256 ^ m % 256 = c at hbt
    have c0 : 0 ≤ c := by omega
    have c1 : c < 256 := by omega
    have dz : ((DIG.size : Nat) : Int) = 16 := by decide
    have q1 := dig_cut (c / 16) (by omega) (by omega)
    have q2 := dig_cut (c % 16) (by omega) (by omega)
    have z1 : ∀ x : Int, (strOfNums [x]).size = 1 := fun x => by rw [strOfNums_size]; rfl
    have colon : (⟨#[58]⟩ : ByteArray) = strOfNums [58] := by decide +kernel
    rw [intrusionref10_FormatMac.l0, hbt, w64 (n := c) (by omega) (by omega), Int.tdiv_eq_ediv_of_nonneg c0, Int.tmod_eq_emod_of_nonneg c0, w64 (n := c / 16) (by omega) (by omega), w64 (n := c / 16 + 1) (by omega) (by omega), w64 (n := c % 16 + 1) (by omega) (by omega), w64 (n := (i : Int) + 1) (by omega) (by omega), hbl, dz, q1, q2,
      show (i : Int) + 1 = ((i + 1 : Nat) : Int) by omega, colon]
    rw [if_pos (by omega)]
    by_cases hi : (i : Int) > 0
    · rw [if_pos hi, if_pos (by rw [strOfNums_size]; omega), if_pos (by omega), if_pos (by omega), if_pos (by omega), if_pos (by omega), if_pos (by omega), if_pos (by rw [size_append, strOfNums_size, z1, z1]; omega), if_pos (by omega), if_pos (by omega), if_pos (by omega),
        if_pos (by rw [size_append, size_append, strOfNums_size, z1, z1, z1]; omega), ← strOfNums_append, ← strOfNums_append, ← strOfNums_append, ih _ (by simp; omega), fmtL, hc]
      have e1 : ¬ (m = 6 ∨ m + 1 = 6 ∧ False) := by omega
      by_cases hm0 : m = 0
      · subst hm0; simp [fmtL]
      · rw [if_neg (by omega), if_neg (by omega), if_neg hm0]; simp
    · rw [if_neg hi, if_pos (by omega), if_pos (by omega), if_pos (by omega), if_pos (by omega), if_pos (by omega), if_pos (by rw [strOfNums_size, z1]; omega), if_pos (by omega), if_pos (by omega), if_pos (by omega),
        if_pos (by rw [size_append, strOfNums_size, z1, z1]; omega), ← strOfNums_append, ← strOfNums_append, ih _ (by simp; omega), fmtL, hc]
      rw [if_neg (by omega), if_pos (by omega), if_neg (by omega)]
      simp
/-- The number of a hexadecimal digit. -/
def hexv (c : Int) : Option Int := if 48 ≤ c ∧ c ≤ 57 then some (c - 48) else if 97 ≤ c ∧ c ≤ 102 then some (c - 87) else if 65 ≤ c ∧ c ≤ 70 then some (c - 55) else none
theorem hexv_range {c h : Int} (e : hexv c = some h) : 0 ≤ h ∧ h < 16 := by
  unfold hexv at e
  split at e
  · injection e; omega
  · split at e
    · injection e; omega
    · split at e
      · injection e; omega
      · cases e
theorem hexv_hx : ∀ x : Int, 0 ≤ x → x < 16 → hexv (hx x) = some x := upto16 (P := fun x => hexv (hx x) = some x) (by decide +kernel)
def parL (s : ByteArray) : Nat → Nat → Int → Int × Int
  | 0, _, n => (n, 0)
  | m + 1, i, n => if i % 3 = 2 then (if bt s i = 58 then parL s m (i + 1) n else (0, 2)) else match hexv (bt s i) with
    | none => (0, 2)
    | some h => parL s m (i + 1) (n * 16 + h)
theorem rhex_is (c : Int) (h0 : 0 ≤ c) (h1 : c < 256) (k : Nat) (hk : 1 ≤ k) : intrusionref04_Hex.f k c = some ((hexv c).getD (-1)) := by
  obtain ⟨k, rfl⟩ : ∃ m, k = m + 1 := ⟨k - 1, by omega⟩
  unfold intrusionref04_Hex.f intrusionref04_Digit.f hexv
  rw [w64 (n := c) (by omega) (by omega)]
  by_cases a : c ≥ 48
  · rw [if_pos a]
    simp only [bs, decide_eq_true_eq]
    by_cases b : c ≤ 57
    · rw [if_pos b, if_pos ⟨a, b⟩, w64 (by omega) (by omega)]; rfl
    · rw [if_neg b, if_neg (show ¬ (48 ≤ c ∧ c ≤ 57) by omega)]
      by_cases d : c ≥ 97
      · rw [if_pos d]
        by_cases e : c ≤ 102
        · rw [decide_eq_true e, intrusionref04_Hex.j0, if_pos rfl, w64 (n := c) (by omega) (by omega), w64 (by omega) (by omega), if_pos ⟨d, e⟩]; rfl
        · rw [decide_eq_false e, intrusionref04_Hex.j0, if_neg (by simp), if_pos (by omega), if_neg (by omega), if_neg (by omega), if_neg (by omega)]; rfl
      · rw [if_neg d, intrusionref04_Hex.j0, if_neg (by simp), if_neg (show ¬ (97 ≤ c ∧ c ≤ 102) by omega)]
        by_cases e : c ≥ 65
        · rw [if_pos e]
          by_cases f : c ≤ 70
          · rw [if_pos f, if_pos ⟨e, f⟩, w64 (n := c) (by omega) (by omega), w64 (by omega) (by omega)]; rfl
          · rw [if_neg f, if_neg (by omega)]; rfl
        · rw [if_neg e, if_neg (by omega)]; rfl
  · rw [if_neg a]
    simp only [bs, Bool.false_eq_true, if_false]
    rw [if_neg (by omega), intrusionref04_Hex.j0, if_neg (by simp), if_neg (by omega), if_neg (by omega), if_neg (by omega), if_neg (by omega)]; rfl
theorem bound_step (i : Nat) (n h : Int) (hi : i < 17) (hn : n < 16 ^ (i - i / 3)) (h3 : i % 3 ≠ 2) (h1 : h < 16) : n * 16 + h < 16 ^ (i + 1 - (i + 1) / 3) ∧ n * 16 + h < 281474976710656 := by
  have e : i + 1 - (i + 1) / 3 = (i - i / 3) + 1 := by omega
  rw [e, Int.pow_succ]
  have hp : (16 : Int) ^ (i - i / 3) ≤ 17592186044416 := by
    have hn2 : 16 ^ (i - i / 3) ≤ 17592186044416 := Nat.le_trans (Nat.pow_le_pow_right (by decide) (show i - i / 3 ≤ 11 by omega)) (by decide)
    have hc : ((16 ^ (i - i / 3) : Nat) : Int) = (16 : Int) ^ (i - i / 3) := Int.natCast_pow 16 _
    omega
  omega
theorem bound_same (i : Nat) (n : Int) (hn : n < 16 ^ (i - i / 3)) (h3 : i % 3 = 2) : n < 16 ^ (i + 1 - (i + 1) / 3) := by
  rw [show i + 1 - (i + 1) / 3 = i - i / 3 by omega]; exact hn
theorem rpar_loop (s : ByteArray) (hs : s.size = 17) : ∀ (m i k : Nat) (n : Int), i + m = 17 → 0 ≤ n → n < 16 ^ (i - i / 3) → intrusionref10_ParseMac.l0 (k + m + 2) s n i = some (parL s m i n)
  | 0, i, k, n, h, h0, h1 => by
    have hb : n < 281474976710656 := by
      have : i = 17 := by omega
      subst this
      simpa using h1
    rw [show k + 0 + 2 = (k + 1) + 1 by omega, intrusionref10_ParseMac.l0, if_neg (by omega), u64_wrap_id n h0 (by omega)]
    rfl
  | m + 1, i, k, n, h, h0, h1 => by
    rw [show k + (m + 1) + 2 = (k + m + 2) + 1 by omega]
    obtain ⟨K, hK⟩ : ∃ K, k + m + 2 = K := ⟨_, rfl⟩
    have ih := fun n' h' h'' => rpar_loop s hs m (i + 1) k n' (by omega) h' h''
    have hb := bt_range s i
    rw [hK] at ih ⊢
    rw [intrusionref10_ParseMac.l0, parL, if_pos (by omega), hs, Int.tmod_eq_emod_of_nonneg (by omega), w64 (n := (i : Int) + 1) (by omega) (by omega), show (i : Int) + 1 = ((i + 1 : Nat) : Int) by omega]
    by_cases h3 : i % 3 = 2
    · rw [if_pos (show (i : Int) % 3 = 2 by omega), if_pos h3, if_pos (by omega), if_pos (by omega)]
      by_cases hc : bt s (i : Int) = 58
      · rw [if_pos hc, if_pos hc, ih n h0 (bound_same i n h1 h3)]
      · rw [if_neg hc, if_neg hc]
    · rw [if_neg (show ¬ (i : Int) % 3 = 2 by omega), if_neg h3, if_pos (by omega), if_pos (by omega), rhex_is _ (by omega) (by omega) _ (by omega)]
      simp only [bs]
      cases hv : hexv (bt s (i : Int)) with
      | none => rw [if_pos (by decide)]
      | some g =>
        have hg := hexv_range hv
        have bd := bound_step i n g (by omega) h1 h3 hg.2
        simp only [Option.getD_some]
        rw [if_neg (by omega), w64 (n := n * 16) (by omega) (by omega), w64 (n := n * 16 + g) (by omega) (by omega), ih _ (by omega) bd.1]
theorem or4 (n h : Int) (h0 : 0 ≤ n) (h1 : n < 281474976710656) (g0 : 0 ≤ h) (g1 : h < 16) : Go.bits .or .u64 (IntKind.u64.wrap (n * 16)) h = n * 16 + h := by
  rw [u64_wrap_id (n * 16) (by omega) (by omega)]
  exact bits_join .u64 64 (by decide) wraps_u64 4 (n * 16) h (by omega) (by omega) (by omega) g0 (by omega) (by omega)
theorem low_or (c : Int) (h : (97 ≤ c ∧ c ≤ 102)) : ((((Go.bits .or .u8 c 32) - 97) % 256) + 10) % 256 = c - 87 := by
  have : c = 97 ∨ c = 98 ∨ c = 99 ∨ c = 100 ∨ c = 101 ∨ c = 102 := by omega
  rcases this with rfl | rfl | rfl | rfl | rfl | rfl <;> decide +kernel
theorem up_or (c : Int) (h : (65 ≤ c ∧ c ≤ 70)) : ((((Go.bits .or .u8 c 32) - 97) % 256) + 10) % 256 = c - 55 := by
  have : c = 65 ∨ c = 66 ∨ c = 67 ∨ c = 68 ∨ c = 69 ∨ c = 70 := by omega
  rcases this with rfl | rfl | rfl | rfl | rfl | rfl <;> decide +kernel
theorem par_loop (s : ByteArray) (hs : s.size = 17) : ∀ (m i k : Nat) (n : Int), i + m = 17 → 0 ≤ n → n < 16 ^ (i - i / 3) → ethernet_ParseMac.l0 (k + 2 * m + 1) s n 17 i = some (parL s m i n)
  | 0, i, k, n, h, h0, h1 => by
    rw [ethernet_ParseMac.l0, if_neg (by omega)]
    rfl
  | m + 1, i, k, n, h, h0, h1 => by
    rw [show k + 2 * (m + 1) + 1 = (k + 2 * m + 1 + 1) + 1 by omega]
    obtain ⟨K, hK⟩ : ∃ K, k + 2 * m + 1 = K := ⟨_, rfl⟩
    have ih := fun n' h' h'' => par_loop s hs m (i + 1) k n' (by omega) h' h''
    have ih2 : ∀ n', 0 ≤ n' → n' < 16 ^ (i + 1 - (i + 1) / 3) → ethernet_ParseMac.l0 (K + 1) s n' 17 ((i + 1 : Nat) : Int) = some (parL s m (i + 1) n') := fun n' h' h'' => by
      have := par_loop s hs m (i + 1) (k + 1) n' (by omega) h' h''
      rwa [show k + 1 + 2 * m + 1 = K + 1 by omega] at this
    have hb := bt_range s i
    rw [hK] at ih ⊢
    rw [ethernet_ParseMac.l0, parL, if_pos (by omega), if_pos (by omega), hs, if_pos (by omega), Int.tmod_eq_emod_of_nonneg (by omega), w64 (n := (i : Int) + 1) (by omega) (by omega), show (i : Int) + 1 = ((i + 1 : Nat) : Int) by omega]
    by_cases h3 : i % 3 = 2
    · rw [if_pos (show (i : Int) % 3 = 2 by omega), if_pos h3]
      by_cases hc : bt s (i : Int) = 58
      · rw [if_pos hc, if_pos hc, ih2 n h0 (bound_same i n h1 h3)]
      · rw [if_neg hc, if_neg hc]
    · rw [if_neg (show ¬ (i : Int) % 3 = 2 by omega), if_neg h3]
      have go : ∀ x, ethernet_ParseMac.j1 (K + 1) s n (bt s (i : Int)) 17 i x = if x = true then (ethernet_ParseMac.l0 K s (Go.bits .or .u64 (IntKind.u64.wrap (n * 16)) ((bt s (i : Int) - 48) % 256)) 17 ((i + 1 : Nat) : Int)) else ethernet_ParseMac.j1 (K + 1) s n (bt s (i : Int)) 17 i false := by
        intro x
        cases x with
        | true => rw [ethernet_ParseMac.j1, if_pos rfl, if_pos rfl, w64 (n := (i : Int) + 1) (by omega) (by omega), show (i : Int) + 1 = ((i + 1 : Nat) : Int) by omega]
        | false => rw [if_neg (by simp)]
      have alt : ¬ (48 ≤ bt s (i : Int) ∧ bt s (i : Int) ≤ 57) → ethernet_ParseMac.j1 (K + 1) s n (bt s (i : Int)) 17 i false = some (match hexv (bt s (i : Int)) with | none => (0, 2) | some h => parL s m (i + 1) (n * 16 + h)) := by
        intro hno
        rw [ethernet_ParseMac.j1, if_neg (by simp), w64 (n := (i : Int) + 1) (by omega) (by omega), show (i : Int) + 1 = ((i + 1 : Nat) : Int) by omega]
        unfold hexv
        rw [if_neg hno]
        have take : ∀ g : Int, 0 ≤ g → g < 16 → ethernet_ParseMac.l0 K s (Go.bits .or .u64 (IntKind.u64.wrap (n * 16)) g) 17 ((i + 1 : Nat) : Int) = some (parL s m (i + 1) (n * 16 + g)) := by
          intro g g0 g1
          have bd := bound_step i n g (by omega) h1 h3 g1
          rw [or4 n g h0 (by omega) g0 g1, ih _ (by omega) bd.1]
        by_cases a : bt s (i : Int) ≥ 97
        · rw [if_pos a]
          by_cases b : bt s (i : Int) ≤ 102
          · rw [if_pos b, low_or _ ⟨a, b⟩, if_pos ⟨a, b⟩, take _ (by omega) (by omega)]
          · rw [if_neg b, if_pos (by omega), if_neg (by omega), if_neg (by omega), if_neg (by omega)]
        · rw [if_neg a, if_neg (show ¬ (97 ≤ bt s (i : Int) ∧ bt s (i : Int) ≤ 102) by omega)]
          by_cases d : bt s (i : Int) ≥ 65
          · rw [if_pos d]
            by_cases e : bt s (i : Int) ≤ 70
            · rw [if_pos e, up_or _ ⟨d, e⟩, if_pos ⟨d, e⟩, take _ (by omega) (by omega)]
            · rw [if_neg e, if_neg (by omega)]
          · rw [if_neg d, if_neg (by omega)]
      by_cases a : bt s (i : Int) ≥ 48
      · rw [if_pos a, go]
        by_cases b : bt s (i : Int) ≤ 57
        · have bd := bound_step i n (bt s (i : Int) - 48) (by omega) h1 h3 (by omega)
          rw [decide_eq_true b, if_pos rfl, show (bt s (i : Int) - 48) % 256 = bt s (i : Int) - 48 by omega, or4 n _ h0 (by omega) (by omega) (by omega), ih _ (by omega) bd.1]
          unfold hexv
          rw [if_pos ⟨a, b⟩]
        · rw [decide_eq_false b, if_neg (by simp), alt (by omega)]
      · rw [if_neg a, alt (by omega)]
/-- ParseMac in closed form. -/
def parOf (s : ByteArray) : Int × Int := if s.size = 17 then parL s 17 0 0 else (0, 2)
theorem parse_is (s : ByteArray) (k : Nat) (hk : 40 ≤ k) : ethernet_ParseMac.f k s = some (parOf s) := by
  unfold ethernet_ParseMac.f parOf
  by_cases h : s.size = 17
  · have := par_loop s h 17 0 (k - 35) 0 rfl (by decide) (by decide)
    rw [show k - 35 + 2 * 17 + 1 = k by omega] at this
    rw [if_pos (by omega), if_pos h, h]
    exact this
  · rw [if_neg (by omega), if_neg h]
theorem rparse_is (s : ByteArray) (k : Nat) (hk : 40 ≤ k) : intrusionref10_ParseMac.f k s = some (parOf s) := by
  unfold intrusionref10_ParseMac.f parOf
  by_cases h : s.size = 17
  · have := rpar_loop s h 17 0 (k - 19) 0 rfl (by decide) (by decide)
    rw [show k - 19 + 17 + 2 = k by omega] at this
    rw [if_pos (by omega), if_pos h]
    exact this
  · rw [if_neg (by omega), if_neg h]
/-- FormatMac in closed form. -/
def fmtOf (n : Int) : ByteArray := if n ≥ 281474976710656 then ⟨#[]⟩ else strOfNums (fmtL 6 n)
theorem format_is (n : Int) (k : Nat) (hk : 40 ≤ k) : ethernet_FormatMac.f k n = some (fmtOf n) := by
  unfold ethernet_FormatMac.f fmtOf
  split
  · rfl
  · have := fmt_loop n 6 (k - 7) [] (by decide) (by decide)
    rw [show k - 7 + 6 + 1 = k by omega] at this
    exact this
theorem rformat_is (n : Int) (h0 : 0 ≤ n) (k : Nat) (hk : 50 ≤ k) : intrusionref10_FormatMac.f k n = some (fmtOf n) := by
  unfold intrusionref10_FormatMac.f fmtOf
  split
  · rfl
  · rw [w64 (n := n) (by omega) (by omega), rput_all _ _ _ (by omega) (by omega) (by omega)]
    simp only [bs]
    have hb : bytesOf (putOf n 6) = beN 6 n := putOf_size n 6 (by decide) (by decide) h0 (by simp; omega)
    have := rfmt_loop n (putOf n 6) hb 6 0 (k - 7) [] rfl (by decide)
    rw [show k - 7 + 6 + 1 = k by omega] at this
    exact this
theorem parL_sep (S : ByteArray) (m i : Nat) (n : Int) (h3 : i % 3 = 2) (h : bt S (i : Int) = 58) : parL S (m + 1) i n = parL S m (i + 1) n := by rw [parL, if_pos h3, if_pos h]
theorem parL_dig (S : ByteArray) (m i : Nat) (n g : Int) (h3 : i % 3 ≠ 2) (h : hexv (bt S (i : Int)) = some g) : parL S (m + 1) i n = parL S m (i + 1) (n * 16 + g) := by rw [parL, if_neg h3, h]
theorem parse_format (n : Int) (h0 : 0 ≤ n) (h1 : n < 281474976710656) : parOf (strOfNums (fmtL 6 n)) = (n, 0) := by
  obtain ⟨l, hl⟩ : ∃ l, fmtL 6 n = l := ⟨_, rfl⟩
  have hr : ∀ x ∈ l, 0 ≤ x ∧ x < 256 := by
    rw [← hl]
    have : ∀ m : Nat, ∀ x ∈ fmtL m n, 0 ≤ x ∧ x < 256 := by
      intro m
      induction m with
      | zero => intro x hx; simp [fmtL] at hx
      | succ m ih =>
        intro x hx
        simp only [fmtL, List.mem_append, List.mem_cons, List.not_mem_nil, or_false] at hx
        rcases hx with ((rfl | rfl) | hx) | hx
        · exact hx_range _
        · exact hx_range _
        · split at hx
          · cases hx
          · simp only [List.mem_singleton] at hx; subst hx; decide
        · exact ih x hx
    exact this 6
  have hsz : (strOfNums (fmtL 6 n)).size = 17 := by rw [strOfNums_size]; simp [fmtL]
  unfold parOf
  rw [if_pos hsz, hl]
  have bt' : ∀ i : Nat, bt (strOfNums l) (i : Int) = l.getD i 0 := fun i => by rw [bt_eq, bytesOf_strOfNums l hr]
  obtain ⟨S, hS⟩ : ∃ S, strOfNums l = S := ⟨_, rfl⟩
  rw [hS] at bt' ⊢
  have v : ∀ x : Int, hexv (hx (x % 256 / 16)) = some (x % 256 / 16) := fun x => hexv_hx _ (by omega) (by omega)
  have v2 : ∀ x : Int, hexv (hx (x % 256 % 16)) = some (x % 256 % 16) := fun x => hexv_hx _ (by omega) (by omega)
  have b0 := bt' 0
  have b1 := bt' 1
  have b2 := bt' 2
  have b3 := bt' 3
  have b4 := bt' 4
  have b5 := bt' 5
  have b6 := bt' 6
  have b7 := bt' 7
  have b8 := bt' 8
  have b9 := bt' 9
  have b10 := bt' 10
  have b11 := bt' 11
  have b12 := bt' 12
  have b13 := bt' 13
  have b14 := bt' 14
  have b15 := bt' 15
  have b16 := bt' 16
  rw [← hl] at b0 b1 b2 b3 b4 b5 b6 b7 b8 b9 b10 b11 b12 b13 b14 b15 b16
  simp only [fmtL, List.cons_append, List.nil_append, List.getD_cons_zero, List.getD_cons_succ, List.append_nil, if_true, if_false, Nat.succ_ne_zero] at b0 b1 b2 b3 b4 b5 b6 b7 b8 b9 b10 b11 b12 b13 b14 b15 b16
  rw [parL_dig S 16 0 _ _ (by decide) (by rw [b0]; exact v _), parL_dig S 15 1 _ _ (by decide) (by rw [b1]; exact v2 _), parL_sep S 14 2 _ (by decide) b2, parL_dig S 13 3 _ _ (by decide) (by rw [b3]; exact v _), parL_dig S 12 4 _ _ (by decide) (by rw [b4]; exact v2 _), parL_sep S 11 5 _ (by decide) b5, parL_dig S 10 6 _ _ (by decide) (by rw [b6]; exact v _), parL_dig S 9 7 _ _ (by decide) (by rw [b7]; exact v2 _), parL_sep S 8 8 _ (by decide) b8, parL_dig S 7 9 _ _ (by decide) (by rw [b9]; exact v _), parL_dig S 6 10 _ _ (by decide) (by rw [b10]; exact v2 _), parL_sep S 5 11 _ (by decide) b11, parL_dig S 4 12 _ _ (by decide) (by rw [b12]; exact v _), parL_dig S 3 13 _ _ (by decide) (by rw [b13]; exact v2 _), parL_sep S 2 14 _ (by decide) b14, parL_dig S 1 15 _ _ (by decide) (by rw [b15]; exact v _), parL_dig S 0 16 _ _ (by decide) (by rw [b16]; exact v2 _), parL]
  have e := valBE_beN 6 n h0
  rw [Int.emod_eq_of_lt h0 (by simpa using h1)] at e
  simp only [beN, valBE, List.foldl_cons, List.foldl_nil] at e
  refine Prod.ext ?_ rfl
  show _ = n
  generalize n / 256 ^ 5 % 256 = x5 at *
  generalize n / 256 ^ 4 % 256 = x4 at *
  generalize n / 256 ^ 3 % 256 = x3 at *
  generalize n / 256 ^ 2 % 256 = x2 at *
  generalize n / 256 ^ 1 % 256 = x1 at *
  generalize n / 256 ^ 0 % 256 = x0 at *
  clear b0 b1 b2 b3 b4 b5 b6 b7 b8 b9 b10 b11 b12 b13 b14 b15 b16 bt'
  omega
theorem EthernetMacs : intrusionlaw10_EthernetMacs.Pure := by
  intro n s hn _
  have hn := wf_u64 hn
  obtain ⟨K, hK⟩ : ∃ K, 120 = K := ⟨_, rfl⟩
  refine ⟨K + 1, ?_⟩
  unfold intrusionlaw10_EthernetMacs.f
  rw [awake_is _ (by omega)]
  by_cases c1 : (s.size : Int) > 100
  · rw [if_pos c1]; rfl
  · rw [if_neg c1, format_is n _ (by omega), parse_is s _ (by omega), rparse_is s _ (by omega), rformat_is n hn.1 _ (by omega)]
    simp only [bs, if_true, bne_self_eq_false]
    rw [intrusionlaw10_EthernetMacs.j0, if_neg (by simp), parse_is _ _ (by omega), awake_is _ (by omega)]
    simp only [bs]
    by_cases c2 : n ≥ 281474976710656
    · rw [if_pos c2]
      have : (parOf (fmtOf n)).2 = 2 := by unfold fmtOf; rw [if_pos c2]; rfl
      rw [if_pos this]
    · rw [if_neg c2]
      have : parOf (fmtOf n) = (n, 0) := by unfold fmtOf; rw [if_neg c2]; exact parse_format n hn.1 (by omega)
      rw [this]
      simp

end Go.Proofs.YtellbiicmiljcaaDoor.Pure
