/- Encode of layer 12 in closed form: what the program computes. -/
import Derived.Test.YtljboandbjahdaaIp6C
import Derived.Test.YtljboandbjahdaaIp06
import Derived.Test.YtljboandbjahdaaIp6A
import Derived.Test.YtljboandbjahdaaX9
import Derived.Test.YtljboandbjahdaaX8
namespace Go.Proofs.Ytljboandbjahdaa.Pure
open Go.RowKit Go.Proofs.Ytljboandbjahdaa.X Go.Proofs.YtljboandbjahdaaW.PrintWords Go.Proofs.YtljboandbjahdaaW.PrintLast Go.Proofs.YtljboandbjahdaaW.PrintMore

theorem put_ok (n : Int) (z : Nat) (h1 : 1 ≤ z) (h7 : z ≤ 7) (h0 : 0 ≤ n) (hn : n < 256 ^ z) : putOf n z = strOfNums (beN z n) := by
  unfold putOf
  rw [if_pos ⟨by omega, by omega, h0, by rw [Int.toNat_natCast]; exact hn⟩, Int.toNat_natCast]
theorem put1_ok (n : Int) (h0 : 0 ≤ n) (hn : n ≤ 255) : putOf n 1 = strOfNums [n] := by
  have h := put_ok n 1 (by omega) (by omega) h0 (by omega)
  rw [show ((1 : Nat) : Int) = 1 from rfl] at h
  rw [h]
  simp [beN]
  congr 1
  congr 1
  omega
def joinOf : List S64 → ByteArray
  | [] => ⟨#[]⟩
  | x :: r => putOf x.f0 x.f1 ++ joinOf r
theorem rd64 (l : List S64) (i : Nat) (h : i < l.length) : rd_T64 l (i : Int) = l[i] := by
  unfold rd_T64
  rw [Int.toNat_natCast, List.getD_eq_getElem?_getD, List.getElem?_eq_getElem h]
  rfl
theorem join_loop (l : List S64) (hl : l.length ≤ 1000) : ∀ (m i k : Nat) (x : ByteArray), i + m = l.length → x.size ≤ 7 * i →
    ipv6_join.l0 (k + m + 11) x l l.length i = some (x ++ joinOf (l.drop i))
  | 0, i, k, x, h, hx => by
    rw [show k + 0 + 11 = (k + 10) + 1 by omega]
    unfold ipv6_join.l0
    rw [if_neg (by omega), List.drop_eq_nil_of_le (by omega)]
    simp only [joinOf, nil_app]
  | m + 1, i, k, x, h, hx => by
    have hlt : i < l.length := by omega
    have hp := putOf_len l[i].f0 l[i].f1
    rw [show k + (m + 1) + 11 = (k + m + 11) + 1 by omega]
    unfold ipv6_join.l0
    rw [if_pos (by omega), if_pos (by omega), if_pos (by omega), rd64 l i hlt, put_is _ _ _ (by omega)]
    simp only [bs]
    rw [if_pos (by omega), w64 (n := (i : Int) + 1) (by omega) (by omega), show (i : Int) + 1 = ((i + 1 : Nat) : Int) by omega, join_loop l hl m (i + 1) k _ (by omega) (by rw [size_append]; omega), List.drop_eq_getElem_cons hlt]
    simp only [joinOf, app_assoc]
theorem join_is (l : List S64) (hl : l.length ≤ 1000) (k : Nat) (hk : l.length + 11 ≤ k) : ipv6_join.f k l = some (joinOf l) := by
  have h := join_loop l hl l.length 0 (k - l.length - 11) ⟨#[]⟩ (by omega) (by decide)
  rw [show k - l.length - 11 + l.length + 11 = k by omega] at h
  unfold ipv6_join.f
  rw [show ((0 : Nat) : Int) = 0 from rfl, List.drop_zero, app_nil] at h
  exact h
/-- The kind that follows. -/
def headK : List S60 → Int → Int
  | [], nx => nx
  | x :: _, _ => x.f0
/-- The extension headers' bytes. -/
def extB : List S60 → Int → List Int
  | [], _ => []
  | x :: r, nx => [headK r nx, ((x.f1.size : Int) - 6) / 8] ++ bytesOf x.f1 ++ extB r nx
def fragB (n id off : Int) (mo : Bool) : List Int := [n, 0] ++ beN 2 (off + if mo = true then 1 else 0) ++ beN 4 id
def nextK (n : Int) (fr : Bool) : Int := if fr = true then 44 else n
def bodyB (n : Int) (l : List S60) (fr : Bool) (id off : Int) (mo : Bool) (p : ByteArray) : List Int := extB l (nextK n fr) ++ (if fr = true then fragB n id off mo else []) ++ bytesOf p
def headB (c lb h n : Int) (v : Bool) (s1 s2 : Int) (w : Bool) (d1 d2 : Int) (l : List S60) (fr : Bool) (size : Int) : List Int :=
  beN 4 (1610612736 + c * 1048576 + lb) ++ beN 2 size ++ [headK l (nextK n fr), h] ++ adrB v s1 s2 ++ adrB w d1 d2
/-- What Encode answers. -/
def encOf (c lb h n : Int) (v : Bool) (s1 s2 : Int) (w : Bool) (d1 d2 : Int) (l : List S60) (fr : Bool) (id off : Int) (mo : Bool) (p : ByteArray) : ByteArray × Int :=
  if chkOf c lb h n v w l fr id off mo = 0 then
    (if (bodyB n l fr id off mo p).length > 65535 then (⟨#[]⟩, 3) else (strOfNums (headB c lb h n v s1 s2 w d1 d2 l fr (bodyB n l fr id off mo p).length ++ bodyB n l fr id off mo p), 0))
  else (⟨#[]⟩, chkOf c lb h n v w l fr id off mo)
theorem first_num (c lb : Int) (hc : 0 ≤ c ∧ c ≤ 255) (hl : 0 ≤ lb ∧ lb ≤ 1048575) : Go.bits .or .i64 (Go.bits .or .i64 1610612736 (wrap64 (c * 1048576))) lb = 1610612736 + c * 1048576 + lb := by
  rw [w64 (n := c * 1048576) (by omega) (by omega)]
  rw [bits_join .i64 63 (by decide) wraps_i64' 28 1610612736 (c * 1048576) (by omega) (by decide) (by omega) (by omega) (by omega) (by omega)]
  rw [bits_join .i64 63 (by decide) wraps_i64' 20 (1610612736 + c * 1048576) lb (by omega) (by omega) (by omega) (by omega) (by omega) (by omega)]
theorem kinds_at : ∀ (l : List S60) (nx : Int) (r : List Int) (j : Nat), j ≤ l.length → (l.map (fun x => x.f0) ++ nx :: r).getD j 0 = headK (l.drop j) nx
  | [], nx, r, j, h => by
    have : j = 0 := by simpa using h
    subst this
    rfl
  | x :: l, nx, r, 0, h => rfl
  | x :: l, nx, r, j + 1, h => by
    have := kinds_at l nx r j (by simpa using h)
    simpa using this
theorem okEs_at : ∀ (l : List S60) (i j : Nat), okEs i l = true → ∀ (h : j < l.length), okE (i + j) l[j]
  | x :: l, i, 0, h, _ => by simp [okEs] at h; simpa using h.1
  | x :: l, i, j + 1, h, hj => by
    simp [okEs] at h
    have := okEs_at l (i + 1) j h.2 (by simpa using hj)
    rw [show i + (j + 1) = i + 1 + j by omega]
    simpa using this
theorem headK_range (l : List S60) (i : Nat) (hl : okEs 0 l = true) (nx : Int) (h0 : 0 ≤ nx) (h1 : nx ≤ 255) : 0 ≤ headK (l.drop i) nx ∧ headK (l.drop i) nx ≤ 255 := by
  by_cases h : i < l.length
  · have := okEs_at l 0 i hl h
    rw [List.drop_eq_getElem_cons h]
    show 0 ≤ l[i].f0 ∧ l[i].f0 ≤ 255
    obtain ⟨a, _⟩ := this
    unfold isExt at a
    omega
  · rw [List.drop_eq_nil_of_le (by omega)]
    exact ⟨h0, h1⟩
section
variable (c lb h n : Int) (v : Bool) (s1 s2 : Int) (w : Bool) (d1 d2 : Int) (l : List S60) (fr : Bool) (id off : Int) (mo : Bool) (p : ByteArray)
theorem kinds_loop (hl : l.length ≤ 8) : ∀ (m i k : Nat), i + m = l.length →
    ipv6_Encode.l0 (k + m + 1) ((l.take i).map (fun x => x.f0)) l l.length i c lb h n v s1 s2 w d1 d2 l fr id off mo p
      = ipv6_Encode.j1 k (l.map (fun x => x.f0) ++ (if fr = true then [44] else [])) c lb h n v s1 s2 w d1 d2 l fr id off mo p
  | 0, i, k, hi => by
    unfold ipv6_Encode.l0
    rw [if_neg (by omega), List.take_of_length_le (by omega)]
    cases fr with
    | true => rw [if_pos rfl, if_pos (by simp; omega), if_pos rfl]
    | false => rw [if_neg (by decide), if_neg (by decide), List.append_nil]
  | m + 1, i, k, hi => by
    have hlt : i < l.length := by omega
    rw [show k + (m + 1) + 1 = (k + m + 1) + 1 by omega]
    unfold ipv6_Encode.l0
    rw [if_pos (by omega), if_pos (by omega), if_pos (by omega), if_pos (by simp; omega), rd60 l i hlt, w64 (n := (i : Int) + 1) (by omega) (by omega), show (i : Int) + 1 = ((i + 1 : Nat) : Int) by omega]
    have e : (l.take i).map (fun x => x.f0) ++ [l[i].f0] = (l.take (i + 1)).map (fun x => x.f0) := by rw [List.take_add_one, List.getElem?_eq_getElem hlt, List.map_append]; rfl
    rw [e]
    exact kinds_loop hl m (i + 1) k (by omega)
theorem body_loop (ks : List Int) (hl : l.length ≤ 8) (hok : okEs 0 l = true) (hn : 0 ≤ n ∧ n ≤ 255) (hks : ∀ j, j ≤ l.length → ks.getD j 0 = headK (l.drop j) (nextK n fr)) (hkl : l.length < ks.length) (hk9 : ks.length ≤ 100) :
    ∀ (m i k : Nat) (x : ByteArray), i + m = l.length → 40 ≤ k → x.size ≤ 3000 * i →
    ipv6_Encode.l1 (k + m + 1) ks x l l.length i c lb h n v s1 s2 w d1 d2 l fr id off mo p
      = if fr = true then (if mo = true then ipv6_Encode.j3 k ks (x ++ strOfNums (extB (l.drop i) (nextK n fr))) (wrap64 (off + 1)) c lb h n v s1 s2 w d1 d2 l fr id off mo p else ipv6_Encode.j3 k ks (x ++ strOfNums (extB (l.drop i) (nextK n fr))) off c lb h n v s1 s2 w d1 d2 l fr id off mo p)
        else ipv6_Encode.j4 k ks (x ++ strOfNums (extB (l.drop i) (nextK n fr))) c lb h n v s1 s2 w d1 d2 l fr id off mo p
  | 0, i, k, x, hi, hk, hx => by
    unfold ipv6_Encode.l1
    rw [if_neg (by omega), List.drop_eq_nil_of_le (by omega)]
    simp only [extB, str_nil, nil_app]
  | m + 1, i, k, x, hi, hk, hx => by
    have hlt : i < l.length := by omega
    have ho := okEs_at l 0 i hok hlt
    have h6 : (l[i].f1.size : Int) % 8 = 6 := ho.2.2.2
    have h2046 : (l[i].f1.size : Int) ≤ 2046 := ho.2.2.1
    have nk : 0 ≤ nextK n fr ∧ nextK n fr ≤ 255 := by unfold nextK; split <;> omega
    have hh := headK_range l (i + 1) hok (nextK n fr) nk.1 nk.2
    have hrd : rd ks ((i + 1 : Nat) : Int) = headK (l.drop (i + 1)) (nextK n fr) := by
      unfold rd
      rw [Int.toNat_natCast]
      exact hks (i + 1) (by omega)
    rw [show k + (m + 1) + 1 = (k + m + 1) + 1 by omega]
    unfold ipv6_Encode.l1
    rw [if_pos (by omega), if_pos (by omega), if_pos (by omega), w64 (n := (i : Int) + 1) (by omega) (by omega), show (i : Int) + 1 = ((i + 1 : Nat) : Int) by omega, if_pos (by omega), if_pos (by omega), rd60 l i hlt, hrd,
      w64 (n := (l[i].f1.size : Int) - 6) (by omega) (by omega), Int.tdiv_eq_ediv_of_nonneg (by omega), w64 (n := ((l[i].f1.size : Int) - 6) / 8) (by omega) (by omega), join_is _ (by simp) _ (by simp; omega)]
    simp only [bs, joinOf, nil_app]
    rw [put1_ok _ hh.1 hh.2, put1_ok _ (by omega) (by omega), ← strOfNums_append]
    have z2 : (strOfNums ([headK (l.drop (i + 1)) (nextK n fr)] ++ [((l[i].f1.size : Int) - 6) / 8])).size = 2 := by rw [strOfNums_size]; rfl
    rw [if_pos (by omega), if_pos (by rw [size_append]; omega), body_loop ks hl hok hn hks hkl hk9 m (i + 1) k _ (by omega) hk (by rw [size_append, size_append]; omega)]
    have e : x ++ (strOfNums ([headK (l.drop (i + 1)) (nextK n fr)] ++ [((l[i].f1.size : Int) - 6) / 8]) ++ l[i].f1) ++ strOfNums (extB (l.drop (i + 1)) (nextK n fr)) = x ++ strOfNums (extB (l.drop i) (nextK n fr)) := by
      rw [List.drop_eq_getElem_cons hlt]
      have e1 : ∀ (a b : Int) (d : ByteArray) (R : List Int), strOfNums ([a, b] ++ bytesOf d ++ R) = strOfNums ([a] ++ [b]) ++ d ++ strOfNums R := by
        intro a b d R
        rw [strOfNums_append ([a, b] ++ bytesOf d) R, strOfNums_append [a, b] (bytesOf d), str_bytes]
        rfl
      simp only [extB]
      rw [e1]
      simp only [app_assoc]
    rw [e]
theorem extB_len : ∀ (l : List S60) (i : Nat) (nx : Int), okEs i l = true → (extB l nx).length ≤ 2048 * l.length
  | [], _, _, _ => by simp [extB]
  | x :: r, i, nx, h => by
    simp [okEs] at h
    have ih := extB_len r (i + 1) nx h.2
    have h2046 : (x.f1.size : Int) ≤ 2046 := h.1.2.2.1
    have hb := bytesOf_length x.f1
    simp only [extB, List.length_append, List.length_cons, List.length_nil]
    omega
theorem j4_is (ks : List Int) (B : ByteArray) (k : Nat) (hk : 40 ≤ k) (hB : B.size ≤ 100000) (hp : p.size ≤ 4611686018427387904) (hkl : 0 < ks.length) (hk0 : rd ks 0 = headK l (nextK n fr)) (hok : okEs 0 l = true) (hN : okNum c lb h n) :
    ipv6_Encode.j4 (k + 1) ks B c lb h n v s1 s2 w d1 d2 l fr id off mo p
      = some (if (B ++ p).size > 65535 then (⟨#[]⟩, 3) else (strOfNums (headB c lb h n v s1 s2 w d1 d2 l fr (B ++ p).size) ++ (B ++ p), 0)) := by
  obtain ⟨⟨hc, hh, hn⟩, hlb⟩ := hN
  have nk : 0 ≤ nextK n fr ∧ nextK n fr ≤ 255 := by unfold nextK; split <;> omega
  have hr := headK_range l 0 hok (nextK n fr) nk.1 nk.2
  rw [List.drop_zero] at hr
  have a1 := adrB_len v s1 s2
  have a2 := adrB_len w d1 d2
  have a1' : (adrB v s1 s2).length ≤ 16 := by rw [a1]; split <;> omega
  have a2' : (adrB w d1 d2).length ≤ 16 := by rw [a2]; split <;> omega
  rw [ipv6_Encode.j4, if_pos (by omega)]
  by_cases hs : (B ++ p).size > 65535
  · rw [if_pos (by omega), if_pos hs]
  · rw [if_neg (by omega), if_neg hs, if_pos (by omega), first_num c lb hc hlb, hk0, join_is _ (by simp) _ (by simp; omega)]
    have b4 := put_ok (1610612736 + c * 1048576 + lb) 4 (by omega) (by omega) (by omega) (by omega)
    have b2 := put_ok ((B ++ p).size : Int) 2 (by omega) (by omega) (by omega) (by omega)
    rw [show ((4 : Nat) : Int) = 4 from rfl] at b4
    rw [show ((2 : Nat) : Int) = 2 from rfl] at b2
    simp only [bs, joinOf, nil_app]
    rw [b4, b2, put1_ok _ hr.1 hr.2, put1_ok _ hh.1 hh.2, aBytes_is _ _ _ _ (by omega), aBytes_is _ _ _ _ (by omega)]
    simp only [bs]
    rw [← strOfNums_append, ← strOfNums_append, ← strOfNums_append, ← strOfNums_append, ← strOfNums_append]
    have z : ∀ q : List Int, (strOfNums q).size = q.length := strOfNums_size
    rw [if_pos (by rw [z, z]; simp [beN_length]; omega), if_pos (by rw [z, z]; simp [beN_length]; omega), if_pos (by rw [z]; simp [beN_length] at hs ⊢; omega)]
    congr 3
theorem encode_is (hl : l.length ≤ 4611686018427387904) (hp : p.size ≤ 4611686018427387904) (k : Nat) (hk : 2 * l.length + 100 ≤ k) :
    ipv6_Encode.f k c lb h n v s1 s2 w d1 d2 l fr id off mo p = some (encOf c lb h n v s1 s2 w d1 d2 l fr id off mo p) := by
  unfold ipv6_Encode.f encOf
  rw [check_is (hl := hl) (hk := by omega)]
  simp only [bs]
  by_cases hc : chkOf c lb h n v w l fr id off mo = 0
  · rw [if_pos hc, if_pos hc]
    have hc' := hc
    unfold chkOf at hc'
    by_cases hA : okAll c lb h n v w fr id off mo
    · rw [if_pos hA] at hc'
      by_cases h8 : (l.length : Int) > 8
      · rw [if_pos h8] at hc'; omega
      · rw [if_neg h8] at hc'
        by_cases hok : okEs 0 l = true
        · have hA' := hA
          obtain ⟨hN, hE, hF⟩ := hA'
          have hN' := hN
          obtain ⟨⟨hcc, hhh, hnn⟩, hlb⟩ := hN'
          have hext := extB_len l 0 (nextK n fr) hok
          have hbl := bytesOf_length p
          cases hfr : fr with
          | false =>
            subst hfr
            have hk1 := kinds_loop c lb h n v s1 s2 w d1 d2 l false id off mo p (by omega) l.length 0 (k - l.length - 1) (by omega)
            rw [show k - l.length - 1 + l.length + 1 = k by omega] at hk1
            simp only [List.take_zero, List.map_nil] at hk1
            rw [show ((0 : Nat) : Int) = 0 from rfl] at hk1
            rw [hk1, if_neg (by decide), List.append_nil]
            obtain ⟨j, hj⟩ : ∃ j, k - l.length - 1 = (j + 1 + l.length + 1) + 1 := ⟨k - 2 * l.length - 4, by omega⟩
            rw [hj, ipv6_Encode.j1, if_pos (by simp; omega)]
            have hks : ∀ q, q ≤ l.length → (l.map (fun x : S60 => x.f0) ++ [n]).getD q 0 = headK (l.drop q) (nextK n false) := fun q hq => kinds_at l n [] q hq
            have hb := body_loop c lb h n v s1 s2 w d1 d2 l false id off mo p (l.map (fun x : S60 => x.f0) ++ [n]) (by omega) hok hnn hks (by simp) (by simp; omega) l.length 0 (j + 1) ⟨#[]⟩ (by omega) (by omega) (by decide)
            rw [show ((0 : Nat) : Int) = 0 from rfl] at hb
            rw [hb, if_neg (by decide), List.drop_zero, app_nil,
              j4_is c lb h n v s1 s2 w d1 d2 l false id off mo p (l.map (fun x : S60 => x.f0) ++ [n]) (strOfNums (extB l (nextK n false))) j (by omega) (by rw [strOfNums_size]; omega) hp (by simp) (by have := hks 0 (by omega); rw [List.drop_zero] at this; exact this) hok hN]
            have eb : strOfNums (extB l (nextK n false)) ++ p = strOfNums (bodyB n l false id off mo p) := by
              unfold bodyB
              rw [if_neg (by decide), List.append_nil, strOfNums_append, str_bytes]
            rw [eb, strOfNums_size, ← strOfNums_append]
          | true =>
            subst hfr
            have hF' : (0 ≤ id ∧ id ≤ 4294967295) ∧ (0 ≤ off ∧ off ≤ 65528) ∧ Int.tmod off 8 = 0 := by unfold okFrag at hF; rw [if_pos rfl] at hF; exact hF
            obtain ⟨hid, hoff, _⟩ := hF'
            have hk1 := kinds_loop c lb h n v s1 s2 w d1 d2 l true id off mo p (by omega) l.length 0 (k - l.length - 1) (by omega)
            rw [show k - l.length - 1 + l.length + 1 = k by omega] at hk1
            simp only [List.take_zero, List.map_nil] at hk1
            rw [show ((0 : Nat) : Int) = 0 from rfl] at hk1
            rw [hk1, if_pos trivial]
            obtain ⟨j, hj⟩ : ∃ j, k - l.length - 1 = (j + 1 + 1 + l.length + 1) + 1 := ⟨k - 2 * l.length - 5, by omega⟩
            rw [hj, ipv6_Encode.j1, if_pos (by simp; omega)]
            have hks : ∀ q, q ≤ l.length → (l.map (fun x : S60 => x.f0) ++ [44] ++ [n]).getD q 0 = headK (l.drop q) (nextK n true) := fun q hq => by
              rw [List.append_assoc]
              exact kinds_at l 44 [n] q hq
            have hb := body_loop c lb h n v s1 s2 w d1 d2 l true id off mo p (l.map (fun x : S60 => x.f0) ++ [44] ++ [n]) (by omega) hok hnn hks (by simp) (by simp; omega) l.length 0 (j + 1 + 1) ⟨#[]⟩ (by omega) (by omega) (by decide)
            rw [show ((0 : Nat) : Int) = 0 from rfl] at hb
            rw [hb, if_pos rfl, List.drop_zero, app_nil]
            have hj3 : ∀ o : Int, 0 ≤ o → o ≤ 65535 → ipv6_Encode.j3 (j + 1 + 1) (l.map (fun x : S60 => x.f0) ++ [44] ++ [n]) (strOfNums (extB l (nextK n true))) o c lb h n v s1 s2 w d1 d2 l true id off mo p
                = ipv6_Encode.j4 (j + 1) (l.map (fun x : S60 => x.f0) ++ [44] ++ [n]) (strOfNums (extB l (nextK n true) ++ ([n, 0] ++ beN 2 o ++ beN 4 id))) c lb h n v s1 s2 w d1 d2 l true id off mo p := by
              intro o h0 h1
              have b4 := put_ok id 4 (by omega) (by omega) (by omega) (by omega)
              have b2 := put_ok o 2 (by omega) (by omega) (by omega) (by omega)
              rw [show ((4 : Nat) : Int) = 4 from rfl] at b4
              rw [show ((2 : Nat) : Int) = 2 from rfl] at b2
              rw [ipv6_Encode.j3, join_is _ (by simp) _ (by simp; omega)]
              simp only [bs, joinOf, nil_app]
              rw [b4, b2, put1_ok _ hnn.1 hnn.2, put1_ok 0 (by omega) (by omega), ← strOfNums_append, ← strOfNums_append, ← strOfNums_append, if_pos (by rw [strOfNums_size, strOfNums_size]; simp [beN_length]; omega), ← strOfNums_append]
              congr 3
            have hfin : (if mo = true then ipv6_Encode.j3 (j + 1 + 1) (l.map (fun x : S60 => x.f0) ++ [44] ++ [n]) (strOfNums (extB l (nextK n true))) (wrap64 (off + 1)) c lb h n v s1 s2 w d1 d2 l true id off mo p else ipv6_Encode.j3 (j + 1 + 1) (l.map (fun x : S60 => x.f0) ++ [44] ++ [n]) (strOfNums (extB l (nextK n true))) off c lb h n v s1 s2 w d1 d2 l true id off mo p)
                = ipv6_Encode.j4 (j + 1) (l.map (fun x : S60 => x.f0) ++ [44] ++ [n]) (strOfNums (extB l (nextK n true) ++ fragB n id off mo)) c lb h n v s1 s2 w d1 d2 l true id off mo p := by
              unfold fragB
              cases mo with
              | true => rw [if_pos rfl, if_pos rfl, w64 (n := off + 1) (by omega) (by omega), hj3 _ (by omega) (by omega)]
              | false => rw [if_neg (by decide), if_neg (by decide), hj3 _ (by omega) (by omega), Int.add_zero]
            rw [hfin,
              j4_is c lb h n v s1 s2 w d1 d2 l true id off mo p (l.map (fun x : S60 => x.f0) ++ [44] ++ [n]) (strOfNums (extB l (nextK n true) ++ fragB n id off mo)) j (by omega) (by rw [strOfNums_size]; unfold fragB; simp [beN_length]; omega) hp (by simp) (by have := hks 0 (by omega); rw [List.drop_zero] at this; exact this) hok hN]
            have eb : strOfNums (extB l (nextK n true) ++ fragB n id off mo) ++ p = strOfNums (bodyB n l true id off mo p) := by
              unfold bodyB
              rw [if_pos rfl, strOfNums_append (extB l (nextK n true) ++ fragB n id off mo) (bytesOf p), str_bytes]
            rw [eb, strOfNums_size, ← strOfNums_append]
        · rw [if_neg hok] at hc'; omega
    · rw [if_neg hA] at hc'; omega
  · rw [if_neg hc, if_neg hc]
end
end Go.Proofs.Ytljboandbjahdaa.Pure
