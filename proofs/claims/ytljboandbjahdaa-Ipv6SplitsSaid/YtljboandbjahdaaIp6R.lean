/- Encode of layer 12 in closed form: what the document's computes. -/
import Derived.Test.YtljboandbjahdaaIp6D
import Derived.Test.YtljboandbjahdaaIp6E
import Derived.Test.YtljboandbjahdaaIp6Y
import Derived.Test.YtljboandbjahdaaX16
import Derived.Test.YtljboandbjahdaaX15
set_option linter.unusedVariables false
set_option linter.unusedSimpArgs false
namespace Go.Proofs.Ytljboandbjahdaa.Pure
open Go.RowKit Go.Proofs.Ytljboandbjahdaa.X Go.Proofs.YtljboandbjahdaaW.PrintWords Go.Proofs.YtljboandbjahdaaW.PrintLast Go.Proofs.YtljboandbjahdaaW.PrintMore

theorem rput12_loop (n : Int) : ∀ (m k : Nat) (x : List Int), m ≤ 8 → x.length ≤ 8 - m →
    intrusionref12_put.l0 (k + m + 1) n x ((m : Int) - 1) = some (strOfNums (x ++ beN m n))
  | 0, k, x, h, hx => by
    unfold intrusionref12_put.l0
    rw [if_neg (by omega)]
    simp [beN]
  | m + 1, k, x, h, hx => by
    rw [show k + (m + 1) + 1 = (k + m + 1) + 1 by omega]
    unfold intrusionref12_put.l0
    rw [show ((m + 1 : Nat) : Int) - 1 = (m : Int) by omega, w64 (n := 8 * (m : Int)) (by omega) (by omega), wu64 (n := 8 * (m : Int)) (by omega) (by omega), w64 (n := (m : Int) - 1) (by omega) (by omega),
      if_pos (by omega), if_pos (by omega), if_pos (by omega), shr64 n m (by omega), rput12_loop n m k _ (by omega) (by simp; omega)]
    simp [beN]
theorem rput12 (n : Int) (z : Nat) (hz : z ≤ 8) (k : Nat) (hk : 10 ≤ k) : intrusionref12_put.f k n z = some (strOfNums (beN z n)) := by
  have h := rput12_loop n z (k - z - 1) [] hz (by simp)
  rw [show k - z - 1 + z + 1 = k by omega] at h
  unfold intrusionref12_put.f
  rw [w64 (n := (z : Int) - 1) (by omega) (by omega), h]
  simp
theorem rput12_1 (n : Int) (h0 : 0 ≤ n) (h1 : n ≤ 255) (k : Nat) (hk : 10 ≤ k) : intrusionref12_put.f k n 1 = some (strOfNums [n]) := by
  have h := rput12 n 1 (by omega) k hk
  rw [show ((1 : Nat) : Int) = 1 from rfl] at h
  rw [h]
  simp [beN]
  congr 1
  congr 1
  omega
section
variable (c lb h n : Int) (v : Bool) (s1 s2 : Int) (w : Bool) (d1 d2 : Int) (l : List S60) (fr : Bool) (id off : Int) (mo : Bool) (p : ByteArray)
theorem re1_no (k : Nat) (i : Int) : intrusionref12_Encode.j1 (k + 1) i true c lb h n v s1 s2 w d1 d2 l fr id off mo p = some (⟨#[]⟩, 2) := by rw [intrusionref12_Encode.j1, if_pos rfl]
theorem okEs_drop : ∀ (l : List S60) (i j : Nat), okEs i l = true → okEs (i + j) (l.drop j) = true
  | l, i, 0, q => q
  | [], i, j + 1, q => by simp [okEs]
  | x :: l, i, j + 1, q => by
    simp [okEs] at q
    have := okEs_drop l (i + 1) j q.2
    rw [show i + (j + 1) = i + 1 + j by omega]
    simpa using this
/-- What follows the look at the extension headers. -/
def reRest (k : Nat) : Option (ByteArray × Int) :=
  if (p.size : Int) > 65535 then some (⟨#[]⟩, 3) else (if fr = true then (if mo = true then intrusionref12_Encode.j2 k n p 1 c lb h n v s1 s2 w d1 d2 l fr id off mo p else intrusionref12_Encode.j2 k n p 0 c lb h n v s1 s2 w d1 d2 l fr id off mo p) else intrusionref12_Encode.j3 k n p c lb h n v s1 s2 w d1 d2 l fr id off mo p)
theorem re_loop (hl : l.length ≤ 8) : ∀ (m i k : Nat), i + m = l.length →
    intrusionref12_Encode.l0 (k + 2 * m + 1) i c lb h n v s1 s2 w d1 d2 l fr id off mo p = if okEs i (l.drop i) = true then reRest c lb h n v s1 s2 w d1 d2 l fr id off mo p k else some (⟨#[]⟩, 2)
  | 0, i, k, hi => by
    unfold intrusionref12_Encode.l0 reRest
    rw [if_neg (by omega), List.drop_eq_nil_of_le (by omega)]
    simp only [okEs, if_true]
  | m + 1, i, k, hi => by
    have hlt : i < l.length := by omega
    have ih := re_loop hl m (i + 1) k (by omega)
    rw [show k + 2 * (m + 1) + 1 = (k + 2 * m + 1) + 1 + 1 by omega]
    have yes : okE i l[i] → intrusionref12_Encode.j1 (k + 2 * m + 1 + 1) i false c lb h n v s1 s2 w d1 d2 l fr id off mo p = if okEs i (l.drop i) = true then reRest c lb h n v s1 s2 w d1 d2 l fr id off mo p k else some (⟨#[]⟩, 2) := by
      intro ho
      rw [intrusionref12_Encode.j1, if_neg (by decide), w64 (n := (i : Int) + 1) (by omega) (by omega), show (i : Int) + 1 = ((i + 1 : Nat) : Int) by omega, ih, List.drop_eq_getElem_cons hlt]
      simp [okEs, ho]
    have no : ¬ okE i l[i] → some ((⟨#[]⟩ : ByteArray), (2 : Int)) = if okEs i (l.drop i) = true then reRest c lb h n v s1 s2 w d1 d2 l fr id off mo p k else some (⟨#[]⟩, 2) := by
      intro ho
      rw [List.drop_eq_getElem_cons hlt]
      simp [okEs, ho]
    unfold intrusionref12_Encode.l0
    rw [if_pos (by omega), if_pos (by omega), rd60 l i hlt, rext_is]
    simp only [bs]
    by_cases he : isExt l[i].f0
    · rw [if_pos (by simpa using he)]
      have last : (if (l[i].f1.size : Int) % 8 = 6 then intrusionref12_Encode.j1 (k + 2 * m + 1 + 1) i (decide ((l[i].f1.size : Int) > 2046)) c lb h n v s1 s2 w d1 d2 l fr id off mo p else intrusionref12_Encode.j1 (k + 2 * m + 1 + 1) i true c lb h n v s1 s2 w d1 d2 l fr id off mo p)
          = (if ((l[i].f1.size : Int) ≤ 2046 ∧ (l[i].f1.size : Int) % 8 = 6) then intrusionref12_Encode.j1 (k + 2 * m + 1 + 1) i false c lb h n v s1 s2 w d1 d2 l fr id off mo p else some (⟨#[]⟩, 2)) := by
        by_cases q : (l[i].f1.size : Int) % 8 = 6
        · rw [if_pos q]
          by_cases b : (l[i].f1.size : Int) > 2046
          · rw [if_neg (fun z => by omega), decide_eq_true b, re1_no]
          · rw [if_pos ⟨by omega, q⟩, decide_eq_false b]
        · rw [if_neg q, if_neg (fun z => q z.2), re1_no]
      by_cases h0 : l[i].f0 = 0
      · rw [if_pos h0]
        by_cases hz : (i : Int) > 0
        · rw [if_pos hz, re1_no]
          exact no (fun ho => ho.2.1 ⟨h0, by omega⟩)
        · rw [if_neg hz, last]
          by_cases q : (l[i].f1.size : Int) ≤ 2046 ∧ (l[i].f1.size : Int) % 8 = 6
          · rw [if_pos q]
            exact yes ⟨he, fun z => by omega, q.1, q.2⟩
          · rw [if_neg q]
            exact no (fun ho => q ⟨ho.2.2.1, ho.2.2.2⟩)
      · rw [if_neg h0, last]
        by_cases q : (l[i].f1.size : Int) ≤ 2046 ∧ (l[i].f1.size : Int) % 8 = 6
        · rw [if_pos q]
          exact yes ⟨he, fun z => h0 z.1, q.1, q.2⟩
        · rw [if_neg q]
          exact no (fun ho => q ⟨ho.2.2.1, ho.2.2.2⟩)
    · rw [if_neg (by simpa using he), re1_no]
      exact no (fun ho => he ho.1)
theorem re_back (hl : l.length ≤ 8) (hok : okEs 0 l = true) (hN : okNum c lb h n) (T : ByteArray) (hT : T.size ≤ 100000) : ∀ (m k : Nat), m ≤ l.length → 40 ≤ k →
    intrusionref12_Encode.l1 (k + m + 1) (headK (l.drop m) (nextK n fr)) (strOfNums (extB (l.drop m) (nextK n fr)) ++ T) ((m : Int) - 1) c lb h n v s1 s2 w d1 d2 l fr id off mo p
      = some (if (strOfNums (extB l (nextK n fr)) ++ T).size > 65535 then (⟨#[]⟩, 3) else (strOfNums (headB c lb h n v s1 s2 w d1 d2 l fr (strOfNums (extB l (nextK n fr)) ++ T).size) ++ (strOfNums (extB l (nextK n fr)) ++ T), 0))
  | 0, k, hm, hk => by
    obtain ⟨⟨hc, hh, hn⟩, hlb⟩ := hN
    have nk : 0 ≤ nextK n fr ∧ nextK n fr ≤ 255 := by unfold nextK; split <;> omega
    have hr := headK_range l 0 hok (nextK n fr) nk.1 nk.2
    rw [List.drop_zero] at hr ⊢
    have a1 := adrB_len v s1 s2
    have a2 := adrB_len w d1 d2
    have a1' : (adrB v s1 s2).length ≤ 16 := by rw [a1]; split <;> omega
    have a2' : (adrB w d1 d2).length ≤ 16 := by rw [a2]; split <;> omega
    unfold intrusionref12_Encode.l1
    rw [if_neg (by omega)]
    generalize strOfNums (extB l (nextK n fr)) ++ T = B
    by_cases hs : B.size > 65535
    · rw [if_pos (by omega), if_pos hs]
    · rw [if_neg (by omega), if_neg hs, first_num c lb hc hlb]
      have b4 := rput12 (1610612736 + c * 1048576 + lb) 4 (by omega) k (by omega)
      have b2 := rput12 (B.size : Int) 2 (by omega) k (by omega)
      rw [show ((4 : Nat) : Int) = 4 from rfl] at b4
      rw [show ((2 : Nat) : Int) = 2 from rfl] at b2
      have z : ∀ q : List Int, (strOfNums q).size = q.length := strOfNums_size
      rw [b4, b2]
      simp only [bs]
      rw [← strOfNums_append, if_pos (by rw [z, z]; simp [beN_length]), rput12_1 _ hr.1 hr.2 _ (by omega)]
      simp only [bs]
      rw [← strOfNums_append, if_pos (by rw [z, z]; simp [beN_length]), rput12_1 _ hh.1 hh.2 _ (by omega)]
      simp only [bs]
      rw [← strOfNums_append, if_pos (by rw [z, z]; simp [beN_length]), rBytes_is _ _ _ _ (by omega)]
      simp only [bs]
      rw [← strOfNums_append, if_pos (by rw [z, z]; simp [beN_length]; omega), rBytes_is _ _ _ _ (by omega)]
      simp only [bs]
      rw [← strOfNums_append, if_pos (by rw [z, z]; simp [beN_length]; omega), if_pos (by rw [z]; simp [beN_length] at hs ⊢; omega)]
      congr 3
  | m + 1, k, hm, hk => by
    have hlt : m < l.length := by omega
    have ho := okEs_at l 0 m hok hlt
    have h6 : (l[m].f1.size : Int) % 8 = 6 := ho.2.2.2
    have h2046 : (l[m].f1.size : Int) ≤ 2046 := ho.2.2.1
    obtain ⟨⟨hc, hh, hn⟩, hlb⟩ := hN
    have nk : 0 ≤ nextK n fr ∧ nextK n fr ≤ 255 := by unfold nextK; split <;> omega
    have hr := headK_range l (m + 1) hok (nextK n fr) nk.1 nk.2
    have hx : (extB (l.drop (m + 1)) (nextK n fr)).length ≤ 2048 * 8 := by
      have q : okEs (m + 1) (l.drop (m + 1)) = true := by have := okEs_drop l 0 (m + 1) hok; rw [Nat.zero_add] at this; exact this
      have := extB_len (l.drop (m + 1)) (m + 1) (nextK n fr) q
      simp at this
      omega
    rw [show k + (m + 1) + 1 = (k + m + 1) + 1 by omega]
    unfold intrusionref12_Encode.l1
    rw [show ((m + 1 : Nat) : Int) - 1 = (m : Int) by omega, if_pos (by omega), if_pos (by omega), if_pos (by omega), rd60 l m hlt, rput12_1 _ hr.1 hr.2 _ (by omega),
      w64 (n := (l[m].f1.size : Int) - 6) (by omega) (by omega), Int.tdiv_eq_ediv_of_nonneg (by omega), w64 (n := ((l[m].f1.size : Int) - 6) / 8) (by omega) (by omega), rput12_1 _ (by omega) (by omega) _ (by omega), w64 (n := (m : Int) - 1) (by omega) (by omega)]
    simp only [bs]
    have z : ∀ q : List Int, (strOfNums q).size = q.length := strOfNums_size
    rw [if_pos (by rw [z, z]; simp), ← strOfNums_append, if_pos (by rw [z]; simp; omega), if_pos (by rw [size_append, size_append, z, z]; simp; omega)]
    have e : strOfNums ([headK (l.drop (m + 1)) (nextK n fr)] ++ [((l[m].f1.size : Int) - 6) / 8]) ++ l[m].f1 ++ (strOfNums (extB (l.drop (m + 1)) (nextK n fr)) ++ T) = strOfNums (extB (l.drop m) (nextK n fr)) ++ T := by
      rw [List.drop_eq_getElem_cons hlt]
      have e1 : ∀ (a b : Int) (d : ByteArray) (R : List Int), strOfNums ([a, b] ++ bytesOf d ++ R) = strOfNums ([a] ++ [b]) ++ d ++ strOfNums R := by
        intro a b d R
        rw [strOfNums_append ([a, b] ++ bytesOf d) R, strOfNums_append [a, b] (bytesOf d), str_bytes]
        rfl
      simp only [extB]
      rw [e1]
      simp only [app_assoc]
    have e2 : l[m].f0 = headK (l.drop m) (nextK n fr) := by rw [List.drop_eq_getElem_cons hlt]; rfl
    rw [e, e2]
    exact re_back hl hok ⟨⟨hc, hh, hn⟩, hlb⟩ T hT m k (by omega) hk
theorem re_j3 (hl : l.length ≤ 8) (hok : okEs 0 l = true) (hN : okNum c lb h n) (T : ByteArray) (hT : T.size ≤ 100000) (k : Nat) (hk : 60 ≤ k) :
    intrusionref12_Encode.j3 k (nextK n fr) T c lb h n v s1 s2 w d1 d2 l fr id off mo p
      = some (if (strOfNums (extB l (nextK n fr)) ++ T).size > 65535 then (⟨#[]⟩, 3) else (strOfNums (headB c lb h n v s1 s2 w d1 d2 l fr (strOfNums (extB l (nextK n fr)) ++ T).size) ++ (strOfNums (extB l (nextK n fr)) ++ T), 0)) := by
  obtain ⟨j, rfl⟩ : ∃ j, k = (j + l.length + 1) + 1 := ⟨k - l.length - 2, by omega⟩
  have hb := re_back c lb h n v s1 s2 w d1 d2 l fr id off mo p hl hok hN T hT l.length j (by omega) (by omega)
  rw [List.drop_length, show headK [] (nextK n fr) = nextK n fr from rfl, show extB [] (nextK n fr) = [] from rfl, str_nil, app_nil] at hb
  rw [intrusionref12_Encode.j3, w64 (n := (l.length : Int) - 1) (by omega) (by omega)]
  exact hb
theorem re_j2 (hl : l.length ≤ 8) (hok : okEs 0 l = true) (hN : okNum c lb h n) (hfr : fr = true) (hF : okFrag fr id off mo) (hp : p.size ≤ 65535) (k : Nat) (hk : 62 ≤ k) :
    intrusionref12_Encode.j2 k n p (if mo = true then 1 else 0) c lb h n v s1 s2 w d1 d2 l fr id off mo p
      = intrusionref12_Encode.j3 (k - 1) 44 (strOfNums (fragB n id off mo) ++ p) c lb h n v s1 s2 w d1 d2 l fr id off mo p := by
  obtain ⟨j, rfl⟩ : ∃ j, k = j + 1 := ⟨k - 1, by omega⟩
  obtain ⟨⟨hc, hh, hn⟩, hlb⟩ := hN
  subst hfr
  have hF' : (0 ≤ id ∧ id ≤ 4294967295) ∧ (0 ≤ off ∧ off ≤ 65528) ∧ Int.tmod off 8 = 0 := by unfold okFrag at hF; rw [if_pos rfl] at hF; exact hF
  obtain ⟨hid, hoff, _⟩ := hF'
  have z : ∀ q : List Int, (strOfNums q).size = q.length := strOfNums_size
  have hm : 0 ≤ (if mo = true then (1 : Int) else 0) ∧ (if mo = true then (1 : Int) else 0) ≤ 1 := by split <;> omega
  have b4 := rput12 id 4 (by omega) j (by omega)
  have b2 := rput12 (off + if mo = true then 1 else 0) 2 (by omega) j (by omega)
  rw [show ((4 : Nat) : Int) = 4 from rfl] at b4
  rw [show ((2 : Nat) : Int) = 2 from rfl] at b2
  rw [intrusionref12_Encode.j2, rput12_1 _ hn.1 hn.2 _ (by omega), rput12_1 _ (by omega) (by omega) _ (by omega), w64 (n := off + if mo = true then 1 else 0) (by omega) (by omega), b2, b4]
  simp only [bs]
  rw [← strOfNums_append, if_pos (by rw [z, z]; simp), if_pos (by rw [z, z]; simp [beN_length]), ← strOfNums_append, if_pos (by rw [z, z]; simp [beN_length]), ← strOfNums_append, if_pos (by rw [z]; simp [beN_length]; omega)]
  rfl
theorem rencode_is (hp : p.size ≤ 4611686018427387904) (k : Nat) (hk : 100 ≤ k) :
    intrusionref12_Encode.f k c lb h n v s1 s2 w d1 d2 l fr id off mo p = some (encOf c lb h n v s1 s2 w d1 d2 l fr id off mo p) := by
  unfold intrusionref12_Encode.f encOf chkOf
  rw [ranges_is _ _ _ _ _ _ _ _ _ _ _ _ _ _ _ _ _ (by omega)]
  simp only [bs]
  by_cases hA : okAll c lb h n v w fr id off mo
  · rw [if_pos (decide_eq_true hA), if_pos hA]
    by_cases h8 : (l.length : Int) > 8
    · rw [if_pos h8, if_pos h8, if_neg (by decide)]
    · rw [if_neg h8, if_neg h8]
      have hA' := hA
      obtain ⟨hN, hE, hF⟩ := hA'
      have hloop := re_loop c lb h n v s1 s2 w d1 d2 l fr id off mo p (by omega) l.length 0 (k - 2 * l.length - 1) (by omega)
      rw [show k - 2 * l.length - 1 + 2 * l.length + 1 = k by omega, List.drop_zero, show ((0 : Nat) : Int) = 0 from rfl] at hloop
      rw [hloop]
      by_cases hok : okEs 0 l = true
      · rw [if_pos hok, if_pos hok, if_pos rfl]
        unfold reRest
        have hbl := bytesOf_length p
        by_cases hp2 : (p.size : Int) > 65535
        · rw [if_pos hp2, if_pos (by unfold bodyB; rw [List.length_append]; omega)]
        · rw [if_neg hp2]
          have hext := extB_len l 0 (nextK n fr) hok
          cases hfr : fr with
          | false =>
            subst hfr
            have h3 := re_j3 c lb h n v s1 s2 w d1 d2 l false id off mo p (by omega) hok hN p (by omega) (k - 2 * l.length - 1) (by omega)
            rw [show nextK n false = n from rfl] at h3
            rw [if_neg (by decide), h3]
            have eb : strOfNums (extB l n) ++ p = strOfNums (bodyB n l false id off mo p) := by
              unfold bodyB
              rw [if_neg (by decide), List.append_nil, strOfNums_append, str_bytes]
              rfl
            rw [eb, strOfNums_size, ← strOfNums_append]
          | true =>
            subst hfr
            have h2 := re_j2 c lb h n v s1 s2 w d1 d2 l true id off mo p (by omega) hok hN rfl hF (by omega) (k - 2 * l.length - 1) (by omega)
            have h3 := re_j3 c lb h n v s1 s2 w d1 d2 l true id off mo p (by omega) hok hN (strOfNums (fragB n id off mo) ++ p) (by rw [size_append, strOfNums_size]; unfold fragB; simp [beN_length]; omega) (k - 2 * l.length - 1 - 1) (by omega)
            rw [show nextK n true = 44 from rfl] at h3
            have hfin : (if mo = true then intrusionref12_Encode.j2 (k - 2 * l.length - 1) n p 1 c lb h n v s1 s2 w d1 d2 l true id off mo p else intrusionref12_Encode.j2 (k - 2 * l.length - 1) n p 0 c lb h n v s1 s2 w d1 d2 l true id off mo p)
                = intrusionref12_Encode.j2 (k - 2 * l.length - 1) n p (if mo = true then 1 else 0) c lb h n v s1 s2 w d1 d2 l true id off mo p := by
              cases mo <;> rfl
            rw [if_pos rfl, hfin, h2, h3]
            have eb : strOfNums (extB l 44) ++ (strOfNums (fragB n id off mo) ++ p) = strOfNums (bodyB n l true id off mo p) := by
              unfold bodyB
              rw [if_pos rfl, strOfNums_append (extB l (nextK n true) ++ fragB n id off mo) (bytesOf p), str_bytes, strOfNums_append (extB l (nextK n true)), app_assoc]
              rfl
            rw [eb, strOfNums_size, ← strOfNums_append]
      · rw [if_neg hok, if_neg hok, if_neg (by decide)]
  · rw [if_neg (by rw [decide_eq_true_iff]; exact hA), if_neg hA, if_neg (by decide)]
end
end Go.Proofs.Ytljboandbjahdaa.Pure
