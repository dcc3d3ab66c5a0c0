/- Layer 12: decoding the bytes of a packet that can be encoded gives the packet, whatever follows. -/
import Derived.Test.YtljboandbjahdaaIp6T
import Derived.Test.YtljboandbjahdaaIp6E
set_option linter.unusedVariables false
set_option linter.unusedSimpArgs false
namespace Go.Proofs.Ytljboandbjahdaa.Pure
open Go.RowKit Go.Proofs.Ytljboandbjahdaa.X Go.Proofs.YtljboandbjahdaaW.PrintWords Go.Proofs.YtljboandbjahdaaW.PrintLast Go.Proofs.YtljboandbjahdaaW.PrintMore

theorem walk_ext (nx : Int) (F : List Int) : ∀ (r pre : List S60) (m : Nat), okEs pre.length r = true → pre.length + r.length ≤ 8 →
    walkOf (m + r.length) (decide (pre.length = 0)) (headK r nx) pre false 0 0 false (extB r nx ++ F) = walkOf m (decide ((pre ++ r).length = 0)) nx (pre ++ r) false 0 0 false F
  | [], pre, m, _, _ => by simp [headK, extB]
  | x :: r, pre, m, ho, h8 => by
    simp only [okEs, Bool.and_eq_true, decide_eq_true_iff] at ho
    obtain ⟨⟨he, h0, hs, h6⟩, ho⟩ := ho
    have hbl := bytesOf_length x.f1
    have ih := walk_ext nx F r (pre ++ [x]) m (by simpa using ho) (by simp at h8 ⊢; omega)
    have e1 : ((extB (x :: r) nx ++ F).getD 1 0) = ((x.f1.size : Int) - 6) / 8 := rfl
    have e0 : ((extB (x :: r) nx ++ F).getD 0 0) = headK r nx := rfl
    have en : (((x.f1.size : Int) - 6) / 8).toNat * 8 + 6 = x.f1.size := by omega
    have ed : (extB (x :: r) nx ++ F).drop 2 = bytesOf x.f1 ++ (extB r nx ++ F) := by simp [extB]
    have el : (extB (x :: r) nx ++ F).length = 2 + x.f1.size + (extB r nx ++ F).length := by simp [extB]; omega
    rw [show m + (x :: r).length = (m + r.length) + 1 by simp; omega, walkOf]
    rw [show headK (x :: r) nx = x.f0 from rfl]
    have h44 : x.f0 ≠ 44 := by unfold isExt at he; omega
    simp at h8
    rw [if_neg (fun z : ¬ (isExt x.f0 ∨ x.f0 = 44) => z (.inl he)), if_neg (show ¬ ((x.f0 = 0 ∧ decide (pre.length = 0) = false) ∨ false = true) from fun z => z.elim (fun y => h0 ⟨y.1, by have := of_decide_eq_false y.2; omega⟩) (fun y => by cases y)),
      if_neg (show ¬ (x.f0 ≠ 44 ∧ pre.length = 8) from fun z => by have := z.2; omega), e1, e0, el,
      if_neg (show ¬ (2 + x.f1.size + (extB r nx ++ F).length < 8 ∨ (x.f0 ≠ 44 ∧ ((2 + x.f1.size + (extB r nx ++ F).length : Nat) : Int) < 8 + 8 * (((x.f1.size : Int) - 6) / 8))) from fun z => z.elim (fun y => by omega) (fun y => by have := y.2; omega)), if_neg h44, ed]
    have t1 : (bytesOf x.f1 ++ (extB r nx ++ F)).take (6 + 8 * (((x.f1.size : Int) - 6) / 8).toNat) = bytesOf x.f1 := by
      rw [show 6 + 8 * (((x.f1.size : Int) - 6) / 8).toNat = (bytesOf x.f1).length by omega, List.take_left']
      rfl
    have t2 : (extB (x :: r) nx ++ F).drop (8 + 8 * (((x.f1.size : Int) - 6) / 8).toNat) = extB r nx ++ F := by
      rw [show 8 + 8 * (((x.f1.size : Int) - 6) / 8).toNat = 2 + (bytesOf x.f1).length by omega, ← List.drop_drop, ed, List.drop_left']
      rfl
    rw [t1, t2, str_bytes]
    rw [show decide ((pre ++ [x]).length = 0) = false by simp] at ih
    rw [show (⟨x.f0, x.f1⟩ : S60) = x from rfl, ih]
    simp
section
variable (c lb h n : Int) (v : Bool) (s1 s2 : Int) (w : Bool) (d1 d2 : Int) (l : List S60) (fr : Bool) (id off : Int) (mo : Bool) (p : ByteArray)
theorem walk_body (hl : l.length ≤ 8) (hok : okEs 0 l = true) (hE : okEnd n v w) (hF : okFrag fr id off mo) (hn : 0 ≤ n ∧ n ≤ 255) (m : Nat) (hm : 20 ≤ m) :
    walkOf m true (headK l (nextK n fr)) [] false 0 0 false (bodyB n l fr id off mo p) = (n, l, fr, id, off, mo, p, 0) := by
  obtain ⟨q, rfl⟩ : ∃ q, m = (q + 1 + 1) + l.length := ⟨m - l.length - 2, by omega⟩
  have hw := walk_ext (nextK n fr) ((if fr = true then fragB n id off mo else []) ++ bytesOf p) l [] (q + 1 + 1) (by simpa using hok) (by simpa using hl)
  unfold bodyB
  rw [List.append_assoc]
  simp only [List.length_nil, decide_true, List.nil_append] at hw
  rw [hw]
  obtain ⟨hx, h44, _, _⟩ := hE
  cases fr with
  | false =>
    have hF' : id = 0 ∧ off = 0 ∧ mo = false := by unfold okFrag at hF; rw [if_neg (by decide)] at hF; exact hF
    obtain ⟨rfl, rfl, rfl⟩ := hF'
    rw [if_neg (by decide), show ([] : List Int) ++ bytesOf p = bytesOf p from rfl]
    unfold walkOf
    rw [show nextK n false = n from rfl, if_pos (fun z => z.elim hx h44), str_bytes]
  | true =>
    have hF' : (0 ≤ id ∧ id ≤ 4294967295) ∧ (0 ≤ off ∧ off ≤ 65528) ∧ Int.tmod off 8 = 0 := by unfold okFrag at hF; rw [if_pos rfl] at hF; exact hF
    obtain ⟨hid, hoff, h8⟩ := hF'
    rw [Int.tmod_eq_emod_of_nonneg hoff.1] at h8
    have hm : 0 ≤ (if mo = true then (1 : Int) else 0) ∧ (if mo = true then (1 : Int) else 0) ≤ 1 := by split <;> omega
    have b2 : valBE (beN 2 (off + if mo = true then 1 else 0)) = off + if mo = true then 1 else 0 := by rw [valBE_beN _ _ (by omega), Int.emod_eq_of_lt (by omega) (by omega)]
    have b4 : valBE (beN 4 id) = id := by rw [valBE_beN _ _ (by omega), Int.emod_eq_of_lt (by omega) (by omega)]
    have ef : fragB n id off mo ++ bytesOf p = n :: 0 :: (beN 2 (off + if mo = true then 1 else 0) ++ (beN 4 id ++ bytesOf p)) := by simp [fragB]
    have hlen : (fragB n id off mo ++ bytesOf p).length = 8 + (bytesOf p).length := by rw [ef]; simp [beN_length]; omega
    have g0 : (fragB n id off mo ++ bytesOf p).getD 0 0 = n := by rw [ef]; rfl
    have g2 : ((fragB n id off mo ++ bytesOf p).drop 2).take 2 = beN 2 (off + if mo = true then 1 else 0) := by
      rw [ef]
      show (beN 2 (off + if mo = true then 1 else 0) ++ (beN 4 id ++ bytesOf p)).take 2 = _
      rw [List.take_left' (beN_length _ _)]
    have g6 : (fragB n id off mo ++ bytesOf p).drop 4 = beN 4 id ++ bytesOf p := by
      rw [ef]
      show (beN 2 (off + if mo = true then 1 else 0) ++ (beN 4 id ++ bytesOf p)).drop 2 = _
      rw [List.drop_left' (beN_length _ _)]
    have g4 : ((fragB n id off mo ++ bytesOf p).drop 4).take 4 = beN 4 id := by rw [g6, List.take_left' (beN_length _ _)]
    have g8 : (fragB n id off mo ++ bytesOf p).drop 8 = bytesOf p := by
      rw [show 8 = 4 + 4 from rfl, ← List.drop_drop, g6, List.drop_left' (beN_length _ _)]
    rw [if_pos rfl, walkOf]
    rw [show nextK n true = 44 from rfl, if_neg (fun z => z (.inr rfl)), if_neg (show ¬ (((44 : Int) = 0 ∧ decide (l.length = 0) = false) ∨ false = true) from fun z => z.elim (fun y => by have := y.1; omega) (fun y => by cases y)),
      if_neg (fun z => z.1 rfl), hlen, if_neg (show ¬ (8 + (bytesOf p).length < 8 ∨ ((44 : Int) ≠ 44 ∧ ((8 + (bytesOf p).length : Nat) : Int) < 8 + 8 * (fragB n id off mo ++ bytesOf p).getD 1 0)) from fun z => z.elim (fun y => by omega) (fun y => y.1 rfl)),
      if_pos rfl, g0, g2, g4, g8, b2, b4]
    unfold walkOf
    rw [if_pos (fun z => z.elim hx h44), str_bytes]
    have o1 : (off + if mo = true then 1 else 0) / 8 * 8 = off := by omega
    have o2 : ((off + if mo = true then 1 else 0) % 2 == 1) = mo := by
      cases mo with
      | true => rw [if_pos rfl, beq_iff_eq]; omega
      | false => rw [if_neg (by decide), beq_eq_false_iff_ne]; omega
    rw [o1, o2]
theorem chk_open (hc : chkOf c lb h n v w l fr id off mo = 0) : okAll c lb h n v w fr id off mo ∧ l.length ≤ 8 ∧ okEs 0 l = true := by
  unfold chkOf at hc
  by_cases hA : okAll c lb h n v w fr id off mo
  · rw [if_pos hA] at hc
    by_cases h8 : (l.length : Int) > 8
    · rw [if_pos h8] at hc; omega
    · rw [if_neg h8] at hc
      by_cases hok : okEs 0 l = true
      · exact ⟨hA, by omega, hok⟩
      · rw [if_neg hok] at hc; omega
  · rw [if_neg hA] at hc; omega
theorem extB_range : ∀ (l : List S60) (i : Nat) (nx : Int), okEs i l = true → 0 ≤ nx → nx ≤ 255 → (∀ x ∈ extB l nx, 0 ≤ x ∧ x < 256) ∧ 0 ≤ headK l nx ∧ headK l nx ≤ 255
  | [], _, nx, _, h0, h1 => ⟨by simp [extB], h0, h1⟩
  | y :: r, i, nx, ho, h0, h1 => by
    simp only [okEs, Bool.and_eq_true, decide_eq_true_iff] at ho
    obtain ⟨⟨he, _, hs, h6⟩, ho⟩ := ho
    obtain ⟨a, b, d⟩ := extB_range r (i + 1) nx ho h0 h1
    refine ⟨?_, ?_⟩
    · intro x hx
      simp only [extB, List.mem_append, List.mem_cons, List.not_mem_nil, or_false] at hx
      rcases hx with ((rfl | rfl) | hx) | hx
      · omega
      · omega
      · exact bytesOf_range _ x hx
      · exact a x hx
    · show 0 ≤ y.f0 ∧ y.f0 ≤ 255
      unfold isExt at he
      omega
theorem body_range (hA : okAll c lb h n v w fr id off mo) (hok : okEs 0 l = true) : (∀ x ∈ bodyB n l fr id off mo p, 0 ≤ x ∧ x < 256) ∧ 0 ≤ headK l (nextK n fr) ∧ headK l (nextK n fr) ≤ 255 := by
  obtain ⟨⟨⟨_, _, hn⟩, _⟩, _, _⟩ := hA
  have nk : 0 ≤ nextK n fr ∧ nextK n fr ≤ 255 := by unfold nextK; split <;> omega
  obtain ⟨a, b⟩ := extB_range l 0 (nextK n fr) hok nk.1 nk.2
  refine ⟨?_, b⟩
  intro x hx
  unfold bodyB at hx
  rcases List.mem_append.mp hx with hx | hx
  · rcases List.mem_append.mp hx with hx | hx
    · exact a x hx
    · split at hx
      · unfold fragB at hx
        simp only [List.mem_append, List.mem_cons, List.not_mem_nil, or_false] at hx
        rcases hx with ((rfl | rfl) | hx) | hx
        · omega
        · omega
        · exact beN_range _ _ x hx
        · exact beN_range _ _ x hx
      · cases hx
  · exact bytesOf_range _ x hx
/-- A head of forty bytes, and what follows. -/
theorem dec_head (hA : okAll c lb h n true true fr id off mo) (hs1 : 0 ≤ s1 ∧ s1 < 18446744073709551616) (hs2 : 0 ≤ s2 ∧ s2 < 18446744073709551616) (hd1 : 0 ≤ d1 ∧ d1 < 18446744073709551616) (hd2 : 0 ≤ d2 ∧ d2 < 18446744073709551616) (z : Nat) (hz : z ≤ 65535) (R : List Int) (m : Nat) :
    decOf m (headB c lb h n true s1 s2 true d1 d2 l fr z ++ R) = if R.length < z then badP 1 else packP c lb h true s1 s2 true d1 d2 (walkOf m true (headK l (nextK n fr)) [] false 0 0 false (R.take z)) := by
  obtain ⟨⟨⟨hc, hh, hn⟩, hlb⟩, _, _⟩ := hA
  have e : headB c lb h n true s1 s2 true d1 d2 l fr z ++ R = beN 4 (1610612736 + c * 1048576 + lb) ++ (beN 2 z ++ (headK l (nextK n fr) :: h :: (beN 8 s1 ++ (beN 8 s2 ++ (beN 8 d1 ++ (beN 8 d2 ++ R)))))) := by
    unfold headB adrB
    simp
  rw [e]
  generalize hX : headK l (nextK n fr) = X
  have t4 : (beN 4 (1610612736 + c * 1048576 + lb) ++ (beN 2 z ++ (X :: h :: (beN 8 s1 ++ (beN 8 s2 ++ (beN 8 d1 ++ (beN 8 d2 ++ R))))))).take 4 = beN 4 (1610612736 + c * 1048576 + lb) := List.take_left' (beN_length _ _)
  have q4 : (beN 4 (1610612736 + c * 1048576 + lb) ++ (beN 2 z ++ (X :: h :: (beN 8 s1 ++ (beN 8 s2 ++ (beN 8 d1 ++ (beN 8 d2 ++ R))))))).drop 4 = beN 2 z ++ (X :: h :: (beN 8 s1 ++ (beN 8 s2 ++ (beN 8 d1 ++ (beN 8 d2 ++ R))))) := List.drop_left' (beN_length _ _)
  have hlen : (beN 4 (1610612736 + c * 1048576 + lb) ++ (beN 2 z ++ (X :: h :: (beN 8 s1 ++ (beN 8 s2 ++ (beN 8 d1 ++ (beN 8 d2 ++ R))))))).length = 40 + R.length := by simp [beN_length]; omega
  generalize hL : beN 4 (1610612736 + c * 1048576 + lb) ++ (beN 2 z ++ (X :: h :: (beN 8 s1 ++ (beN 8 s2 ++ (beN 8 d1 ++ (beN 8 d2 ++ R)))))) = L at t4 q4 hlen
  have q6 : L.drop 6 = X :: h :: (beN 8 s1 ++ (beN 8 s2 ++ (beN 8 d1 ++ (beN 8 d2 ++ R)))) := by rw [show 6 = 4 + 2 from rfl, ← List.drop_drop, q4, List.drop_left' (beN_length _ _)]
  have q8 : L.drop 8 = beN 8 s1 ++ (beN 8 s2 ++ (beN 8 d1 ++ (beN 8 d2 ++ R))) := by rw [show 8 = 6 + 2 from rfl, ← List.drop_drop, q6]; rfl
  have q16 : L.drop 16 = beN 8 s2 ++ (beN 8 d1 ++ (beN 8 d2 ++ R)) := by rw [show 16 = 8 + 8 from rfl, ← List.drop_drop, q8, List.drop_left' (beN_length _ _)]
  have q24 : L.drop 24 = beN 8 d1 ++ (beN 8 d2 ++ R) := by rw [show 24 = 16 + 8 from rfl, ← List.drop_drop, q16, List.drop_left' (beN_length _ _)]
  have q32 : L.drop 32 = beN 8 d2 ++ R := by rw [show 32 = 24 + 8 from rfl, ← List.drop_drop, q24, List.drop_left' (beN_length _ _)]
  have q40 : L.drop 40 = R := by rw [show 40 = 32 + 8 from rfl, ← List.drop_drop, q32, List.drop_left' (beN_length _ _)]
  have g6 : L.getD 6 0 = X := by
    have := congrArg (fun y => y.getD 0 0) q6
    simpa [List.getD_eq_getElem?_getD] using this
  have g7 : L.getD 7 0 = h := by
    have := congrArg (fun y => y.getD 1 0) q6
    simpa [List.getD_eq_getElem?_getD] using this
  have p8 : (256 : Int) ^ 8 = 18446744073709551616 := by decide
  have v4 : valBE (L.take 4) = 1610612736 + c * 1048576 + lb := by rw [t4, valBE_beN _ _ (by omega), Int.emod_eq_of_lt (by omega) (by omega)]
  have v2 : valBE ((L.drop 4).take 2) = z := by rw [q4, List.take_left' (beN_length _ _), valBE_beN _ _ (by omega), Int.emod_eq_of_lt (by omega) (by omega)]
  have w1 : valBE ((L.drop 8).take 8) = s1 := by rw [q8, List.take_left' (beN_length _ _), valBE_beN _ _ hs1.1, p8, Int.emod_eq_of_lt hs1.1 hs1.2]
  have w2 : valBE ((L.drop 16).take 8) = s2 := by rw [q16, List.take_left' (beN_length _ _), valBE_beN _ _ hs2.1, p8, Int.emod_eq_of_lt hs2.1 hs2.2]
  have w3 : valBE ((L.drop 24).take 8) = d1 := by rw [q24, List.take_left' (beN_length _ _), valBE_beN _ _ hd1.1, p8, Int.emod_eq_of_lt hd1.1 hd1.2]
  have w4 : valBE ((L.drop 32).take 8) = d2 := by rw [q32, List.take_left' (beN_length _ _), valBE_beN _ _ hd2.1, p8, Int.emod_eq_of_lt hd2.1 hd2.2]
  unfold decOf
  rw [if_neg (by omega), v4, if_neg (show ¬ (1610612736 + c * 1048576 + lb) / 268435456 ≠ 6 by omega), v2, hlen, g6, g7, w1, w2, w3, w4, q40, Int.toNat_natCast]
  by_cases hR : R.length < z
  · rw [if_pos (by omega), if_pos hR]
  · rw [if_neg (by omega), if_neg hR, show (1610612736 + c * 1048576 + lb) / 1048576 % 256 = c by omega, show (1610612736 + c * 1048576 + lb) % 1048576 = lb by omega]
theorem head_range (hA : okAll c lb h n v w fr id off mo) (hk : 0 ≤ headK l (nextK n fr) ∧ headK l (nextK n fr) ≤ 255) (z : Int) : ∀ x ∈ headB c lb h n v s1 s2 w d1 d2 l fr z, 0 ≤ x ∧ x < 256 := by
  obtain ⟨⟨⟨_, hh, hn⟩, _⟩, _, _⟩ := hA
  intro x hx
  unfold headB at hx
  simp only [List.mem_append, List.mem_cons, List.not_mem_nil, or_false] at hx
  rcases hx with (((hx | hx) | (rfl | rfl)) | hx) | hx
  · exact beN_range _ _ x hx
  · exact beN_range _ _ x hx
  · omega
  · omega
  · exact adrB_range _ _ _ x hx
  · exact adrB_range _ _ _ x hx
theorem head_len (z : Int) : (headB c lb h n true s1 s2 true d1 d2 l fr z).length = 40 := by
  unfold headB
  simp [beN_length, adrB_len]
/-- Decoding what was encoded. -/
theorem round_trip (hc : chkOf c lb h n v w l fr id off mo = 0) (hb : ¬ (bodyB n l fr id off mo p).length > 65535) (hs1 : 0 ≤ s1 ∧ s1 < 18446744073709551616) (hs2 : 0 ≤ s2 ∧ s2 < 18446744073709551616) (hd1 : 0 ≤ d1 ∧ d1 < 18446744073709551616) (hd2 : 0 ≤ d2 ∧ d2 < 18446744073709551616) (T : List Int) (m : Nat) (hm : 20 ≤ m) :
    decOf m (headB c lb h n v s1 s2 w d1 d2 l fr (bodyB n l fr id off mo p).length ++ (bodyB n l fr id off mo p ++ T)) = (c, lb, h, n, v, s1, s2, w, d1, d2, l, fr, id, off, mo, p, 0) := by
  obtain ⟨hA, h8, hok⟩ := chk_open c lb h n v w l fr id off mo hc
  have hA' := hA
  obtain ⟨⟨⟨_, _, hn⟩, _⟩, hE, hF⟩ := hA'
  have hE2 := hE
  obtain ⟨_, _, hv, hw⟩ := hE2
  subst hv
  subst hw
  rw [dec_head c lb h n s1 s2 d1 d2 l fr id off mo hA hs1 hs2 hd1 hd2 (bodyB n l fr id off mo p).length (by omega) _ m, if_neg (by simp), List.take_left' rfl, walk_body n true true l fr id off mo p h8 hok hE hF hn m hm]
  rfl
theorem short_trip (hc : chkOf c lb h n v w l fr id off mo = 0) (hb : ¬ (bodyB n l fr id off mo p).length > 65535) (hs1 : 0 ≤ s1 ∧ s1 < 18446744073709551616) (hs2 : 0 ≤ s2 ∧ s2 < 18446744073709551616) (hd1 : 0 ≤ d1 ∧ d1 < 18446744073709551616) (hd2 : 0 ≤ d2 ∧ d2 < 18446744073709551616) (m : Nat) :
    decOf m ((headB c lb h n v s1 s2 w d1 d2 l fr (bodyB n l fr id off mo p).length ++ bodyB n l fr id off mo p).take (39 + (bodyB n l fr id off mo p).length)) = badP 1 := by
  obtain ⟨hA, h8, hok⟩ := chk_open c lb h n v w l fr id off mo hc
  have hA' := hA
  obtain ⟨⟨⟨_, _, hn⟩, _⟩, hE, hF⟩ := hA'
  have hE2 := hE
  obtain ⟨_, _, hv, hw⟩ := hE2
  subst hv
  subst hw
  generalize hB : bodyB n l fr id off mo p = B at hb
  have hl := head_len c lb h n s1 s2 d1 d2 l fr (B.length : Int)
  by_cases h0 : B.length = 0
  · unfold decOf
    rw [if_pos (by rw [List.length_take]; omega)]
  · rw [List.take_append, List.take_of_length_le (by omega), hl, show 39 + B.length - 40 = B.length - 1 by omega,
      dec_head c lb h n s1 s2 d1 d2 l fr id off mo hA hs1 hs2 hd1 hd2 B.length (by omega) _ m, if_pos (by rw [List.length_take]; omega)]
end
end Go.Proofs.Ytljboandbjahdaa.Pure
