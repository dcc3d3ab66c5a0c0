/- UdpDetects as a plain law: a changed byte of an encoded datagram, other than in its length, is noticed, unless it makes the checksum 0 between addresses of IPv4; for at most 300 bytes of payload; no further condition. -/
import Derived.Test.YtdjbmfjeplheiaaDoorXDUdpDetects
import Derived.Test.YtdjbmfjeplheiaaDoorUdpP
namespace Go.Proofs.YtdjbmfjeplheiaaDoor.Pure
open Go.RowKit Go.Proofs.YtdjbmfjeplheiaaDoor.X Go.Proofs.YtdjbmfjeplheiaaDoorW.PrintWords Go.Proofs.YtdjbmfjeplheiaaDoorW.PrintLast Go.Proofs.YtdjbmfjeplheiaaDoorW.PrintMore

theorem tot_set : ∀ (l : List Int) (i : Nat) (x : Int) (h : i < l.length), tot (l.set i x) = tot l + (x - l[i]) * (if i % 2 = 0 then 256 else 1)
  | [], i, x, h => by simp at h
  | [a], 0, x, _ => by simp only [List.set_cons_zero, tot, List.getElem_cons_zero, Nat.zero_mod, if_true]; omega
  | [a], i + 1, x, h => by simp at h
  | a :: b :: r, 0, x, _ => by simp only [List.set_cons_zero, tot, List.getElem_cons_zero, Nat.zero_mod, if_true]; omega
  | a :: b :: r, 1, x, _ => by simp only [List.set_cons_succ, List.set_cons_zero, tot, List.getElem_cons_succ, List.getElem_cons_zero]; simp; omega
  | a :: b :: r, i + 2, x, h => by
    have ih := tot_set r i x (by simp at h; omega)
    simp only [List.set_cons_succ, tot, List.getElem_cons_succ, ih, Nat.add_mod_right]
    omega
theorem zero_set (l : List Int) (h : 8 ≤ l.length) : l.take 6 ++ [0, 0] ++ l.drop 8 = (l.set 6 0).set 7 0 := by
  match l, h with
  | a :: b :: c :: d :: e :: f :: g :: i :: r, _ => rfl
theorem W_at (s : ByteArray) (i : Nat) (h : i + 2 ≤ s.size) : W s i = (bytesOf s).getD i 0 * 256 + (bytesOf s).getD (i + 1) 0 := by
  have hl := bytesOf_length s
  unfold W
  rw [bytesOf_extract, show i + 2 - i = 2 by omega, drop_two (bytesOf s) i (by omega)]
  simp [valBE]
theorem pseudo_even (v6 : Bool) (hi lo : Int) (w6 : Bool) (hj lp : Int) (n : Int) (hf : okFit v6 hi lo w6 hj lp) (h0 : 0 ≤ n) (h1 : n ≤ 65535) :
    (bytesOf (pseudoOf v6 hi lo w6 hj lp 17 n)).length % 2 = 0 ∧ 17 ≤ tot (bytesOf (pseudoOf v6 hi lo w6 hj lp 17 n)) := by
  have pos : ∀ (z : Nat) (x : Int), 0 ≤ tot (beN z x) := fun z x => tot_nonneg _ (beN_range z x)
  have hv : v6 = w6 := hf.2.2
  subst hv
  have ar : ∀ a b c, ∀ x ∈ addrOf a b c, 0 ≤ x ∧ x < 256 := by
    intro a b c x hx
    unfold addrOf at hx
    split at hx
    · rcases List.mem_append.mp hx with hx | hx <;> exact beN_range _ _ x hx
    · exact beN_range _ _ x hx
  have al : ∀ b c, (addrOf v6 b c).length % 2 = 0 := by intro b c; unfold addrOf; split <;> simp [beN_length]
  have ap : ∀ b c, 0 ≤ tot (addrOf v6 b c) := fun b c => tot_nonneg _ (ar v6 b c)
  have t2 : tot (beN 2 17) = 17 := by decide +kernel
  have t4 : tot (beN 4 17) = 17 := by decide +kernel
  have lim : n ≤ (if v6 = true then 4294967295 else 65535) := by split <;> omega
  unfold pseudoOf
  rw [if_pos ⟨hf.1, hf.2.1, rfl, by decide, by decide, h0, lim⟩]
  split
  · have hr : ∀ x ∈ addrOf v6 hi lo ++ addrOf v6 hj lp ++ beN 4 n ++ beN 4 17, 0 ≤ x ∧ x < 256 := by
      intro x hx
      simp only [List.mem_append] at hx
      rcases hx with ((hx | hx) | hx) | hx
      · exact ar _ _ _ x hx
      · exact ar _ _ _ x hx
      · exact beN_range _ _ x hx
      · exact beN_range _ _ x hx
    have l1 := al hi lo
    have l2 := al hj lp
    rw [bytesOf_strOfNums _ hr]
    refine ⟨by simp [beN_length]; omega, ?_⟩
    rw [tot_append _ _ (by simp [beN_length]; omega), tot_append _ _ (by simp; omega), tot_append _ _ l1, t4]
    have := ap hi lo
    have := ap hj lp
    have := pos 4 n
    omega
  · have hr : ∀ x ∈ addrOf v6 hi lo ++ addrOf v6 hj lp ++ beN 2 17 ++ beN 2 n, 0 ≤ x ∧ x < 256 := by
      intro x hx
      simp only [List.mem_append] at hx
      rcases hx with ((hx | hx) | hx) | hx
      · exact ar _ _ _ x hx
      · exact ar _ _ _ x hx
      · exact beN_range _ _ x hx
      · exact beN_range _ _ x hx
    have l1 := al hi lo
    have l2 := al hj lp
    rw [bytesOf_strOfNums _ hr]
    refine ⟨by simp [beN_length]; omega, ?_⟩
    rw [tot_append _ _ (by simp [beN_length]; omega), tot_append _ _ (by simp; omega), tot_append _ _ l1, t2]
    have := ap hi lo
    have := ap hj lp
    have := pos 2 n
    omega
theorem canon_ne (T D : Int) (hT : 17 ≤ T) (hT2 : 17 ≤ T + D) (hD : D ≠ 0) (h1 : -65280 ≤ D) (h2 : D ≤ 65280) : canon T ≠ canon (T + D) := by
  unfold canon
  rw [if_neg (by omega), if_neg (by omega)]
  omega
theorem nz_ne (T T' : Int) (hT : 17 ≤ T) (hT2 : 17 ≤ T') (h : canon T ≠ canon T') : nz (65535 - canon T) ≠ nz (65535 - canon T') := by
  have a : 1 ≤ canon T ∧ canon T ≤ 65535 := by unfold canon; rw [if_neg (by omega)]; omega
  have b : 1 ≤ canon T' ∧ canon T' ≤ 65535 := by unfold canon; rw [if_neg (by omega)]; omega
  unfold nz
  split <;> split <;> omega
/-- Another byte at a place. -/
theorem sum_ne (v6 : Bool) (hi lo : Int) (w6 : Bool) (hj lp : Int) (hf : okFit v6 hi lo w6 hj lp) (a b : ByteArray) (hs : a.size ≤ 65535) (i : Nat) (x : Int) (hi' : i < (bytesOf a).length) (hx : 0 ≤ x ∧ x < 256) (hne : x ≠ (bytesOf a)[i]) (hb : bytesOf b = (bytesOf a).set i x) :
    sumU v6 hi lo w6 hj lp a ≠ sumU v6 hi lo w6 hj lp b := by
  have hsz : b.size = a.size := by rw [size_bytes b, hb, List.length_set, bytesOf_length]
  obtain ⟨e1, e2⟩ := pseudo_even v6 hi lo w6 hj lp a.size hf (by omega) (by omega)
  have ha := bytesOf_range a (bytesOf a)[i] (List.getElem_mem hi')
  have na := tot_nonneg _ (bytesOf_range a)
  have nb := tot_nonneg _ (bytesOf_range b)
  have ts := tot_set (bytesOf a) i x hi'
  unfold sumU sumOf
  rw [hsz, bytesOf_append, bytesOf_append, tot_append _ _ e1, tot_append _ _ e1]
  rw [hb] at nb ⊢
  rw [ts] at nb ⊢
  have key := canon_ne (tot (bytesOf (pseudoOf v6 hi lo w6 hj lp 17 a.size)) + tot (bytesOf a)) ((x - (bytesOf a)[i]) * (if i % 2 = 0 then 256 else 1)) (by omega) (by omega) (by split <;> omega) (by split <;> omega) (by split <;> omega)
  rw [← Int.add_assoc]
  exact nz_ne _ _ (by omega) (by omega) key
theorem UdpDetects : intrusionlaw13_UdpDetects.Pure := by
  intro v6 hi lo w6 hj lp sp dp p ch a b c d e f hp hc
  have a := wf_u64 a
  have b := wf_u64 b
  have c := wf_u64 c
  have d := wf_u64 d
  have hc := wf_u16 hc
  obtain ⟨K, hK⟩ : ∃ K, 1000 = K := ⟨_, rfl⟩
  have A : Addrs hi lo hj lp := ⟨a.1, a.2, b.1, b.2, c.1, c.2, d.1, d.2⟩
  refine ⟨K + 1, ?_⟩
  unfold intrusionlaw13_UdpDetects.f
  rw [awake_is _ (by omega)]
  by_cases h1 : (p.size : Int) > 300
  · rw [if_pos h1]; rfl
  · rw [if_neg h1, encode_is v6 hi lo w6 hj lp A sp dp p (K + 1) (by omega)]
    simp only [bs]
    unfold encU
    by_cases c0 : ¬ okFit v6 hi lo w6 hj lp
    · rw [if_pos c0, if_neg (by decide), if_pos nilList]
    · rw [if_neg c0]
      by_cases c1 : sp < 0 ∨ 65535 < sp ∨ dp < 0 ∨ 65535 < dp
      · rw [if_pos c1, if_neg (by decide), if_pos nilList]
      · rw [if_neg c1, if_neg (show ¬ 65507 < p.size by omega)]
        have hf : okFit v6 hi lo w6 hj lp := Decidable.not_not.mp c0
        have hr := sumU_range v6 hi lo w6 hj lp (strOfNums (hd6 sp dp (8 + p.size) ++ [0, 0]) ++ p)
        generalize hck : sumU v6 hi lo w6 hj lp (strOfNums (hd6 sp dp (8 + p.size) ++ [0, 0]) ++ p) = ck at hr
        obtain ⟨q0, q2, q4, q6, qe, qp, qs⟩ := parts sp dp ck p ⟨#[]⟩ (by omega) (by omega) (by omega) (by omega) (by omega) (by omega) (by omega)
        have hz : zeroed (strOfNums (hd6 sp dp (8 + p.size) ++ beN 2 ck) ++ p) = strOfNums (hd6 sp dp (8 + p.size) ++ [0, 0]) ++ p := by
          have e2 : beN 2 ck = [ck / 256 ^ 1 % 256, ck / 256 ^ 0 % 256] := rfl
          rw [e2]
          exact zero_mid _ (hd6_len _ _ _) (hd6_range _ _ _) _ _ (by omega) (by omega) p
        have nil : ∀ s : ByteArray, s ++ (⟨#[]⟩ : ByteArray) = s := fun s => by apply bytesOf_inj; rw [bytesOf_append, bytesOf_nil, List.append_nil]
        rw [nil] at q0 q2 q4 q6 qe qp qs
        generalize strOfNums (hd6 sp dp (8 + p.size) ++ beN 2 ck) ++ p = s at hz q0 q2 q4 q6 qe qp qs
        have z0 : (⟨#[]⟩ : ByteArray).size = 0 := rfl
        have hsz : s.size = 8 + p.size := by omega
        have hl := bytesOf_length s
        dsimp only
        rw [if_pos rfl, if_neg (by omega), if_neg (by omega), w64 (n := ch) (by omega) (by omega), Int.tmod_eq_emod_of_nonneg (by omega), Int.tdiv_eq_ediv_of_nonneg (by omega), w64 (n := ch / 256) (by omega) (by omega), Int.tmod_eq_emod_of_nonneg (by omega), w64 (n := 1 + ch / 256 % 255) (by omega) (by omega)]
        have hm0 := Int.emod_nonneg ch (show (s.size : Int) ≠ 0 by omega)
        have hm1 := Int.emod_lt_of_pos ch (show (0 : Int) < (s.size : Int) by omega)
        obtain ⟨i, hi_⟩ : ∃ i : Nat, (i : Int) = ch % (s.size : Int) := ⟨(ch % (s.size : Int)).toNat, by omega⟩
        rw [← hi_]
        generalize hg : 1 + ch / 256 % 255 = g
        have g1 : 1 ≤ g := by omega
        have g2 : g ≤ 255 := by omega
        have out : intrusionlaw13_UdpDetects.j0 (K + 1) s i g true v6 hi lo w6 hj lp = some true := by
          rw [intrusionlaw13_UdpDetects.j0, if_pos rfl, awake_is _ (by omega)]
          rfl
        by_cases i4 : (i : Int) = 4
        · rw [if_pos i4]; exact out
        · rw [if_neg i4]
          by_cases i5 : (i : Int) = 5
          · rw [show ((i : Int) == 5) = true from beq_iff_eq.mpr i5]; exact out
          · rw [show ((i : Int) == 5) = false from beq_eq_false_iff_ne.mpr i5, intrusionlaw13_UdpDetects.j0, if_neg (by simp)]
            have hb := bt_range s i
            have hil : i < (bytesOf s).length := by omega
            rw [w64 (n := bt s (i : Int)) (by omega) (by omega), w64 (n := bt s (i : Int) + g) (by omega) (by omega), w64 (n := (i : Int) + 1) (by omega) (by omega), if_pos (by omega), if_pos (by omega), if_pos (by omega)]
            simp only [bs]
            generalize hx : (bt s (i : Int) + g) % 256 = x
            have x0 : 0 ≤ x ∧ x < 256 := by omega
            have hbi : bt s (i : Int) = (bytesOf s)[i] := by rw [bt_eq, List.getD_eq_getElem?_getD, List.getElem?_eq_getElem hil]; rfl
            have xne : x ≠ (bytesOf s)[i] := by rw [← hbi]; omega
            have z1 : (strOfNums [x]).size = 1 := by rw [strOfNums_size]; rfl
            have zA : (s.extract 0 i).size = i := by simp; omega
            have zB : (s.extract (i + 1) s.size).size = s.size - (i + 1) := by simp
            have eA : ((i : Int)).toNat = i := by omega
            have eB : ((i : Int) + 1).toNat = i + 1 := by omega
            rw [eA, eB, if_pos (by rw [zA, z1]; omega), if_pos (by omega), if_pos (by omega), if_pos (by rw [size_append, zA, z1, zB]; omega)]
            generalize ht : s.extract 0 i ++ strOfNums [x] ++ s.extract (i + 1) s.size = t
            have hbt : bytesOf t = (bytesOf s).set i x := by
              rw [← ht, bytesOf_append, bytesOf_append, bytesOf_extract, bytesOf_extract, bytesOf_strOfNums [x] (fun y hy => by simp only [List.mem_singleton] at hy; subst hy; exact x0)]
              rw [List.take_of_length_le (l := List.drop (i + 1) (bytesOf s)) (by simp; omega), List.set_eq_take_append_cons_drop, if_pos hil]
              simp
            have htz : t.size = s.size := by rw [size_bytes t, hbt, List.length_set, hl]
            have far : ∀ j : Nat, j ≠ i → (bytesOf t).getD j 0 = (bytesOf s).getD j 0 := by
              intro j hj
              rw [hbt, List.getD_eq_getElem?_getD, List.getD_eq_getElem?_getD, List.getElem?_set_ne (by omega)]
            have t4 : W t 4 = 8 + p.size := by rw [W_at t 4 (by omega), far 4 (by omega), far 5 (by omega), ← W_at s 4 (by omega), q4]
            have te : t.extract 0 (8 + p.size) = t := by rw [← hsz, ← htz]; simp
            have se : s.extract 0 s.size = s := by simp
            have bz : ∀ y : ByteArray, 8 ≤ y.size → bytesOf (zeroed y) = ((bytesOf y).set 6 0).set 7 0 := by
              intro y hy
              have hy2 := bytesOf_length y
              have zb : bytesOf zz = [0, 0] := rfl
              unfold zeroed
              rw [bytesOf_append, bytesOf_append, bytesOf_extract, bytesOf_extract, zb, ← zero_set _ (by omega), List.take_of_length_le (l := List.drop 8 (bytesOf y)) (by simp; omega)]
              simp
            have zs := bz s (by omega)
            have zt := bz t (by omega)
            rw [hbt] at zt
            rw [decode_is v6 hi lo w6 hj lp A t (by omega) K (by omega)]
            simp only [bs]
            have dec : decU v6 hi lo w6 hj lp t = if W t 6 ≠ sumU v6 hi lo w6 hj lp (zeroed t) ∧ (W t 6 ≠ 0 ∨ v6 = true) then (0, 0, ⟨#[]⟩, 8) else (W t 0, W t 2, t.extract 8 (8 + p.size), 0) := by
              unfold decU
              rw [if_neg c0, if_neg (by omega), t4, if_neg (by omega), if_neg (by omega), show (8 + (p.size : Int)).toNat = 8 + p.size by omega, te]
            have hsum : sumU v6 hi lo w6 hj lp (zeroed s) = ck := by rw [hz, hck]
            rw [awake_is _ (by omega), dec]
            by_cases cc : W t 6 ≠ sumU v6 hi lo w6 hj lp (zeroed t) ∧ (W t 6 ≠ 0 ∨ v6 = true)
            · rw [if_pos cc]
              rfl
            · rw [if_neg cc]
              dsimp only
              rw [if_pos rfl]
              -- the checksum fits, or is 0: then it was the checksum that changed
              by_cases i67 : i = 6 ∨ i = 7
              · have same : zeroed t = zeroed s := by
                  apply bytesOf_inj
                  rw [zt, zs]
                  rcases i67 with rfl | rfl
                  · rw [List.set_set]
                  · rw [List.set_comm x 0 (i := 7) (j := 6) (by omega), List.set_set]
                rw [same, hsum] at cc
                have W6 : ∀ y : ByteArray, 8 ≤ y.size → W y 6 = (bytesOf y).getD 6 0 * 256 + (bytesOf y).getD 7 0 := fun y hy => W_at y 6 (by omega)
                have wt : W t 6 ≠ ck := by
                  rw [W6 t (by omega), ← q6, W6 s (by omega)]
                  have g6 : ∀ j : Nat, j < s.size → 0 ≤ (bytesOf t).getD j 0 ∧ (bytesOf t).getD j 0 < 256 ∧ 0 ≤ (bytesOf s).getD j 0 ∧ (bytesOf s).getD j 0 < 256 := by
                    intro j hj
                    have a1 := bt_range t j
                    have a2 := bt_range s j
                    rw [bt_eq] at a1 a2
                    omega
                  have here : (bytesOf t).getD i 0 = x ∧ (bytesOf s).getD i 0 ≠ x := by
                    rw [hbt, List.getD_eq_getElem?_getD, List.getElem?_set_self hil, List.getD_eq_getElem?_getD, List.getElem?_eq_getElem hil]
                    exact ⟨rfl, fun h => xne h.symm⟩
                  have k6 := g6 6 (by omega)
                  have k7 := g6 7 (by omega)
                  rcases i67 with rfl | rfl
                  · have := far 7 (by omega); omega
                  · have := far 6 (by omega); omega
                have w0 : W t 6 = 0 ∧ v6 = false := by
                  by_cases u : W t 6 = 0
                  · refine ⟨u, ?_⟩
                    cases hv : v6 with
                    | false => rfl
                    | true => exact absurd ⟨wt, .inr hv⟩ cc
                  · exact absurd ⟨wt, .inl u⟩ cc
                have b6 := bt_range t ((6 : Nat) : Int)
                have b7 := bt_range t ((7 : Nat) : Int)
                have w6' := W6 t (by omega)
                rw [← bt_eq, ← bt_eq, w0.1] at w6'
                have n6 : bt t 6 = 0 := by
                  have : bt t ((6 : Nat) : Int) = 0 := by omega
                  exact this
                have n7 : bt t 7 = 0 := by
                  have : bt t ((7 : Nat) : Int) = 0 := by omega
                  exact this
                rw [if_neg (by rw [w0.2]; simp), if_pos (by omega), if_pos n6, if_pos (by omega), if_pos n7]
                rfl
              · exfalso
                have wt : W t 6 = ck := by rw [W_at t 6 (by omega), far 6 (by omega), far 7 (by omega), ← W_at s 6 (by omega), q6]
                have hzs := zeroed_size s (by omega)
                have hset : bytesOf (zeroed t) = (bytesOf (zeroed s)).set i x := by
                  rw [zt, zs, List.set_comm (i := i) (j := 6) _ _ (by omega), List.set_comm (i := i) (j := 7) _ _ (by omega)]
                have hlz : i < (bytesOf (zeroed s)).length := by rw [bytesOf_length, hzs]; omega
                have hat : (bytesOf (zeroed s))[i] = (bytesOf s)[i] := by
                  have : (bytesOf (zeroed s))[i]? = (bytesOf s)[i]? := by rw [zs, List.getElem?_set_ne (by omega), List.getElem?_set_ne (by omega)]
                  rw [List.getElem?_eq_getElem hlz, List.getElem?_eq_getElem hil] at this
                  exact Option.some.inj this
                have := sum_ne v6 hi lo w6 hj lp hf (zeroed s) (zeroed t) (by omega) i x hlz x0 (by rw [hat]; exact xne) hset
                rw [hsum] at this
                exact cc ⟨by rw [wt]; exact this, .inl (by rw [wt]; omega)⟩

end Go.Proofs.YtdjbmfjeplheiaaDoor.Pure
