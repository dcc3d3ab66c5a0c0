/- Functions and their walks, printed by xprint.py. -/
import Derived.Test.YtobioaommmgehaaZ0
import Derived.Test.YtobioaommmgehaaZ9
import Derived.Test.YtobioaommmgehaaZ10
namespace Go.Proofs.Ytobioaommmgehaa.Z
open Go.RowKit Go.Proofs.YtobioaommmgehaaW.PrintWords Go.Proofs.YtobioaommmgehaaW.PrintLast Go.Proofs.YtobioaommmgehaaW.PrintMore
attribute [local go_sem] max2_int min2_int max_two min_two max_three min_three max_four min_four   -- for this text's walks alone
set_option linter.unusedVariables false
set_option linter.unusedSimpArgs false

theorem cell_same {X : World} {a : Go.Addr} {u v : Value} (h : X.cell? a = some u) : (X.setCell a v).cell? a = some v :=
  World.cell?_setCell_same (w := X) (a := a) (v := v) h
theorem cell_ne {X : World} {g i j : Nat} {u v : Value} (hij : i ≠ j) (h : X.cell? ⟨g, j, none⟩ = some u) : (X.setCell ⟨g, i, none⟩ v).cell? ⟨g, j, none⟩ = some u := by
  rw [World.cell?_setCell_other (w := X) (a := ⟨g, i, none⟩) (b := ⟨g, j, none⟩) (v := v) (by intro e; injection e with e1 e2 e3; exact hij e2)]
  exact h
theorem load_int {o : Oper} {a : Act} {W : World} {g i : Nat} {p : Tmp} {n : Int} (ho : o.op = .load 3 (.tmp p)) (hp : a.eval (.tmp p) = .pointer (some ⟨g, i, none⟩)) (hc : W.cell? ⟨g, i, none⟩ = some (.int .i64 n)) : (execOp a.eval o).run Try.prog W = .ok (.value (.int .i64 n)) W := by
  unfold execOp
  rw [ho]
  simp only [hp]
  go_simp
theorem row6 {W : World} {g : Nat} {t : TypeId} {cs : Array Value} (x0 x1 x2 x3 x4 x5 x6 x7 x8 x9 x10 x11 x12 x13 x14 : Value) (n : Int) (h : W.heap[g]? = some (.cells cs t (0, 0))) (hs : cs.size = 15) : ((((((((((((((((W.setCell ⟨g, 0, none⟩ x0).setCell ⟨g, 1, none⟩ x1).setCell ⟨g, 2, none⟩ x2).setCell ⟨g, 3, none⟩ x3).setCell ⟨g, 4, none⟩ x4).setCell ⟨g, 5, none⟩ x5).setCell ⟨g, 6, none⟩ x6).setCell ⟨g, 7, none⟩ x7).setCell ⟨g, 8, none⟩ x8).setCell ⟨g, 9, none⟩ x9).setCell ⟨g, 10, none⟩ x10).setCell ⟨g, 11, none⟩ x11).setCell ⟨g, 12, none⟩ x12).setCell ⟨g, 13, none⟩ x13).setCell ⟨g, 14, none⟩ x14).setCell ⟨g, 6, none⟩ (.int .i64 n)).cell? ⟨g, 6, none⟩ = some (.int .i64 n) := by
  have h6 : W.cell? ⟨g, 6, none⟩ = some (cs[6]'(by omega)) := (blk_cell h 6).trans (Array.getElem?_eq_getElem (by omega))
  have a0 := cell_ne (i := 0) (v := x0) (by decide) h6
  have a1 := cell_ne (i := 1) (v := x1) (by decide) a0
  have a2 := cell_ne (i := 2) (v := x2) (by decide) a1
  have a3 := cell_ne (i := 3) (v := x3) (by decide) a2
  have a4 := cell_ne (i := 4) (v := x4) (by decide) a3
  have a5 := cell_ne (i := 5) (v := x5) (by decide) a4
  have a6 := cell_same (v := x6) a5
  have a7 := cell_ne (i := 7) (v := x7) (by decide) a6
  have a8 := cell_ne (i := 8) (v := x8) (by decide) a7
  have a9 := cell_ne (i := 9) (v := x9) (by decide) a8
  have a10 := cell_ne (i := 10) (v := x10) (by decide) a9
  have a11 := cell_ne (i := 11) (v := x11) (by decide) a10
  have a12 := cell_ne (i := 12) (v := x12) (by decide) a11
  have a13 := cell_ne (i := 13) (v := x13) (by decide) a12
  have a14 := cell_ne (i := 14) (v := x14) (by decide) a13
  exact cell_same (v := .int .i64 n) a14
/-! ### ipv4_Split: function 21 -/
mutual
def ipv4_Split.j0 : Nat → Int → Bool → Int → Int → Int → Int → Bool → Bool → Int → Bool → Int → Int → Bool → Int → Int → List (S50) → ByteArray → Option ((List (S28)) × Int)
 | 0, _, _, _, _, _, _, _, _, _, _, _, _, _, _, _, _, _ => none
 | k + 1, x1, x19, b0, b1, b2, b3, b4, b5, b6, b7, b8, b9, b10, b11, b12, b13, b14 => if x19 = true then (some (([] : List (S28)), 4)) else ((ipv4_Encode.f k b0 b1 b2 b3 b4 b5 b6 b7 b8 b9 b10 b11 b12 b13 b14).bind fun bt243 => (if bt243.2 = 0 then (if b4 = true then (ipv4_Split.j1 k x1 (decide ((b14.size : Int) > x1)) b0 b1 b2 b3 b4 b5 b6 b7 b8 b9 b10 b11 b12 b13 b14) else (ipv4_Split.j1 k x1 false b0 b1 b2 b3 b4 b5 b6 b7 b8 b9 b10 b11 b12 b13 b14)) else (some (([] : List (S28)), bt243.2))))
def ipv4_Split.j1 : Nat → Int → Bool → Int → Int → Int → Int → Bool → Bool → Int → Bool → Int → Int → Bool → Int → Int → List (S50) → ByteArray → Option ((List (S28)) × Int)
 | 0, _, _, _, _, _, _, _, _, _, _, _, _, _, _, _, _, _ => none
 | k + 1, x1, x36, b0, b1, b2, b3, b4, b5, b6, b7, b8, b9, b10, b11, b12, b13, b14 => if x36 = true then (some (([] : List (S28)), 10)) else ((api_Option_49.f b13).bind fun t245 => ((api_Option_48.f t245).bind fun t248 => (ipv4_Split.l0 k x1 t248 ([] : List (S28)) 0 b0 b1 b2 b3 b4 b5 b6 b7 b8 b9 b10 b11 b12 b13 b14)))
def ipv4_Split.l0 : Nat → Int → List (S50) → List (S28) → Int → Int → Int → Int → Int → Bool → Bool → Int → Bool → Int → Int → Bool → Int → Int → List (S50) → ByteArray → Option ((List (S28)) × Int)
 | 0, _, _, _, _, _, _, _, _, _, _, _, _, _, _, _, _, _, _, _ => none
 | k + 1, x1, x8, x9, x10, b0, b1, b2, b3, b4, b5, b6, b7, b8, b9, b10, b11, b12, b13, b14 => if x10 = 0 then (ipv4_Split.j3 k x1 x8 x9 x10 true b0 b1 b2 b3 b4 b5 b6 b7 b8 b9 b10 b11 b12 b13 b14) else (ipv4_Split.j3 k x1 x8 x9 x10 (decide (x10 < (b14.size : Int))) b0 b1 b2 b3 b4 b5 b6 b7 b8 b9 b10 b11 b12 b13 b14)
def ipv4_Split.j3 : Nat → Int → List (S50) → List (S28) → Int → Bool → Int → Int → Int → Int → Bool → Bool → Int → Bool → Int → Int → Bool → Int → Int → List (S50) → ByteArray → Option ((List (S28)) × Int)
 | 0, _, _, _, _, _, _, _, _, _, _, _, _, _, _, _, _, _, _, _, _ => none
 | k + 1, x1, x8, x9, x10, x49, b0, b1, b2, b3, b4, b5, b6, b7, b8, b9, b10, b11, b12, b13, b14 => if x49 = true then (if (wrap64 ((b14.size : Int) - x10)) > x1 then (ipv4_Split.j4 k x1 x8 x9 x10 (wrap64 (x10 + x1)) b0 b1 b2 b3 b4 b5 b6 b7 b8 b9 b10 b11 b12 b13 b14) else (ipv4_Split.j4 k x1 x8 x9 x10 (b14.size : Int) b0 b1 b2 b3 b4 b5 b6 b7 b8 b9 b10 b11 b12 b13 b14)) else (some (x9, 0))
def ipv4_Split.j4 : Nat → Int → List (S50) → List (S28) → Int → Int → Int → Int → Int → Int → Bool → Bool → Int → Bool → Int → Int → Bool → Int → Int → List (S50) → ByteArray → Option ((List (S28)) × Int)
 | 0, _, _, _, _, _, _, _, _, _, _, _, _, _, _, _, _, _, _, _, _ => none
 | k + 1, x1, x8, x9, x10, x11, b0, b1, b2, b3, b4, b5, b6, b7, b8, b9, b10, b11, b12, b13, b14 => if (wrap64 (b6 + x10)) > 65528 then (some (([] : List (S28)), 4)) else (if b5 = true then (ipv4_Split.j5 k x1 x8 x9 x10 x11 b0 b1 b2 b3 b4 b5 b6 b7 b8 b9 b10 b11 b12 b13 b14 b0 b1 b2 b3 b4 true (wrap64 (b6 + x10)) b7 b8 b9 b10 b11 b12 b13 b14) else (ipv4_Split.j5 k x1 x8 x9 x10 x11 b0 b1 b2 b3 b4 b5 b6 b7 b8 b9 b10 b11 b12 b13 b14 b0 b1 b2 b3 b4 (decide (x11 < (b14.size : Int))) (wrap64 (b6 + x10)) b7 b8 b9 b10 b11 b12 b13 b14))
def ipv4_Split.j5 : Nat → Int → List (S50) → List (S28) → Int → Int → Int → Int → Int → Int → Bool → Bool → Int → Bool → Int → Int → Bool → Int → Int → List (S50) → ByteArray → Int → Int → Int → Int → Bool → Bool → Int → Bool → Int → Int → Bool → Int → Int → List (S50) → ByteArray → Option ((List (S28)) × Int)
 | 0, _, _, _, _, _, _, _, _, _, _, _, _, _, _, _, _, _, _, _, _, _, _, _, _, _, _, _, _, _, _, _, _, _, _, _ => none
 | k + 1, x1, x8, x9, x10, x11, b0, b1, b2, b3, b4, b5, b6, b7, b8, b9, b10, b11, b12, b13, b14, d0, d1, d2, d3, d4, d5, d6, d7, d8, d9, d10, d11, d12, d13, d14 => if 0 ≤ x10 then (if x10 ≤ x11 then (if x11 ≤ (b14.size : Int) then ((api_Option_49.f x8).bind fun t252 => (if x10 = 0 then ((api_Option_49.f b13).bind fun t255 => (if x9.length < 1034834473200 then ((some (x9 ++ [(⟨d0, d1, d2, d3, d4, d5, d6, (⟨d7, d8, d9⟩ : S25), (⟨d10, d11, d12⟩ : S25), t255, b14.extract (x10 : Int).toNat (x11 : Int).toNat⟩ : S28)] : List (S28))).bind fun y258 => (if x11 = (b14.size : Int) then (some (y258, 0)) else (ipv4_Split.l0 k x1 x8 y258 (wrap64 (x10 + x1)) b0 b1 b2 b3 b4 b5 b6 b7 b8 b9 b10 b11 b12 b13 b14))) else (none))) else (if x9.length < 1034834473200 then ((some (x9 ++ [(⟨d0, d1, d2, d3, d4, d5, d6, (⟨d7, d8, d9⟩ : S25), (⟨d10, d11, d12⟩ : S25), t252, b14.extract (x10 : Int).toNat (x11 : Int).toNat⟩ : S28)] : List (S28))).bind fun y261 => (if x11 = (b14.size : Int) then (some (y261, 0)) else (ipv4_Split.l0 k x1 x8 y261 (wrap64 (x10 + x1)) b0 b1 b2 b3 b4 b5 b6 b7 b8 b9 b10 b11 b12 b13 b14))) else (none)))) else (none)) else (none)) else (none)
end
def ipv4_Split.f (k : Nat) (e0 : Int) (e1 : Int) (e2 : Int) (e3 : Int) (e4 : Bool) (e5 : Bool) (e6 : Int) (e7 : Bool) (e8 : Int) (e9 : Int) (e10 : Bool) (e11 : Int) (e12 : Int) (l0_13 : List (S50)) (e14 : ByteArray) (a1 : Int) : Option ((List (S28)) × Int) := if a1 < 1 then (ipv4_Split.j0 k a1 true e0 e1 e2 e3 e4 e5 e6 e7 e8 e9 e10 e11 e12 l0_13 e14) else (ipv4_Split.j0 k a1 ((Int.tmod a1 8) != 0) e0 e1 e2 e3 e4 e5 e6 e7 e8 e9 e10 e11 e12 l0_13 e14)
theorem ipv4_Split.mono_l : ∀ k, (∀ y0 y1 y2 y3 y4 y5 y6 y7 y8 y9 y10 y11 y12 y13 y14 y15 y16, LeO (ipv4_Split.j0 k y0 y1 y2 y3 y4 y5 y6 y7 y8 y9 y10 y11 y12 y13 y14 y15 y16) (ipv4_Split.j0 (k + 1) y0 y1 y2 y3 y4 y5 y6 y7 y8 y9 y10 y11 y12 y13 y14 y15 y16)) ∧ (∀ y0 y1 y2 y3 y4 y5 y6 y7 y8 y9 y10 y11 y12 y13 y14 y15 y16, LeO (ipv4_Split.j1 k y0 y1 y2 y3 y4 y5 y6 y7 y8 y9 y10 y11 y12 y13 y14 y15 y16) (ipv4_Split.j1 (k + 1) y0 y1 y2 y3 y4 y5 y6 y7 y8 y9 y10 y11 y12 y13 y14 y15 y16)) ∧ (∀ y0 y1 y2 y3 y4 y5 y6 y7 y8 y9 y10 y11 y12 y13 y14 y15 y16 y17 y18, LeO (ipv4_Split.l0 k y0 y1 y2 y3 y4 y5 y6 y7 y8 y9 y10 y11 y12 y13 y14 y15 y16 y17 y18) (ipv4_Split.l0 (k + 1) y0 y1 y2 y3 y4 y5 y6 y7 y8 y9 y10 y11 y12 y13 y14 y15 y16 y17 y18)) ∧ (∀ y0 y1 y2 y3 y4 y5 y6 y7 y8 y9 y10 y11 y12 y13 y14 y15 y16 y17 y18 y19, LeO (ipv4_Split.j3 k y0 y1 y2 y3 y4 y5 y6 y7 y8 y9 y10 y11 y12 y13 y14 y15 y16 y17 y18 y19) (ipv4_Split.j3 (k + 1) y0 y1 y2 y3 y4 y5 y6 y7 y8 y9 y10 y11 y12 y13 y14 y15 y16 y17 y18 y19)) ∧ (∀ y0 y1 y2 y3 y4 y5 y6 y7 y8 y9 y10 y11 y12 y13 y14 y15 y16 y17 y18 y19, LeO (ipv4_Split.j4 k y0 y1 y2 y3 y4 y5 y6 y7 y8 y9 y10 y11 y12 y13 y14 y15 y16 y17 y18 y19) (ipv4_Split.j4 (k + 1) y0 y1 y2 y3 y4 y5 y6 y7 y8 y9 y10 y11 y12 y13 y14 y15 y16 y17 y18 y19)) ∧ (∀ y0 y1 y2 y3 y4 y5 y6 y7 y8 y9 y10 y11 y12 y13 y14 y15 y16 y17 y18 y19 y20 y21 y22 y23 y24 y25 y26 y27 y28 y29 y30 y31 y32 y33 y34, LeO (ipv4_Split.j5 k y0 y1 y2 y3 y4 y5 y6 y7 y8 y9 y10 y11 y12 y13 y14 y15 y16 y17 y18 y19 y20 y21 y22 y23 y24 y25 y26 y27 y28 y29 y30 y31 y32 y33 y34) (ipv4_Split.j5 (k + 1) y0 y1 y2 y3 y4 y5 y6 y7 y8 y9 y10 y11 y12 y13 y14 y15 y16 y17 y18 y19 y20 y21 y22 y23 y24 y25 y26 y27 y28 y29 y30 y31 y32 y33 y34))
 | 0 => ⟨fun _ _ _ _ _ _ _ _ _ _ _ _ _ _ _ _ _ r h => by simp [ipv4_Split.j0] at h, fun _ _ _ _ _ _ _ _ _ _ _ _ _ _ _ _ _ r h => by simp [ipv4_Split.j1] at h, fun _ _ _ _ _ _ _ _ _ _ _ _ _ _ _ _ _ _ _ r h => by simp [ipv4_Split.l0] at h, fun _ _ _ _ _ _ _ _ _ _ _ _ _ _ _ _ _ _ _ _ r h => by simp [ipv4_Split.j3] at h, fun _ _ _ _ _ _ _ _ _ _ _ _ _ _ _ _ _ _ _ _ r h => by simp [ipv4_Split.j4] at h, fun _ _ _ _ _ _ _ _ _ _ _ _ _ _ _ _ _ _ _ _ _ _ _ _ _ _ _ _ _ _ _ _ _ _ _ r h => by simp [ipv4_Split.j5] at h⟩
 | k + 1 => by
  obtain ⟨ih0, ih1, ih2, ih3, ih4, ih5⟩ := ipv4_Split.mono_l k
  refine ⟨?_, ?_, ?_, ?_, ?_, ?_⟩
  ·intro y0 y1 y2 y3 y4 y5 y6 y7 y8 y9 y10 y11 y12 y13 y14 y15 y16
   unfold ipv4_Split.j0
   repeat' first | with_reducible first | apply ih0 | apply ih1 | apply ih2 | apply ih3 | apply ih4 | apply ih5 | apply ipv4_Encode.mono | apply LeO.refl | apply LeO.none | refine LeO.ite ?_ ?_ | refine LeO.bind ?_ (fun _ => ?_)
  ·intro y0 y1 y2 y3 y4 y5 y6 y7 y8 y9 y10 y11 y12 y13 y14 y15 y16
   unfold ipv4_Split.j1
   repeat' first | with_reducible first | apply ih0 | apply ih1 | apply ih2 | apply ih3 | apply ih4 | apply ih5 | apply ipv4_Encode.mono | apply LeO.refl | apply LeO.none | refine LeO.ite ?_ ?_ | refine LeO.bind ?_ (fun _ => ?_)
  ·intro y0 y1 y2 y3 y4 y5 y6 y7 y8 y9 y10 y11 y12 y13 y14 y15 y16 y17 y18
   unfold ipv4_Split.l0
   repeat' first | with_reducible first | apply ih0 | apply ih1 | apply ih2 | apply ih3 | apply ih4 | apply ih5 | apply ipv4_Encode.mono | apply LeO.refl | apply LeO.none | refine LeO.ite ?_ ?_ | refine LeO.bind ?_ (fun _ => ?_)
  ·intro y0 y1 y2 y3 y4 y5 y6 y7 y8 y9 y10 y11 y12 y13 y14 y15 y16 y17 y18 y19
   unfold ipv4_Split.j3
   repeat' first | with_reducible first | apply ih0 | apply ih1 | apply ih2 | apply ih3 | apply ih4 | apply ih5 | apply ipv4_Encode.mono | apply LeO.refl | apply LeO.none | refine LeO.ite ?_ ?_ | refine LeO.bind ?_ (fun _ => ?_)
  ·intro y0 y1 y2 y3 y4 y5 y6 y7 y8 y9 y10 y11 y12 y13 y14 y15 y16 y17 y18 y19
   unfold ipv4_Split.j4
   repeat' first | with_reducible first | apply ih0 | apply ih1 | apply ih2 | apply ih3 | apply ih4 | apply ih5 | apply ipv4_Encode.mono | apply LeO.refl | apply LeO.none | refine LeO.ite ?_ ?_ | refine LeO.bind ?_ (fun _ => ?_)
  intro y0 y1 y2 y3 y4 y5 y6 y7 y8 y9 y10 y11 y12 y13 y14 y15 y16 y17 y18 y19 y20 y21 y22 y23 y24 y25 y26 y27 y28 y29 y30 y31 y32 y33 y34
  unfold ipv4_Split.j5
  repeat' first | with_reducible first | apply ih0 | apply ih1 | apply ih2 | apply ih3 | apply ih4 | apply ih5 | apply ipv4_Encode.mono | apply LeO.refl | apply LeO.none | refine LeO.ite ?_ ?_ | refine LeO.bind ?_ (fun _ => ?_)
theorem ipv4_Split.mono : ∀ a0 a1 a2 a3 a4 a5 a6 a7 a8 a9 a10 a11 a12 a13 a14 a15 k, LeO (ipv4_Split.f k a0 a1 a2 a3 a4 a5 a6 a7 a8 a9 a10 a11 a12 a13 a14 a15) (ipv4_Split.f (k + 1) a0 a1 a2 a3 a4 a5 a6 a7 a8 a9 a10 a11 a12 a13 a14 a15) := by
 intro a0 a1 a2 a3 a4 a5 a6 a7 a8 a9 a10 a11 a12 a13 a14 a15 k
 obtain ⟨ih0, ih1, ih2, ih3, ih4, ih5⟩ := ipv4_Split.mono_l k
 unfold ipv4_Split.f
 repeat' first | with_reducible first | apply ih0 | apply ih1 | apply ih2 | apply ih3 | apply ih4 | apply ih5 | apply ipv4_Encode.mono | apply LeO.refl | apply LeO.none | refine LeO.ite ?_ ?_ | refine LeO.bind ?_ (fun _ => ?_)
set_option maxHeartbeats 64000000 in
set_option maxRecDepth 100000 in
theorem ipv4_Split.calls (k : Nat) (e0 : Int) (e1 : Int) (e2 : Int) (e3 : Int) (e4 : Bool) (e5 : Bool) (e6 : Int) (e7 : Bool) (e8 : Int) (e9 : Int) (e10 : Bool) (e11 : Int) (e12 : Int) (A0_13 : Option Addr) (c0_13 : Nat) (l0_13 : List (S50)) (e14 : ByteArray) (a1 : Int) (r1 : List (S28)) (r2 : Int) (w : World) (hr0_13 : Kd.C k50 w A0_13 l0_13.length l0_13) (hc0_13 : l0_13.length ≤ c0_13) (h : ipv4_Split.f k e0 e1 e2 e3 e4 e5 e6 e7 e8 e9 e10 e11 e12 l0_13 e14 a1 = some (r1, r2)) :
  Calls Try.prog 21 #[.agg #[.int .i64 e0, .int .i64 e1, .int .i64 e2, .int .i64 e3, .bool e4, .bool e5, .int .i64 e6, .bool e7, .int .u64 e8, .int .u64 e9, .bool e10, .int .u64 e11, .int .u64 e12, .slice A0_13 l0_13.length c0_13, .string e14], .int .i64 a1] w fun e w' => ∃ v0_ : Value, e = .returned (.tuple #[v0_, .int .i64 r2]) ∧ Kd.S k28 28 w' w.heap.size (fun _ => True) v0_ r1 ∧ Below w.heap.size w w' := by
 have hu28 := Try.underlying28
 have HR0_13 := As hr0_13
 have HC0_13 := As hc0_13
 clear hr0_13 hc0_13
 have HB := As (Below.refl w.heap.size w)
 have H : (if a1 < 1 then (ipv4_Split.j0 k a1 true e0 e1 e2 e3 e4 e5 e6 e7 e8 e9 e10 e11 e12 l0_13 e14) else (ipv4_Split.j0 k a1 ((Int.tmod a1 8) != 0) e0 e1 e2 e3 e4 e5 e6 e7 e8 e9 e10 e11 e12 l0_13 e14)) = some (r1, r2) := h
 clear h
 have HC3 := As H
 clear H
 go_enter Try.func21, Try.ntmps21
 go_upto_region 1 with (first | ((with_reducible refine gate_dst (N := 2) rfl ?_); (try (refine gate_guard (by rfl) ?_; dsimp only)); refine box_event rfl (N := 2) rfl (cs := #[.int .i64 e0, .int .i64 e1, .int .i64 e2, .int .i64 e3, .bool e4, .bool e5, .int .i64 e6, .bool e7, .int .u64 e8, .int .u64 e9, .bool e10, .int .u64 e11, .int .u64 e12, .slice A0_13 l0_13.length c0_13, .string e14]) (t := 28) kG ?_; intro gb242 hg w4 hbox hb; have BK242 := As (hbox); have GW242 := As (gS hg (below_size (kB HB.out))); have GE242 := As (gS hg (below_size (kB HB.out))); replace HB := As (below_step (kB HB.out) hb); clear hb hbox hg))
 (try simp only [Act.put, sA, sZ, sS])
 go_cut [19] (fun v19 wc => ∃ (kq : Nat) (x19_2 : Bool), v19 = .bool x19_2 ∧ Aside0 (ipv4_Split.j0 kq a1 x19_2 e0 e1 e2 e3 e4 e5 e6 e7 e8 e9 e10 e11 e12 l0_13 e14 = some (r1, r2)) ∧ Aside0 (kq ≤ k) ∧ Aside0 (wc.heap[gb242]? = some (.cells #[.int .i64 e0, .int .i64 e1, .int .i64 e2, .int .i64 e3, .bool e4, .bool e5, .int .i64 e6, .bool e7, .int .u64 e8, .int .u64 e9, .bool e10, .int .u64 e11, .int .u64 e12, (.slice A0_13 l0_13.length c0_13), .string e14] 28 (0, 0))) ∧ Aside0 (Below w.heap.size w wc))
 case first =>
  have H := HC3.out
  clear HC3
  by_cases c5 : a1 < 1
  ·rw [if_pos c5] at H
   have c5b0 : decide (a1 < 1) = true := decide_eq_true c5
   clear c5
   (first | rw [c5b0] | (simp only [i64_w, i32_w]; rw [c5b0]) | skip)
   have H' := As H
   clear H
   go_wp2
   go_meet
   case rel => exact ⟨_, (true), kS, H', ⟨by first | omega | exact Nat.le_refl _⟩, ⟨kb BK242.out⟩, ⟨kB1 HB.out GE242.out⟩⟩
  rw [if_neg c5] at H
  have c5b0 : decide (a1 < 1) = false := decide_eq_false c5
  clear c5
  (first | rw [c5b0] | (simp only [i64_w, i32_w]; rw [c5b0]) | skip)
  have H' := As H
  clear H
  go_wp2
  go_meet
  case rel => exact ⟨_, (((Int.tmod a1 8) != 0)), kS, H', ⟨by first | omega | exact Nat.le_refl _⟩, ⟨kb BK242.out⟩, ⟨kB1 HB.out GE242.out⟩⟩
 clear HC3
 obtain ⟨kq, x19_2, rfl, HA, HJ2, BK242, HB⟩ := hcut
 cases kq with
 | zero => exact absurd HA.out (by simp [ipv4_Split.j0])
 | succ kj2 =>
  have H := HA.out
  clear HA
  simp only [ipv4_Split.j0] at H
  by_cases c6 : x19_2 = true
  ·subst c6
   rw [if_pos rfl] at H
   simp only [Option.some.injEq, Prod.mk.injEq] at H
   obtain ⟨rfl, rfl⟩ := H
   go_wp2
   go_ret2
   exact ⟨_, kE, by first | exact Kd.S_nil _ _ _ _ _ | exact Kd.N_nil _ _ _ _ _ | exact Kd.V_nil _ _ _ _ _ | exact Kd.Q_nil _ _ _ _ _ | exact Kd.R_nil _ _ _ _ _, by exact kB1 HB.out GE242.out⟩
  replace c6 := Bool.eq_false_iff.mpr c6
  subst c6
  rw [if_neg (show ¬ (false = true) by decide)] at H
  replace H := bS H
  obtain ⟨⟨t243, t244⟩, A7, H⟩ := H
  try dsimp -simprocs only at H
  by_cases c8 : t244 = 0
  ·rw [if_pos c8] at H
   have c8b0 : (t244 == 0) = true := beq_iff_eq.mpr c8
   have c8b1 : (t244 != 0) = false := bne_eq_false_iff_eq.mpr c8
   clear c8
   have HC9 := As H
   clear H
   go_upto_region 6 with (first | ((with_reducible refine gate_dst (N := 21) rfl ?_); (try (refine gate_guard (by rfl) ?_; dsimp only)); refine wpList_load_row rfl 28 _ rfl gb242 rfl 28 _ (0, 0) _ (kb BK242.out) Try.underlying28 rfl (by kernel_rfl) ?_) | ((with_reducible refine gate_callee (f := 15) rfl ?_); refine goesL_ (some 22) rfl rfl Try.func15 (by kernel_rfl) rfl #[.agg #[.int .i64 e0, .int .i64 e1, .int .i64 e2, .int .i64 e3, .bool e4, .bool e5, .int .i64 e6, .bool e7, .int .u64 e8, .int .u64 e9, .bool e10, .int .u64 e11, .int .u64 e12, .slice A0_13 l0_13.length c0_13, .string e14]] rfl kA ?_; (with_reducible refine (ipv4_Encode.calls kj2 e0 e1 e2 e3 e4 e5 e6 e7 e8 e9 e10 e11 e12 _ _ l0_13 e14 t243 t244 _ ?side1 ?side2 A7.out).mono ?_); (case side1 => repeat (first | exact (Kd.C_below HR0_13.out HB.out) | (with_reducible refine Kd.C_alloc ?_ _) | (with_reducible refine Kd.C_drewN ?_ _) | (with_reducible refine Kd.C_drew ?_))); (case side2 => exact HC0_13.out); rintro e w10 ⟨rfl, hb⟩; refine ⟨_, rfl, ?_⟩; replace BK242 := As (blk_below (kb BK242.out) hb); replace HB := As (below_step (kB1 HB.out GE242.out) hb); (try clear hb)))
   (try simp only [Act.put, sA, sZ, sS])
   go_cut [36] (fun v36 wc => ∃ (kq : Nat) (x36_8 : Bool), v36 = .bool x36_8 ∧ Aside0 (ipv4_Split.j1 kq a1 x36_8 e0 e1 e2 e3 e4 e5 e6 e7 e8 e9 e10 e11 e12 l0_13 e14 = some (r1, r2)) ∧ Aside0 (kq ≤ kj2) ∧ Aside0 (wc.heap[gb242]? = some (.cells #[.int .i64 e0, .int .i64 e1, .int .i64 e2, .int .i64 e3, .bool e4, .bool e5, .int .i64 e6, .bool e7, .int .u64 e8, .int .u64 e9, .bool e10, .int .u64 e11, .int .u64 e12, (.slice A0_13 l0_13.length c0_13), .string e14] 28 (0, 0))) ∧ Aside0 (Below w.heap.size w wc))
   case first =>
    have H := HC9.out
    clear HC9
    by_cases c11 : e4 = true
    ·subst c11
     rw [if_pos rfl] at H
     have H' := As H
     clear H
     have hcz12_0 := cells_15 BK242.out
     have hfz12_0 := fun j_ => blk_frozen BK242.out j_
     go_wp2
     go_meet
     case rel => exact ⟨_, (decide ((e14.size : Int) > a1)), kS, H', ⟨by have := HJ2.out; first | omega | exact Nat.le_refl _⟩, ⟨kb BK242.out⟩, ⟨kB1 HB.out GE242.out⟩⟩
    replace c11 := Bool.eq_false_iff.mpr c11
    subst c11
    rw [if_neg (show ¬ (false = true) by decide)] at H
    have H' := As H
    clear H
    have hcz13_0 := cells_15 BK242.out
    have hfz13_0 := fun j_ => blk_frozen BK242.out j_
    go_wp2
    go_meet
    case rel => exact ⟨_, (false), kS, H', ⟨by have := HJ2.out; first | omega | exact Nat.le_refl _⟩, ⟨kb BK242.out⟩, ⟨kB1 HB.out GE242.out⟩⟩
   clear HC9
   try clear c6
   try clear c8
   try clear c8b0
   try clear c8b1
   obtain ⟨kq, x36_8, rfl, HA, HJ8, BK242, HB⟩ := hcut
   cases kq with
   | zero => exact absurd HA.out (by simp [ipv4_Split.j1])
   | succ kj8 =>
    have H := HA.out
    clear HA
    simp only [ipv4_Split.j1] at H
    by_cases c14 : x36_8 = true
    ·subst c14
     rw [if_pos rfl] at H
     simp only [Option.some.injEq, Prod.mk.injEq] at H
     obtain ⟨rfl, rfl⟩ := H
     go_wp2
     go_ret2
     exact ⟨_, kE, by first | exact Kd.S_nil _ _ _ _ _ | exact Kd.N_nil _ _ _ _ _ | exact Kd.V_nil _ _ _ _ _ | exact Kd.Q_nil _ _ _ _ _ | exact Kd.R_nil _ _ _ _ _, by exact kB1 HB.out GE242.out⟩
    replace c14 := Bool.eq_false_iff.mpr c14
    subst c14
    rw [if_neg (show ¬ (false = true) by decide)] at H
    replace H := bS H
    obtain ⟨t245, A15, H⟩ := H
    replace H := bS H
    obtain ⟨t248, A16, H⟩ := H
    have H' := As H
    clear H
    have hcz17_0 := cells_15 BK242.out
    have hfz17_0 := fun j_ => blk_frozen BK242.out j_
    go_wp2_with (first | ((with_reducible refine gate_callee (f := 49) rfl ?_); refine goesL_ (some 39) rfl rfl Try.func49 (by kernel_rfl) rfl #[.slice A0_13 l0_13.length c0_13] rfl kA ?_; (with_reducible refine (api_Option_49.calls _ _ l0_13 t245 _ ?side1 ?side2 A15.out).mono ?_); (case side1 => repeat (first | exact (Kd.C_below HR0_13.out HB.out) | (with_reducible refine Kd.C_alloc ?_ _) | (with_reducible refine Kd.C_drewN ?_ _) | (with_reducible refine Kd.C_drew ?_))); (case side2 => exact HC0_13.out); rintro e w18 ⟨v246, rfl, ho0, hb⟩; refine ⟨_, rfl, ?_⟩; have HO247 := As ho0; have HX247 := As hb; (try clear hb); (try clear ho0); obtain ⟨Ao19, co19, eo19⟩ := Kd.R_slice HO247.out; subst eo19) | (go_at_call 48; (have q1_ := A16.out); (have q2_ := HO247.out); (refine Calls.mono (api_Option_48.calls _ _ t245 t248 _ _ _ ?side1 q2_ q1_) ?_); (case side1 => exact (below_size (kB HX247.out))); clear q1_ q2_; rintro e w20 ⟨v249, rfl, ho0, hb1⟩; have hb := Below.trans HX247.out hb1; clear hb1; have HO250 := As (Kd.R_lower ho0 (below_size (kB1 HB.out GE242.out))); clear HO247 HX247; replace BK242 := As (blk_below (kb BK242.out) hb); replace HB := As (below_step (kB1 HB.out GE242.out) hb); (try clear hb); (try clear ho0)))
    go_loopg [9, 10] kj8 (fun kq v9 v10 w' => ∃ (x9_3 : List (S28)) (x10_3 : Int), v10 = .int .i64 x10_3 ∧ Aside0 (ipv4_Split.l0 kq a1 t248 x9_3 x10_3 e0 e1 e2 e3 e4 e5 e6 e7 e8 e9 e10 e11 e12 l0_13 e14 = some (r1, r2)) ∧ Aside0 (kq ≤ kj8) ∧ Aside0 (Kd.R k50 50 w' w.heap.size (fun _ => True) v249 t248) ∧ Aside0 (Kd.S k28 28 w' w.heap.size (fun k_ => some k_ ≠ (v249 : Value).ownBlock ∧ k_ ≠ gb242) v9 x9_3) ∧ Aside0 (w'.heap[gb242]? = some (.cells #[.int .i64 e0, .int .i64 e1, .int .i64 e2, .int .i64 e3, .bool e4, .bool e5, .int .i64 e6, .bool e7, .int .u64 e8, .int .u64 e9, .bool e10, .int .u64 e11, .int .u64 e12, (.slice A0_13 l0_13.length c0_13), .string e14] 28 (0, 0))) ∧ Aside0 (Below w.heap.size w w'))
    case atStart => exact ⟨(([] : List (S28))), (0), kS, H', ⟨Nat.le_refl _⟩, ⟨by (with_reducible repeat (first | apply Kd.R_alloc | apply Kd.R_drewN | apply Kd.R_drew)); exact Kd.R_mono HO250.out (fun _ hk => trivial)⟩, ⟨by first | exact Kd.S_nil _ _ _ _ _ | exact Kd.N_nil _ _ _ _ _ | exact Kd.V_nil _ _ _ _ _ | exact Kd.Q_nil _ _ _ _ _ | exact Kd.R_nil _ _ _ _ _⟩, ⟨kb BK242.out⟩, ⟨kB1 HB.out GE242.out⟩⟩
    clear H'
    try clear c14
    try clear hcz17_0
    try clear hfz17_0
    obtain ⟨x9_3, x10_3, rfl, HA, HK3, HO_8, HO_9, BK242, HB⟩ := hrel
    cases gk with
    | zero => exact absurd HA.out (by simp [ipv4_Split.l0])
    | succ k3 =>
     have H := HA.out
     clear HA
     simp only [ipv4_Split.l0] at H
     have HC21 := As H
     clear H
     go_upto_region 11 with (fail)
     go_cut [49] (fun v49 wc => ∃ (kq : Nat) (x49_20 : Bool), v49 = .bool x49_20 ∧ Aside0 (ipv4_Split.j3 kq a1 t248 x9_3 x10_3 x49_20 e0 e1 e2 e3 e4 e5 e6 e7 e8 e9 e10 e11 e12 l0_13 e14 = some (r1, r2)) ∧ Aside0 (kq ≤ k3) ∧ Aside0 (Kd.R k50 50 wc w.heap.size (fun _ => True) v249 t248) ∧ Aside0 (Kd.S k28 28 wc w.heap.size (fun k_ => some k_ ≠ (v249 : Value).ownBlock ∧ k_ ≠ gb242) u9 x9_3) ∧ Aside0 (wc.heap[gb242]? = some (.cells #[.int .i64 e0, .int .i64 e1, .int .i64 e2, .int .i64 e3, .bool e4, .bool e5, .int .i64 e6, .bool e7, .int .u64 e8, .int .u64 e9, .bool e10, .int .u64 e11, .int .u64 e12, (.slice A0_13 l0_13.length c0_13), .string e14] 28 (0, 0))) ∧ Aside0 (Below w.heap.size w wc))
     case first =>
      have H := HC21.out
      clear HC21
      by_cases c22 : x10_3 = 0
      ·rw [if_pos c22] at H
       have c22b0 : (x10_3 == 0) = true := beq_iff_eq.mpr c22
       have c22b1 : (x10_3 != 0) = false := bne_eq_false_iff_eq.mpr c22
       clear c22
       (first | rw [c22b0] | (simp only [i64_w, i32_w]; rw [c22b0]) | skip)
       have H' := As H
       clear H
       go_wp2
       go_meet
       case rel => exact ⟨_, (true), kS, H', ⟨by have := HJ2.out; have := HJ8.out; have := HK3.out; first | omega | exact Nat.le_refl _⟩, ⟨by (with_reducible repeat (first | apply Kd.R_alloc | apply Kd.R_drewN | apply Kd.R_drew)); exact HO_8.out⟩, ⟨by (with_reducible repeat (first | apply Kd.S_alloc | apply Kd.S_drewN | apply Kd.S_drew)); exact HO_9.out⟩, ⟨kb BK242.out⟩, ⟨kB1 HB.out GE242.out⟩⟩
      rw [if_neg c22] at H
      have c22b0 : (x10_3 == 0) = false := beq_eq_false_iff_ne.mpr c22
      have c22b1 : (x10_3 != 0) = true := bne_iff_ne.mpr c22
      (first | rw [c22b0] | (simp only [i64_w, i32_w]; rw [c22b0]) | skip)
      have H' := As H
      clear H
      have hcz23_0 := cells_15 BK242.out
      have hfz23_0 := fun j_ => blk_frozen BK242.out j_
      go_wp2
      go_meet
      case rel => exact ⟨_, (decide (x10_3 < (e14.size : Int))), kS, H', ⟨by have := HJ2.out; have := HJ8.out; have := HK3.out; first | omega | exact Nat.le_refl _⟩, ⟨by (with_reducible repeat (first | apply Kd.R_alloc | apply Kd.R_drewN | apply Kd.R_drew)); exact HO_8.out⟩, ⟨by (with_reducible repeat (first | apply Kd.S_alloc | apply Kd.S_drewN | apply Kd.S_drew)); exact HO_9.out⟩, ⟨kb BK242.out⟩, ⟨kB1 HB.out GE242.out⟩⟩
     clear HC21
     obtain ⟨kq, x49_20, rfl, HA, HJ20, HO_8, HO_9, BK242, HB⟩ := hcut
     cases kq with
     | zero => exact absurd HA.out (by simp [ipv4_Split.j3])
     | succ kj20 =>
      have H := HA.out
      clear HA
      simp only [ipv4_Split.j3] at H
      by_cases c24 : x49_20 = true
      ·subst c24
       rw [if_pos rfl] at H
       have HC25 := As H
       clear H
       have hcz26_0 := cells_15 BK242.out
       have hfz26_0 := fun j_ => blk_frozen BK242.out j_
       go_upto_if 60 with (fail)
       go_cut [11] (fun v11 wc => ∃ (kq : Nat) (x11_24 : Int), v11 = .int .i64 x11_24 ∧ Aside0 (ipv4_Split.j4 kq a1 t248 x9_3 x10_3 x11_24 e0 e1 e2 e3 e4 e5 e6 e7 e8 e9 e10 e11 e12 l0_13 e14 = some (r1, r2)) ∧ Aside0 (kq ≤ kj20) ∧ Aside0 (Kd.R k50 50 wc w.heap.size (fun _ => True) v249 t248) ∧ Aside0 (Kd.S k28 28 wc w.heap.size (fun k_ => some k_ ≠ (v249 : Value).ownBlock ∧ k_ ≠ gb242) u9 x9_3) ∧ Aside0 (wc.heap[gb242]? = some (.cells #[.int .i64 e0, .int .i64 e1, .int .i64 e2, .int .i64 e3, .bool e4, .bool e5, .int .i64 e6, .bool e7, .int .u64 e8, .int .u64 e9, .bool e10, .int .u64 e11, .int .u64 e12, (.slice A0_13 l0_13.length c0_13), .string e14] 28 (0, 0))) ∧ Aside0 (Below w.heap.size w wc))
       case first =>
        have H := HC25.out
        clear HC25
        by_cases c27 : (wrap64 ((e14.size : Int) - x10_3)) > a1
        ·rw [if_pos c27] at H
         have c27b0 : decide (a1 < (wrap64 ((e14.size : Int) - x10_3))) = true := decide_eq_true c27
         clear c27
         (first | rw [c27b0] | (simp only [i64_w, i32_w]; rw [c27b0]) | skip)
         have H' := As H
         clear H
         go_wp2
         go_meet
         case rel => exact ⟨_, (wrap64 (x10_3 + a1)), kS, H', ⟨by have := HJ2.out; have := HJ8.out; have := HK3.out; have := HJ20.out; first | omega | exact Nat.le_refl _⟩, ⟨by (with_reducible repeat (first | apply Kd.R_alloc | apply Kd.R_drewN | apply Kd.R_drew)); exact HO_8.out⟩, ⟨by (with_reducible repeat (first | apply Kd.S_alloc | apply Kd.S_drewN | apply Kd.S_drew)); exact HO_9.out⟩, ⟨kb BK242.out⟩, ⟨kB1 HB.out GE242.out⟩⟩
        rw [if_neg c27] at H
        have c27b0 : decide (a1 < (wrap64 ((e14.size : Int) - x10_3))) = false := decide_eq_false c27
        clear c27
        (first | rw [c27b0] | (simp only [i64_w, i32_w]; rw [c27b0]) | skip)
        have H' := As H
        clear H
        go_wp2
        go_meet
        case rel => exact ⟨_, ((e14.size : Int)), kS, H', ⟨by have := HJ2.out; have := HJ8.out; have := HK3.out; have := HJ20.out; first | omega | exact Nat.le_refl _⟩, ⟨by (with_reducible repeat (first | apply Kd.R_alloc | apply Kd.R_drewN | apply Kd.R_drew)); exact HO_8.out⟩, ⟨by (with_reducible repeat (first | apply Kd.S_alloc | apply Kd.S_drewN | apply Kd.S_drew)); exact HO_9.out⟩, ⟨kb BK242.out⟩, ⟨kB1 HB.out GE242.out⟩⟩
       clear HC25
       try clear c24
       try clear hcz26_0
       try clear hfz26_0
       obtain ⟨kq, x11_24, rfl, HA, HJ24, HO_8, HO_9, BK242, HB⟩ := hcut
       cases kq with
       | zero => exact absurd HA.out (by simp [ipv4_Split.j4])
       | succ kj24 =>
        have H := HA.out
        clear HA
        simp only [ipv4_Split.j4] at H
        by_cases c28 : (wrap64 (e6 + x10_3)) > 65528
        ·rw [if_pos c28] at H
         have c28b0 : decide (65528 < (wrap64 (e6 + x10_3))) = true := decide_eq_true c28
         clear c28
         simp only [Option.some.injEq, Prod.mk.injEq] at H
         obtain ⟨rfl, rfl⟩ := H
         go_wp2_with (first | ((with_reducible refine gate_dst (N := 64) rfl ?_); (try (refine gate_guard (by rfl) ?_; dsimp only)); refine wpList_load_row rfl 28 _ rfl gb242 rfl 28 _ (0, 0) _ (kb BK242.out) Try.underlying28 rfl (by kernel_rfl) ?_) | ((with_reducible refine gate_dst (N := 12) rfl ?_); (try (refine gate_guard (by rfl) ?_; dsimp only)); refine box_event rfl (N := 12) rfl (cs := #[.int .i64 0, .int .i64 0, .int .i64 0, .int .i64 0, .bool false, .bool false, .int .i64 0, .bool false, .int .u64 0, .int .u64 0, .bool false, .int .u64 0, .int .u64 0, .slice none 0 0, .string (⟨#[]⟩ : ByteArray)]) (t := 28) kG ?_; intro gb251 hg w29 hbox hb; replace HO_8 := As (Kd.R_below (kR HO_8.out) hb); replace HO_9 := As (Kd.S_below (Kd.S_elderB (by (with_reducible repeat (first | apply Kd.S_alloc | apply Kd.S_drewN | apply Kd.S_drew)); exact HO_9.out) gb251 (Nat.le_of_eq hg.symm)) hb); have BK251 := As (hbox); have GW251 := As (gS hg (below_size (kB1 HB.out GE242.out))); have GE251 := As (gS hg (below_size (kB1 HB.out GE242.out))); replace HB := As (below_step (kB1 HB.out GE242.out) hb); have NB242_251 := As (gN hg (blk_lt (kb BK242.out))); have NB251_242 := As (gM hg (blk_lt (kb BK242.out))); replace BK242 := As (blk_below (kb BK242.out) hb); clear hb hbox hg) | ((with_reducible refine gate_store (t := 28) (p := 12) rfl ?_); refine store_rowev_15 gb251 (.int .i64 e0) (.int .i64 e1) (.int .i64 e2) (.int .i64 e3) (.bool e4) (.bool e5) (.int .i64 e6) (.bool e7) (.int .u64 e8) (.int .u64 e9) (.bool e10) (.int .u64 e11) (.int .u64 e12) (.slice A0_13 l0_13.length c0_13) (.string e14) rfl (t := 28) (p := 12) (v := _) rfl rfl rfl rfl (t' := 28) (kb BK251.out) (by rfl) (by kernel_rfl) (by rfl) ?_; have hnb30 := NB242_251.out; have hnc30 := NB251_242.out; have hcz31_0 := cells_15 BK242.out; have hfz31_0 := fun j_ => blk_frozen BK242.out j_; have hcz32_0 := cells_15 BK251.out; have hfz32_0 := fun j_ => blk_frozen BK251.out j_) | ((with_reducible refine gate_dst (N := 71) rfl ?_); refine Kd.event_run (v := .int .i64 (wrap64 (e6 + x10_3))) rfl (load_int (g := gb251) (i := 6) rfl rfl (row6 _ _ _ _ _ _ _ _ _ _ _ _ _ _ _ _ BK251.out rfl)) ?_))
         go_ret2
         exact ⟨_, kE, by first | exact Kd.S_nil _ _ _ _ _ | exact Kd.N_nil _ _ _ _ _ | exact Kd.V_nil _ _ _ _ _ | exact Kd.Q_nil _ _ _ _ _ | exact Kd.R_nil _ _ _ _ _, by exact kB2 HB.out GE242.out GE251.out⟩
        rw [if_neg c28] at H
        have c28b0 : decide (65528 < (wrap64 (e6 + x10_3))) = false := decide_eq_false c28
        clear c28
        have HC33 := As H
        clear H
        go_upto_region 20 with (first | ((with_reducible refine gate_dst (N := 64) rfl ?_); (try (refine gate_guard (by rfl) ?_; dsimp only)); refine wpList_load_row rfl 28 _ rfl gb242 rfl 28 _ (0, 0) _ (kb BK242.out) Try.underlying28 rfl (by kernel_rfl) ?_) | ((with_reducible refine gate_dst (N := 12) rfl ?_); (try (refine gate_guard (by rfl) ?_; dsimp only)); refine box_event rfl (N := 12) rfl (cs := #[.int .i64 0, .int .i64 0, .int .i64 0, .int .i64 0, .bool false, .bool false, .int .i64 0, .bool false, .int .u64 0, .int .u64 0, .bool false, .int .u64 0, .int .u64 0, .slice none 0 0, .string (⟨#[]⟩ : ByteArray)]) (t := 28) kG ?_; intro gb251 hg w34 hbox hb; replace HO_8 := As (Kd.R_below (kR HO_8.out) hb); replace HO_9 := As (Kd.S_below (Kd.S_elderB (by (with_reducible repeat (first | apply Kd.S_alloc | apply Kd.S_drewN | apply Kd.S_drew)); exact HO_9.out) gb251 (Nat.le_of_eq hg.symm)) hb); have BK251 := As (hbox); have GW251 := As (gS hg (below_size (kB1 HB.out GE242.out))); have GE251 := As (gS hg (below_size (kB1 HB.out GE242.out))); replace HB := As (below_step (kB1 HB.out GE242.out) hb); have NB242_251 := As (gN hg (blk_lt (kb BK242.out))); have NB251_242 := As (gM hg (blk_lt (kb BK242.out))); replace BK242 := As (blk_below (kb BK242.out) hb); clear hb hbox hg) | ((with_reducible refine gate_store (t := 28) (p := 12) rfl ?_); refine store_rowev_15 gb251 (.int .i64 e0) (.int .i64 e1) (.int .i64 e2) (.int .i64 e3) (.bool e4) (.bool e5) (.int .i64 e6) (.bool e7) (.int .u64 e8) (.int .u64 e9) (.bool e10) (.int .u64 e11) (.int .u64 e12) (.slice A0_13 l0_13.length c0_13) (.string e14) rfl (t := 28) (p := 12) (v := _) rfl rfl rfl rfl (t' := 28) (kb BK251.out) (by rfl) (by kernel_rfl) (by rfl) ?_; have hnb35 := NB242_251.out; have hnc35 := NB251_242.out; have hcz36_0 := cells_15 BK242.out; have hfz36_0 := fun j_ => blk_frozen BK242.out j_; have hcz37_0 := cells_15 BK251.out; have hfz37_0 := fun j_ => blk_frozen BK251.out j_) | ((with_reducible refine gate_dst (N := 71) rfl ?_); refine Kd.event_run (v := .int .i64 (wrap64 (e6 + x10_3))) rfl (load_int (g := gb251) (i := 6) rfl rfl (row6 _ _ _ _ _ _ _ _ _ _ _ _ _ _ _ _ BK251.out rfl)) ?_))
        (try simp only [Act.put, sA, sZ, sS])
        go_cut [] (fun wc => ∃ (kq : Nat) (x252005_32 : Bool), Aside0 (ipv4_Split.j5 kq a1 t248 x9_3 x10_3 x11_24 e0 e1 e2 e3 e4 e5 e6 e7 e8 e9 e10 e11 e12 l0_13 e14 e0 e1 e2 e3 e4 x252005_32 (wrap64 (e6 + x10_3)) e7 e8 e9 e10 e11 e12 l0_13 e14 = some (r1, r2)) ∧ Aside0 (kq ≤ kj24) ∧ Aside0 (Kd.R k50 50 wc w.heap.size (fun _ => True) v249 t248) ∧ Aside0 (Kd.S k28 28 wc w.heap.size (fun k_ => some k_ ≠ (v249 : Value).ownBlock ∧ k_ ≠ gb242 ∧ k_ ≠ gb251) u9 x9_3) ∧ Aside0 (wc.heap[gb242]? = some (.cells #[.int .i64 e0, .int .i64 e1, .int .i64 e2, .int .i64 e3, .bool e4, .bool e5, .int .i64 e6, .bool e7, .int .u64 e8, .int .u64 e9, .bool e10, .int .u64 e11, .int .u64 e12, (.slice A0_13 l0_13.length c0_13), .string e14] 28 (0, 0))) ∧ Aside0 (wc.heap[gb251]? = some (.cells #[.int .i64 e0, .int .i64 e1, .int .i64 e2, .int .i64 e3, .bool e4, .bool x252005_32, .int .i64 (wrap64 (e6 + x10_3)), .bool e7, .int .u64 e8, .int .u64 e9, .bool e10, .int .u64 e11, .int .u64 e12, (.slice A0_13 l0_13.length c0_13), .string e14] 28 (0, 0))) ∧ Aside0 (Below w.heap.size w wc))
        case first =>
         have H := HC33.out
         clear HC33
         by_cases c38 : e5 = true
         ·subst c38
          rw [if_pos rfl] at H
          have H' := As H
          clear H
          have hnb39 := NB242_251.out
          have hnc39 := NB251_242.out
          have hcz40_0 := cells_15 BK242.out
          have hfz40_0 := fun j_ => blk_frozen BK242.out j_
          have hcz41_0 := cells_15 BK251.out
          have hfz41_0 := fun j_ => blk_frozen BK251.out j_
          go_wp2
          go_meet
          case rel => exact ⟨_, (true), H', ⟨by have := HJ2.out; have := HJ8.out; have := HK3.out; have := HJ20.out; have := HJ24.out; first | omega | exact Nat.le_refl _⟩, ⟨by (with_reducible repeat (first | apply Kd.R_alloc | apply Kd.R_drewN | apply Kd.R_drew)); exact Kd.R_mono (Kd.R_far (p := ⟨gb251, 5, none⟩) (Kd.R_far (p := ⟨gb251, 6, none⟩) (Kd.R_puts_0_15 gb251 (.int .i64 e0) (.int .i64 e1) (.int .i64 e2) (.int .i64 e3) (.bool e4) (.bool true) (.int .i64 e6) (.bool e7) (.int .u64 e8) (.int .u64 e9) (.bool e10) (.int .u64 e11) (.int .u64 e12) (.slice A0_13 l0_13.length c0_13) (.string e14) (Kd.R_types HO_8.out BK251.out (by decide)) (fun _ hk => hk.2)) (fun _ hk => hk.2) (.int .i64 (wrap64 (e6 + x10_3)))) (fun _ hk => hk.2) (.bool true)) (fun _ hk => trivial)⟩, ⟨by (with_reducible repeat (first | apply Kd.S_alloc | apply Kd.S_drewN | apply Kd.S_drew)); exact Kd.S_mono (Kd.S_far (p := ⟨gb251, 5, none⟩) (Kd.S_far (p := ⟨gb251, 6, none⟩) (Kd.S_puts_0_15 gb251 (.int .i64 e0) (.int .i64 e1) (.int .i64 e2) (.int .i64 e3) (.bool e4) (.bool true) (.int .i64 e6) (.bool e7) (.int .u64 e8) (.int .u64 e9) (.bool e10) (.int .u64 e11) (.int .u64 e12) (.slice A0_13 l0_13.length c0_13) (.string e14) (Kd.S_mono HO_9.out (fun k_ hk => (⟨hk, hk.2⟩ : _ ∧ k_ ≠ gb251))) (fun _ hk => hk.2)) (fun _ hk => hk.2) (.int .i64 (wrap64 (e6 + x10_3)))) (fun _ hk => hk.2) (.bool true)) (fun _ hk => ⟨hk.1.1.1, ⟨hk.1.1.2, hk.1.2⟩⟩)⟩, ⟨by refine kb ?_; (iterate 17 (refine blk_far ?_ NB242_251.out _; refine kb ?_)); exact BK242.out⟩, ⟨by refine kb ?_; refine blk_put (cs := #[.int .i64 e0, .int .i64 e1, .int .i64 e2, .int .i64 e3, .bool e4, .bool true, .int .i64 (wrap64 (e6 + x10_3)), .bool e7, .int .u64 e8, .int .u64 e9, .bool e10, .int .u64 e11, .int .u64 e12, .slice A0_13 l0_13.length c0_13, .string e14]) ?_ 5 _ rfl; refine kb ?_; refine blk_put (cs := #[.int .i64 e0, .int .i64 e1, .int .i64 e2, .int .i64 e3, .bool e4, .bool true, .int .i64 e6, .bool e7, .int .u64 e8, .int .u64 e9, .bool e10, .int .u64 e11, .int .u64 e12, .slice A0_13 l0_13.length c0_13, .string e14]) ?_ 6 _ rfl; refine kb ?_; exact blk_all_15 (kb BK251.out) (by rfl)⟩, ⟨kB2 HB.out GE242.out GE251.out⟩⟩
         replace c38 := Bool.eq_false_iff.mpr c38
         subst c38
         rw [if_neg (show ¬ (false = true) by decide)] at H
         have H' := As H
         clear H
         have hnb42 := NB242_251.out
         have hnc42 := NB251_242.out
         have hcz43_0 := cells_15 BK242.out
         have hfz43_0 := fun j_ => blk_frozen BK242.out j_
         have hcz44_0 := cells_15 BK251.out
         have hfz44_0 := fun j_ => blk_frozen BK251.out j_
         go_wp2
         go_meet
         case rel => exact ⟨_, (decide (x11_24 < (e14.size : Int))), H', ⟨by have := HJ2.out; have := HJ8.out; have := HK3.out; have := HJ20.out; have := HJ24.out; first | omega | exact Nat.le_refl _⟩, ⟨by (with_reducible repeat (first | apply Kd.R_alloc | apply Kd.R_drewN | apply Kd.R_drew)); exact Kd.R_mono (Kd.R_far (p := ⟨gb251, 5, none⟩) (Kd.R_far (p := ⟨gb251, 6, none⟩) (Kd.R_puts_0_15 gb251 (.int .i64 e0) (.int .i64 e1) (.int .i64 e2) (.int .i64 e3) (.bool e4) (.bool false) (.int .i64 e6) (.bool e7) (.int .u64 e8) (.int .u64 e9) (.bool e10) (.int .u64 e11) (.int .u64 e12) (.slice A0_13 l0_13.length c0_13) (.string e14) (Kd.R_types HO_8.out BK251.out (by decide)) (fun _ hk => hk.2)) (fun _ hk => hk.2) (.int .i64 (wrap64 (e6 + x10_3)))) (fun _ hk => hk.2) (.bool (decide (x11_24 < (e14.size : Int))))) (fun _ hk => trivial)⟩, ⟨by (with_reducible repeat (first | apply Kd.S_alloc | apply Kd.S_drewN | apply Kd.S_drew)); exact Kd.S_mono (Kd.S_far (p := ⟨gb251, 5, none⟩) (Kd.S_far (p := ⟨gb251, 6, none⟩) (Kd.S_puts_0_15 gb251 (.int .i64 e0) (.int .i64 e1) (.int .i64 e2) (.int .i64 e3) (.bool e4) (.bool false) (.int .i64 e6) (.bool e7) (.int .u64 e8) (.int .u64 e9) (.bool e10) (.int .u64 e11) (.int .u64 e12) (.slice A0_13 l0_13.length c0_13) (.string e14) (Kd.S_mono HO_9.out (fun k_ hk => (⟨hk, hk.2⟩ : _ ∧ k_ ≠ gb251))) (fun _ hk => hk.2)) (fun _ hk => hk.2) (.int .i64 (wrap64 (e6 + x10_3)))) (fun _ hk => hk.2) (.bool (decide (x11_24 < (e14.size : Int))))) (fun _ hk => ⟨hk.1.1.1, ⟨hk.1.1.2, hk.1.2⟩⟩)⟩, ⟨by refine kb ?_; (iterate 17 (refine blk_far ?_ NB242_251.out _; refine kb ?_)); exact BK242.out⟩, ⟨by refine kb ?_; refine blk_put (cs := #[.int .i64 e0, .int .i64 e1, .int .i64 e2, .int .i64 e3, .bool e4, .bool false, .int .i64 (wrap64 (e6 + x10_3)), .bool e7, .int .u64 e8, .int .u64 e9, .bool e10, .int .u64 e11, .int .u64 e12, .slice A0_13 l0_13.length c0_13, .string e14]) ?_ 5 _ rfl; refine kb ?_; refine blk_put (cs := #[.int .i64 e0, .int .i64 e1, .int .i64 e2, .int .i64 e3, .bool e4, .bool false, .int .i64 e6, .bool e7, .int .u64 e8, .int .u64 e9, .bool e10, .int .u64 e11, .int .u64 e12, .slice A0_13 l0_13.length c0_13, .string e14]) ?_ 6 _ rfl; refine kb ?_; exact blk_all_15 (kb BK251.out) (by rfl)⟩, ⟨kB2 HB.out GE242.out GE251.out⟩⟩
        clear HC33
        try clear c28
        try clear c28b0
        try clear hcz36_0
        try clear hcz37_0
        try clear hfz36_0
        try clear hfz37_0
        obtain ⟨kq, x252005_32, HA, HJ32, HO_8, HO_9, BK242, BK251, HB⟩ := hcut
        cases kq with
        | zero => exact absurd HA.out (by simp [ipv4_Split.j5])
        | succ kj32 =>
         have H := HA.out
         clear HA
         simp only [ipv4_Split.j5] at H
         replace H := iS H
         obtain ⟨c45, H⟩ := H
         have c45b0 := eq_true c45
         have c45b1 := decide_eq_true c45
         clear c45
         replace H := iS H
         obtain ⟨c46, H⟩ := H
         have c46b0 := eq_true c46
         have c46b1 := decide_eq_true c46
         clear c46
         replace H := iS H
         obtain ⟨c47, H⟩ := H
         have c47b0 := eq_true c47
         have c47b1 := decide_eq_true c47
         clear c47
         replace H := bS H
         obtain ⟨t252, A48, H⟩ := H
         by_cases c49 : x10_3 = 0
         ·rw [if_pos c49] at H
          have c49b0 : (x10_3 == 0) = true := beq_iff_eq.mpr c49
          have c49b1 : (x10_3 != 0) = false := bne_eq_false_iff_eq.mpr c49
          clear c49
          replace H := bS H
          obtain ⟨t255, A50, H⟩ := H
          replace H := iS H
          obtain ⟨c51, H⟩ := H
          have LMc51 := As c51
          clear c51
          obtain ⟨y258, hy258⟩ : ∃ y_ : List (S28), y_ = (x9_3 ++ [(⟨e0, e1, e2, e3, e4, x252005_32, (wrap64 (e6 + x10_3)), (⟨e7, e8, e9⟩ : S25), (⟨e10, e11, e12⟩ : S25), t255, e14.extract (x10_3 : Int).toNat (x11_24 : Int).toNat⟩ : S28)]) := ⟨_, rfl⟩
          replace H : (if x11_24 = (e14.size : Int) then (some (y258, 0)) else (ipv4_Split.l0 kj32 a1 t248 y258 (wrap64 (x10_3 + a1)) e0 e1 e2 e3 e4 e5 e6 e7 e8 e9 e10 e11 e12 l0_13 e14)) = some (r1, r2) := by first | (rw [hy258]; with_reducible exact H) | (have H2_ := (Option.bind_some _ _).symm.trans H; rw [hy258]; with_reducible exact H2_) | (have H2_ := (Option.bind_some _ _).symm.trans H; with_reducible exact H2_) | with_reducible exact H | (rw [hy258]; exact H) | exact H
          have Ny258 := As hy258
          clear hy258
          by_cases c52 : x11_24 = (e14.size : Int)
          ·rw [if_pos c52] at H
           have c52b0 : (x11_24 == (e14.size : Int)) = true := beq_iff_eq.mpr c52
           have c52b1 : (x11_24 != (e14.size : Int)) = false := bne_eq_false_iff_eq.mpr c52
           clear c52
           simp only [Option.some.injEq, Prod.mk.injEq] at H
           obtain ⟨rfl, rfl⟩ := H
           have hnb53 := NB242_251.out
           have hnc53 := NB251_242.out
           have hcz54_0 := cells_15 BK242.out
           have hfz54_0 := fun j_ => blk_frozen BK242.out j_
           have hcz55_0 := cells_15 BK251.out
           have hfz55_0 := fun j_ => blk_frozen BK251.out j_
           obtain ⟨Ao56, co56, eo56⟩ := Kd.R_slice HO_8.out
           subst eo56
           go_wp2_with (first | ((with_reducible refine gate_callee (f := 49) rfl ?_); refine goesL_ (some 90) rfl rfl Try.func49 (by kernel_rfl) rfl #[.slice Ao56 t248.length co56] rfl kA ?_; (with_reducible refine (api_Option_49.calls _ _ t248 t252 _ ?side1 ?side2 A48.out).mono ?_); (case side1 => refine (Kd.R_reads' (e := 50) (base := w.heap.size) (ok := fun k_ => True) (n := t248.length) (c := co56) ?_).2.2; exact (by refine kR ?_; exact (Kd.R_mono (Kd.R_far (p := ⟨gb251, 14, none⟩) (Kd.R_types HO_8.out BK251.out (by decide)) (fun _ hk => hk.2) (.string (e14.extract (x10_3 : Int).toNat (x11_24 : Int).toNat))) (fun _ h_ => h_.1)))); (case side2 => exact (Kd.R_reads' HO_8.out).2.1); rintro e w57 ⟨v253, rfl, ho0, hb⟩; refine ⟨_, rfl, ?_⟩; replace HO_9 := As (Kd.S_elder' (by (with_reducible repeat (first | apply Kd.S_alloc | apply Kd.S_drewN | apply Kd.S_drew)); exact (Kd.S_mono (Kd.S_far (p := ⟨gb251, 14, none⟩) (Kd.S_mono HO_9.out (fun k_ hk => (⟨hk, hk.2.2⟩ : _ ∧ k_ ≠ gb251))) (fun _ hk => hk.2) (.string (e14.extract (x10_3 : Int).toNat (x11_24 : Int).toNat))) (fun _ h_ => h_.1))) (Kd.R_base ho0) hb); have HO254 := As (Kd.R_lower (Kd.R_new' ho0 (Kd.R_lt (by refine kR ?_; exact (Kd.R_mono (Kd.R_far (p := ⟨gb251, 14, none⟩) (Kd.R_types HO_8.out BK251.out (by decide)) (fun _ hk => hk.2) (.string (e14.extract (x10_3 : Int).toNat (x11_24 : Int).toNat))) (fun _ h_ => h_.1))))) (below_size (kB2 HB.out GE242.out GE251.out))); replace HO_8 := As (Kd.R_elder' (by refine kR ?_; exact (Kd.R_mono (Kd.R_far (p := ⟨gb251, 14, none⟩) (Kd.R_types HO_8.out BK251.out (by decide)) (fun _ hk => hk.2) (.string (e14.extract (x10_3 : Int).toNat (x11_24 : Int).toNat))) (fun _ h_ => h_.1))) (Kd.R_base ho0) hb); replace BK242 := As (blk_below (g := gb242) (o := .cells #[.int .i64 e0, .int .i64 e1, .int .i64 e2, .int .i64 e3, .bool e4, .bool e5, .int .i64 e6, .bool e7, .int .u64 e8, .int .u64 e9, .bool e10, .int .u64 e11, .int .u64 e12, .slice A0_13 l0_13.length c0_13, .string e14] 28 (0, 0)) (by refine kb ?_; refine blk_far ?_ NB242_251.out _; exact kb BK242.out) hb); replace BK251 := As (blk_below (g := gb251) (o := .cells #[.int .i64 e0, .int .i64 e1, .int .i64 e2, .int .i64 e3, .bool e4, .bool x252005_32, .int .i64 (wrap64 (e6 + x10_3)), .bool e7, .int .u64 e8, .int .u64 e9, .bool e10, .int .u64 e11, .int .u64 e12, .slice A0_13 l0_13.length c0_13, .string (e14.extract (x10_3 : Int).toNat (x11_24 : Int).toNat)] 28 (0, 0)) (by refine kb ?_; refine blk_put (cs := #[.int .i64 e0, .int .i64 e1, .int .i64 e2, .int .i64 e3, .bool e4, .bool x252005_32, .int .i64 (wrap64 (e6 + x10_3)), .bool e7, .int .u64 e8, .int .u64 e9, .bool e10, .int .u64 e11, .int .u64 e12, .slice A0_13 l0_13.length c0_13, .string e14]) ?_ 14 _ rfl; exact kb BK251.out) hb); replace HB := As (below_step (kB2 HB.out GE242.out GE251.out) hb); (try clear hb); (try clear hk); (try clear ho0); obtain ⟨Ao58, co58, eo58⟩ := Kd.R_slice HO254.out; subst eo58; have hcz59_0 := cells_15 BK251.out; have hfz59_0 := fun j_ => blk_frozen BK251.out j_; have hcz60_0 := cells_15 BK242.out; have hfz60_0 := fun j_ => blk_frozen BK242.out j_) | ((with_reducible refine gate_callee (f := 49) rfl ?_); refine goesL_ (some 96) rfl rfl Try.func49 (by kernel_rfl) rfl #[.slice A0_13 l0_13.length c0_13] rfl kA ?_; (with_reducible refine (api_Option_49.calls _ _ l0_13 t255 _ ?side1 ?side2 A50.out).mono ?_); (case side1 => exact Kd.C_below HR0_13.out (kB2 HB.out GE242.out GE251.out)); (case side2 => exact HC0_13.out); rintro e w61 ⟨v256, rfl, ho0, hb⟩; refine ⟨_, rfl, ?_⟩; replace HO_9 := As (Kd.S_elder' (by (with_reducible repeat (first | apply Kd.S_alloc | apply Kd.S_drewN | apply Kd.S_drew)); exact (Kd.S_mono (Kd.S_far (p := ⟨gb251, 13, none⟩) (Kd.S_mono HO_9.out (fun k_ hk => (⟨hk, hk.1.2.2⟩ : _ ∧ k_ ≠ gb251))) (fun _ hk => hk.2) (.slice Ao58 t252.length co58)) (fun _ h_ => h_.1))) (Kd.R_base ho0) hb); have HO257 := As (Kd.R_lower (Kd.R_new' (Kd.R_new' ho0 (Kd.R_lt (by refine kR ?_; exact (Kd.R_mono (Kd.R_far (p := ⟨gb251, 13, none⟩) (Kd.R_types HO_8.out BK251.out (by decide)) (fun _ hk => hk.2) (.slice Ao58 t252.length co58)) (fun _ h_ => h_.1))))) (Kd.R_lt (by refine kR ?_; exact (Kd.R_mono (Kd.R_far (p := ⟨gb251, 13, none⟩) (Kd.R_types HO254.out BK251.out (by decide)) (fun _ hk => hk.2) (.slice Ao58 t252.length co58)) (fun _ h_ => h_.1))))) (below_size (kB2 HB.out GE242.out GE251.out))); replace HO_8 := As (Kd.R_elder' (by refine kR ?_; exact (Kd.R_mono (Kd.R_far (p := ⟨gb251, 13, none⟩) (Kd.R_types HO_8.out BK251.out (by decide)) (fun _ hk => hk.2) (.slice Ao58 t252.length co58)) (fun _ h_ => h_.1))) (Kd.R_base ho0) hb); replace HO254 := As (Kd.R_elder' (by refine kR ?_; exact (Kd.R_mono (Kd.R_far (p := ⟨gb251, 13, none⟩) (Kd.R_types HO254.out BK251.out (by decide)) (fun _ hk => hk.2) (.slice Ao58 t252.length co58)) (fun _ h_ => h_.1))) (Kd.R_base ho0) hb); replace BK242 := As (blk_below (g := gb242) (o := .cells #[.int .i64 e0, .int .i64 e1, .int .i64 e2, .int .i64 e3, .bool e4, .bool e5, .int .i64 e6, .bool e7, .int .u64 e8, .int .u64 e9, .bool e10, .int .u64 e11, .int .u64 e12, .slice A0_13 l0_13.length c0_13, .string e14] 28 (0, 0)) (by refine kb ?_; refine blk_far ?_ NB242_251.out _; exact kb BK242.out) hb); replace BK251 := As (blk_below (g := gb251) (o := .cells #[.int .i64 e0, .int .i64 e1, .int .i64 e2, .int .i64 e3, .bool e4, .bool x252005_32, .int .i64 (wrap64 (e6 + x10_3)), .bool e7, .int .u64 e8, .int .u64 e9, .bool e10, .int .u64 e11, .int .u64 e12, .slice Ao58 t252.length co58, .string (e14.extract (x10_3 : Int).toNat (x11_24 : Int).toNat)] 28 (0, 0)) (by refine kb ?_; refine blk_put (cs := #[.int .i64 e0, .int .i64 e1, .int .i64 e2, .int .i64 e3, .bool e4, .bool x252005_32, .int .i64 (wrap64 (e6 + x10_3)), .bool e7, .int .u64 e8, .int .u64 e9, .bool e10, .int .u64 e11, .int .u64 e12, .slice A0_13 l0_13.length c0_13, .string (e14.extract (x10_3 : Int).toNat (x11_24 : Int).toNat)]) ?_ 13 _ rfl; exact kb BK251.out) hb); replace HB := As (below_step (kB2 HB.out GE242.out GE251.out) hb); (try clear hb); (try clear hk); (try clear ho0); obtain ⟨Ao62, co62, eo62⟩ := Kd.R_slice HO257.out; subst eo62; have hcz63_0 := cells_15 BK251.out; have hfz63_0 := fun j_ => blk_frozen BK251.out j_) | ((with_reducible refine gate_store (t := 26) (p := 97) rfl ?_); refine store_event (t := 26) (p := 97) (v := ?vo_w64) (w1 := (w61.setCell ⟨gb251, 13, none⟩ (.slice Ao62 t255.length co62))) ?hg ?ho ?hn ?hr ?_; (case ho => rfl); (case hg => rfl); (case hn => rfl); (case hr => first | (go_simp; done) | (go_simp; rfl)); intro w64 hw; have n0_ : Aside0 (Kd.R k50 50 w64 w.heap.size (fun k_ => some k_ ≠ (.slice Ao58 t252.length co58 : Value).ownBlock ∧ some k_ ≠ (.slice Ao62 t255.length co62 : Value).ownBlock) (.slice Ao56 t248.length co56) t248) := ⟨(by rw [hw]; exact (by (with_reducible repeat (first | apply Kd.R_alloc | apply Kd.R_drewN | apply Kd.R_drew)); exact Kd.R_mono (Kd.R_far (p := ⟨gb251, 13, none⟩) (Kd.R_types HO_8.out BK251.out (by decide)) (fun _ hk => hk.2) (.slice Ao62 t255.length co62)) (fun _ hk => ⟨hk.1.1.2, hk.1.2⟩)))⟩; have n1_ : Aside0 (Kd.S k28 28 w64 w.heap.size (fun k_ => some k_ ≠ (.slice Ao56 t248.length co56 : Value).ownBlock ∧ some k_ ≠ (.slice Ao58 t252.length co58 : Value).ownBlock ∧ some k_ ≠ (.slice Ao62 t255.length co62 : Value).ownBlock ∧ k_ ≠ gb242 ∧ k_ ≠ gb251) u9 x9_3) := ⟨(by rw [hw]; exact (by (with_reducible repeat (first | apply Kd.S_alloc | apply Kd.S_drewN | apply Kd.S_drew)); exact Kd.S_mono (Kd.S_far (p := ⟨gb251, 13, none⟩) (Kd.S_mono HO_9.out (fun k_ hk => (⟨hk, hk.1.1.2.2⟩ : _ ∧ k_ ≠ gb251))) (fun _ hk => hk.2) (.slice Ao62 t255.length co62)) (fun _ hk => ⟨hk.1.1.1.1, ⟨hk.1.1.2, ⟨hk.1.2, ⟨hk.1.1.1.2.1, hk.1.1.1.2.2⟩⟩⟩⟩)))⟩; have n2_ : Aside0 (Kd.R k50 50 w64 w.heap.size (fun k_ => some k_ ≠ (.slice Ao56 t248.length co56 : Value).ownBlock ∧ some k_ ≠ (.slice Ao62 t255.length co62 : Value).ownBlock) (.slice Ao58 t252.length co58) t252) := ⟨(by rw [hw]; exact (by (with_reducible repeat (first | apply Kd.R_alloc | apply Kd.R_drewN | apply Kd.R_drew)); exact Kd.R_mono (Kd.R_far (p := ⟨gb251, 13, none⟩) (Kd.R_types HO254.out BK251.out (by decide)) (fun _ hk => hk.2) (.slice Ao62 t255.length co62)) (fun _ hk => ⟨hk.1.1.2, hk.1.2⟩)))⟩; have n3_ : Aside0 (Kd.R k50 50 w64 w.heap.size (fun k_ => some k_ ≠ (.slice Ao56 t248.length co56 : Value).ownBlock ∧ some k_ ≠ (.slice Ao58 t252.length co58 : Value).ownBlock) (.slice Ao62 t255.length co62) t255) := ⟨(by rw [hw]; exact (by (with_reducible repeat (first | apply Kd.R_alloc | apply Kd.R_drewN | apply Kd.R_drew)); exact Kd.R_mono (Kd.R_far (p := ⟨gb251, 13, none⟩) (Kd.R_types HO257.out BK251.out (by decide)) (fun _ hk => hk.2) (.slice Ao62 t255.length co62)) (fun _ hk => ⟨hk.1.1.2, hk.1.2⟩)))⟩; have n4_ : Aside0 (w64.heap[gb242]? = some (.cells #[.int .i64 e0, .int .i64 e1, .int .i64 e2, .int .i64 e3, .bool e4, .bool e5, .int .i64 e6, .bool e7, .int .u64 e8, .int .u64 e9, .bool e10, .int .u64 e11, .int .u64 e12, .slice A0_13 l0_13.length c0_13, .string e14] 28 (0, 0))) := ⟨(by rw [hw]; exact (by refine kb ?_; refine blk_far ?_ NB242_251.out _; exact kb BK242.out))⟩; have n5_ : Aside0 (w64.heap[gb251]? = some (.cells #[.int .i64 e0, .int .i64 e1, .int .i64 e2, .int .i64 e3, .bool e4, .bool x252005_32, .int .i64 (wrap64 (e6 + x10_3)), .bool e7, .int .u64 e8, .int .u64 e9, .bool e10, .int .u64 e11, .int .u64 e12, .slice Ao62 t255.length co62, .string (e14.extract (x10_3 : Int).toNat (x11_24 : Int).toNat)] 28 (0, 0))) := ⟨(by rw [hw]; exact (by refine kb ?_; refine blk_put (cs := #[.int .i64 e0, .int .i64 e1, .int .i64 e2, .int .i64 e3, .bool e4, .bool x252005_32, .int .i64 (wrap64 (e6 + x10_3)), .bool e7, .int .u64 e8, .int .u64 e9, .bool e10, .int .u64 e11, .int .u64 e12, .slice Ao58 t252.length co58, .string (e14.extract (x10_3 : Int).toNat (x11_24 : Int).toNat)]) ?_ 13 _ rfl; exact kb BK251.out))⟩; have n6_ : Aside0 (Below w.heap.size w w64) := ⟨(by rw [hw]; exact (kB2 HB.out GE242.out GE251.out))⟩; clear hw; clear HO_8; clear HO_9; clear HO254; clear HO257; clear BK242; clear BK251; clear HB; have HO_8 := n0_; have HO_9 := n1_; have HO254 := n2_; have HO257 := n3_; have BK242 := n4_; have BK251 := n5_; have HB := n6_; clear n0_ n1_ n2_ n3_ n4_ n5_ n6_) | ((with_reducible refine gate_dst (N := 99) rfl ?_); (try (refine gate_guard (by rfl) ?_; dsimp only)); refine wpList_load_row rfl 28 _ rfl gb251 rfl 28 _ (0, 0) _ (kb BK251.out) Try.underlying28 rfl (by kernel_rfl) ?_) | ((with_reducible refine gate_builtin (b := .append) (xs := #[.tmp 98, .tmp 100]) rfl ?_); (try (refine gate_guard (by rfl) ?_; dsimp only)); at_builtin; refine Kd.S_append k28 (w0 := w) w.heap.size rfl (.tmp 98) (.tmp 100) 40 28 (.agg #[(.int .i64 0), (.int .i64 0), (.int .i64 0), (.int .i64 0), (.bool false), (.bool false), (.int .i64 0), (.bool false), (.int .u64 0), (.int .u64 0), (.bool false), (.int .u64 0), (.int .u64 0), (.slice none 0 0), (.string ⟨#[]⟩)]) 136 rfl Try.underlying40 info28 rfl (by decide) (by omega) u9 x9_3 (⟨e0, e1, e2, e3, e4, x252005_32, (wrap64 (e6 + x10_3)), (⟨e7, e8, e9⟩ : S25), (⟨e10, e11, e12⟩ : S25), t255, e14.extract (x10_3 : Int).toNat (x11_24 : Int).toNat⟩ : S28) [.int .i64 e0, .int .i64 e1, .int .i64 e2, .int .i64 e3, .bool e4, .bool x252005_32, .int .i64 (wrap64 (e6 + x10_3)), .bool e7, .int .u64 e8, .int .u64 e9, .bool e10, .int .u64 e11, .int .u64 e12, .slice Ao62 t255.length co62, .string (e14.extract (x10_3 : Int).toNat (x11_24 : Int).toNat)] (fun k_ => some k_ ≠ (.slice Ao56 t248.length co56 : Value).ownBlock ∧ some k_ ≠ (.slice Ao58 t252.length co58 : Value).ownBlock ∧ k_ ≠ gb242 ∧ k_ ≠ gb251) (fun k_ => some k_ = (.slice Ao62 t255.length co62 : Value).ownBlock) rfl rfl ?aP (fun k_ hk_ => ((Kd.R_mono (ok' := fun k_ => ((fun k_ => some k_ ≠ (.slice Ao56 t248.length co56 : Value).ownBlock ∧ some k_ ≠ (.slice Ao58 t252.length co58 : Value).ownBlock ∧ k_ ≠ gb242 ∧ k_ ≠ gb251)) k_ ∧ some k_ ≠ (u9 : Value).ownBlock) (Kd.R_types (Kd.R_types (Kd.R_apart' (HO257.out) (Kd.S_typed HO_9.out) (by decide)) BK242.out (by decide)) BK251.out (by decide)) (fun k_ hk => ⟨⟨hk.1.1.1.1, ⟨hk.1.1.1.2, ⟨hk.1.2, hk.2⟩⟩⟩, hk.1.1.2⟩))).1 k_ hk_.symm) ?aF ?aO ?aB ?aS ?aL ?_; (case aP => exact k28_mkM _ _ _ (⟨e0, e1, e2, e3, e4, x252005_32, (wrap64 (e6 + x10_3)), (⟨e7, e8, e9⟩ : S25), (⟨e10, e11, e12⟩ : S25), t255, e14.extract (x10_3 : Int).toNat (x11_24 : Int).toNat⟩ : S28) (Kd.R_mono (Kd.R_tight rfl (Kd.R_mono (ok' := fun k_ => ((fun k_ => some k_ ≠ (.slice Ao56 t248.length co56 : Value).ownBlock ∧ some k_ ≠ (.slice Ao58 t252.length co58 : Value).ownBlock ∧ k_ ≠ gb242 ∧ k_ ≠ gb251)) k_ ∧ some k_ ≠ (u9 : Value).ownBlock) (Kd.R_types (Kd.R_types (Kd.R_apart' (HO257.out) (Kd.S_typed HO_9.out) (by decide)) BK242.out (by decide)) BK251.out (by decide)) (fun k_ hk => ⟨⟨hk.1.1.1.1, ⟨hk.1.1.1.2, ⟨hk.1.2, hk.2⟩⟩⟩, hk.1.1.2⟩))) (fun _ h_ => h_))); (case aB => exact (kB2 HB.out GE242.out GE251.out)); (case aF => exact (fun k_ hk => ⟨Kd.fresh' (Kd.R_lt (kR HO_8.out)) k_ hk, Kd.fresh' (Kd.R_lt (kR HO254.out)) k_ hk, Kd.freshB (kb BK242.out) k_ hk, Kd.freshB (kb BK251.out) k_ hk⟩)); (case aO => exact (by (with_reducible repeat (first | apply Kd.S_alloc | apply Kd.S_drewN | apply Kd.S_drew)); exact Kd.S_mono HO_9.out (fun k_ hk => ⟨⟨hk.1, ⟨hk.2.1, ⟨hk.2.2.2.1, hk.2.2.2.2⟩⟩⟩, fun e_ => hk.2.2.1 e_⟩))); (case aS => exact (below_size (kB2 HB.out GE242.out GE251.out))); (case aL => have := LMc51.out; omega); intro v259 w65 ho hb hg hat; rw [← Ny258.out] at ho; replace HO_8 := As (Kd.R_over' (kR HO_8.out) (Kd.S_typed (by (with_reducible repeat (first | apply Kd.S_alloc | apply Kd.S_drewN | apply Kd.S_drew)); exact HO_9.out)) (by decide) hg); replace BK242 := As (blk_grown (kb BK242.out) hg (Kd.S_away HO_9.out (fun _ hk => hk.2.2.2.1))); replace BK251 := As (blk_grown (kb BK251.out) hg (Kd.S_away HO_9.out (fun _ hk => hk.2.2.2.2))); replace HO254 := As (Kd.R_over' (kR HO254.out) (Kd.S_typed (by (with_reducible repeat (first | apply Kd.S_alloc | apply Kd.S_drewN | apply Kd.S_drew)); exact HO_9.out)) (by decide) hg); replace HB := As (hb); have HO260 := As (ho); clear HO_9 HO257; clear ho hb hg hat; have hcz66_0 := cells_15 BK242.out; have hfz66_0 := fun j_ => blk_frozen BK242.out j_))
           go_ret2
           exact ⟨_, kE, by (with_reducible repeat (first | apply Kd.S_alloc | apply Kd.S_drewN | apply Kd.S_drew)); exact Kd.S_mono HO260.out (fun _ hk => trivial), by exact kB2 HB.out GE242.out GE251.out⟩
          rw [if_neg c52] at H
          have c52b0 : (x11_24 == (e14.size : Int)) = false := beq_eq_false_iff_ne.mpr c52
          have c52b1 : (x11_24 != (e14.size : Int)) = true := bne_iff_ne.mpr c52
          have H' := As H
          clear H
          have hnb67 := NB242_251.out
          have hnc67 := NB251_242.out
          have hcz68_0 := cells_15 BK242.out
          have hfz68_0 := fun j_ => blk_frozen BK242.out j_
          have hcz69_0 := cells_15 BK251.out
          have hfz69_0 := fun j_ => blk_frozen BK251.out j_
          obtain ⟨Ao70, co70, eo70⟩ := Kd.R_slice HO_8.out
          subst eo70
          go_wp2_with (first | ((with_reducible refine gate_callee (f := 49) rfl ?_); refine goesL_ (some 90) rfl rfl Try.func49 (by kernel_rfl) rfl #[.slice Ao70 t248.length co70] rfl kA ?_; (with_reducible refine (api_Option_49.calls _ _ t248 t252 _ ?side1 ?side2 A48.out).mono ?_); (case side1 => refine (Kd.R_reads' (e := 50) (base := w.heap.size) (ok := fun k_ => True) (n := t248.length) (c := co70) ?_).2.2; exact (by refine kR ?_; exact (Kd.R_mono (Kd.R_far (p := ⟨gb251, 14, none⟩) (Kd.R_types HO_8.out BK251.out (by decide)) (fun _ hk => hk.2) (.string (e14.extract (x10_3 : Int).toNat (x11_24 : Int).toNat))) (fun _ h_ => h_.1)))); (case side2 => exact (Kd.R_reads' HO_8.out).2.1); rintro e w71 ⟨v253, rfl, ho0, hb⟩; refine ⟨_, rfl, ?_⟩; replace HO_9 := As (Kd.S_elder' (by (with_reducible repeat (first | apply Kd.S_alloc | apply Kd.S_drewN | apply Kd.S_drew)); exact (Kd.S_mono (Kd.S_far (p := ⟨gb251, 14, none⟩) (Kd.S_mono HO_9.out (fun k_ hk => (⟨hk, hk.2.2⟩ : _ ∧ k_ ≠ gb251))) (fun _ hk => hk.2) (.string (e14.extract (x10_3 : Int).toNat (x11_24 : Int).toNat))) (fun _ h_ => h_.1))) (Kd.R_base ho0) hb); have HO254 := As (Kd.R_lower (Kd.R_new' ho0 (Kd.R_lt (by refine kR ?_; exact (Kd.R_mono (Kd.R_far (p := ⟨gb251, 14, none⟩) (Kd.R_types HO_8.out BK251.out (by decide)) (fun _ hk => hk.2) (.string (e14.extract (x10_3 : Int).toNat (x11_24 : Int).toNat))) (fun _ h_ => h_.1))))) (below_size (kB2 HB.out GE242.out GE251.out))); replace HO_8 := As (Kd.R_elder' (by refine kR ?_; exact (Kd.R_mono (Kd.R_far (p := ⟨gb251, 14, none⟩) (Kd.R_types HO_8.out BK251.out (by decide)) (fun _ hk => hk.2) (.string (e14.extract (x10_3 : Int).toNat (x11_24 : Int).toNat))) (fun _ h_ => h_.1))) (Kd.R_base ho0) hb); replace BK242 := As (blk_below (g := gb242) (o := .cells #[.int .i64 e0, .int .i64 e1, .int .i64 e2, .int .i64 e3, .bool e4, .bool e5, .int .i64 e6, .bool e7, .int .u64 e8, .int .u64 e9, .bool e10, .int .u64 e11, .int .u64 e12, .slice A0_13 l0_13.length c0_13, .string e14] 28 (0, 0)) (by refine kb ?_; refine blk_far ?_ NB242_251.out _; exact kb BK242.out) hb); replace BK251 := As (blk_below (g := gb251) (o := .cells #[.int .i64 e0, .int .i64 e1, .int .i64 e2, .int .i64 e3, .bool e4, .bool x252005_32, .int .i64 (wrap64 (e6 + x10_3)), .bool e7, .int .u64 e8, .int .u64 e9, .bool e10, .int .u64 e11, .int .u64 e12, .slice A0_13 l0_13.length c0_13, .string (e14.extract (x10_3 : Int).toNat (x11_24 : Int).toNat)] 28 (0, 0)) (by refine kb ?_; refine blk_put (cs := #[.int .i64 e0, .int .i64 e1, .int .i64 e2, .int .i64 e3, .bool e4, .bool x252005_32, .int .i64 (wrap64 (e6 + x10_3)), .bool e7, .int .u64 e8, .int .u64 e9, .bool e10, .int .u64 e11, .int .u64 e12, .slice A0_13 l0_13.length c0_13, .string e14]) ?_ 14 _ rfl; exact kb BK251.out) hb); replace HB := As (below_step (kB2 HB.out GE242.out GE251.out) hb); (try clear hb); (try clear hk); (try clear ho0); obtain ⟨Ao72, co72, eo72⟩ := Kd.R_slice HO254.out; subst eo72; have hcz73_0 := cells_15 BK251.out; have hfz73_0 := fun j_ => blk_frozen BK251.out j_; have hcz74_0 := cells_15 BK242.out; have hfz74_0 := fun j_ => blk_frozen BK242.out j_) | ((with_reducible refine gate_callee (f := 49) rfl ?_); refine goesL_ (some 96) rfl rfl Try.func49 (by kernel_rfl) rfl #[.slice A0_13 l0_13.length c0_13] rfl kA ?_; (with_reducible refine (api_Option_49.calls _ _ l0_13 t255 _ ?side1 ?side2 A50.out).mono ?_); (case side1 => exact Kd.C_below HR0_13.out (kB2 HB.out GE242.out GE251.out)); (case side2 => exact HC0_13.out); rintro e w75 ⟨v256, rfl, ho0, hb⟩; refine ⟨_, rfl, ?_⟩; replace HO_9 := As (Kd.S_elder' (by (with_reducible repeat (first | apply Kd.S_alloc | apply Kd.S_drewN | apply Kd.S_drew)); exact (Kd.S_mono (Kd.S_far (p := ⟨gb251, 13, none⟩) (Kd.S_mono HO_9.out (fun k_ hk => (⟨hk, hk.1.2.2⟩ : _ ∧ k_ ≠ gb251))) (fun _ hk => hk.2) (.slice Ao72 t252.length co72)) (fun _ h_ => h_.1))) (Kd.R_base ho0) hb); have HO257 := As (Kd.R_lower (Kd.R_new' (Kd.R_new' ho0 (Kd.R_lt (by refine kR ?_; exact (Kd.R_mono (Kd.R_far (p := ⟨gb251, 13, none⟩) (Kd.R_types HO_8.out BK251.out (by decide)) (fun _ hk => hk.2) (.slice Ao72 t252.length co72)) (fun _ h_ => h_.1))))) (Kd.R_lt (by refine kR ?_; exact (Kd.R_mono (Kd.R_far (p := ⟨gb251, 13, none⟩) (Kd.R_types HO254.out BK251.out (by decide)) (fun _ hk => hk.2) (.slice Ao72 t252.length co72)) (fun _ h_ => h_.1))))) (below_size (kB2 HB.out GE242.out GE251.out))); replace HO_8 := As (Kd.R_elder' (by refine kR ?_; exact (Kd.R_mono (Kd.R_far (p := ⟨gb251, 13, none⟩) (Kd.R_types HO_8.out BK251.out (by decide)) (fun _ hk => hk.2) (.slice Ao72 t252.length co72)) (fun _ h_ => h_.1))) (Kd.R_base ho0) hb); replace HO254 := As (Kd.R_elder' (by refine kR ?_; exact (Kd.R_mono (Kd.R_far (p := ⟨gb251, 13, none⟩) (Kd.R_types HO254.out BK251.out (by decide)) (fun _ hk => hk.2) (.slice Ao72 t252.length co72)) (fun _ h_ => h_.1))) (Kd.R_base ho0) hb); replace BK242 := As (blk_below (g := gb242) (o := .cells #[.int .i64 e0, .int .i64 e1, .int .i64 e2, .int .i64 e3, .bool e4, .bool e5, .int .i64 e6, .bool e7, .int .u64 e8, .int .u64 e9, .bool e10, .int .u64 e11, .int .u64 e12, .slice A0_13 l0_13.length c0_13, .string e14] 28 (0, 0)) (by refine kb ?_; refine blk_far ?_ NB242_251.out _; exact kb BK242.out) hb); replace BK251 := As (blk_below (g := gb251) (o := .cells #[.int .i64 e0, .int .i64 e1, .int .i64 e2, .int .i64 e3, .bool e4, .bool x252005_32, .int .i64 (wrap64 (e6 + x10_3)), .bool e7, .int .u64 e8, .int .u64 e9, .bool e10, .int .u64 e11, .int .u64 e12, .slice Ao72 t252.length co72, .string (e14.extract (x10_3 : Int).toNat (x11_24 : Int).toNat)] 28 (0, 0)) (by refine kb ?_; refine blk_put (cs := #[.int .i64 e0, .int .i64 e1, .int .i64 e2, .int .i64 e3, .bool e4, .bool x252005_32, .int .i64 (wrap64 (e6 + x10_3)), .bool e7, .int .u64 e8, .int .u64 e9, .bool e10, .int .u64 e11, .int .u64 e12, .slice A0_13 l0_13.length c0_13, .string (e14.extract (x10_3 : Int).toNat (x11_24 : Int).toNat)]) ?_ 13 _ rfl; exact kb BK251.out) hb); replace HB := As (below_step (kB2 HB.out GE242.out GE251.out) hb); (try clear hb); (try clear hk); (try clear ho0); obtain ⟨Ao76, co76, eo76⟩ := Kd.R_slice HO257.out; subst eo76; have hcz77_0 := cells_15 BK251.out; have hfz77_0 := fun j_ => blk_frozen BK251.out j_) | ((with_reducible refine gate_store (t := 26) (p := 97) rfl ?_); refine store_event (t := 26) (p := 97) (v := ?vo_w78) (w1 := (w75.setCell ⟨gb251, 13, none⟩ (.slice Ao76 t255.length co76))) ?hg ?ho ?hn ?hr ?_; (case ho => rfl); (case hg => rfl); (case hn => rfl); (case hr => first | (go_simp; done) | (go_simp; rfl)); intro w78 hw; have n0_ : Aside0 (Kd.R k50 50 w78 w.heap.size (fun k_ => some k_ ≠ (.slice Ao72 t252.length co72 : Value).ownBlock ∧ some k_ ≠ (.slice Ao76 t255.length co76 : Value).ownBlock) (.slice Ao70 t248.length co70) t248) := ⟨(by rw [hw]; exact (by (with_reducible repeat (first | apply Kd.R_alloc | apply Kd.R_drewN | apply Kd.R_drew)); exact Kd.R_mono (Kd.R_far (p := ⟨gb251, 13, none⟩) (Kd.R_types HO_8.out BK251.out (by decide)) (fun _ hk => hk.2) (.slice Ao76 t255.length co76)) (fun _ hk => ⟨hk.1.1.2, hk.1.2⟩)))⟩; have n1_ : Aside0 (Kd.S k28 28 w78 w.heap.size (fun k_ => some k_ ≠ (.slice Ao70 t248.length co70 : Value).ownBlock ∧ some k_ ≠ (.slice Ao72 t252.length co72 : Value).ownBlock ∧ some k_ ≠ (.slice Ao76 t255.length co76 : Value).ownBlock ∧ k_ ≠ gb242 ∧ k_ ≠ gb251) u9 x9_3) := ⟨(by rw [hw]; exact (by (with_reducible repeat (first | apply Kd.S_alloc | apply Kd.S_drewN | apply Kd.S_drew)); exact Kd.S_mono (Kd.S_far (p := ⟨gb251, 13, none⟩) (Kd.S_mono HO_9.out (fun k_ hk => (⟨hk, hk.1.1.2.2⟩ : _ ∧ k_ ≠ gb251))) (fun _ hk => hk.2) (.slice Ao76 t255.length co76)) (fun _ hk => ⟨hk.1.1.1.1, ⟨hk.1.1.2, ⟨hk.1.2, ⟨hk.1.1.1.2.1, hk.1.1.1.2.2⟩⟩⟩⟩)))⟩; have n2_ : Aside0 (Kd.R k50 50 w78 w.heap.size (fun k_ => some k_ ≠ (.slice Ao70 t248.length co70 : Value).ownBlock ∧ some k_ ≠ (.slice Ao76 t255.length co76 : Value).ownBlock) (.slice Ao72 t252.length co72) t252) := ⟨(by rw [hw]; exact (by (with_reducible repeat (first | apply Kd.R_alloc | apply Kd.R_drewN | apply Kd.R_drew)); exact Kd.R_mono (Kd.R_far (p := ⟨gb251, 13, none⟩) (Kd.R_types HO254.out BK251.out (by decide)) (fun _ hk => hk.2) (.slice Ao76 t255.length co76)) (fun _ hk => ⟨hk.1.1.2, hk.1.2⟩)))⟩; have n3_ : Aside0 (Kd.R k50 50 w78 w.heap.size (fun k_ => some k_ ≠ (.slice Ao70 t248.length co70 : Value).ownBlock ∧ some k_ ≠ (.slice Ao72 t252.length co72 : Value).ownBlock) (.slice Ao76 t255.length co76) t255) := ⟨(by rw [hw]; exact (by (with_reducible repeat (first | apply Kd.R_alloc | apply Kd.R_drewN | apply Kd.R_drew)); exact Kd.R_mono (Kd.R_far (p := ⟨gb251, 13, none⟩) (Kd.R_types HO257.out BK251.out (by decide)) (fun _ hk => hk.2) (.slice Ao76 t255.length co76)) (fun _ hk => ⟨hk.1.1.2, hk.1.2⟩)))⟩; have n4_ : Aside0 (w78.heap[gb242]? = some (.cells #[.int .i64 e0, .int .i64 e1, .int .i64 e2, .int .i64 e3, .bool e4, .bool e5, .int .i64 e6, .bool e7, .int .u64 e8, .int .u64 e9, .bool e10, .int .u64 e11, .int .u64 e12, .slice A0_13 l0_13.length c0_13, .string e14] 28 (0, 0))) := ⟨(by rw [hw]; exact (by refine kb ?_; refine blk_far ?_ NB242_251.out _; exact kb BK242.out))⟩; have n5_ : Aside0 (w78.heap[gb251]? = some (.cells #[.int .i64 e0, .int .i64 e1, .int .i64 e2, .int .i64 e3, .bool e4, .bool x252005_32, .int .i64 (wrap64 (e6 + x10_3)), .bool e7, .int .u64 e8, .int .u64 e9, .bool e10, .int .u64 e11, .int .u64 e12, .slice Ao76 t255.length co76, .string (e14.extract (x10_3 : Int).toNat (x11_24 : Int).toNat)] 28 (0, 0))) := ⟨(by rw [hw]; exact (by refine kb ?_; refine blk_put (cs := #[.int .i64 e0, .int .i64 e1, .int .i64 e2, .int .i64 e3, .bool e4, .bool x252005_32, .int .i64 (wrap64 (e6 + x10_3)), .bool e7, .int .u64 e8, .int .u64 e9, .bool e10, .int .u64 e11, .int .u64 e12, .slice Ao72 t252.length co72, .string (e14.extract (x10_3 : Int).toNat (x11_24 : Int).toNat)]) ?_ 13 _ rfl; exact kb BK251.out))⟩; have n6_ : Aside0 (Below w.heap.size w w78) := ⟨(by rw [hw]; exact (kB2 HB.out GE242.out GE251.out))⟩; clear hw; clear HO_8; clear HO_9; clear HO254; clear HO257; clear BK242; clear BK251; clear HB; have HO_8 := n0_; have HO_9 := n1_; have HO254 := n2_; have HO257 := n3_; have BK242 := n4_; have BK251 := n5_; have HB := n6_; clear n0_ n1_ n2_ n3_ n4_ n5_ n6_) | ((with_reducible refine gate_dst (N := 99) rfl ?_); (try (refine gate_guard (by rfl) ?_; dsimp only)); refine wpList_load_row rfl 28 _ rfl gb251 rfl 28 _ (0, 0) _ (kb BK251.out) Try.underlying28 rfl (by kernel_rfl) ?_) | ((with_reducible refine gate_builtin (b := .append) (xs := #[.tmp 98, .tmp 100]) rfl ?_); (try (refine gate_guard (by rfl) ?_; dsimp only)); at_builtin; refine Kd.S_append k28 (w0 := w) w.heap.size rfl (.tmp 98) (.tmp 100) 40 28 (.agg #[(.int .i64 0), (.int .i64 0), (.int .i64 0), (.int .i64 0), (.bool false), (.bool false), (.int .i64 0), (.bool false), (.int .u64 0), (.int .u64 0), (.bool false), (.int .u64 0), (.int .u64 0), (.slice none 0 0), (.string ⟨#[]⟩)]) 136 rfl Try.underlying40 info28 rfl (by decide) (by omega) u9 x9_3 (⟨e0, e1, e2, e3, e4, x252005_32, (wrap64 (e6 + x10_3)), (⟨e7, e8, e9⟩ : S25), (⟨e10, e11, e12⟩ : S25), t255, e14.extract (x10_3 : Int).toNat (x11_24 : Int).toNat⟩ : S28) [.int .i64 e0, .int .i64 e1, .int .i64 e2, .int .i64 e3, .bool e4, .bool x252005_32, .int .i64 (wrap64 (e6 + x10_3)), .bool e7, .int .u64 e8, .int .u64 e9, .bool e10, .int .u64 e11, .int .u64 e12, .slice Ao76 t255.length co76, .string (e14.extract (x10_3 : Int).toNat (x11_24 : Int).toNat)] (fun k_ => some k_ ≠ (.slice Ao70 t248.length co70 : Value).ownBlock ∧ some k_ ≠ (.slice Ao72 t252.length co72 : Value).ownBlock ∧ k_ ≠ gb242 ∧ k_ ≠ gb251) (fun k_ => some k_ = (.slice Ao76 t255.length co76 : Value).ownBlock) rfl rfl ?aP (fun k_ hk_ => ((Kd.R_mono (ok' := fun k_ => ((fun k_ => some k_ ≠ (.slice Ao70 t248.length co70 : Value).ownBlock ∧ some k_ ≠ (.slice Ao72 t252.length co72 : Value).ownBlock ∧ k_ ≠ gb242 ∧ k_ ≠ gb251)) k_ ∧ some k_ ≠ (u9 : Value).ownBlock) (Kd.R_types (Kd.R_types (Kd.R_apart' (HO257.out) (Kd.S_typed HO_9.out) (by decide)) BK242.out (by decide)) BK251.out (by decide)) (fun k_ hk => ⟨⟨hk.1.1.1.1, ⟨hk.1.1.1.2, ⟨hk.1.2, hk.2⟩⟩⟩, hk.1.1.2⟩))).1 k_ hk_.symm) ?aF ?aO ?aB ?aS ?aL ?_; (case aP => exact k28_mkM _ _ _ (⟨e0, e1, e2, e3, e4, x252005_32, (wrap64 (e6 + x10_3)), (⟨e7, e8, e9⟩ : S25), (⟨e10, e11, e12⟩ : S25), t255, e14.extract (x10_3 : Int).toNat (x11_24 : Int).toNat⟩ : S28) (Kd.R_mono (Kd.R_tight rfl (Kd.R_mono (ok' := fun k_ => ((fun k_ => some k_ ≠ (.slice Ao70 t248.length co70 : Value).ownBlock ∧ some k_ ≠ (.slice Ao72 t252.length co72 : Value).ownBlock ∧ k_ ≠ gb242 ∧ k_ ≠ gb251)) k_ ∧ some k_ ≠ (u9 : Value).ownBlock) (Kd.R_types (Kd.R_types (Kd.R_apart' (HO257.out) (Kd.S_typed HO_9.out) (by decide)) BK242.out (by decide)) BK251.out (by decide)) (fun k_ hk => ⟨⟨hk.1.1.1.1, ⟨hk.1.1.1.2, ⟨hk.1.2, hk.2⟩⟩⟩, hk.1.1.2⟩))) (fun _ h_ => h_))); (case aB => exact (kB2 HB.out GE242.out GE251.out)); (case aF => exact (fun k_ hk => ⟨Kd.fresh' (Kd.R_lt (kR HO_8.out)) k_ hk, Kd.fresh' (Kd.R_lt (kR HO254.out)) k_ hk, Kd.freshB (kb BK242.out) k_ hk, Kd.freshB (kb BK251.out) k_ hk⟩)); (case aO => exact (by (with_reducible repeat (first | apply Kd.S_alloc | apply Kd.S_drewN | apply Kd.S_drew)); exact Kd.S_mono HO_9.out (fun k_ hk => ⟨⟨hk.1, ⟨hk.2.1, ⟨hk.2.2.2.1, hk.2.2.2.2⟩⟩⟩, fun e_ => hk.2.2.1 e_⟩))); (case aS => exact (below_size (kB2 HB.out GE242.out GE251.out))); (case aL => have := LMc51.out; omega); intro v259 w79 ho hb hg hat; rw [← Ny258.out] at ho; replace HO_8 := As (Kd.R_over' (kR HO_8.out) (Kd.S_typed (by (with_reducible repeat (first | apply Kd.S_alloc | apply Kd.S_drewN | apply Kd.S_drew)); exact HO_9.out)) (by decide) hg); replace BK242 := As (blk_grown (kb BK242.out) hg (Kd.S_away HO_9.out (fun _ hk => hk.2.2.2.1))); replace BK251 := As (blk_grown (kb BK251.out) hg (Kd.S_away HO_9.out (fun _ hk => hk.2.2.2.2))); replace HO254 := As (Kd.R_over' (kR HO254.out) (Kd.S_typed (by (with_reducible repeat (first | apply Kd.S_alloc | apply Kd.S_drewN | apply Kd.S_drew)); exact HO_9.out)) (by decide) hg); replace HB := As (hb); have HO260 := As (ho); clear HO_9 HO257; clear ho hb hg hat; have hcz80_0 := cells_15 BK242.out; have hfz80_0 := fun j_ => blk_frozen BK242.out j_))
          go_roundg kj32
          case measure => have := HJ2.out; have := HJ8.out; have := HK3.out; have := HJ20.out; have := HJ24.out; have := HJ32.out; omega
          case rel => exact ⟨(y258), (wrap64 (x10_3 + a1)), kS, H', ⟨by have := HJ2.out; have := HJ8.out; have := HK3.out; have := HJ20.out; have := HJ24.out; have := HJ32.out; omega⟩, ⟨by (with_reducible repeat (first | apply Kd.R_alloc | apply Kd.R_drewN | apply Kd.R_drew)); exact Kd.R_mono HO_8.out (fun _ hk => trivial)⟩, ⟨by (with_reducible repeat (first | apply Kd.S_alloc | apply Kd.S_drewN | apply Kd.S_drew)); exact Kd.S_mono HO260.out (fun _ hk => ⟨hk.1, hk.2.2.1⟩)⟩, ⟨kb BK242.out⟩, ⟨kB2 HB.out GE242.out GE251.out⟩⟩
         rw [if_neg c49] at H
         have c49b0 : (x10_3 == 0) = false := beq_eq_false_iff_ne.mpr c49
         have c49b1 : (x10_3 != 0) = true := bne_iff_ne.mpr c49
         replace H := iS H
         obtain ⟨c81, H⟩ := H
         have LMc81 := As c81
         clear c81
         obtain ⟨y261, hy261⟩ : ∃ y_ : List (S28), y_ = (x9_3 ++ [(⟨e0, e1, e2, e3, e4, x252005_32, (wrap64 (e6 + x10_3)), (⟨e7, e8, e9⟩ : S25), (⟨e10, e11, e12⟩ : S25), t252, e14.extract (x10_3 : Int).toNat (x11_24 : Int).toNat⟩ : S28)]) := ⟨_, rfl⟩
         replace H : (if x11_24 = (e14.size : Int) then (some (y261, 0)) else (ipv4_Split.l0 kj32 a1 t248 y261 (wrap64 (x10_3 + a1)) e0 e1 e2 e3 e4 e5 e6 e7 e8 e9 e10 e11 e12 l0_13 e14)) = some (r1, r2) := by first | (rw [hy261]; with_reducible exact H) | (have H2_ := (Option.bind_some _ _).symm.trans H; rw [hy261]; with_reducible exact H2_) | (have H2_ := (Option.bind_some _ _).symm.trans H; with_reducible exact H2_) | with_reducible exact H | (rw [hy261]; exact H) | exact H
         have Ny261 := As hy261
         clear hy261
         by_cases c82 : x11_24 = (e14.size : Int)
         ·rw [if_pos c82] at H
          have c82b0 : (x11_24 == (e14.size : Int)) = true := beq_iff_eq.mpr c82
          have c82b1 : (x11_24 != (e14.size : Int)) = false := bne_eq_false_iff_eq.mpr c82
          clear c82
          simp only [Option.some.injEq, Prod.mk.injEq] at H
          obtain ⟨rfl, rfl⟩ := H
          have hnb83 := NB242_251.out
          have hnc83 := NB251_242.out
          have hcz84_0 := cells_15 BK242.out
          have hfz84_0 := fun j_ => blk_frozen BK242.out j_
          have hcz85_0 := cells_15 BK251.out
          have hfz85_0 := fun j_ => blk_frozen BK251.out j_
          obtain ⟨Ao86, co86, eo86⟩ := Kd.R_slice HO_8.out
          subst eo86
          go_wp2_with (first | ((with_reducible refine gate_callee (f := 49) rfl ?_); refine goesL_ (some 90) rfl rfl Try.func49 (by kernel_rfl) rfl #[.slice Ao86 t248.length co86] rfl kA ?_; (with_reducible refine (api_Option_49.calls _ _ t248 t252 _ ?side1 ?side2 A48.out).mono ?_); (case side1 => refine (Kd.R_reads' (e := 50) (base := w.heap.size) (ok := fun k_ => True) (n := t248.length) (c := co86) ?_).2.2; exact (by refine kR ?_; exact (Kd.R_mono (Kd.R_far (p := ⟨gb251, 14, none⟩) (Kd.R_types HO_8.out BK251.out (by decide)) (fun _ hk => hk.2) (.string (e14.extract (x10_3 : Int).toNat (x11_24 : Int).toNat))) (fun _ h_ => h_.1)))); (case side2 => exact (Kd.R_reads' HO_8.out).2.1); rintro e w87 ⟨v253, rfl, ho0, hb⟩; refine ⟨_, rfl, ?_⟩; replace HO_9 := As (Kd.S_elder' (by (with_reducible repeat (first | apply Kd.S_alloc | apply Kd.S_drewN | apply Kd.S_drew)); exact (Kd.S_mono (Kd.S_far (p := ⟨gb251, 14, none⟩) (Kd.S_mono HO_9.out (fun k_ hk => (⟨hk, hk.2.2⟩ : _ ∧ k_ ≠ gb251))) (fun _ hk => hk.2) (.string (e14.extract (x10_3 : Int).toNat (x11_24 : Int).toNat))) (fun _ h_ => h_.1))) (Kd.R_base ho0) hb); have HO254 := As (Kd.R_lower (Kd.R_new' ho0 (Kd.R_lt (by refine kR ?_; exact (Kd.R_mono (Kd.R_far (p := ⟨gb251, 14, none⟩) (Kd.R_types HO_8.out BK251.out (by decide)) (fun _ hk => hk.2) (.string (e14.extract (x10_3 : Int).toNat (x11_24 : Int).toNat))) (fun _ h_ => h_.1))))) (below_size (kB2 HB.out GE242.out GE251.out))); replace HO_8 := As (Kd.R_elder' (by refine kR ?_; exact (Kd.R_mono (Kd.R_far (p := ⟨gb251, 14, none⟩) (Kd.R_types HO_8.out BK251.out (by decide)) (fun _ hk => hk.2) (.string (e14.extract (x10_3 : Int).toNat (x11_24 : Int).toNat))) (fun _ h_ => h_.1))) (Kd.R_base ho0) hb); replace BK242 := As (blk_below (g := gb242) (o := .cells #[.int .i64 e0, .int .i64 e1, .int .i64 e2, .int .i64 e3, .bool e4, .bool e5, .int .i64 e6, .bool e7, .int .u64 e8, .int .u64 e9, .bool e10, .int .u64 e11, .int .u64 e12, .slice A0_13 l0_13.length c0_13, .string e14] 28 (0, 0)) (by refine kb ?_; refine blk_far ?_ NB242_251.out _; exact kb BK242.out) hb); replace BK251 := As (blk_below (g := gb251) (o := .cells #[.int .i64 e0, .int .i64 e1, .int .i64 e2, .int .i64 e3, .bool e4, .bool x252005_32, .int .i64 (wrap64 (e6 + x10_3)), .bool e7, .int .u64 e8, .int .u64 e9, .bool e10, .int .u64 e11, .int .u64 e12, .slice A0_13 l0_13.length c0_13, .string (e14.extract (x10_3 : Int).toNat (x11_24 : Int).toNat)] 28 (0, 0)) (by refine kb ?_; refine blk_put (cs := #[.int .i64 e0, .int .i64 e1, .int .i64 e2, .int .i64 e3, .bool e4, .bool x252005_32, .int .i64 (wrap64 (e6 + x10_3)), .bool e7, .int .u64 e8, .int .u64 e9, .bool e10, .int .u64 e11, .int .u64 e12, .slice A0_13 l0_13.length c0_13, .string e14]) ?_ 14 _ rfl; exact kb BK251.out) hb); replace HB := As (below_step (kB2 HB.out GE242.out GE251.out) hb); (try clear hb); (try clear hk); (try clear ho0); obtain ⟨Ao88, co88, eo88⟩ := Kd.R_slice HO254.out; subst eo88; have hcz89_0 := cells_15 BK251.out; have hfz89_0 := fun j_ => blk_frozen BK251.out j_) | ((with_reducible refine gate_store (t := 26) (p := 91) rfl ?_); refine store_event (t := 26) (p := 91) (v := ?vo_w90) (w1 := (w87.setCell ⟨gb251, 13, none⟩ (.slice Ao88 t252.length co88))) ?hg ?ho ?hn ?hr ?_; (case ho => rfl); (case hg => rfl); (case hn => rfl); (case hr => first | (go_simp; done) | (go_simp; rfl)); intro w90 hw; have n0_ : Aside0 (Kd.R k50 50 w90 w.heap.size (fun k_ => some k_ ≠ (.slice Ao88 t252.length co88 : Value).ownBlock) (.slice Ao86 t248.length co86) t248) := ⟨(by rw [hw]; exact (by (with_reducible repeat (first | apply Kd.R_alloc | apply Kd.R_drewN | apply Kd.R_drew)); exact Kd.R_mono (Kd.R_far (p := ⟨gb251, 13, none⟩) (Kd.R_types HO_8.out BK251.out (by decide)) (fun _ hk => hk.2) (.slice Ao88 t252.length co88)) (fun _ hk => hk.1.2)))⟩; have n1_ : Aside0 (Kd.S k28 28 w90 w.heap.size (fun k_ => some k_ ≠ (.slice Ao86 t248.length co86 : Value).ownBlock ∧ some k_ ≠ (.slice Ao88 t252.length co88 : Value).ownBlock ∧ k_ ≠ gb242 ∧ k_ ≠ gb251) u9 x9_3) := ⟨(by rw [hw]; exact (by (with_reducible repeat (first | apply Kd.S_alloc | apply Kd.S_drewN | apply Kd.S_drew)); exact Kd.S_mono (Kd.S_far (p := ⟨gb251, 13, none⟩) (Kd.S_mono HO_9.out (fun k_ hk => (⟨hk, hk.1.2.2⟩ : _ ∧ k_ ≠ gb251))) (fun _ hk => hk.2) (.slice Ao88 t252.length co88)) (fun _ hk => ⟨hk.1.1.1, ⟨hk.1.2, ⟨hk.1.1.2.1, hk.1.1.2.2⟩⟩⟩)))⟩; have n2_ : Aside0 (Kd.R k50 50 w90 w.heap.size (fun k_ => some k_ ≠ (.slice Ao86 t248.length co86 : Value).ownBlock) (.slice Ao88 t252.length co88) t252) := ⟨(by rw [hw]; exact (by (with_reducible repeat (first | apply Kd.R_alloc | apply Kd.R_drewN | apply Kd.R_drew)); exact Kd.R_mono (Kd.R_far (p := ⟨gb251, 13, none⟩) (Kd.R_types HO254.out BK251.out (by decide)) (fun _ hk => hk.2) (.slice Ao88 t252.length co88)) (fun _ hk => hk.1.2)))⟩; have n3_ : Aside0 (w90.heap[gb242]? = some (.cells #[.int .i64 e0, .int .i64 e1, .int .i64 e2, .int .i64 e3, .bool e4, .bool e5, .int .i64 e6, .bool e7, .int .u64 e8, .int .u64 e9, .bool e10, .int .u64 e11, .int .u64 e12, .slice A0_13 l0_13.length c0_13, .string e14] 28 (0, 0))) := ⟨(by rw [hw]; exact (by refine kb ?_; refine blk_far ?_ NB242_251.out _; exact kb BK242.out))⟩; have n4_ : Aside0 (w90.heap[gb251]? = some (.cells #[.int .i64 e0, .int .i64 e1, .int .i64 e2, .int .i64 e3, .bool e4, .bool x252005_32, .int .i64 (wrap64 (e6 + x10_3)), .bool e7, .int .u64 e8, .int .u64 e9, .bool e10, .int .u64 e11, .int .u64 e12, .slice Ao88 t252.length co88, .string (e14.extract (x10_3 : Int).toNat (x11_24 : Int).toNat)] 28 (0, 0))) := ⟨(by rw [hw]; exact (by refine kb ?_; refine blk_put (cs := #[.int .i64 e0, .int .i64 e1, .int .i64 e2, .int .i64 e3, .bool e4, .bool x252005_32, .int .i64 (wrap64 (e6 + x10_3)), .bool e7, .int .u64 e8, .int .u64 e9, .bool e10, .int .u64 e11, .int .u64 e12, .slice A0_13 l0_13.length c0_13, .string (e14.extract (x10_3 : Int).toNat (x11_24 : Int).toNat)]) ?_ 13 _ rfl; exact kb BK251.out))⟩; have n5_ : Aside0 (Below w.heap.size w w90) := ⟨(by rw [hw]; exact (kB2 HB.out GE242.out GE251.out))⟩; clear hw; clear HO_8; clear HO_9; clear HO254; clear BK242; clear BK251; clear HB; have HO_8 := n0_; have HO_9 := n1_; have HO254 := n2_; have BK242 := n3_; have BK251 := n4_; have HB := n5_; clear n0_ n1_ n2_ n3_ n4_ n5_) | ((with_reducible refine gate_dst (N := 99) rfl ?_); (try (refine gate_guard (by rfl) ?_; dsimp only)); refine wpList_load_row rfl 28 _ rfl gb251 rfl 28 _ (0, 0) _ (kb BK251.out) Try.underlying28 rfl (by kernel_rfl) ?_) | ((with_reducible refine gate_builtin (b := .append) (xs := #[.tmp 98, .tmp 100]) rfl ?_); (try (refine gate_guard (by rfl) ?_; dsimp only)); at_builtin; refine Kd.S_append k28 (w0 := w) w.heap.size rfl (.tmp 98) (.tmp 100) 40 28 (.agg #[(.int .i64 0), (.int .i64 0), (.int .i64 0), (.int .i64 0), (.bool false), (.bool false), (.int .i64 0), (.bool false), (.int .u64 0), (.int .u64 0), (.bool false), (.int .u64 0), (.int .u64 0), (.slice none 0 0), (.string ⟨#[]⟩)]) 136 rfl Try.underlying40 info28 rfl (by decide) (by omega) u9 x9_3 (⟨e0, e1, e2, e3, e4, x252005_32, (wrap64 (e6 + x10_3)), (⟨e7, e8, e9⟩ : S25), (⟨e10, e11, e12⟩ : S25), t252, e14.extract (x10_3 : Int).toNat (x11_24 : Int).toNat⟩ : S28) [.int .i64 e0, .int .i64 e1, .int .i64 e2, .int .i64 e3, .bool e4, .bool x252005_32, .int .i64 (wrap64 (e6 + x10_3)), .bool e7, .int .u64 e8, .int .u64 e9, .bool e10, .int .u64 e11, .int .u64 e12, .slice Ao88 t252.length co88, .string (e14.extract (x10_3 : Int).toNat (x11_24 : Int).toNat)] (fun k_ => some k_ ≠ (.slice Ao86 t248.length co86 : Value).ownBlock ∧ k_ ≠ gb242 ∧ k_ ≠ gb251) (fun k_ => some k_ = (.slice Ao88 t252.length co88 : Value).ownBlock) rfl rfl ?aP (fun k_ hk_ => ((Kd.R_mono (ok' := fun k_ => ((fun k_ => some k_ ≠ (.slice Ao86 t248.length co86 : Value).ownBlock ∧ k_ ≠ gb242 ∧ k_ ≠ gb251)) k_ ∧ some k_ ≠ (u9 : Value).ownBlock) (Kd.R_types (Kd.R_types (Kd.R_apart' (HO254.out) (Kd.S_typed HO_9.out) (by decide)) BK242.out (by decide)) BK251.out (by decide)) (fun k_ hk => ⟨⟨hk.1.1.1, ⟨hk.1.2, hk.2⟩⟩, hk.1.1.2⟩))).1 k_ hk_.symm) ?aF ?aO ?aB ?aS ?aL ?_; (case aP => exact k28_mkM _ _ _ (⟨e0, e1, e2, e3, e4, x252005_32, (wrap64 (e6 + x10_3)), (⟨e7, e8, e9⟩ : S25), (⟨e10, e11, e12⟩ : S25), t252, e14.extract (x10_3 : Int).toNat (x11_24 : Int).toNat⟩ : S28) (Kd.R_mono (Kd.R_tight rfl (Kd.R_mono (ok' := fun k_ => ((fun k_ => some k_ ≠ (.slice Ao86 t248.length co86 : Value).ownBlock ∧ k_ ≠ gb242 ∧ k_ ≠ gb251)) k_ ∧ some k_ ≠ (u9 : Value).ownBlock) (Kd.R_types (Kd.R_types (Kd.R_apart' (HO254.out) (Kd.S_typed HO_9.out) (by decide)) BK242.out (by decide)) BK251.out (by decide)) (fun k_ hk => ⟨⟨hk.1.1.1, ⟨hk.1.2, hk.2⟩⟩, hk.1.1.2⟩))) (fun _ h_ => h_))); (case aB => exact (kB2 HB.out GE242.out GE251.out)); (case aF => exact (fun k_ hk => ⟨Kd.fresh' (Kd.R_lt (kR HO_8.out)) k_ hk, Kd.freshB (kb BK242.out) k_ hk, Kd.freshB (kb BK251.out) k_ hk⟩)); (case aO => exact (by (with_reducible repeat (first | apply Kd.S_alloc | apply Kd.S_drewN | apply Kd.S_drew)); exact Kd.S_mono HO_9.out (fun k_ hk => ⟨⟨hk.1, ⟨hk.2.2.1, hk.2.2.2⟩⟩, fun e_ => hk.2.1 e_⟩))); (case aS => exact (below_size (kB2 HB.out GE242.out GE251.out))); (case aL => have := LMc81.out; omega); intro v262 w91 ho hb hg hat; rw [← Ny261.out] at ho; replace HO_8 := As (Kd.R_over' (kR HO_8.out) (Kd.S_typed (by (with_reducible repeat (first | apply Kd.S_alloc | apply Kd.S_drewN | apply Kd.S_drew)); exact HO_9.out)) (by decide) hg); replace BK242 := As (blk_grown (kb BK242.out) hg (Kd.S_away HO_9.out (fun _ hk => hk.2.2.1))); replace BK251 := As (blk_grown (kb BK251.out) hg (Kd.S_away HO_9.out (fun _ hk => hk.2.2.2))); replace HB := As (hb); have HO263 := As (ho); clear HO_9 HO254; clear ho hb hg hat; have hcz92_0 := cells_15 BK242.out; have hfz92_0 := fun j_ => blk_frozen BK242.out j_))
          go_ret2
          exact ⟨_, kE, by (with_reducible repeat (first | apply Kd.S_alloc | apply Kd.S_drewN | apply Kd.S_drew)); exact Kd.S_mono HO263.out (fun _ hk => trivial), by exact kB2 HB.out GE242.out GE251.out⟩
         rw [if_neg c82] at H
         have c82b0 : (x11_24 == (e14.size : Int)) = false := beq_eq_false_iff_ne.mpr c82
         have c82b1 : (x11_24 != (e14.size : Int)) = true := bne_iff_ne.mpr c82
         have H' := As H
         clear H
         have hnb93 := NB242_251.out
         have hnc93 := NB251_242.out
         have hcz94_0 := cells_15 BK242.out
         have hfz94_0 := fun j_ => blk_frozen BK242.out j_
         have hcz95_0 := cells_15 BK251.out
         have hfz95_0 := fun j_ => blk_frozen BK251.out j_
         obtain ⟨Ao96, co96, eo96⟩ := Kd.R_slice HO_8.out
         subst eo96
         go_wp2_with (first | ((with_reducible refine gate_callee (f := 49) rfl ?_); refine goesL_ (some 90) rfl rfl Try.func49 (by kernel_rfl) rfl #[.slice Ao96 t248.length co96] rfl kA ?_; (with_reducible refine (api_Option_49.calls _ _ t248 t252 _ ?side1 ?side2 A48.out).mono ?_); (case side1 => refine (Kd.R_reads' (e := 50) (base := w.heap.size) (ok := fun k_ => True) (n := t248.length) (c := co96) ?_).2.2; exact (by refine kR ?_; exact (Kd.R_mono (Kd.R_far (p := ⟨gb251, 14, none⟩) (Kd.R_types HO_8.out BK251.out (by decide)) (fun _ hk => hk.2) (.string (e14.extract (x10_3 : Int).toNat (x11_24 : Int).toNat))) (fun _ h_ => h_.1)))); (case side2 => exact (Kd.R_reads' HO_8.out).2.1); rintro e w97 ⟨v253, rfl, ho0, hb⟩; refine ⟨_, rfl, ?_⟩; replace HO_9 := As (Kd.S_elder' (by (with_reducible repeat (first | apply Kd.S_alloc | apply Kd.S_drewN | apply Kd.S_drew)); exact (Kd.S_mono (Kd.S_far (p := ⟨gb251, 14, none⟩) (Kd.S_mono HO_9.out (fun k_ hk => (⟨hk, hk.2.2⟩ : _ ∧ k_ ≠ gb251))) (fun _ hk => hk.2) (.string (e14.extract (x10_3 : Int).toNat (x11_24 : Int).toNat))) (fun _ h_ => h_.1))) (Kd.R_base ho0) hb); have HO254 := As (Kd.R_lower (Kd.R_new' ho0 (Kd.R_lt (by refine kR ?_; exact (Kd.R_mono (Kd.R_far (p := ⟨gb251, 14, none⟩) (Kd.R_types HO_8.out BK251.out (by decide)) (fun _ hk => hk.2) (.string (e14.extract (x10_3 : Int).toNat (x11_24 : Int).toNat))) (fun _ h_ => h_.1))))) (below_size (kB2 HB.out GE242.out GE251.out))); replace HO_8 := As (Kd.R_elder' (by refine kR ?_; exact (Kd.R_mono (Kd.R_far (p := ⟨gb251, 14, none⟩) (Kd.R_types HO_8.out BK251.out (by decide)) (fun _ hk => hk.2) (.string (e14.extract (x10_3 : Int).toNat (x11_24 : Int).toNat))) (fun _ h_ => h_.1))) (Kd.R_base ho0) hb); replace BK242 := As (blk_below (g := gb242) (o := .cells #[.int .i64 e0, .int .i64 e1, .int .i64 e2, .int .i64 e3, .bool e4, .bool e5, .int .i64 e6, .bool e7, .int .u64 e8, .int .u64 e9, .bool e10, .int .u64 e11, .int .u64 e12, .slice A0_13 l0_13.length c0_13, .string e14] 28 (0, 0)) (by refine kb ?_; refine blk_far ?_ NB242_251.out _; exact kb BK242.out) hb); replace BK251 := As (blk_below (g := gb251) (o := .cells #[.int .i64 e0, .int .i64 e1, .int .i64 e2, .int .i64 e3, .bool e4, .bool x252005_32, .int .i64 (wrap64 (e6 + x10_3)), .bool e7, .int .u64 e8, .int .u64 e9, .bool e10, .int .u64 e11, .int .u64 e12, .slice A0_13 l0_13.length c0_13, .string (e14.extract (x10_3 : Int).toNat (x11_24 : Int).toNat)] 28 (0, 0)) (by refine kb ?_; refine blk_put (cs := #[.int .i64 e0, .int .i64 e1, .int .i64 e2, .int .i64 e3, .bool e4, .bool x252005_32, .int .i64 (wrap64 (e6 + x10_3)), .bool e7, .int .u64 e8, .int .u64 e9, .bool e10, .int .u64 e11, .int .u64 e12, .slice A0_13 l0_13.length c0_13, .string e14]) ?_ 14 _ rfl; exact kb BK251.out) hb); replace HB := As (below_step (kB2 HB.out GE242.out GE251.out) hb); (try clear hb); (try clear hk); (try clear ho0); obtain ⟨Ao98, co98, eo98⟩ := Kd.R_slice HO254.out; subst eo98; have hcz99_0 := cells_15 BK251.out; have hfz99_0 := fun j_ => blk_frozen BK251.out j_) | ((with_reducible refine gate_store (t := 26) (p := 91) rfl ?_); refine store_event (t := 26) (p := 91) (v := ?vo_w100) (w1 := (w97.setCell ⟨gb251, 13, none⟩ (.slice Ao98 t252.length co98))) ?hg ?ho ?hn ?hr ?_; (case ho => rfl); (case hg => rfl); (case hn => rfl); (case hr => first | (go_simp; done) | (go_simp; rfl)); intro w100 hw; have n0_ : Aside0 (Kd.R k50 50 w100 w.heap.size (fun k_ => some k_ ≠ (.slice Ao98 t252.length co98 : Value).ownBlock) (.slice Ao96 t248.length co96) t248) := ⟨(by rw [hw]; exact (by (with_reducible repeat (first | apply Kd.R_alloc | apply Kd.R_drewN | apply Kd.R_drew)); exact Kd.R_mono (Kd.R_far (p := ⟨gb251, 13, none⟩) (Kd.R_types HO_8.out BK251.out (by decide)) (fun _ hk => hk.2) (.slice Ao98 t252.length co98)) (fun _ hk => hk.1.2)))⟩; have n1_ : Aside0 (Kd.S k28 28 w100 w.heap.size (fun k_ => some k_ ≠ (.slice Ao96 t248.length co96 : Value).ownBlock ∧ some k_ ≠ (.slice Ao98 t252.length co98 : Value).ownBlock ∧ k_ ≠ gb242 ∧ k_ ≠ gb251) u9 x9_3) := ⟨(by rw [hw]; exact (by (with_reducible repeat (first | apply Kd.S_alloc | apply Kd.S_drewN | apply Kd.S_drew)); exact Kd.S_mono (Kd.S_far (p := ⟨gb251, 13, none⟩) (Kd.S_mono HO_9.out (fun k_ hk => (⟨hk, hk.1.2.2⟩ : _ ∧ k_ ≠ gb251))) (fun _ hk => hk.2) (.slice Ao98 t252.length co98)) (fun _ hk => ⟨hk.1.1.1, ⟨hk.1.2, ⟨hk.1.1.2.1, hk.1.1.2.2⟩⟩⟩)))⟩; have n2_ : Aside0 (Kd.R k50 50 w100 w.heap.size (fun k_ => some k_ ≠ (.slice Ao96 t248.length co96 : Value).ownBlock) (.slice Ao98 t252.length co98) t252) := ⟨(by rw [hw]; exact (by (with_reducible repeat (first | apply Kd.R_alloc | apply Kd.R_drewN | apply Kd.R_drew)); exact Kd.R_mono (Kd.R_far (p := ⟨gb251, 13, none⟩) (Kd.R_types HO254.out BK251.out (by decide)) (fun _ hk => hk.2) (.slice Ao98 t252.length co98)) (fun _ hk => hk.1.2)))⟩; have n3_ : Aside0 (w100.heap[gb242]? = some (.cells #[.int .i64 e0, .int .i64 e1, .int .i64 e2, .int .i64 e3, .bool e4, .bool e5, .int .i64 e6, .bool e7, .int .u64 e8, .int .u64 e9, .bool e10, .int .u64 e11, .int .u64 e12, .slice A0_13 l0_13.length c0_13, .string e14] 28 (0, 0))) := ⟨(by rw [hw]; exact (by refine kb ?_; refine blk_far ?_ NB242_251.out _; exact kb BK242.out))⟩; have n4_ : Aside0 (w100.heap[gb251]? = some (.cells #[.int .i64 e0, .int .i64 e1, .int .i64 e2, .int .i64 e3, .bool e4, .bool x252005_32, .int .i64 (wrap64 (e6 + x10_3)), .bool e7, .int .u64 e8, .int .u64 e9, .bool e10, .int .u64 e11, .int .u64 e12, .slice Ao98 t252.length co98, .string (e14.extract (x10_3 : Int).toNat (x11_24 : Int).toNat)] 28 (0, 0))) := ⟨(by rw [hw]; exact (by refine kb ?_; refine blk_put (cs := #[.int .i64 e0, .int .i64 e1, .int .i64 e2, .int .i64 e3, .bool e4, .bool x252005_32, .int .i64 (wrap64 (e6 + x10_3)), .bool e7, .int .u64 e8, .int .u64 e9, .bool e10, .int .u64 e11, .int .u64 e12, .slice A0_13 l0_13.length c0_13, .string (e14.extract (x10_3 : Int).toNat (x11_24 : Int).toNat)]) ?_ 13 _ rfl; exact kb BK251.out))⟩; have n5_ : Aside0 (Below w.heap.size w w100) := ⟨(by rw [hw]; exact (kB2 HB.out GE242.out GE251.out))⟩; clear hw; clear HO_8; clear HO_9; clear HO254; clear BK242; clear BK251; clear HB; have HO_8 := n0_; have HO_9 := n1_; have HO254 := n2_; have BK242 := n3_; have BK251 := n4_; have HB := n5_; clear n0_ n1_ n2_ n3_ n4_ n5_) | ((with_reducible refine gate_dst (N := 99) rfl ?_); (try (refine gate_guard (by rfl) ?_; dsimp only)); refine wpList_load_row rfl 28 _ rfl gb251 rfl 28 _ (0, 0) _ (kb BK251.out) Try.underlying28 rfl (by kernel_rfl) ?_) | ((with_reducible refine gate_builtin (b := .append) (xs := #[.tmp 98, .tmp 100]) rfl ?_); (try (refine gate_guard (by rfl) ?_; dsimp only)); at_builtin; refine Kd.S_append k28 (w0 := w) w.heap.size rfl (.tmp 98) (.tmp 100) 40 28 (.agg #[(.int .i64 0), (.int .i64 0), (.int .i64 0), (.int .i64 0), (.bool false), (.bool false), (.int .i64 0), (.bool false), (.int .u64 0), (.int .u64 0), (.bool false), (.int .u64 0), (.int .u64 0), (.slice none 0 0), (.string ⟨#[]⟩)]) 136 rfl Try.underlying40 info28 rfl (by decide) (by omega) u9 x9_3 (⟨e0, e1, e2, e3, e4, x252005_32, (wrap64 (e6 + x10_3)), (⟨e7, e8, e9⟩ : S25), (⟨e10, e11, e12⟩ : S25), t252, e14.extract (x10_3 : Int).toNat (x11_24 : Int).toNat⟩ : S28) [.int .i64 e0, .int .i64 e1, .int .i64 e2, .int .i64 e3, .bool e4, .bool x252005_32, .int .i64 (wrap64 (e6 + x10_3)), .bool e7, .int .u64 e8, .int .u64 e9, .bool e10, .int .u64 e11, .int .u64 e12, .slice Ao98 t252.length co98, .string (e14.extract (x10_3 : Int).toNat (x11_24 : Int).toNat)] (fun k_ => some k_ ≠ (.slice Ao96 t248.length co96 : Value).ownBlock ∧ k_ ≠ gb242 ∧ k_ ≠ gb251) (fun k_ => some k_ = (.slice Ao98 t252.length co98 : Value).ownBlock) rfl rfl ?aP (fun k_ hk_ => ((Kd.R_mono (ok' := fun k_ => ((fun k_ => some k_ ≠ (.slice Ao96 t248.length co96 : Value).ownBlock ∧ k_ ≠ gb242 ∧ k_ ≠ gb251)) k_ ∧ some k_ ≠ (u9 : Value).ownBlock) (Kd.R_types (Kd.R_types (Kd.R_apart' (HO254.out) (Kd.S_typed HO_9.out) (by decide)) BK242.out (by decide)) BK251.out (by decide)) (fun k_ hk => ⟨⟨hk.1.1.1, ⟨hk.1.2, hk.2⟩⟩, hk.1.1.2⟩))).1 k_ hk_.symm) ?aF ?aO ?aB ?aS ?aL ?_; (case aP => exact k28_mkM _ _ _ (⟨e0, e1, e2, e3, e4, x252005_32, (wrap64 (e6 + x10_3)), (⟨e7, e8, e9⟩ : S25), (⟨e10, e11, e12⟩ : S25), t252, e14.extract (x10_3 : Int).toNat (x11_24 : Int).toNat⟩ : S28) (Kd.R_mono (Kd.R_tight rfl (Kd.R_mono (ok' := fun k_ => ((fun k_ => some k_ ≠ (.slice Ao96 t248.length co96 : Value).ownBlock ∧ k_ ≠ gb242 ∧ k_ ≠ gb251)) k_ ∧ some k_ ≠ (u9 : Value).ownBlock) (Kd.R_types (Kd.R_types (Kd.R_apart' (HO254.out) (Kd.S_typed HO_9.out) (by decide)) BK242.out (by decide)) BK251.out (by decide)) (fun k_ hk => ⟨⟨hk.1.1.1, ⟨hk.1.2, hk.2⟩⟩, hk.1.1.2⟩))) (fun _ h_ => h_))); (case aB => exact (kB2 HB.out GE242.out GE251.out)); (case aF => exact (fun k_ hk => ⟨Kd.fresh' (Kd.R_lt (kR HO_8.out)) k_ hk, Kd.freshB (kb BK242.out) k_ hk, Kd.freshB (kb BK251.out) k_ hk⟩)); (case aO => exact (by (with_reducible repeat (first | apply Kd.S_alloc | apply Kd.S_drewN | apply Kd.S_drew)); exact Kd.S_mono HO_9.out (fun k_ hk => ⟨⟨hk.1, ⟨hk.2.2.1, hk.2.2.2⟩⟩, fun e_ => hk.2.1 e_⟩))); (case aS => exact (below_size (kB2 HB.out GE242.out GE251.out))); (case aL => have := LMc81.out; omega); intro v262 w101 ho hb hg hat; rw [← Ny261.out] at ho; replace HO_8 := As (Kd.R_over' (kR HO_8.out) (Kd.S_typed (by (with_reducible repeat (first | apply Kd.S_alloc | apply Kd.S_drewN | apply Kd.S_drew)); exact HO_9.out)) (by decide) hg); replace BK242 := As (blk_grown (kb BK242.out) hg (Kd.S_away HO_9.out (fun _ hk => hk.2.2.1))); replace BK251 := As (blk_grown (kb BK251.out) hg (Kd.S_away HO_9.out (fun _ hk => hk.2.2.2))); replace HB := As (hb); have HO263 := As (ho); clear HO_9 HO254; clear ho hb hg hat; have hcz102_0 := cells_15 BK242.out; have hfz102_0 := fun j_ => blk_frozen BK242.out j_))
         go_roundg kj32
         case measure => have := HJ2.out; have := HJ8.out; have := HK3.out; have := HJ20.out; have := HJ24.out; have := HJ32.out; omega
         case rel => exact ⟨(y261), (wrap64 (x10_3 + a1)), kS, H', ⟨by have := HJ2.out; have := HJ8.out; have := HK3.out; have := HJ20.out; have := HJ24.out; have := HJ32.out; omega⟩, ⟨by (with_reducible repeat (first | apply Kd.R_alloc | apply Kd.R_drewN | apply Kd.R_drew)); exact Kd.R_mono HO_8.out (fun _ hk => trivial)⟩, ⟨by (with_reducible repeat (first | apply Kd.S_alloc | apply Kd.S_drewN | apply Kd.S_drew)); exact Kd.S_mono HO263.out (fun _ hk => ⟨hk.1, hk.2.1⟩)⟩, ⟨kb BK242.out⟩, ⟨kB2 HB.out GE242.out GE251.out⟩⟩
      replace c24 := Bool.eq_false_iff.mpr c24
      subst c24
      rw [if_neg (show ¬ (false = true) by decide)] at H
      simp only [Option.some.injEq, Prod.mk.injEq] at H
      obtain ⟨rfl, rfl⟩ := H
      go_wp2
      go_ret2
      exact ⟨_, kE, by (with_reducible repeat (first | apply Kd.S_alloc | apply Kd.S_drewN | apply Kd.S_drew)); exact Kd.S_mono HO_9.out (fun _ hk => trivial), by exact kB1 HB.out GE242.out⟩
  rw [if_neg c8] at H
  have c8b0 : (t244 == 0) = false := beq_eq_false_iff_ne.mpr c8
  have c8b1 : (t244 != 0) = true := bne_iff_ne.mpr c8
  simp only [Option.some.injEq, Prod.mk.injEq] at H
  obtain ⟨rfl, rfl⟩ := H
  go_wp2_with (first | ((with_reducible refine gate_dst (N := 21) rfl ?_); (try (refine gate_guard (by rfl) ?_; dsimp only)); refine wpList_load_row rfl 28 _ rfl gb242 rfl 28 _ (0, 0) _ (kb BK242.out) Try.underlying28 rfl (by kernel_rfl) ?_) | ((with_reducible refine gate_callee (f := 15) rfl ?_); refine goesL_ (some 22) rfl rfl Try.func15 (by kernel_rfl) rfl #[.agg #[.int .i64 e0, .int .i64 e1, .int .i64 e2, .int .i64 e3, .bool e4, .bool e5, .int .i64 e6, .bool e7, .int .u64 e8, .int .u64 e9, .bool e10, .int .u64 e11, .int .u64 e12, .slice A0_13 l0_13.length c0_13, .string e14]] rfl kA ?_; (with_reducible refine (ipv4_Encode.calls kj2 e0 e1 e2 e3 e4 e5 e6 e7 e8 e9 e10 e11 e12 _ _ l0_13 e14 t243 t244 _ ?side1 ?side2 A7.out).mono ?_); (case side1 => repeat (first | exact (Kd.C_below HR0_13.out HB.out) | (with_reducible refine Kd.C_alloc ?_ _) | (with_reducible refine Kd.C_drewN ?_ _) | (with_reducible refine Kd.C_drew ?_))); (case side2 => exact HC0_13.out); rintro e w103 ⟨rfl, hb⟩; refine ⟨_, rfl, ?_⟩; replace BK242 := As (blk_below (kb BK242.out) hb); replace HB := As (below_step (kB1 HB.out GE242.out) hb); (try clear hb)))
  go_ret2
  exact ⟨_, kE, by first | exact Kd.S_nil _ _ _ _ _ | exact Kd.N_nil _ _ _ _ _ | exact Kd.V_nil _ _ _ _ _ | exact Kd.Q_nil _ _ _ _ _ | exact Kd.R_nil _ _ _ _ _, by exact kB1 HB.out GE242.out⟩

/-! ### intrusionlaw11_example: function 24 -/
def intrusionlaw11_example.f  : Option (Int × Int × Int × Int × Bool × Bool × Int × Bool × Int × Int × Bool × Int × Int × (List (S50)) × ByteArray) := some (0, 0, 64, 17, false, false, 0, false, 0, 167772161, false, 0, 167772162, ([] : List (S50)), (⟨#[97, 98]⟩ : ByteArray))
set_option maxHeartbeats 8000000 in
set_option maxRecDepth 100000 in
theorem intrusionlaw11_example.calls  (r1 : Int) (r2 : Int) (r3 : Int) (r4 : Int) (r5 : Bool) (r6 : Bool) (r7 : Int) (r8 : Bool) (r9 : Int) (r10 : Int) (r11 : Bool) (r12 : Int) (r13 : Int) (r14 : List (S50)) (r15 : ByteArray) (w : World) (h : intrusionlaw11_example.f  = some (r1, r2, r3, r4, r5, r6, r7, r8, r9, r10, r11, r12, r13, r14, r15)) :
  Calls Try.prog 24 #[] w fun e w' => ∃ v13_ : Value, e = .returned (.agg #[.int .i64 r1, .int .i64 r2, .int .i64 r3, .int .i64 r4, .bool r5, .bool r6, .int .i64 r7, .bool r8, .int .u64 r9, .int .u64 r10, .bool r11, .int .u64 r12, .int .u64 r13, v13_, .string r15]) ∧ Kd.R k50 50 w' w.heap.size (fun _ => True) v13_ r14 ∧ Below w.heap.size w w' := by
 have hu28 := Try.underlying28
 have hu25 := Try.underlying25
 have HB := As (Below.refl w.heap.size w)
 have H : (some (0, 0, 64, 17, false, false, 0, false, 0, 167772161, false, 0, 167772162, ([] : List (S50)), (⟨#[97, 98]⟩ : ByteArray))) = some (r1, r2, r3, r4, r5, r6, r7, r8, r9, r10, r11, r12, r13, r14, r15) := h
 clear h
 simp only [Option.some.injEq, Prod.mk.injEq] at H
 obtain ⟨rfl, rfl, rfl, rfl, rfl, rfl, rfl, rfl, rfl, rfl, rfl, rfl, rfl, rfl, rfl⟩ := H
 go_enter Try.func24, Try.ntmps24
 go_wp2_with (first | ((with_reducible refine gate_dst (N := 0) rfl ?_); refine box_event rfl (N := 0) rfl (cs := #[.int .i64 0, .int .i64 0, .int .i64 0, .int .i64 0, .bool false, .bool false, .int .i64 0, .bool false, .int .u64 0, .int .u64 0, .bool false, .int .u64 0, .int .u64 0, .slice none 0 0, .string (⟨#[]⟩ : ByteArray)]) (t := 28) kG ?_; intro gb264 hg w1 hbox hb; have BK264 := As (hbox); have GW264 := As (gS hg (below_size (kB HB.out))); have GE264 := As (gS hg (below_size (kB HB.out))); replace HB := As (below_step (kB HB.out) hb); clear hb hbox hg) | ((with_reducible refine gate_store (t := 28) (p := 0) rfl ?_); refine store_rowev_15 gb264 (.int .i64 0) (.int .i64 0) (.int .i64 64) (.int .i64 17) (.bool false) (.bool false) (.int .i64 0) (.bool false) (.int .u64 0) (.int .u64 167772161) (.bool false) (.int .u64 0) (.int .u64 167772162) (.slice none 0 0) (.string (⟨#[97, 98]⟩ : ByteArray)) rfl (t := 28) (p := 0) (v := _) rfl rfl rfl rfl (t' := 28) (kb BK264.out) (by rfl) (by kernel_rfl) (by rfl) ?_))
 refine bodyPost_ret (results_cell_row rfl _ _ gb264 28 #[.int .i64 0, .int .i64 0, .int .i64 64, .int .i64 17, .bool false, .bool false, .int .i64 0, .bool false, .int .u64 0, .int .u64 167772161, .bool false, .int .u64 0, .int .u64 167772162, .slice none 0 0, .string (⟨#[97, 98]⟩ : ByteArray)] (0, 0) _ rfl (by refine kb ?_; exact blk_all_15 (kb BK264.out) (by rfl)) Try.underlying28 rfl (by kernel_rfl)) rfl ?_
 exact ⟨_, kE, by first | exact Kd.R_nil _ _ _ _ _ | exact Kd.N_nil _ _ _ _ _ | exact Kd.V_nil _ _ _ _ _ | exact Kd.Q_nil _ _ _ _ _ | exact Kd.S_nil _ _ _ _ _, by exact kB1 HB.out GE264.out⟩

end Go.Proofs.Ytobioaommmgehaa.Z
-- short
-- short2
