/-
  Shared, part 2: walks and plain laws; each theorem states its own conditions.
-/
import Derived.Test.YtehfkbaendajbaaGreatDoorB1
import Derived.ProofKit
namespace Go.Proofs.YtehfkbaendajbaaGreatDoor
set_option linter.unusedSimpArgs false
set_option linter.unusedVariables false
set_option maxRecDepth 100000
set_option maxHeartbeats 8000000
section
open Go.RowKit
theorem aiq {n : Nat} [NeZero n] (d x1 y1 x2 y2 x3 y3 : Fin n) : ((x1*y2+x2*y1)*(1-d*x1*x2*y1*y2)*y3+(y1*y2+x1*x2)*(1+d*x1*x2*y1*y2)*x3)*((1+d*x2*x3*y2*y3)*(1-d*x2*x3*y2*y3)+d*(x2*y3+x3*y2)*(y2*y3+x2*x3)*x1*y1)-((x2*y3+x3*y2)*(1-d*x2*x3*y2*y3)*y1+(y2*y3+x2*x3)*(1+d*x2*x3*y2*y3)*x1)*((1+d*x1*x2*y1*y2)*(1-d*x1*x2*y1*y2)+d*(x1*y2+x2*y1)*(y1*y2+x1*x2)*x3*y3) = (-d*y1*x2*y2*y2*y2*y2*x3*x3*y3 - d*y1*x2*x2*y2*y2*y2*x3 - d*y1*x2*x2*y2*y2*y2*x3*x3*x3 - d*y1*x2*x2*x2*y2*y2*y3 + d*y1*x2*x2*x2*y2*y2*y3*y3*y3 + d*y1*x2*x2*x2*x2*y2*x3*y3*y3 + d*x1*x2*y2*y2*y2*y2*x3*y3*y3 - d*x1*x2*x2*y2*y2*y2*y3 + d*x1*x2*x2*y2*y2*y2*y3*y3*y3 - d*x1*x2*x2*x2*y2*y2*x3 - d*x1*x2*x2*x2*y2*y2*x3*x3*x3 - d*x1*x2*x2*x2*x2*y2*x3*x3*y3 + d*d*y1*x2*x2*x2*y2*y2*y2*y2*x3*x3*y3 + d*d*y1*x2*x2*x2*x2*y2*y2*y2*x3*y3*y3 - d*d*x1*x2*x2*x2*y2*y2*y2*y2*x3*y3*y3 - d*d*x1*x2*x2*x2*x2*y2*y2*y2*x3*x3*y3)*(y1*y1 - x1*x1 - (1 + d*x1*x1*y1*y1)) + (y1*y2*x3 - y1*y2*x3*y3*y3 + y1*y2*x3*x3*x3 + y1*x2*y3 - y1*x2*y3*y3*y3 + y1*x2*x3*x3*y3 - y1*y1*y1*y2*x3 + y1*y1*y1*y2*x3*y3*y3 - y1*y1*y1*y2*x3*x3*x3 - y1*y1*y1*x2*y3 + y1*y1*y1*x2*y3*y3*y3 - y1*y1*y1*x2*x3*x3*y3 + x1*y2*y3 - x1*y2*y3*y3*y3 + x1*y2*x3*x3*y3 + x1*x2*x3 - x1*x2*x3*y3*y3 + x1*x2*x3*x3*x3 - x1*y1*y1*y2*y3 + x1*y1*y1*y2*y3*y3*y3 - x1*y1*y1*y2*x3*x3*y3 - x1*y1*y1*x2*x3 + x1*y1*y1*x2*x3*y3*y3 - x1*y1*y1*x2*x3*x3*x3 + x1*x1*y1*y2*x3 - x1*x1*y1*y2*x3*y3*y3 + x1*x1*y1*y2*x3*x3*x3 + x1*x1*y1*x2*y3 - x1*x1*y1*x2*y3*y3*y3 + x1*x1*y1*x2*x3*x3*y3 + x1*x1*x1*y2*y3 - x1*x1*x1*y2*y3*y3*y3 + x1*x1*x1*y2*x3*x3*y3 + x1*x1*x1*x2*x3 - x1*x1*x1*x2*x3*y3*y3 + x1*x1*x1*x2*x3*x3*x3 + d*y1*y2*x3*x3*x3*y3*y3 + d*y1*x2*x3*x3*y3*y3*y3 - d*y1*x2*y2*y2*x3*x3*y3 - d*y1*x2*x2*y2*x3*y3*y3 - d*y1*y1*y1*y2*x3*x3*x3*y3*y3 - d*y1*y1*y1*x2*x3*x3*y3*y3*y3 + d*y1*y1*y1*x2*y2*y2*x3*x3*y3 + d*y1*y1*y1*x2*x2*y2*x3*y3*y3 + d*x1*y2*x3*x3*y3*y3*y3 + d*x1*x2*x3*x3*x3*y3*y3 + d*x1*x2*y2*y2*x3*y3*y3 + d*x1*x2*x2*y2*x3*x3*y3 - d*x1*y1*y1*y2*x3*x3*y3*y3*y3 - d*x1*y1*y1*x2*x3*x3*x3*y3*y3 - d*x1*y1*y1*x2*y2*y2*x3*y3*y3 - d*x1*y1*y1*x2*x2*y2*x3*x3*y3 + d*x1*x1*y1*y2*x3*x3*x3*y3*y3 + d*x1*x1*y1*x2*x3*x3*y3*y3*y3 - d*x1*x1*y1*x2*y2*y2*x3*x3*y3 - d*x1*x1*y1*x2*x2*y2*x3*y3*y3 + d*x1*x1*x1*y2*x3*x3*y3*y3*y3 + d*x1*x1*x1*x2*x3*x3*x3*y3*y3 + d*x1*x1*x1*x2*y2*y2*x3*y3*y3 + d*x1*x1*x1*x2*x2*y2*x3*x3*y3 + d*d*x1*y1*y1*x2*y2*y2*x3*x3*x3*y3*y3 - d*d*x1*y1*y1*x2*x2*y2*x3*x3*y3*y3*y3 - d*d*x1*x1*y1*x2*y2*y2*x3*x3*y3*y3*y3 + d*d*x1*x1*y1*x2*x2*y2*x3*x3*x3*y3*y3)*(y2*y2 - x2*x2 - (1 + d*x2*x2*y2*y2)) + (-y1*y2*x3 + y1*y2*y2*y2*x3 - y1*x2*y3 + y1*x2*y2*y2*y3 - y1*x2*x2*y2*x3 - y1*x2*x2*x2*y3 + y1*y1*y1*y2*x3 - y1*y1*y1*y2*y2*y2*x3 + y1*y1*y1*x2*y3 - y1*y1*y1*x2*y2*y2*y3 + y1*y1*y1*x2*x2*y2*x3 + y1*y1*y1*x2*x2*x2*y3 - x1*y2*y3 + x1*y2*y2*y2*y3 - x1*x2*x3 + x1*x2*y2*y2*x3 - x1*x2*x2*y2*y3 - x1*x2*x2*x2*x3 + x1*y1*y1*y2*y3 - x1*y1*y1*y2*y2*y2*y3 + x1*y1*y1*x2*x3 - x1*y1*y1*x2*y2*y2*x3 + x1*y1*y1*x2*x2*y2*y3 + x1*y1*y1*x2*x2*x2*x3 - x1*x1*y1*y2*x3 + x1*x1*y1*y2*y2*y2*x3 - x1*x1*y1*x2*y3 + x1*x1*y1*x2*y2*y2*y3 - x1*x1*y1*x2*x2*y2*x3 - x1*x1*y1*x2*x2*x2*y3 - x1*x1*x1*y2*y3 + x1*x1*x1*y2*y2*y2*y3 - x1*x1*x1*x2*x3 + x1*x1*x1*x2*y2*y2*x3 - x1*x1*x1*x2*x2*y2*y3 - x1*x1*x1*x2*x2*x2*x3 - d*x1*y1*y1*x2*y2*y2*x3 + d*x1*y1*y1*x2*x2*y2*y3 + d*x1*x1*y1*x2*y2*y2*y3 - d*x1*x1*y1*x2*x2*y2*x3)*(y3*y3 - x3*x3 - (1 + d*x3*x3*y3*y3)) := by grind
theorem air {n : Nat} [NeZero n] (d x1 y1 x2 y2 x3 y3 : Fin n) : ((y1*y2+x1*x2)*(1+d*x1*x2*y1*y2)*y3+(x1*y2+x2*y1)*(1-d*x1*x2*y1*y2)*x3)*((1+d*x2*x3*y2*y3)*(1-d*x2*x3*y2*y3)-d*(x2*y3+x3*y2)*(y2*y3+x2*x3)*x1*y1)-((y2*y3+x2*x3)*(1+d*x2*x3*y2*y3)*y1+(x2*y3+x3*y2)*(1-d*x2*x3*y2*y3)*x1)*((1+d*x1*x2*y1*y2)*(1-d*x1*x2*y1*y2)-d*(x1*y2+x2*y1)*(y1*y2+x1*x2)*x3*y3) = (d*y1*x2*y2*y2*y2*y2*x3*y3*y3 - d*y1*x2*x2*y2*y2*y2*y3 + d*y1*x2*x2*y2*y2*y2*y3*y3*y3 - d*y1*x2*x2*x2*y2*y2*x3 - d*y1*x2*x2*x2*y2*y2*x3*x3*x3 - d*y1*x2*x2*x2*x2*y2*x3*x3*y3 - d*x1*x2*y2*y2*y2*y2*x3*x3*y3 - d*x1*x2*x2*y2*y2*y2*x3 - d*x1*x2*x2*y2*y2*y2*x3*x3*x3 - d*x1*x2*x2*x2*y2*y2*y3 + d*x1*x2*x2*x2*y2*y2*y3*y3*y3 + d*x1*x2*x2*x2*x2*y2*x3*y3*y3 - d*d*y1*x2*x2*x2*y2*y2*y2*y2*x3*y3*y3 - d*d*y1*x2*x2*x2*x2*y2*y2*y2*x3*x3*y3 + d*d*x1*x2*x2*x2*y2*y2*y2*y2*x3*x3*y3 + d*d*x1*x2*x2*x2*x2*y2*y2*y2*x3*y3*y3)*(y1*y1 - x1*x1 - (1 + d*x1*x1*y1*y1)) + (y1*y2*y3 - y1*y2*y3*y3*y3 + y1*y2*x3*x3*y3 + y1*x2*x3 - y1*x2*x3*y3*y3 + y1*x2*x3*x3*x3 - y1*y1*y1*y2*y3 + y1*y1*y1*y2*y3*y3*y3 - y1*y1*y1*y2*x3*x3*y3 - y1*y1*y1*x2*x3 + y1*y1*y1*x2*x3*y3*y3 - y1*y1*y1*x2*x3*x3*x3 + x1*y2*x3 - x1*y2*x3*y3*y3 + x1*y2*x3*x3*x3 + x1*x2*y3 - x1*x2*y3*y3*y3 + x1*x2*x3*x3*y3 - x1*y1*y1*y2*x3 + x1*y1*y1*y2*x3*y3*y3 - x1*y1*y1*y2*x3*x3*x3 - x1*y1*y1*x2*y3 + x1*y1*y1*x2*y3*y3*y3 - x1*y1*y1*x2*x3*x3*y3 + x1*x1*y1*y2*y3 - x1*x1*y1*y2*y3*y3*y3 + x1*x1*y1*y2*x3*x3*y3 + x1*x1*y1*x2*x3 - x1*x1*y1*x2*x3*y3*y3 + x1*x1*y1*x2*x3*x3*x3 + x1*x1*x1*y2*x3 - x1*x1*x1*y2*x3*y3*y3 + x1*x1*x1*y2*x3*x3*x3 + x1*x1*x1*x2*y3 - x1*x1*x1*x2*y3*y3*y3 + x1*x1*x1*x2*x3*x3*y3 + d*y1*y2*x3*x3*y3*y3*y3 + d*y1*x2*x3*x3*x3*y3*y3 + d*y1*x2*y2*y2*x3*y3*y3 + d*y1*x2*x2*y2*x3*x3*y3 - d*y1*y1*y1*y2*x3*x3*y3*y3*y3 - d*y1*y1*y1*x2*x3*x3*x3*y3*y3 - d*y1*y1*y1*x2*y2*y2*x3*y3*y3 - d*y1*y1*y1*x2*x2*y2*x3*x3*y3 + d*x1*y2*x3*x3*x3*y3*y3 + d*x1*x2*x3*x3*y3*y3*y3 - d*x1*x2*y2*y2*x3*x3*y3 - d*x1*x2*x2*y2*x3*y3*y3 - d*x1*y1*y1*y2*x3*x3*x3*y3*y3 - d*x1*y1*y1*x2*x3*x3*y3*y3*y3 + d*x1*y1*y1*x2*y2*y2*x3*x3*y3 + d*x1*y1*y1*x2*x2*y2*x3*y3*y3 + d*x1*x1*y1*y2*x3*x3*y3*y3*y3 + d*x1*x1*y1*x2*x3*x3*x3*y3*y3 + d*x1*x1*y1*x2*y2*y2*x3*y3*y3 + d*x1*x1*y1*x2*x2*y2*x3*x3*y3 + d*x1*x1*x1*y2*x3*x3*x3*y3*y3 + d*x1*x1*x1*x2*x3*x3*y3*y3*y3 - d*x1*x1*x1*x2*y2*y2*x3*x3*y3 - d*x1*x1*x1*x2*x2*y2*x3*y3*y3 + d*d*x1*y1*y1*x2*y2*y2*x3*x3*y3*y3*y3 - d*d*x1*y1*y1*x2*x2*y2*x3*x3*x3*y3*y3 - d*d*x1*x1*y1*x2*y2*y2*x3*x3*x3*y3*y3 + d*d*x1*x1*y1*x2*x2*y2*x3*x3*y3*y3*y3)*(y2*y2 - x2*x2 - (1 + d*x2*x2*y2*y2)) + (-y1*y2*y3 + y1*y2*y2*y2*y3 - y1*x2*x3 + y1*x2*y2*y2*x3 - y1*x2*x2*y2*y3 - y1*x2*x2*x2*x3 + y1*y1*y1*y2*y3 - y1*y1*y1*y2*y2*y2*y3 + y1*y1*y1*x2*x3 - y1*y1*y1*x2*y2*y2*x3 + y1*y1*y1*x2*x2*y2*y3 + y1*y1*y1*x2*x2*x2*x3 - x1*y2*x3 + x1*y2*y2*y2*x3 - x1*x2*y3 + x1*x2*y2*y2*y3 - x1*x2*x2*y2*x3 - x1*x2*x2*x2*y3 + x1*y1*y1*y2*x3 - x1*y1*y1*y2*y2*y2*x3 + x1*y1*y1*x2*y3 - x1*y1*y1*x2*y2*y2*y3 + x1*y1*y1*x2*x2*y2*x3 + x1*y1*y1*x2*x2*x2*y3 - x1*x1*y1*y2*y3 + x1*x1*y1*y2*y2*y2*y3 - x1*x1*y1*x2*x3 + x1*x1*y1*x2*y2*y2*x3 - x1*x1*y1*x2*x2*y2*y3 - x1*x1*y1*x2*x2*x2*x3 - x1*x1*x1*y2*x3 + x1*x1*x1*y2*y2*y2*x3 - x1*x1*x1*x2*y3 + x1*x1*x1*x2*y2*y2*y3 - x1*x1*x1*x2*x2*y2*x3 - x1*x1*x1*x2*x2*x2*y3 - d*x1*y1*y1*x2*y2*y2*y3 + d*x1*y1*y1*x2*x2*y2*x3 + d*x1*x1*y1*x2*y2*y2*x3 - d*x1*x1*y1*x2*x2*y2*y3)*(y3*y3 - x3*x3 - (1 + d*x3*x3*y3*y3)) := by grind
theorem adW {n : Nat} [NeZero n] (d x1 y1 x2 y2 : Fin n) : ((y1*y2+x1*x2)*(1+d*x1*x2*y1*y2))*((y1*y2+x1*x2)*(1+d*x1*x2*y1*y2))-((x1*y2+x2*y1)*(1-d*x1*x2*y1*y2))*((x1*y2+x2*y1)*(1-d*x1*x2*y1*y2))-((1+d*x1*x2*y1*y2)*(1-d*x1*x2*y1*y2))*((1+d*x1*x2*y1*y2)*(1-d*x1*x2*y1*y2))-d*((x1*y2+x2*y1)*(y1*y2+x1*x2))*((x1*y2+x2*y1)*(y1*y2+x1*x2)) = (y2*y2*y2*y2 - 4*x2*x2*y2*y2 + 2*x2*x2*y2*y2*y2*y2 + x2*x2*x2*x2 - 2*x2*x2*x2*x2*y2*y2 - 2*d*x2*x2*y2*y2 - 2*d*x2*x2*x2*x2*y2*y2*y2*y2 - d*y1*y1*x2*x2*y2*y2*y2*y2 + d*y1*y1*x2*x2*x2*x2*y2*y2 + d*x1*x1*x2*x2*y2*y2*y2*y2 - d*x1*x1*x2*x2*x2*x2*y2*y2 - d*d*x2*x2*x2*x2*y2*y2*y2*y2 + d*d*y1*y1*x2*x2*x2*x2*y2*y2*y2*y2 - d*d*x1*x1*x2*x2*x2*x2*y2*y2*y2*y2 + d*d*d*x1*x1*y1*y1*x2*x2*x2*x2*y2*y2*y2*y2)*(y1*y1 - x1*x1 - (1 + d*x1*x1*y1*y1)) + (1 + y2*y2 - x2*x2 + 2*x2*x2*y2*y2 - y1*y1*y2*y2 + y1*y1*x2*x2 - 2*y1*y1*x2*x2*y2*y2 + x1*x1*y2*y2 - x1*x1*x2*x2 + 2*x1*x1*x2*x2*y2*y2 + d*x2*x2*y2*y2 - 2*d*y1*y1*x2*x2*y2*y2 + d*y1*y1*y1*y1*x2*x2*y2*y2 + 2*d*x1*x1*x2*x2*y2*y2 + d*x1*x1*x1*x1*x2*x2*y2*y2)*(y2*y2 - x2*x2 - (1 + d*x2*x2*y2*y2)) := by grind
structure Cv (n : Nat) [NeZero n] where
 d : Fin n
 iv : Fin n → Fin n
 BA : ∀ a : Fin n, a ≠ 0 → a * iv a = 1
 Vb : (1 : Fin n) ≠ 0
 wF : ∀ x1 y1 x2 y2 : Fin n, y1*y1 - x1*x1 = 1 + d*x1*x1*y1*y1 → y2*y2 - x2*x2 = 1 + d*x2*x2*y2*y2 → 1+d*x1*x2*y1*y2 ≠ 0 ∧ 1-d*x1*x2*y1*y2 ≠ 0
section
variable {n : Nat} [NeZero n]
theorem Cv.zero_or (C : Cv n) {a b : Fin n} (h : a * b = 0) : a = 0 ∨ b = 0 := by
 by_cases ha : a = 0
 · exact .inl ha
 · right
   have h1 := C.BA a ha
   have h2 : b = (a * C.iv a) * b := by rw [h1]; grind
   have h3 : (a * C.iv a) * b = C.iv a * (a * b) := by grind
   rw [h2, h3, h]
   grind
theorem Cv.pU (C : Cv n) {a b : Fin n} (ha : a ≠ 0) (hb : b ≠ 0) : a * b ≠ 0 := fun h => by
 rcases C.zero_or h with h | h
 · exact ha h
 · exact hb h
theorem Cv.cancel (C : Cv n) {a b c : Fin n} (ha : a ≠ 0) (h : a * b = a * c) : b = c := by
 have h1 : a * (b - c) = 0 := by grind
 rcases C.zero_or h1 with h2 | h2
 · exact absurd h2 ha
 · grind
structure Pt {n : Nat} [NeZero n] (C : Cv n) where
 x : Fin n
 y : Fin n
 on : y*y - x*x = 1 + C.d*x*x*y*y
theorem Pt.ext' {C : Cv n} {p q : Pt C} (hx : p.x = q.x) (hy : p.y = q.y) : p = q := by
 cases p; cases q
 simp only at hx hy
 subst hx hy
 rfl
variable {C : Cv n}
def Pt.u (p q : Pt C) : Fin n := C.iv (1+C.d*p.x*q.x*p.y*q.y)
def Pt.v (p q : Pt C) : Fin n := C.iv (1-C.d*p.x*q.x*p.y*q.y)
theorem Pt.hu (p q : Pt C) : (1+C.d*p.x*q.x*p.y*q.y) * p.u q = 1 := C.BA _ (C.wF p.x p.y q.x q.y p.on q.on).1
theorem Pt.hv (p q : Pt C) : (1-C.d*p.x*q.x*p.y*q.y) * p.v q = 1 := C.BA _ (C.wF p.x p.y q.x q.y p.on q.on).2
theorem aaN (p q : Pt C) : ((p.y*q.y+p.x*q.x)*p.v q)*((p.y*q.y+p.x*q.x)*p.v q) - ((p.x*q.y+q.x*p.y)*p.u q)*((p.x*q.y+q.x*p.y)*p.u q) = 1 + C.d*((p.x*q.y+q.x*p.y)*p.u q)*((p.x*q.y+q.x*p.y)*p.u q)*((p.y*q.y+p.x*q.x)*p.v q)*((p.y*q.y+p.x*q.x)*p.v q) := by
 have h := adW C.d p.x p.y q.x q.y
 have h1 := p.hu q
 have h2 := p.hv q
 have e1 := p.on
 have e2 := q.on
 have e3 : p.y*p.y - p.x*p.x - (1 + C.d*p.x*p.x*p.y*p.y) = 0 := by rw [e1]; grind
 have e4 : q.y*q.y - q.x*q.x - (1 + C.d*q.x*q.x*q.y*q.y) = 0 := by rw [e2]; grind
 rw [e3, e4] at h
 clear e1 e2 e3 e4
 generalize p.u q = u at *
 generalize p.v q = v at *
 generalize (p.y*q.y+p.x*q.x) = B at *
 generalize (p.x*q.y+q.x*p.y) = A at *
 generalize 1+C.d*p.x*q.x*p.y*q.y = Dp at *
 generalize 1-C.d*p.x*q.x*p.y*q.y = Dm at *
 have h3 : (B * Dp) * (B * Dp) - (A * Dm) * (A * Dm) - (Dp * Dm) * (Dp * Dm) - C.d * (A * B) * (A * B) = 0 := by rw [h]; grind
 clear h
 have h4 : ((B * Dp) * (B * Dp) - (A * Dm) * (A * Dm) - (Dp * Dm) * (Dp * Dm) - C.d * (A * B) * (A * B)) * (u * v) * (u * v) = (B*v)*(B*v) * ((Dp*u)*(Dp*u)) - (A*u)*(A*u)*((Dm*v)*(Dm*v)) - (Dp*u)*(Dp*u)*((Dm*v)*(Dm*v)) - C.d*(A*u)*(A*u)*(B*v)*(B*v) := by grind
 rw [h3, h1, h2] at h4
 grind
def Pt.add (p q : Pt C) : Pt C := ⟨(p.x*q.y+q.x*p.y)*p.u q, (p.y*q.y+p.x*q.x)*p.v q, aaN p q⟩
def Pt.zero : Pt C := ⟨0, 1, by grind⟩
def Pt.neg (p : Pt C) : Pt C := ⟨-p.x, p.y, by have := p.on; grind⟩
instance : Add (Pt C) := ⟨Pt.add⟩
instance : Neg (Pt C) := ⟨Pt.neg⟩
theorem zh (p q : Pt C) : (p + q).x = (p.x*q.y+q.x*p.y)*p.u q := rfl
theorem zk (p q : Pt C) : (p + q).y = (p.y*q.y+p.x*q.x)*p.v q := rfl
theorem Ej (p : Pt C) : (-p).x = -p.x := rfl
theorem Em (p : Pt C) : (-p).y = p.y := rfl
theorem acI (p q : Pt C) : p.u q = q.u p := by unfold Pt.u; congr 1; grind
theorem acJ (p q : Pt C) : p.v q = q.v p := by unfold Pt.v; congr 1; grind
theorem Pt.comm (p q : Pt C) : p + q = q + p := by
 refine Pt.ext' ?_ ?_
 · rw [zh, zh, acI]; grind
 · rw [zk, zk, acJ]; grind
theorem UC : C.iv 1 = 1 := by have h := C.BA 1 C.Vb; grind
theorem Pt.add_zero (p : Pt C) : p + Pt.zero = p := by
 have hu : p.u Pt.zero = 1 := by unfold Pt.u; rw [show 1+C.d*p.x*(Pt.zero : Pt C).x*p.y*(Pt.zero : Pt C).y = 1 by show 1+C.d*p.x*0*p.y*1 = 1; grind]; exact UC
 have hv : p.v Pt.zero = 1 := by unfold Pt.v; rw [show 1-C.d*p.x*(Pt.zero : Pt C).x*p.y*(Pt.zero : Pt C).y = 1 by show 1-C.d*p.x*0*p.y*1 = 1; grind]; exact UC
 refine Pt.ext' ?_ ?_
 · rw [zh, hu]; show (p.x * 1 + 0 * p.y) * 1 = p.x; grind
 · rw [zk, hv]; show (p.y * 1 + p.x * 0) * 1 = p.y; grind
theorem Pt.zero_add (p : Pt C) : Pt.zero + p = p := by rw [Pt.comm, Pt.add_zero]
theorem sum3 (p q r : Pt C) : (1 + C.d*(p+q).x*r.x*(p+q).y*r.y) = (((1+C.d*p.x*q.x*p.y*q.y)*(1-C.d*p.x*q.x*p.y*q.y)+C.d*(p.x*q.y+q.x*p.y)*(p.y*q.y+p.x*q.x)*r.x*r.y)) * (p.u q * p.v q) ∧ (1 - C.d*(p+q).x*r.x*(p+q).y*r.y) = (((1+C.d*p.x*q.x*p.y*q.y)*(1-C.d*p.x*q.x*p.y*q.y)-C.d*(p.x*q.y+q.x*p.y)*(p.y*q.y+p.x*q.x)*r.x*r.y)) * (p.u q * p.v q) ∧ ((p+q).x*r.y + r.x*(p+q).y) = ((p.x*q.y+q.x*p.y)*(1-C.d*p.x*q.x*p.y*q.y)*r.y+(p.y*q.y+p.x*q.x)*(1+C.d*p.x*q.x*p.y*q.y)*r.x) * (p.u q * p.v q) ∧ ((p+q).y*r.y + (p+q).x*r.x) = ((p.y*q.y+p.x*q.x)*(1+C.d*p.x*q.x*p.y*q.y)*r.y+(p.x*q.y+q.x*p.y)*(1-C.d*p.x*q.x*p.y*q.y)*r.x) * (p.u q * p.v q) := by
 have h1 := p.hu q
 have h2 := p.hv q
 rw [zh, zk]
 generalize p.u q = u at *
 generalize p.v q = v at *
 generalize (p.y*q.y+p.x*q.x) = B at *
 generalize (p.x*q.y+q.x*p.y) = A at *
 generalize 1+C.d*p.x*q.x*p.y*q.y = Dp at *
 generalize 1-C.d*p.x*q.x*p.y*q.y = Dm at *
 have h3 : (Dp * Dm) * (u * v) = 1 := by
  have : (Dp * Dm) * (u * v) = (Dp * u) * (Dm * v) := by grind
  rw [this, h1, h2]; grind
 refine ⟨?_, ?_, ?_, ?_⟩
 · have : (Dp*Dm + C.d*A*B*r.x*r.y) * (u*v) = (Dp*Dm)*(u*v) + C.d*(A*u)*r.x*(B*v)*r.y := by grind
   rw [this, h3]
 · have : (Dp*Dm - C.d*A*B*r.x*r.y) * (u*v) = (Dp*Dm)*(u*v) - C.d*(A*u)*r.x*(B*v)*r.y := by grind
   rw [this, h3]
 · have : (A*Dm*r.y + B*Dp*r.x) * (u*v) = (Dm*v)*(A*u*r.y) + (Dp*u)*(r.x*(B*v)) := by grind
   rw [this, h1, h2]; grind
 · have : (B*Dp*r.y + A*Dm*r.x) * (u*v) = (Dp*u)*(B*v*r.y) + (Dm*v)*((A*u)*r.x) := by grind
   rw [this, h1, h2]; grind
theorem Pt.assoc (p q r : Pt C) : (p + q) + r = p + (q + r) := by
 have s1 := sum3 p q r
 have s2 := sum3 r q p
 have ex := aiq C.d p.x p.y q.x q.y r.x r.y
 have ey := air C.d p.x p.y q.x q.y r.x r.y
 have e1 : p.y*p.y - p.x*p.x - (1 + C.d*p.x*p.x*p.y*p.y) = 0 := by rw [p.on]; grind
 have e2 : q.y*q.y - q.x*q.x - (1 + C.d*q.x*q.x*q.y*q.y) = 0 := by rw [q.on]; grind
 have e3 : r.y*r.y - r.x*r.x - (1 + C.d*r.x*r.x*r.y*r.y) = 0 := by rw [r.on]; grind
 rw [e1, e2, e3] at ex ey
 have hu1 := (p+q).hu r
 have hv1 := (p+q).hv r
 have hu2 := (r+q).hu p
 have hv2 := (r+q).hv p
 rw [Pt.comm q r, Pt.comm p (r + q)]
 refine Pt.ext' ?_ ?_
 · rw [zh (p+q) r, zh (r+q) p]
   have hd1 := (C.wF _ _ _ _ (p+q).on r.on).1
   have hd2 := (C.wF _ _ _ _ (r+q).on p.on).1
   have key : ((p+q).x*r.y + r.x*(p+q).y) * (1 + C.d*(r+q).x*p.x*(r+q).y*p.y) = ((r+q).x*p.y + p.x*(r+q).y) * (1 + C.d*(p+q).x*r.x*(p+q).y*r.y) := by
    rw [s1.1, s1.2.2.1, s2.1, s2.2.2.1]
    generalize p.u q = a1
    generalize p.v q = a2
    generalize r.u q = a3
    generalize r.v q = a4
    clear s1 s2 hu1 hv1 hu2 hv2 hd1 hd2 e1 e2 e3 ey
    have n1 : r.x*q.y+q.x*r.y = q.x*r.y+r.x*q.y := by grind
    have n2 : r.y*q.y+r.x*q.x = q.y*r.y+q.x*r.x := by grind
    have n3 : C.d*r.x*q.x*r.y*q.y = C.d*q.x*r.x*q.y*r.y := by grind
    rw [n1, n2, n3]
    generalize (p.y*q.y+p.x*q.x) = B at *
    generalize (p.x*q.y+q.x*p.y) = A at *
    generalize 1+C.d*p.x*q.x*p.y*q.y = Dp at *
    generalize 1-C.d*p.x*q.x*p.y*q.y = Dm at *
    generalize (q.x*r.y+r.x*q.y) = A' at *
    generalize (q.y*r.y+q.x*r.x) = B' at *
    generalize 1+C.d*q.x*r.x*q.y*r.y = Dl at *
    generalize 1-C.d*q.x*r.x*q.y*r.y = Dk at *
    generalize p.x = x1 at *
    generalize p.y = y1 at *
    generalize r.x = x3 at *
    generalize r.y = y3 at *
    have z : (A*Dm*y3+B*Dp*x3)*(Dl*Dk+C.d*A'*B'*x1*y1)-(A'*Dk*y1+B'*Dl*x1)*(Dp*Dm+C.d*A*B*x3*y3) = 0 := by rw [ex]; grind
    clear ex
    have w : ((A*Dm*y3+B*Dp*x3) * (a1 * a2)) * ((Dl*Dk+C.d*A'*B'*x1*y1) * (a3 * a4)) - ((A'*Dk*y1+B'*Dl*x1) * (a3 * a4)) * ((Dp*Dm+C.d*A*B*x3*y3) * (a1 * a2)) = ((A*Dm*y3+B*Dp*x3)*(Dl*Dk+C.d*A'*B'*x1*y1)-(A'*Dk*y1+B'*Dl*x1)*(Dp*Dm+C.d*A*B*x3*y3)) * (a1*a2*a3*a4) := by
     generalize (A*Dm*y3+B*Dp*x3) = m1
     generalize (Dl*Dk+C.d*A'*B'*x1*y1) = m2
     generalize (A'*Dk*y1+B'*Dl*x1) = m3
     generalize (Dp*Dm+C.d*A*B*x3*y3) = m4
     grind
    rw [z] at w
    generalize ((A*Dm*y3+B*Dp*x3) * (a1 * a2)) * ((Dl*Dk+C.d*A'*B'*x1*y1) * (a3 * a4)) = l at *
    generalize ((A'*Dk*y1+B'*Dl*x1) * (a3 * a4)) * ((Dp*Dm+C.d*A*B*x3*y3) * (a1 * a2)) = r at *
    clear z
    grind
   generalize (p+q).u r = u1 at *
   generalize (r+q).u p = u2 at *
   generalize ((p+q).x*r.y + r.x*(p+q).y) = N1 at *
   generalize ((r+q).x*p.y + p.x*(r+q).y) = N2 at *
   generalize (1 + C.d*(p+q).x*r.x*(p+q).y*r.y) = D1 at *
   generalize (1 + C.d*(r+q).x*p.x*(r+q).y*p.y) = D2 at *
   have t1 : N1 * u1 = (N1 * D2) * (u1 * u2) := by
    have : (N1 * D2) * (u1 * u2) = (N1 * u1) * (D2 * u2) := by grind
    rw [this, hu2]; grind
   have t2 : N2 * u2 = (N2 * D1) * (u1 * u2) := by
    have : (N2 * D1) * (u1 * u2) = (N2 * u2) * (D1 * u1) := by grind
    rw [this, hu1]; grind
   rw [t1, t2, key]
 · rw [zk (p+q) r, zk (r+q) p]
   have hd1 := (C.wF _ _ _ _ (p+q).on r.on).2
   have hd2 := (C.wF _ _ _ _ (r+q).on p.on).2
   have key : ((p+q).y*r.y + (p+q).x*r.x) * (1 - C.d*(r+q).x*p.x*(r+q).y*p.y) = ((r+q).y*p.y + (r+q).x*p.x) * (1 - C.d*(p+q).x*r.x*(p+q).y*r.y) := by
    rw [s1.2.1, s1.2.2.2, s2.2.1, s2.2.2.2]
    generalize p.u q = a1
    generalize p.v q = a2
    generalize r.u q = a3
    generalize r.v q = a4
    clear s1 s2 hu1 hv1 hu2 hv2 hd1 hd2 e1 e2 e3 ex
    have n1 : r.x*q.y+q.x*r.y = q.x*r.y+r.x*q.y := by grind
    have n2 : r.y*q.y+r.x*q.x = q.y*r.y+q.x*r.x := by grind
    have n3 : C.d*r.x*q.x*r.y*q.y = C.d*q.x*r.x*q.y*r.y := by grind
    rw [n1, n2, n3]
    generalize (p.y*q.y+p.x*q.x) = B at *
    generalize (p.x*q.y+q.x*p.y) = A at *
    generalize 1+C.d*p.x*q.x*p.y*q.y = Dp at *
    generalize 1-C.d*p.x*q.x*p.y*q.y = Dm at *
    generalize (q.x*r.y+r.x*q.y) = A' at *
    generalize (q.y*r.y+q.x*r.x) = B' at *
    generalize 1+C.d*q.x*r.x*q.y*r.y = Dl at *
    generalize 1-C.d*q.x*r.x*q.y*r.y = Dk at *
    generalize p.x = x1 at *
    generalize p.y = y1 at *
    generalize r.x = x3 at *
    generalize r.y = y3 at *
    have z : (B*Dp*y3+A*Dm*x3)*(Dl*Dk-C.d*A'*B'*x1*y1)-(B'*Dl*y1+A'*Dk*x1)*(Dp*Dm-C.d*A*B*x3*y3) = 0 := by rw [ey]; grind
    clear ey
    have w : ((B*Dp*y3+A*Dm*x3) * (a1 * a2)) * ((Dl*Dk-C.d*A'*B'*x1*y1) * (a3 * a4)) - ((B'*Dl*y1+A'*Dk*x1) * (a3 * a4)) * ((Dp*Dm-C.d*A*B*x3*y3) * (a1 * a2)) = ((B*Dp*y3+A*Dm*x3)*(Dl*Dk-C.d*A'*B'*x1*y1)-(B'*Dl*y1+A'*Dk*x1)*(Dp*Dm-C.d*A*B*x3*y3)) * (a1*a2*a3*a4) := by
     generalize (B*Dp*y3+A*Dm*x3) = m1
     generalize (Dl*Dk-C.d*A'*B'*x1*y1) = m2
     generalize (B'*Dl*y1+A'*Dk*x1) = m3
     generalize (Dp*Dm-C.d*A*B*x3*y3) = m4
     grind
    rw [z] at w
    generalize ((B*Dp*y3+A*Dm*x3) * (a1 * a2)) * ((Dl*Dk-C.d*A'*B'*x1*y1) * (a3 * a4)) = l at *
    generalize ((B'*Dl*y1+A'*Dk*x1) * (a3 * a4)) * ((Dp*Dm-C.d*A*B*x3*y3) * (a1 * a2)) = r at *
    clear z
    grind
   generalize (p+q).v r = u1 at *
   generalize (r+q).v p = u2 at *
   generalize ((p+q).y*r.y + (p+q).x*r.x) = N1 at *
   generalize ((r+q).y*p.y + (r+q).x*p.x) = N2 at *
   generalize (1 - C.d*(p+q).x*r.x*(p+q).y*r.y) = D1 at *
   generalize (1 - C.d*(r+q).x*p.x*(r+q).y*p.y) = D2 at *
   have t1 : N1 * u1 = (N1 * D2) * (u1 * u2) := by
    have : (N1 * D2) * (u1 * u2) = (N1 * u1) * (D2 * u2) := by grind
    rw [this, hv2]; grind
   have t2 : N2 * u2 = (N2 * D1) * (u1 * u2) := by
    have : (N2 * D1) * (u1 * u2) = (N2 * u2) * (D1 * u1) := by grind
    rw [this, hv1]; grind
   rw [t1, t2, key]
end
end
end Go.Proofs.YtehfkbaendajbaaGreatDoor
