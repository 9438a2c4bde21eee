/-
  Shared, part 28: walks and plain laws; each theorem states its own conditions.
-/
import Derived.Test.YtehfkbaendajbaaGreatDoorA27
import Derived.IntWalk
import Derived.Lib.Hide
import Derived.StillTailTactics
namespace Go.Proofs.YtehfkbaendajbaaGreatDoor
set_option linter.unusedSimpArgs false
set_option linter.unusedVariables false
set_option maxRecDepth 100000
set_option maxHeartbeats 8000000
section
open Go.RowKit Go.Proofs.YtehfkbaendajbaaGreatDoorW.PrintLast
section
variable {n : Nat} [NeZero n]
theorem adS (d x y z X Y T : Fin n) (h : y*y - x*x = 1 + d*x*x*y*y) (hX : X = x * z) (hY : Y = y * z) (hT : T = x * y * z) : X * Y = z * T ∧ Y * Y - X * X = z * z + d * (T * T) := by
 subst hX hY hT
 constructor
 · grind
 · have : y * z * (y * z) - x * z * (x * z) = (y*y - x*x) * (z * z) := by grind
   rw [this, h]
   grind
end
def Pn.on (p : Pn) : Bool := !decide (fe p.z.val = 0) && (decide (fe p.x.val * fe p.y.val = fe p.z.val * fe p.t.val) && decide (fe p.y.val * fe p.y.val - fe p.x.val * fe p.x.val = fe p.z.val * fe p.z.val + fe dN * (fe p.t.val * fe p.t.val)))
theorem Pn.of.on {p : Pn} {P : EP} (h : p.of P) : p.on = true := by
 obtain ⟨_, hz, hX, hY, hT⟩ := h
 have h1 := adS Tf.d P.x P.y (fe p.z.val) _ _ _ P.on hX hY hT
 unfold Pn.on
 rw [decide_eq_false hz, decide_eq_true h1.1, decide_eq_true (show _ = fe p.z.val * fe p.z.val + fe dN * (fe p.t.val * fe p.t.val) from h1.2)]
 rfl
end
end Go.Proofs.YtehfkbaendajbaaGreatDoor
