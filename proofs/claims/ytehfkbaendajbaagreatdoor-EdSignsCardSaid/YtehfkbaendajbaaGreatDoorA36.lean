/-
  Shared, part 36: walks and plain laws; each theorem states its own conditions.
-/
import Derived.Test.YtehfkbaendajbaaGreatDoorA27
import Derived.Test.YtehfkbaendajbaaGreatDoorA34
import Derived.IntWalk
import Derived.StillTailTactics
namespace Go.Proofs.YtehfkbaendajbaaGreatDoor
set_option linter.unusedSimpArgs false
set_option linter.unusedVariables false
set_option maxRecDepth 100000
set_option maxHeartbeats 8000000
section
open Go.RowKit Go.Proofs.YtehfkbaendajbaaGreatDoorW.PrintLast
def L8 (n m u v Y : Nat) (odd : Bool) (e : Ending) (w' : World) : Prop := ∃ r ok, r < Num.p ∧ ok = decide (cO n m u v) ∧ small r = small (dS n m u v) ∧ (if ok = true ∧ ¬ (odd = true ∧ r = 0) then ∃ o : Dp, e = .returned (.tuple #[o.v, .bool true]) ∧ o.ok w' ∧ o.x = (if odd = true then (Num.p - r) % Num.p else r) ∧ o.y = Y ∧ o.z = 1 else e = .returned (.tuple #[.agg #[.slice none 0 0, .slice none 0 0, .slice none 0 0], .bool false]))
end
section
open Go.RowKit Go.Proofs.YtehfkbaendajbaaGreatDoorW.PrintLast
theorem L8.put {n m u v Y : Nat} {odd : Bool} {e : Ending} {w' : World} {g : Nat} {o' : Obj} {A1 A2 A3 : Option Addr} {n1 n2 n3 c1 c2 c3 : Nat} (h : L8 n m u v Y odd e w') (hg : w'.heap[g]? = some (.cells #[.slice A1 n1 c1, .slice A2 n2 c2, .slice A3 n3 c3] 47)) : L8 n m u v Y odd e (w'.pin g o') := by
 obtain ⟨r, ok, a, b, c, h⟩ := h
 refine ⟨r, ok, a, b, c, ?_⟩
 by_cases hc : ok = true ∧ ¬ (odd = true ∧ r = 0)
 · rw [if_pos hc] at h ⊢
   obtain ⟨o, e1, e2, e3⟩ := h
   exact ⟨o, e1, e2.ku hg, e3⟩
 · rw [if_neg hc] at h ⊢
   exact h
end
end Go.Proofs.YtehfkbaendajbaaGreatDoor
