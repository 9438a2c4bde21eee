/-
  Shared, part 46: walks and plain laws; each theorem states its own conditions.
-/
import Derived.Test.YtehfkbaendajbaaGreatDoorA35
import Derived.Test.YtehfkbaendajbaaGreatDoorA45
namespace Go.Proofs.YtehfkbaendajbaaGreatDoor
set_option linter.unusedSimpArgs false
set_option linter.unusedVariables false
set_option maxRecDepth 100000
set_option maxHeartbeats 8000000
section
open Go.RowKit Go.ChangeShapes Go.WideShapes Go.ChangeAt Go.Proofs.YtehfkbaendajbaaGreatDoorW.PrintLast
theorem akN (j : Nat) (hj : j < 4) : (([6346243789798364141, 1503914060200516822, 0, 1152921504606846976] : List Int).map fun z => Value.int .u64 z).toArray[j]? = some (.int .u64 ((lim LO j : Nat) : Int)) := by
 rcases j with _ | _ | _ | _ | j
 all_goals first | omega | kernel_rfl
structure Ed8 (w : World) : Prop where
 e : uU w
 s : Sg5 w
theorem Ed8.next {w w' : World} (h : Ed8 w) (hb : Below w.heap.size w w') : Ed8 w' := ⟨h.e.next hb, h.s.next hb⟩
end
end Go.Proofs.YtehfkbaendajbaaGreatDoor
