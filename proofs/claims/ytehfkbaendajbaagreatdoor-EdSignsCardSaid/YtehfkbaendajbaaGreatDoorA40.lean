/-
  Shared, part 40: walks and plain laws; each theorem states its own conditions.
-/
import Derived.Test.YtehfkbaendajbaaGreatDoorA35
import Derived.Test.YtehfkbaendajbaaGreatDoorA36
namespace Go.Proofs.YtehfkbaendajbaaGreatDoor
set_option linter.unusedSimpArgs false
set_option linter.unusedVariables false
set_option maxRecDepth 100000
set_option maxHeartbeats 8000000
section
open Go.RowKit Go.ChangeShapes Go.WideShapes Go.ChangeAt Go.Proofs.YtehfkbaendajbaaGreatDoorW.PrintLast
section
variable {H : Type} {enc : TypeId × Value → H} {W : World} {base : Nat} {v : Value} {d : DataW H} {p : List MemPlace}
end
section
variable {P : Program} {ops : Array Oper} {rest : List Oper} {o : Oper} {a : Act} {w : World} {Q : Exit → Act → World → Prop}
end
theorem aaL (A B : Option Addr) (c d n m : Nat) (xs ys : List Nat) (b : Bool) (hn : xs.length = n) (hm : ys.length = m) (hx : ∀ b ∈ xs, b < 256) (hy : ∀ b ∈ ys, b < 256) (hb : decide (xs = ys) = b) (w : World) (hA : Rd w .u8 A xs) (hB : Rd w .u8 B ys) :
 Calls Tryz.prog 8 #[.slice A n c, .slice B m d] w fun e w' => e = .returned (.bool b) ∧ Below w.heap.size w w' := by
 subst hn hm hb
 exact Dt A B c d xs ys hx hy w hA hB
end
end Go.Proofs.YtehfkbaendajbaaGreatDoor
