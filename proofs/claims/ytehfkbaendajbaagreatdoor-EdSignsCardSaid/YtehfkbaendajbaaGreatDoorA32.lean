/-
  Shared, part 32: walks and plain laws; each theorem states its own conditions.
-/
import Derived.Test.YtehfkbaendajbaaGreatDoorA31
namespace Go.Proofs.YtehfkbaendajbaaGreatDoor
set_option linter.unusedSimpArgs false
set_option linter.unusedVariables false
set_option maxRecDepth 100000
set_option maxHeartbeats 8000000
section
open Go.RowKit Go.Proofs.YtehfkbaendajbaaGreatDoorW.PrintLast
theorem fQ (A B : Option Addr) (c d X Y Z : Nat) (hx : X < Num.p) (hy : Y < Num.p) (hz : Z = X * Y % Num.p) (w : World) (hX : Dn w A c X) (hY : Dn w B d Y) :
 Calls Tryz.prog 49 #[.slice A (aB X).length c, .slice B (aB Y).length d] w fun e w' => (∃ A' c', e = .returned (.slice A' (aB Z).length c') ∧ Dn w' A' c' Z) ∧ Below w.heap.size w w' := by
 subst hz
 exact zT A B c d X Y hx hy w hX hY
theorem Gt (A : Option Addr) (c X L Z : Nat) (hx : X < Num.p) (hL : L = (aB X).length) (hz : Z = X ^ (Num.p - 2) % Num.p) (w : World) (hX : Dn w A c X) :
 Calls Tryz.prog 48 #[.slice A L c] w fun e w' => (∃ A' c', e = .returned (.slice A' (aB Z).length c') ∧ Dn w' A' c' Z) ∧ Below w.heap.size w w' := by
 subst hz
 subst hL
 exact Ry A c X hx w hX
theorem lM {n : Nat} : dg n 0 % 2 = n % 2 := by
 simp only [dg, Nat.pow_zero, Nat.div_one, BB]; omega
theorem oG {n : Nat} (h : (aB n).length = 0) : n = 0 := by
 have h1 := tC n
 rw [h, Nat.pow_zero] at h1
 omega
end
end Go.Proofs.YtehfkbaendajbaaGreatDoor
