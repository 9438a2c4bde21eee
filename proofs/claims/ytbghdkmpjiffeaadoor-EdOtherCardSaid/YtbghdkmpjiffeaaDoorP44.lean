/-
  Shared, part 44: walks and plain laws; each theorem states its own conditions.
-/
import Derived.Test.YtbghdkmpjiffeaaDoorP35
import Derived.OpenShut
import Derived.ProofKit
namespace Go.Proofs.YtbghdkmpjiffeaaDoor
set_option linter.unusedSimpArgs false
set_option linter.unusedVariables false
set_option maxRecDepth 100000
set_option maxHeartbeats 8000000
section
open Go.RowKit Go.Proofs.YtbghdkmpjiffeaaDoorW.PrintLast
theorem RD (w : World) (A : Option Addr) (c : Nat) (l : Nat) (hl : l = LO) (hX : Dn w A c l) : Calls Tryd.prog 29 #[.slice A (aB l).length c, .int .i64 32] w fun e w' => (∃ b, w.heap.size ≤ b ∧ e = .returned (.slice (some ⟨b, 0, none⟩) 32 32) ∧ w'.heap[b]? = some (.cells (bn (dw 32 l)) 5)) ∧ Below w.heap.size w w' := NV A c l (by rw [hl]; decide) w hX
theorem XY : bW (dw 32 LO) = acB := by rw [yM]; decide +kernel
section
open Go.ChangeShapes Go.WideShapes Go.ChangeAt
end
end
end Go.Proofs.YtbghdkmpjiffeaaDoor
