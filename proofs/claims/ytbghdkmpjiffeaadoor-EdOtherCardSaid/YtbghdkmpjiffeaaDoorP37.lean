/-
  Shared, part 37: walks and plain laws; each theorem states its own conditions.
-/
import Derived.Test.YtbghdkmpjiffeaaDoorP35
import Derived.Test.YtbghdkmpjiffeaaDoorP36
namespace Go.Proofs.YtbghdkmpjiffeaaDoor
set_option linter.unusedSimpArgs false
set_option linter.unusedVariables false
set_option maxRecDepth 100000
set_option maxHeartbeats 8000000
section
open Go.RowKit Go.Proofs.YtbghdkmpjiffeaaDoorW.PrintLast
section
variable {P : Program} {ops : Array Oper} {Q : Exit → Act → World → Prop} {md : Region.Mode}
end
theorem Tj (P : EP) : ∀ z ∈ iM P, z < 256 := qj _ _
theorem Na (P : EP) : (iM P).length = 32 := kV _ _
theorem MZ (P : EP) : bW (iM P) = sV P := by
 unfold iM
 rw [yM]
 exact Nat.mod_eq_of_lt (by have := XK P; exact this)
theorem wM : yt (bW (iq 253 15)) (bW (iq 251 31)) HP := by
 rw [Qg, Qh]
 exact ⟨by decide +kernel, by decide +kernel, HP2, LH⟩
theorem OD {n m N M : Nat} (e : N = M) (h1 : sK n m N) (h2 : sK n m M) : decP h1 = decP h2 := by subst e; rfl
theorem MQ (P : EP) (A : Option Addr) (c : Nat) : ∃ o : Pn, o.of P ∧ ∀ w, kT w → Rd w .u8 A (iM P) → Calls Tryd.prog 13 #[.slice A 32 c] w fun e w' => e = .returned (.tuple #[o.v, .int .i64 0]) ∧ Below w.heap.size w w' := by
 obtain ⟨D, hD⟩ : ∃ D, D = 2 ^ 255 := ⟨_, rfl⟩
 obtain ⟨n, hn⟩ : ∃ z, z = bW (iq 253 15) := ⟨_, rfl⟩
 obtain ⟨m, hm⟩ : ∃ z, z = bW (iq 251 31) := ⟨_, rfl⟩
 have ex : yt n m HP := by rw [hn, hm]; exact wM
 have hC := (sN ex P).1
 rw [← MZ] at hC
 obtain ⟨o, ho, hw⟩ := DN n m D hn hm hD A c (iM P) (Na P) (Tj P) hC
 have hp : decP hC = P := (OD (MZ P) hC (sN ex P).1).trans (XA ex P (sN ex P).1)
 rw [hp] at ho
 exact ⟨o, ho, hw⟩
end
end Go.Proofs.YtbghdkmpjiffeaaDoor
