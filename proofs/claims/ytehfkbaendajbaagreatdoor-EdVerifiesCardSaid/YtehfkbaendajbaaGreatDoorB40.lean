/-
  Shared, part 40: walks and plain laws; each theorem states its own conditions.
-/
import Derived.Test.YtehfkbaendajbaaGreatDoorB37
namespace Go.Proofs.YtehfkbaendajbaaGreatDoor
set_option linter.unusedSimpArgs false
set_option linter.unusedVariables false
set_option maxRecDepth 100000
set_option maxHeartbeats 8000000
section
open Go.RowKit Go.ChangeShapes Go.WideShapes Go.ChangeAt Go.Proofs.YtehfkbaendajbaaGreatDoorW.PrintLast
section
variable {H : Type} {enc : TypeId × Value → H} {W : World} {base : Nat} {v : Value} {d : DataW H} {p : List MemPlace}
end
section
variable {P : Program} {ops : Array Oper} {rest : List Oper} {o : Oper} {a : Act} {w : World} {Q : Exit → Act → World → Prop}
end
theorem OE (A : Option Addr) (c : Nat) (bs : List Nat) (hl : bs.length = 32) (hc : bs.length ≤ c) (hby : ∀ z ∈ bs, z < 256) (h : qW bs) (w : World) (hr : Rd w .u8 A bs) : Calls Tryz.prog 30 #[.slice A 32 c] w fun e w' => (∃ o : Dp, e = .returned (.tuple #[o.v, .bool true]) ∧ o.ok w' ∧ o.of (decP h.2)) ∧ Below w.heap.size w w' := by
 exact MS A c 32 bs hl.symm hc hby h w hr
theorem SS (A : Option Addr) (c : Nat) (bs : List Nat) (hl : bs.length = 32) (hc : bs.length ≤ c) (hby : ∀ z ∈ bs, z < 256) (h : ¬ qW bs) (w : World) (hr : Rd w .u8 A bs) : Calls Tryz.prog 30 #[.slice A 32 c] w fun e w' => e = .returned (.tuple #[.agg #[.slice none 0 0, .slice none 0 0, .slice none 0 0], .bool false]) ∧ Below w.heap.size w w' := by
 have h0 := SQ A c bs hc hby h w hr
 rw [hl] at h0
 exact h0
theorem NZ (A : Option Addr) (c : Nat) {bs : List Nat} (h : qW bs) (hby : ∀ z ∈ bs, z < 256) : ∃ o : Pn, o.of (decP h.2) ∧ ∀ w, kT w → Rd w .u8 A bs → Calls Tryz.prog 25 #[.slice A 32 c] w fun e w' => e = .returned (.tuple #[o.v, .int .i64 0]) ∧ Below w.heap.size w w' :=
 DN _ _ _ rfl rfl rfl A c bs h.1 hby h.2
end
end Go.Proofs.YtehfkbaendajbaaGreatDoor
