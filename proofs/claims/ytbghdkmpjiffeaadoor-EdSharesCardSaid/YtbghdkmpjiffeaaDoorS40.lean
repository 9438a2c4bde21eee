/-
  Shared, part 40: walks and plain laws; each theorem states its own conditions.
-/
import Derived.Test.YtbghdkmpjiffeaaDoorS37
namespace Go.Proofs.YtbghdkmpjiffeaaDoor
set_option linter.unusedSimpArgs false
set_option linter.unusedVariables false
set_option maxRecDepth 100000
set_option maxHeartbeats 8000000
section
open Go.RowKit Go.ChangeShapes Go.WideShapes Go.ChangeAt Go.Proofs.YtbghdkmpjiffeaaDoorW.PrintLast
section
variable {H : Type} {enc : TypeId × Value → H} {W : World} {base : Nat} {v : Value} {d : DataW H} {p : List MemPlace}
end
section
variable {P : Program} {ops : Array Oper} {rest : List Oper} {o : Oper} {a : Act} {w : World} {Q : Exit → Act → World → Prop}
theorem aI (x y : Operand) (ho : o.op = .store 28 x y) (hw : Region.wanted o (yielded ops a.tmps) = true) (b : Nat) (p : Pn) (t : TypeId) (hx : a.eval x = .pointer (some ⟨b, 0, none⟩)) (hy : a.eval y = p.v) (old : Array Value) (hs : old.size = 20) (h : w.heap[b]? = some (.cells old t))
 (hK : wpList Tryd.prog ops Q rest (a.put o.dst undef) (w.pin b (.cells p.cA t))) : wpList Tryd.prog ops Q (o :: rest) a w :=
 BigFrame.wpList_want hw fun K hk => qU 28 x y ho b p.cA old t hx hy (by kernel_rfl) (by rw [hs]; rfl) (eH p) h (hk _ _ hK)
end
theorem lN (A : Option Addr) (c : Nat) (bs : List Nat) (lc : bs.length ≤ c) (hl : bs.length ≤ 100) (hby : ∀ z ∈ bs, z < 256) (w : World) (h5 : uU w) (hr : Rd w .u8 A bs) : Calls Tryd.prog 19 #[.slice A bs.length c] w fun e w' => (∃ (P : EP) (h : Pn) (o : Dp), e = .returned (.tuple #[h.v, o.v]) ∧ h.of P ∧ o.of P ∧ o.ok w') ∧ Below w.heap.size w w' := by
 by_cases h : qW bs
 · exact Qa A c bs lc hl hby h w h5 hr
 · exact Vq A c bs lc hl hby h w h5 hr
end
end Go.Proofs.YtbghdkmpjiffeaaDoor
