/-
  Shared, part 40: walks and plain laws; each theorem states its own conditions.
-/
import Derived.Test.YtbghdkmpjiffeaaDoorM37
namespace Go.Proofs.YtbghdkmpjiffeaaDoor
set_option linter.unusedSimpArgs false
set_option linter.unusedVariables false
set_option maxRecDepth 100000
set_option maxHeartbeats 8000000
section
open Go.RowKit Go.ChangeShapes Go.WideShapes Go.ChangeAt Go.Proofs.YtbghdkmpjiffeaaDoorW.PrintLast
section
variable {H : Type} {enc : TypeId × Value → H} {W : World} {base : Nat} {v : Value} {d : DataW H} {p : List MemPlace}
end
section
variable {P : Program} {ops : Array Oper} {rest : List Oper} {o : Oper} {a : Act} {w : World} {Q : Exit → Act → World → Prop}
theorem bg (x : Operand) (ho : o.op = .load 28 x) (hw : Region.wanted o (yielded ops a.tmps) = true) (b : Nat) (p : Pn) (t : TypeId) (hx : a.eval x = .pointer (some ⟨b, 0, none⟩)) (h : w.heap[b]? = some (.cells p.cA t))
 (hK : wpList Tryd.prog ops Q rest (a.put o.dst p.v) w) : wpList Tryd.prog ops Q (o :: rest) a w :=
 BigFrame.wpList_want hw fun K hk => zB 28 x ho b 0 hx p.cL p.cA t h (by kernel_rfl) (by kernel_rfl) (by kernel_rfl) (hk _ _ hK)
theorem aI (x y : Operand) (ho : o.op = .store 28 x y) (hw : Region.wanted o (yielded ops a.tmps) = true) (b : Nat) (p : Pn) (t : TypeId) (hx : a.eval x = .pointer (some ⟨b, 0, none⟩)) (hy : a.eval y = p.v) (old : Array Value) (hs : old.size = 20) (h : w.heap[b]? = some (.cells old t))
 (hK : wpList Tryd.prog ops Q rest (a.put o.dst undef) (w.pin b (.cells p.cA t))) : wpList Tryd.prog ops Q (o :: rest) a w :=
 BigFrame.wpList_want hw fun K hk => qU 28 x y ho b p.cA old t hx hy (by kernel_rfl) (by rw [hs]; rfl) (eH p) h (hk _ _ hK)
end
theorem dF {ops : Array Oper} {rest : List Oper} {o : Oper} {a : Act} {w : World} {Q : Exit → Act → World → Prop} (x : Operand) (ho : o.op = .load 28 x) (hw : Region.wanted o (yielded ops a.tmps) = true) (b : Nat) (t : TypeId) (hx : a.eval x = .pointer (some ⟨b, 0, none⟩)) (h : w.heap[b]? = some (.cells bP t))
 (hK : wpList Tryd.prog ops Q rest (a.put o.dst dh.v) w) : wpList Tryd.prog ops Q (o :: rest) a w := bg x ho hw b dh t hx h hK
theorem bU {ops : Array Oper} {rest : List Oper} {o : Oper} {a : Act} {w : World} {Q : Exit → Act → World → Prop} (x y : Operand) (ho : o.op = .store 28 x y) (hw : Region.wanted o (yielded ops a.tmps) = true) (b : Nat) (t : TypeId) (hx : a.eval x = .pointer (some ⟨b, 0, none⟩)) (hy : a.eval y = dh.v) (h : w.heap[b]? = some (.cells bP t))
 (hK : wpList Tryd.prog ops Q rest (a.put o.dst undef) (w.pin b (.cells bP t))) : wpList Tryd.prog ops Q (o :: rest) a w := aI x y ho hw b dh t hx hy bP rfl h hK
theorem OQ {o : Oper} {a : Act} (ho : o.op = .build 28 #[]) (w : World) : (execOp a.eval o).run Tryd.prog w = .ok (.value dh.v) w := by
 unfold execOp
 simp only [ho]
 kernel_rfl
theorem Tq {o : Oper} {a : Act} (x y : Operand) (ho : o.op = .binOp .eql 28 x y 28) (hx : a.eval x = dh.v) (hy : a.eval y = dh.v) (w : World) : (execOp a.eval o).run Tryd.prog w = .ok (.value (.bool true)) w := by
 unfold execOp
 simp only [ho, hx, hy]
 kernel_rfl
theorem cZ {ops : Array Oper} {rest : List Oper} {o : Oper} {a : Act} {w : World} {Q : Exit → Act → World → Prop} (ho : o.op = .build 28 #[]) (hw : Region.wanted o (yielded ops a.tmps) = true)
 (hK : wpList Tryd.prog ops Q rest (a.put o.dst dh.v) w) : wpList Tryd.prog ops Q (o :: rest) a w :=
 BigFrame.wpList_want hw fun K hk => by
  unfold Oper.wp
  rw [OQ ho w]
  exact hk _ _ hK
theorem aP {ops : Array Oper} {rest : List Oper} {o : Oper} {a : Act} {w : World} {Q : Exit → Act → World → Prop} (x y : Operand) (ho : o.op = .binOp .eql 28 x y 28) (hw : Region.wanted o (yielded ops a.tmps) = true) (hx : a.eval x = dh.v) (hy : a.eval y = dh.v)
 (hK : wpList Tryd.prog ops Q rest (a.put o.dst (.bool true)) w) : wpList Tryd.prog ops Q (o :: rest) a w :=
 BigFrame.wpList_want hw fun K hk => by
  unfold Oper.wp
  rw [Tq x y ho hx hy w]
  exact hk _ _ hK
theorem OE (A : Option Addr) (c : Nat) (bs : List Nat) (hl : bs.length = 32) (hc : bs.length ≤ c) (hby : ∀ z ∈ bs, z < 256) (h : qW bs) (w : World) (hr : Rd w .u8 A bs) : Calls Tryd.prog 14 #[.slice A 32 c] w fun e w' => (∃ o : Dp, e = .returned (.tuple #[o.v, .bool true]) ∧ o.ok w' ∧ o.of (decP h.2)) ∧ Below w.heap.size w w' := by
 exact MS A c 32 bs hl.symm hc hby h w hr
theorem SS (A : Option Addr) (c : Nat) (bs : List Nat) (hl : bs.length = 32) (hc : bs.length ≤ c) (hby : ∀ z ∈ bs, z < 256) (h : ¬ qW bs) (w : World) (hr : Rd w .u8 A bs) : Calls Tryd.prog 14 #[.slice A 32 c] w fun e w' => e = .returned (.tuple #[.agg #[.slice none 0 0, .slice none 0 0, .slice none 0 0], .bool false]) ∧ Below w.heap.size w w' := by
 have h0 := SQ A c bs hc hby h w hr
 rw [hl] at h0
 exact h0
theorem NZ (A : Option Addr) (c : Nat) {bs : List Nat} (h : qW bs) (hby : ∀ z ∈ bs, z < 256) : ∃ o : Pn, o.of (decP h.2) ∧ ∀ w, kT w → Rd w .u8 A bs → Calls Tryd.prog 13 #[.slice A 32 c] w fun e w' => e = .returned (.tuple #[o.v, .int .i64 0]) ∧ Below w.heap.size w w' :=
 DN _ _ _ rfl rfl rfl A c bs h.1 hby h.2
theorem XM {bs : List Nat} (h : qW bs) (hby : ∀ z ∈ bs, z < 256) : iM (decP h.2) = bs := by
 have hlt : bW bs < 2 ^ 256 := by have := oD bs hby; rw [h.1] at this; exact this
 unfold iM
 rw [SL hlt h.2]
 have := Om bs hby
 rw [h.1] at this
 exact this
theorem aaL (A B : Option Addr) (c d n m : Nat) (xs ys : List Nat) (b : Bool) (hn : xs.length = n) (hm : ys.length = m) (hx : ∀ b ∈ xs, b < 256) (hy : ∀ b ∈ ys, b < 256) (hb : decide (xs = ys) = b) (w : World) (hA : Rd w .u8 A xs) (hB : Rd w .u8 B ys) :
 Calls Tryd.prog 16 #[.slice A n c, .slice B m d] w fun e w' => e = .returned (.bool b) ∧ Below w.heap.size w w' := by
 subst hn hm hb
 exact Dt A B c d xs ys hx hy w hA hB
theorem L9 (p : Pn) (lp : p.lt) (b : Bool) (hb : p.on = b) (w : World) (hg : kT w) : Calls Tryd.prog 18 #[p.v] w fun e w' => e = .returned (.bool b) ∧ Below w.heap.size w w' := by
 subst hb
 exact adt p lp w hg
end
end Go.Proofs.YtbghdkmpjiffeaaDoor
