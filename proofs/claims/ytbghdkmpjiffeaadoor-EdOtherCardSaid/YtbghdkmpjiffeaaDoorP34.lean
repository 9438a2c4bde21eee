/-
  Shared, part 34: walks and plain laws; each theorem states its own conditions.
-/
import Derived.Test.YtbghdkmpjiffeaaDoorP33
namespace Go.Proofs.YtbghdkmpjiffeaaDoor
set_option linter.unusedSimpArgs false
set_option linter.unusedVariables false
set_option maxRecDepth 100000
set_option maxHeartbeats 8000000
section
open Go.RowKit Go.Proofs.YtbghdkmpjiffeaaDoorW.PrintLast
theorem Rd.ku {w : World} {g : Nat} {o' : Obj} {k : IntKind} {A A1 A2 A3 : Option Addr} {n1 n2 n3 c1 c2 c3 : Nat} {xs : List Nat} (h : Rd w k A xs) (hg : w.heap[g]? = some (.cells #[.slice A1 n1 c1, .slice A2 n2 c2, .slice A3 n3 c3] 34)) : Rd (w.pin g o') k A xs := by
 have h1 : Rd (w.pin g (.cells #[.slice A1 n1 c1, .slice A2 n2 c2, .slice A3 n3 c3] 34)) k A xs := by rw [aN hg]; exact h
 exact Rd.oI (Array.getElem?_eq_some_iff.mp hg).1 h1
structure rE (p q b o : Dp) (R : Option Addr) (r : Nat) (A : Option Addr) (ns : List Nat) (B : Option Addr) (ms : List Nat) (w : World) : Prop where
 p : p.ok w
 q : q.ok w
 b : b.ok w
 o : o.ok w
 d : Dn w R r dN
 n : Rd w .u8 A ns
 m : Rd w .u8 B ms
theorem Dp.ok.ku {w : World} {g : Nat} {o' : Obj} {p : Dp} {A1 A2 A3 : Option Addr} {n1 n2 n3 c1 c2 c3 : Nat} (h : p.ok w) (hg : w.heap[g]? = some (.cells #[.slice A1 n1 c1, .slice A2 n2 c2, .slice A3 n3 c3] 34)) : p.ok (w.pin g o') := ⟨⟨h.x.1.ku hg, h.x.2⟩, ⟨h.y.1.ku hg, h.y.2⟩, ⟨h.z.1.ku hg, h.z.2⟩⟩
theorem rE.next {p q b o : Dp} {R : Option Addr} {r : Nat} {A B : Option Addr} {ns ms : List Nat} {w w' : World} (h : rE p q b o R r A ns B ms w) (hb : Below w.heap.size w w') : rE p q b o R r A ns B ms w' := ⟨h.p.next hb, h.q.next hb, h.b.next hb, h.o.next hb, h.d.next hb, h.n.mono hb (Nat.le_refl _), h.m.mono hb (Nat.le_refl _)⟩
theorem rE.put {p q b o : Dp} {R : Option Addr} {r : Nat} {A B : Option Addr} {ns ms : List Nat} {w : World} {g : Nat} {o' : Obj} {A1 A2 A3 : Option Addr} {n1 n2 n3 c1 c2 c3 : Nat} (h : rE p q b o R r A ns B ms w) (hg : w.heap[g]? = some (.cells #[.slice A1 n1 c1, .slice A2 n2 c2, .slice A3 n3 c3] 34)) (k : Dp) (hk : k.ok w) : rE p q b k R r A ns B ms (w.pin g o') := ⟨h.p.ku hg, h.q.ku hg, h.b.ku hg, hk.ku hg, ⟨h.d.1.ku hg, h.d.2⟩, h.n.ku hg, h.m.ku hg⟩
end
end Go.Proofs.YtbghdkmpjiffeaaDoor
