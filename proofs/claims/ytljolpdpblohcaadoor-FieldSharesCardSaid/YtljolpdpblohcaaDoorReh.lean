/-
  A region that makes a variable beside its calls: its ways meet behind it.
-/
import Derived.Test.YtljolpdpblohcaaDoorReg
namespace Go.Proofs.YtljolpdpblohcaaDoor
open Go.RowKit Go.Proofs.YtljolpdpblohcaaDoorW.PrintLast

theorem startV {P : Program} {ops : Array Oper} {Q : Exit → Act → World → Prop} {S : World → Prop} {ds : List Nat} {id n : Nat} {a : Act} {w : World} (l : Array Bool) (hm : P.follows .mixedOrders = true) (hn : ops.size = n) (hl : Array.replicate n false = l) (hS : S w.drew)
    (h : ∀ v, S v → wpAnyLast P .any ops Q S ds n l a v) : (Code.region id ops true).wp P Q a w := start_ l hm hn hl hS (fun h0 => h _ h0)
theorem Keeps.lt {w v : World} {L : List (Nat × Obj)} (h : Keeps w L v) : ∀ p ∈ L, p.1 < v.heap.size := fun p hp => (Array.getElem?_eq_some_iff.mp (h.2 p hp)).1
theorem Keeps.new {w v : World} {L : List (Nat × Obj)} {o : Obj} (h : Keeps w L v) : Keeps w L (v.alloc o) ∧ Keeps w ((v.heap.size, o) :: L) (v.alloc o) := by
  have h1 : Keeps w L (v.alloc o) := h.step (Below.alloc (Below.refl v.heap.size v) (Nat.le_refl _) o) rfl
  exact ⟨h1, keepsC (alloc_at rfl) h1⟩
theorem Keeps.pin5 {w v : World} {b0 b1 b2 b3 b4 : Nat} {o0 o1 o2 o3 o4 : Obj} (h : Keeps w [(b0, o0), (b1, o1), (b2, o2), (b3, o3), (b4, o4)] v) :
    ∃ x, v = ((((x.pin b0 o0).pin b1 o1).pin b2 o2).pin b3 o3).pin b4 o4 ∧ Keeps w [(b0, o0), (b1, o1), (b2, o2), (b3, o3), (b4, o4)] x ∧ w.heap.size ≤ x.heap.size ∧ b0 < x.heap.size ∧ b1 < x.heap.size ∧ b2 < x.heap.size ∧ b3 < x.heap.size ∧ b4 < x.heap.size := by
  have h0 := h.2 (b0, o0) (by simp)
  have h1 := h.2 (b1, o1) (by simp)
  have h2 := h.2 (b2, o2) (by simp)
  have h3 := h.2 (b3, o3) (by simp)
  have h4 := h.2 (b4, o4) (by simp)
  exact ⟨v, by rw [pin_self h0, pin_self h1, pin_self h2, pin_self h3, pin_self h4], h, h.1.size, (Array.getElem?_eq_some_iff.mp h0).1, (Array.getElem?_eq_some_iff.mp h1).1, (Array.getElem?_eq_some_iff.mp h2).1, (Array.getElem?_eq_some_iff.mp h3).1, (Array.getElem?_eq_some_iff.mp h4).1⟩
theorem Keeps.pin6 {w v : World} {b0 b1 b2 b3 b4 b5 : Nat} {o0 o1 o2 o3 o4 o5 : Obj} (h : Keeps w [(b0, o0), (b1, o1), (b2, o2), (b3, o3), (b4, o4), (b5, o5)] v) :
    ∃ x, v = (((((x.pin b0 o0).pin b1 o1).pin b2 o2).pin b3 o3).pin b4 o4).pin b5 o5 ∧ Keeps w [(b0, o0), (b1, o1), (b2, o2), (b3, o3), (b4, o4), (b5, o5)] x ∧ w.heap.size ≤ x.heap.size ∧ b0 < x.heap.size ∧ b1 < x.heap.size ∧ b2 < x.heap.size ∧ b3 < x.heap.size ∧ b4 < x.heap.size ∧ b5 < x.heap.size := by
  have h0 := h.2 (b0, o0) (by simp)
  have h1 := h.2 (b1, o1) (by simp)
  have h2 := h.2 (b2, o2) (by simp)
  have h3 := h.2 (b3, o3) (by simp)
  have h4 := h.2 (b4, o4) (by simp)
  have h5 := h.2 (b5, o5) (by simp)
  exact ⟨v, by rw [pin_self h0, pin_self h1, pin_self h2, pin_self h3, pin_self h4, pin_self h5], h, h.1.size, (Array.getElem?_eq_some_iff.mp h0).1, (Array.getElem?_eq_some_iff.mp h1).1, (Array.getElem?_eq_some_iff.mp h2).1, (Array.getElem?_eq_some_iff.mp h3).1, (Array.getElem?_eq_some_iff.mp h4).1, (Array.getElem?_eq_some_iff.mp h5).1⟩
theorem keep5 {B : Nat} {W y : World} (hb : Below B W y) (hB : B = W.heap.size) {b0 b1 b2 b3 b4 : Nat} {o0 o1 o2 o3 o4 : Obj} (h0 : W.heap[b0]? = some o0) (h1 : W.heap[b1]? = some o1) (h2 : W.heap[b2]? = some o2) (h3 : W.heap[b3]? = some o3) (h4 : W.heap[b4]? = some o4) :
    ∃ x, y = ((((x.pin b0 o0).pin b1 o1).pin b2 o2).pin b3 o3).pin b4 o4 ∧ Below B W x ∧ B ≤ x.heap.size ∧ b0 < x.heap.size ∧ b1 < x.heap.size ∧ b2 < x.heap.size ∧ b3 < x.heap.size ∧ b4 < x.heap.size := by
  obtain ⟨x, rfl, hx, hs, l1, l2, l3, l4⟩ := keep4 hb hB h1 h2 h3 h4
  have hlt : b0 < W.heap.size := (Array.getElem?_eq_some_iff.mp h0).1
  exact ⟨x, by rw [pin_self ((hx.block b0 (by omega)).trans h0)], hx, hs, by omega, l1, l2, l3, l4⟩

end Go.Proofs.YtljolpdpblohcaaDoor
