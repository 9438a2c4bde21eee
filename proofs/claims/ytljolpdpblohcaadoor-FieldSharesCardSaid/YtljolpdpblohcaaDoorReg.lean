/-
  A region whose order Go leaves open, walked once: what is known of the world ('Keeps') is kept by its calls; its loads are taken first.
-/
import Derived.Test.YtljolpdpblohcaaDoorWLast
import Derived.Test.YtljolpdpblohcaaDoorLib
namespace Go.Proofs.YtljolpdpblohcaaDoor
open Go.RowKit

/-- The blocks that are known of a world that was made out of w. -/
def Keeps (w : World) (L : List (Nat × Obj)) (v : World) : Prop := Below w.heap.size w v ∧ ∀ p, p ∈ L → v.heap[p.1]? = some p.2
theorem Keeps.step {w v v' : World} {L : List (Nat × Obj)} {B : Nat} (h : Keeps w L v) (hb : Below B v v') (hB : B = v.heap.size) : Keeps w L v' := by
  subst hB
  refine ⟨h.1.trans (hb.mono h.1.size), fun p hp => ?_⟩
  have hq := h.2 p hp
  exact (hb.block p.1 (Array.getElem?_eq_some_iff.mp hq).1).trans hq
theorem Keeps.below {w v : World} {L : List (Nat × Obj)} (h : Keeps w L v) : Below w.heap.size w v := h.1
theorem keeps0 {w v : World} (h : Below w.heap.size w v) : Keeps w [] v := ⟨h, fun p hp => by simp at hp⟩
theorem keepsC {w v : World} {L : List (Nat × Obj)} {b : Nat} {o : Obj} (h0 : v.heap[b]? = some o) (h : Keeps w L v) : Keeps w ((b, o) :: L) v :=
  ⟨h.1, fun p hp => by rcases List.mem_cons.mp hp with rfl | hp; exact h0; exact h.2 p hp⟩
theorem Keeps.pin0 {w v : World} (h : Keeps w [] v) : ∃ x, v = x ∧ Keeps w [] x ∧ w.heap.size ≤ x.heap.size := ⟨v, rfl, h, h.1.size⟩
theorem Keeps.pin1 {w v : World} {b : Nat} {o : Obj} (h : Keeps w [(b, o)] v) : ∃ x, v = x.pin b o ∧ Keeps w [(b, o)] x ∧ w.heap.size ≤ x.heap.size ∧ b < x.heap.size := by
  have h0 := h.2 (b, o) (by simp)
  exact ⟨v, (pin_self h0).symm, h, h.1.size, (Array.getElem?_eq_some_iff.mp h0).1⟩
theorem Keeps.pin2 {w v : World} {b0 b1 : Nat} {o0 o1 : Obj} (h : Keeps w [(b0, o0), (b1, o1)] v) : ∃ x, v = (x.pin b0 o0).pin b1 o1 ∧ Keeps w [(b0, o0), (b1, o1)] x ∧ w.heap.size ≤ x.heap.size ∧ b0 < x.heap.size ∧ b1 < x.heap.size := by
  have h0 := h.2 (b0, o0) (by simp)
  have h1 := h.2 (b1, o1) (by simp)
  exact ⟨v, by rw [pin_self h0, pin_self h1], h, h.1.size, (Array.getElem?_eq_some_iff.mp h0).1, (Array.getElem?_eq_some_iff.mp h1).1⟩
theorem Keeps.pin3 {w v : World} {b0 b1 b2 : Nat} {o0 o1 o2 : Obj} (h : Keeps w [(b0, o0), (b1, o1), (b2, o2)] v) :
    ∃ x, v = ((x.pin b0 o0).pin b1 o1).pin b2 o2 ∧ Keeps w [(b0, o0), (b1, o1), (b2, o2)] x ∧ w.heap.size ≤ x.heap.size ∧ b0 < x.heap.size ∧ b1 < x.heap.size ∧ b2 < x.heap.size := by
  have h0 := h.2 (b0, o0) (by simp)
  have h1 := h.2 (b1, o1) (by simp)
  have h2 := h.2 (b2, o2) (by simp)
  exact ⟨v, by rw [pin_self h0, pin_self h1, pin_self h2], h, h.1.size, (Array.getElem?_eq_some_iff.mp h0).1, (Array.getElem?_eq_some_iff.mp h1).1, (Array.getElem?_eq_some_iff.mp h2).1⟩
theorem Keeps.pin4 {w v : World} {b0 b1 b2 b3 : Nat} {o0 o1 o2 o3 : Obj} (h : Keeps w [(b0, o0), (b1, o1), (b2, o2), (b3, o3)] v) :
    ∃ x, v = (((x.pin b0 o0).pin b1 o1).pin b2 o2).pin b3 o3 ∧ Keeps w [(b0, o0), (b1, o1), (b2, o2), (b3, o3)] x ∧ w.heap.size ≤ x.heap.size ∧ b0 < x.heap.size ∧ b1 < x.heap.size ∧ b2 < x.heap.size ∧ b3 < x.heap.size := by
  have h0 := h.2 (b0, o0) (by simp)
  have h1 := h.2 (b1, o1) (by simp)
  have h2 := h.2 (b2, o2) (by simp)
  have h3 := h.2 (b3, o3) (by simp)
  exact ⟨v, by rw [pin_self h0, pin_self h1, pin_self h2, pin_self h3], h, h.1.size, (Array.getElem?_eq_some_iff.mp h0).1, (Array.getElem?_eq_some_iff.mp h1).1, (Array.getElem?_eq_some_iff.mp h2).1, (Array.getElem?_eq_some_iff.mp h3).1⟩

/-- What was put into a frame, one behind the other. -/
def puts : Act → List (Tmp × Value) → Act
  | a, [] => a
  | a, (d, v) :: l => puts (a.put (some d) v) l
/-- The ways through a region meet behind it. -/
theorem region_cut {P : Program} {c : Code} {Q : Exit → Act → World → Prop} {a : Act} {w : World} {σ : Type} (f : σ → List (Tmp × Value)) (R : σ → World → Prop)
    (h : c.wp P (fun e a' w' => e = .normal ∧ ∃ s, a' = puts a (f s) ∧ R s w') a w) (hk : ∀ s w', R s w' → Q .normal (puts a (f s)) w') : c.wp P Q a w :=
  Code.wp_mono (fun e a' w' ⟨he, s, ha, hR⟩ => by subst he; subst ha; exact hk s w' hR) h

end Go.Proofs.YtljolpdpblohcaaDoor
