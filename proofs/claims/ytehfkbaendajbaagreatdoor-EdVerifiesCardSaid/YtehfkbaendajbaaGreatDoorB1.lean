/-
  Shared, part 1: walks and plain laws; each theorem states its own conditions.
-/
import Derived.Test.YtehfkbaendajbaaGreatDoorWLast
import Derived.Lib.Hide
import Derived.LoopN
import Derived.RegionTactic
import Derived.WalkKit
import Derived.WalkLawsBesides
import Derived.WalkSpells
namespace Go.Proofs.YtehfkbaendajbaaGreatDoor
set_option linter.unusedSimpArgs false
set_option linter.unusedVariables false
set_option maxRecDepth 100000
set_option maxHeartbeats 8000000
section
open Go.RowKit
def _root_.Go.World.pin (w : World) (b : Nat) (o : Obj) : World := { w with heap := w.heap.setIfInBounds b o }
section
variable {w : World} {b n i : Nat} {o o' : Obj} {c : Array Value} {t : TypeId} {v : Value}
@[go_sem] theorem aA : (w.pin b o).heap.size = w.heap.size := by simp [World.pin]
theorem eY (h : b < w.heap.size) : (w.pin b o).heap[b]? = some o := by simp [World.pin, h]
theorem je (h : n ≠ b) : (w.pin b o).heap[n]? = w.heap[n]? := by simp [World.pin, Ne.symm h]
theorem alloc_at (h : n = w.heap.size) : (w.alloc o).heap[n]? = some o := by subst h; exact heap_alloc_new w o
theorem qJ (h : n < w.heap.size) : (w.alloc o).heap[n]? = w.heap[n]? := by
 exact heap_alloc_old w o h
theorem jw (hn : w.heap[n]? = some o) (h : n < w.heap.size) : (w.alloc o').heap[n]? = some o := (qJ h).trans hn
theorem lg (hn : w.heap[n]? = some o) : w.drew.heap[n]? = some o := hn
theorem ng (hn : w.heap[n]? = some o) (h : n ≠ b) : (w.pin b o').heap[n]? = some o := (je h).trans hn
@[go_sem] theorem afr (h : b < w.heap.size) : (w.pin b (.cells c t)).cell? ⟨b, i, none⟩ = c[i]? := by
 simp only [World.cell?, eY h]; simp
theorem jM (h : n ≠ b) : (w.pin b o).cell? ⟨n, i, none⟩ = w.cell? ⟨n, i, none⟩ := by
 simp only [World.cell?, je h]
@[go_sem] theorem Z5 (h : n < b) : (w.pin b o).cell? ⟨n, i, none⟩ = w.cell? ⟨n, i, none⟩ := jM (by omega)
@[go_sem] theorem ZY (h : b < n) : (w.pin b o).cell? ⟨n, i, none⟩ = w.cell? ⟨n, i, none⟩ := jM (by omega)
@[go_sem] theorem acv (h : b < w.heap.size) : (w.pin b (.cells c t)).frozen? ⟨b, i, none⟩ = false := by
 simp only [World.frozen?, eY h]; simp
theorem pV (h : n ≠ b) : (w.pin b o).frozen? ⟨n, i, none⟩ = w.frozen? ⟨n, i, none⟩ := by
 simp only [World.frozen?, je h]
@[go_sem] theorem WI (h : n < b) : (w.pin b o).frozen? ⟨n, i, none⟩ = w.frozen? ⟨n, i, none⟩ := pV (by omega)
@[go_sem] theorem WH (h : b < n) : (w.pin b o).frozen? ⟨n, i, none⟩ = w.frozen? ⟨n, i, none⟩ := pV (by omega)
@[go_sem] theorem IQ : (w.pin b (.cells c t)).setCell ⟨b, i, none⟩ v = w.pin b (.cells (c.setIfInBounds i v) t) := by
 simp only [World.pin, World.setCell]
 congr 1
 apply Array.ext_getElem?
 intro k
 simp only [Array.getElem?_modify, Array.getElem?_setIfInBounds]
 split <;> simp_all
theorem oJ (h : n ≠ b) : (w.pin b o).setCell ⟨n, i, none⟩ v = (w.setCell ⟨n, i, none⟩ v).pin b o := by
 simp only [World.pin, World.setCell]
 congr 1
 apply Array.ext_getElem?
 intro k
 simp only [Array.getElem?_modify, Array.getElem?_setIfInBounds, Array.size_modify]
 by_cases h1 : b = k
 · subst h1; simp [h]
 · simp [h1]
@[go_sem] theorem Vm (h : n < b) : (w.pin b o).setCell ⟨n, i, none⟩ v = (w.setCell ⟨n, i, none⟩ v).pin b o := oJ (by omega)
@[go_sem] theorem Vl (h : b < n) : (w.pin b o).setCell ⟨n, i, none⟩ v = (w.setCell ⟨n, i, none⟩ v).pin b o := oJ (by omega)
@[go_sem] theorem afs : w.drew.pin b o = (w.pin b o).drew := rfl
theorem aN (h : w.heap[b]? = some o) : w.pin b o = w := by
 obtain ⟨hb, h⟩ := Array.getElem?_eq_some_iff.mp h
 simp only [World.pin]
 congr 1
 apply Array.ext_getElem?
 intro k
 simp only [Array.getElem?_setIfInBounds]
 by_cases h1 : b = k
 · subst h1; simp [hb, h]
 · simp [h1]
end
@[go_sem] theorem ac2 {a b c : Nat} (h : a < b) : (a < b + c) = True := eq_true (by omega)
theorem jS {B b : Nat} {a w : World} {o : Obj} (h : Below B a w) (hb : B ≤ b) : Below B a (w.pin b o) :=
 h.trans ⟨rfl, rfl, rfl, by simp [World.pin], fun k hk => by rw [je (by omega)]⟩
theorem bQ {B : Nat} {W y : World} (hb : Below B W y) (hB : B = W.heap.size) {b : Nat} {o : Obj} (h : W.heap[b]? = some o) :
 ∃ x, y = x.pin b o ∧ Below B W x ∧ B ≤ x.heap.size ∧ b < x.heap.size := by
 have hs := hb.size
 have hlt : b < W.heap.size := (Array.getElem?_eq_some_iff.mp h).1
 exact ⟨y, (aN ((hb.block b (by omega)).trans h)).symm, hb, by omega, by omega⟩
theorem fO {B : Nat} {W y : World} (hb : Below B W y) (hB : B = W.heap.size) {b0 b1 : Nat} {o0 o1 : Obj} (h0 : W.heap[b0]? = some o0) (h1 : W.heap[b1]? = some o1) :
 ∃ x, y = (x.pin b0 o0).pin b1 o1 ∧ Below B W x ∧ B ≤ x.heap.size ∧ b0 < x.heap.size ∧ b1 < x.heap.size := by
 obtain ⟨x, rfl, hx, hs, l1⟩ := bQ hb hB h1
 have hlt : b0 < W.heap.size := (Array.getElem?_eq_some_iff.mp h0).1
 exact ⟨x, by rw [aN ((hx.block b0 (by omega)).trans h0)], hx, hs, by omega, l1⟩
theorem bZ {B : Nat} {W y : World} (hb : Below B W y) (hB : B = W.heap.size) {b0 b1 b2 : Nat} {o0 o1 o2 : Obj} (h0 : W.heap[b0]? = some o0) (h1 : W.heap[b1]? = some o1) (h2 : W.heap[b2]? = some o2) :
 ∃ x, y = ((x.pin b0 o0).pin b1 o1).pin b2 o2 ∧ Below B W x ∧ B ≤ x.heap.size ∧ b0 < x.heap.size ∧ b1 < x.heap.size ∧ b2 < x.heap.size := by
 obtain ⟨x, rfl, hx, hs, l1, l2⟩ := fO hb hB h1 h2
 have hlt : b0 < W.heap.size := (Array.getElem?_eq_some_iff.mp h0).1
 exact ⟨x, by rw [aN ((hx.block b0 (by omega)).trans h0)], hx, hs, by omega, l1, l2⟩
theorem Bl {B : Nat} {W y : World} (hb : Below B W y) (hB : B = W.heap.size) {b0 b1 b2 b3 : Nat} {o0 o1 o2 o3 : Obj} (h0 : W.heap[b0]? = some o0) (h1 : W.heap[b1]? = some o1) (h2 : W.heap[b2]? = some o2) (h3 : W.heap[b3]? = some o3) :
 ∃ x, y = (((x.pin b0 o0).pin b1 o1).pin b2 o2).pin b3 o3 ∧ Below B W x ∧ B ≤ x.heap.size ∧ b0 < x.heap.size ∧ b1 < x.heap.size ∧ b2 < x.heap.size ∧ b3 < x.heap.size := by
 obtain ⟨x, rfl, hx, hs, l1, l2, l3⟩ := bZ hb hB h1 h2 h3
 have hlt : b0 < W.heap.size := (Array.getElem?_eq_some_iff.mp h0).1
 exact ⟨x, by rw [aN ((hx.block b0 (by omega)).trans h0)], hx, hs, by omega, l1, l2, l3⟩
theorem xI {w : World} {b0 : Nat} {o0 : Obj} (h0 : w.heap[b0]? = some o0) : w = w.pin b0 o0 := by rw [aN h0]
theorem Es {w : World} {b0 b1 : Nat} {o0 o1 : Obj} (h0 : w.heap[b0]? = some o0) (h1 : w.heap[b1]? = some o1) : w = (w.pin b0 o0).pin b1 o1 := by rw [aN h0, aN h1]
theorem jf {w : World} {b0 b1 b2 : Nat} {o0 o1 o2 : Obj} (h0 : w.heap[b0]? = some o0) (h1 : w.heap[b1]? = some o1) (h2 : w.heap[b2]? = some o2) : w = ((w.pin b0 o0).pin b1 o1).pin b2 o2 := by rw [aN h0, aN h1, aN h2]
end
section
open Go.RowKit
@[go_sem] theorem ZX {w : World} {b i : Nat} {c : Array Value} {t : TypeId} {fr : Nat × Nat} (h : b < w.heap.size) : (w.pin b (.cells c t fr)).cell? ⟨b, i, none⟩ = c[i]? := by
 simp only [World.cell?, eY h]; simp
theorem ob {w : World} {b : Nat} {o : Obj} (h : w.heap[b]? = some o := by (repeat (first | with_reducible exact eY (by assumption) | (with_reducible apply eY; (first | omega | (simp only [World.size_alloc, aA, World.size_drew, World.size_setCell] <;> omega))) | (with_reducible apply alloc_at; first | rfl | (simp only [World.size_alloc, aA, World.size_drew, World.size_setCell] <;> omega)) | with_reducible apply ng | with_reducible apply jw | with_reducible apply lg)); all_goals (first | omega | (simp only [World.size_alloc, aA, World.size_drew, World.size_setCell] <;> omega))) : w.heap[b]? = some o := h
theorem pl {B : Nat} {w y w' : World} (h0 : Below B w y) (h : Below B w y → Below B w w' := by (intro hb0; (repeat (first | with_reducible exact hb0 | with_reducible refine jS ?_ ?_ | with_reducible refine Below.alloc ?_ ?_ _ | with_reducible refine Below.setCell ?_ ?_ _ | with_reducible refine Below.drew ?_)); all_goals (first | omega | (simp only [World.size_alloc, aA, World.size_drew, World.size_setCell] <;> omega)))) : Below B w w' := h h0
theorem sz {p : Prop} (h : p := by (first | omega | (simp only [World.size_alloc, aA, World.size_drew, World.size_setCell] <;> omega))) : p := h
end
section
open Go.RowKit
def Keeps (w : World) (L : List (Nat × Obj)) (v : World) : Prop := Below w.heap.size w v ∧ ∀ p, p ∈ L → v.heap[p.1]? = some p.2
theorem Keeps.step {w v v' : World} {L : List (Nat × Obj)} {B : Nat} (h : Keeps w L v) (hb : Below B v v') (hB : B = v.heap.size) : Keeps w L v' := by
 subst hB
 refine ⟨h.1.trans (hb.mono h.1.size), fun p hp => ?_⟩
 have hq := h.2 p hp
 exact (hb.block p.1 (Array.getElem?_eq_some_iff.mp hq).1).trans hq
theorem Keeps.below {w v : World} {L : List (Nat × Obj)} (h : Keeps w L v) : Below w.heap.size w v := h.1
theorem aO {w v : World} (h : Below w.heap.size w v) : Keeps w [] v := ⟨h, fun p hp => by simp at hp⟩
theorem ak {w v : World} {L : List (Nat × Obj)} {b : Nat} {o : Obj} (h0 : v.heap[b]? = some o) (h : Keeps w L v) : Keeps w ((b, o) :: L) v :=
 ⟨h.1, fun p hp => by rcases List.mem_cons.mp hp with rfl | hp; exact h0; exact h.2 p hp⟩
theorem Keeps.akF {w v : World} (h : Keeps w [] v) : ∃ x, v = x ∧ Keeps w [] x ∧ w.heap.size ≤ x.heap.size := ⟨v, rfl, h, h.1.size⟩
theorem Keeps.jE {w v : World} {b : Nat} {o : Obj} (h : Keeps w [(b, o)] v) : ∃ x, v = x.pin b o ∧ Keeps w [(b, o)] x ∧ w.heap.size ≤ x.heap.size ∧ b < x.heap.size := by
 have h0 := h.2 (b, o) (by simp)
 exact ⟨v, (aN h0).symm, h, h.1.size, (Array.getElem?_eq_some_iff.mp h0).1⟩
theorem Keeps.iL {w v : World} {b0 b1 : Nat} {o0 o1 : Obj} (h : Keeps w [(b0, o0), (b1, o1)] v) : ∃ x, v = (x.pin b0 o0).pin b1 o1 ∧ Keeps w [(b0, o0), (b1, o1)] x ∧ w.heap.size ≤ x.heap.size ∧ b0 < x.heap.size ∧ b1 < x.heap.size := by
 have h0 := h.2 (b0, o0) (by simp)
 have h1 := h.2 (b1, o1) (by simp)
 exact ⟨v, by rw [aN h0, aN h1], h, h.1.size, (Array.getElem?_eq_some_iff.mp h0).1, (Array.getElem?_eq_some_iff.mp h1).1⟩
theorem Keeps.eG {w v : World} {b0 b1 b2 : Nat} {o0 o1 o2 : Obj} (h : Keeps w [(b0, o0), (b1, o1), (b2, o2)] v) :
 ∃ x, v = ((x.pin b0 o0).pin b1 o1).pin b2 o2 ∧ Keeps w [(b0, o0), (b1, o1), (b2, o2)] x ∧ w.heap.size ≤ x.heap.size ∧ b0 < x.heap.size ∧ b1 < x.heap.size ∧ b2 < x.heap.size := by
 have h0 := h.2 (b0, o0) (by simp)
 have h1 := h.2 (b1, o1) (by simp)
 have h2 := h.2 (b2, o2) (by simp)
 exact ⟨v, by rw [aN h0, aN h1, aN h2], h, h.1.size, (Array.getElem?_eq_some_iff.mp h0).1, (Array.getElem?_eq_some_iff.mp h1).1, (Array.getElem?_eq_some_iff.mp h2).1⟩
theorem Keeps.iO {w v : World} {b0 b1 b2 b3 : Nat} {o0 o1 o2 o3 : Obj} (h : Keeps w [(b0, o0), (b1, o1), (b2, o2), (b3, o3)] v) :
 ∃ x, v = (((x.pin b0 o0).pin b1 o1).pin b2 o2).pin b3 o3 ∧ Keeps w [(b0, o0), (b1, o1), (b2, o2), (b3, o3)] x ∧ w.heap.size ≤ x.heap.size ∧ b0 < x.heap.size ∧ b1 < x.heap.size ∧ b2 < x.heap.size ∧ b3 < x.heap.size := by
 have h0 := h.2 (b0, o0) (by simp)
 have h1 := h.2 (b1, o1) (by simp)
 have h2 := h.2 (b2, o2) (by simp)
 have h3 := h.2 (b3, o3) (by simp)
 exact ⟨v, by rw [aN h0, aN h1, aN h2, aN h3], h, h.1.size, (Array.getElem?_eq_some_iff.mp h0).1, (Array.getElem?_eq_some_iff.mp h1).1, (Array.getElem?_eq_some_iff.mp h2).1, (Array.getElem?_eq_some_iff.mp h3).1⟩
def puts : Act → List (Tmp × Value) → Act
 | a, [] => a
 | a, (d, v) :: l => puts (a.put (some d) v) l
theorem vN {P : Program} {c : Code} {Q : Exit → Act → World → Prop} {a : Act} {w : World} {σ : Type} (f : σ → List (Tmp × Value)) (R : σ → World → Prop)
 (h : c.wp P (fun e a' w' => e = .normal ∧ ∃ s, a' = puts a (f s) ∧ R s w') a w) (hk : ∀ s w', R s w' → Q .normal (puts a (f s)) w') : c.wp P Q a w :=
 Code.wp_mono (fun e a' w' ⟨he, s, ha, hR⟩ => by subst he; subst ha; exact hk s w' hR) h
end
section
open Go.RowKit Go.Proofs.YtehfkbaendajbaaGreatDoorW.PrintLast
theorem LC {P : Program} {ops : Array Oper} {Q : Exit → Act → World → Prop} {S : World → Prop} {ds : List Nat} {id n : Nat} {a : Act} {w : World} (l : Array Bool) (hm : P.follows .mixedOrders = true) (hn : ops.size = n) (hl : Array.replicate n false = l) (hS : S w.drew)
 (h : ∀ v, S v → wpAnyLast P .any ops Q S ds n l a v) : (Code.region id ops true).wp P Q a w := start_ l hm hn hl hS (fun h0 => h _ h0)
theorem Keeps.lt {w v : World} {L : List (Nat × Obj)} (h : Keeps w L v) : ∀ p ∈ L, p.1 < v.heap.size := fun p hp => (Array.getElem?_eq_some_iff.mp (h.2 p hp)).1
theorem Keeps.new {w v : World} {L : List (Nat × Obj)} {o : Obj} (h : Keeps w L v) : Keeps w L (v.alloc o) ∧ Keeps w ((v.heap.size, o) :: L) (v.alloc o) := by
 have h1 : Keeps w L (v.alloc o) := h.step (Below.alloc (Below.refl v.heap.size v) (Nat.le_refl _) o) rfl
 exact ⟨h1, ak (alloc_at rfl) h1⟩
theorem Keeps.ji {w v : World} {b0 b1 b2 b3 b4 : Nat} {o0 o1 o2 o3 o4 : Obj} (h : Keeps w [(b0, o0), (b1, o1), (b2, o2), (b3, o3), (b4, o4)] v) :
 ∃ x, v = ((((x.pin b0 o0).pin b1 o1).pin b2 o2).pin b3 o3).pin b4 o4 ∧ Keeps w [(b0, o0), (b1, o1), (b2, o2), (b3, o3), (b4, o4)] x ∧ w.heap.size ≤ x.heap.size ∧ b0 < x.heap.size ∧ b1 < x.heap.size ∧ b2 < x.heap.size ∧ b3 < x.heap.size ∧ b4 < x.heap.size := by
 have h0 := h.2 (b0, o0) (by simp)
 have h1 := h.2 (b1, o1) (by simp)
 have h2 := h.2 (b2, o2) (by simp)
 have h3 := h.2 (b3, o3) (by simp)
 have h4 := h.2 (b4, o4) (by simp)
 exact ⟨v, by rw [aN h0, aN h1, aN h2, aN h3, aN h4], h, h.1.size, (Array.getElem?_eq_some_iff.mp h0).1, (Array.getElem?_eq_some_iff.mp h1).1, (Array.getElem?_eq_some_iff.mp h2).1, (Array.getElem?_eq_some_iff.mp h3).1, (Array.getElem?_eq_some_iff.mp h4).1⟩
theorem Keeps.FN {w v : World} {b0 b1 b2 b3 b4 b5 : Nat} {o0 o1 o2 o3 o4 o5 : Obj} (h : Keeps w [(b0, o0), (b1, o1), (b2, o2), (b3, o3), (b4, o4), (b5, o5)] v) :
 ∃ x, v = (((((x.pin b0 o0).pin b1 o1).pin b2 o2).pin b3 o3).pin b4 o4).pin b5 o5 ∧ Keeps w [(b0, o0), (b1, o1), (b2, o2), (b3, o3), (b4, o4), (b5, o5)] x ∧ w.heap.size ≤ x.heap.size ∧ b0 < x.heap.size ∧ b1 < x.heap.size ∧ b2 < x.heap.size ∧ b3 < x.heap.size ∧ b4 < x.heap.size ∧ b5 < x.heap.size := by
 have h0 := h.2 (b0, o0) (by simp)
 have h1 := h.2 (b1, o1) (by simp)
 have h2 := h.2 (b2, o2) (by simp)
 have h3 := h.2 (b3, o3) (by simp)
 have h4 := h.2 (b4, o4) (by simp)
 have h5 := h.2 (b5, o5) (by simp)
 exact ⟨v, by rw [aN h0, aN h1, aN h2, aN h3, aN h4, aN h5], h, h.1.size, (Array.getElem?_eq_some_iff.mp h0).1, (Array.getElem?_eq_some_iff.mp h1).1, (Array.getElem?_eq_some_iff.mp h2).1, (Array.getElem?_eq_some_iff.mp h3).1, (Array.getElem?_eq_some_iff.mp h4).1, (Array.getElem?_eq_some_iff.mp h5).1⟩
theorem dZ {B : Nat} {W y : World} (hb : Below B W y) (hB : B = W.heap.size) {b0 b1 b2 b3 b4 : Nat} {o0 o1 o2 o3 o4 : Obj} (h0 : W.heap[b0]? = some o0) (h1 : W.heap[b1]? = some o1) (h2 : W.heap[b2]? = some o2) (h3 : W.heap[b3]? = some o3) (h4 : W.heap[b4]? = some o4) :
 ∃ x, y = ((((x.pin b0 o0).pin b1 o1).pin b2 o2).pin b3 o3).pin b4 o4 ∧ Below B W x ∧ B ≤ x.heap.size ∧ b0 < x.heap.size ∧ b1 < x.heap.size ∧ b2 < x.heap.size ∧ b3 < x.heap.size ∧ b4 < x.heap.size := by
 obtain ⟨x, rfl, hx, hs, l1, l2, l3, l4⟩ := Bl hb hB h1 h2 h3 h4
 have hlt : b0 < W.heap.size := (Array.getElem?_eq_some_iff.mp h0).1
 exact ⟨x, by rw [aN ((hx.block b0 (by omega)).trans h0)], hx, hs, by omega, l1, l2, l3, l4⟩
end
section
open Go.RowKit Go.Proofs.YtehfkbaendajbaaGreatDoorW.PrintLast
theorem Keeps.akG {w v : World} {b0 b1 b2 b3 b4 b5 b6 : Nat} {o0 o1 o2 o3 o4 o5 o6 : Obj} (h : Keeps w [(b0, o0), (b1, o1), (b2, o2), (b3, o3), (b4, o4), (b5, o5), (b6, o6)] v) :
 ∃ x, v = ((((((x.pin b0 o0).pin b1 o1).pin b2 o2).pin b3 o3).pin b4 o4).pin b5 o5).pin b6 o6 ∧ Keeps w [(b0, o0), (b1, o1), (b2, o2), (b3, o3), (b4, o4), (b5, o5), (b6, o6)] x ∧ w.heap.size ≤ x.heap.size ∧ b0 < x.heap.size ∧ b1 < x.heap.size ∧ b2 < x.heap.size ∧ b3 < x.heap.size ∧ b4 < x.heap.size ∧ b5 < x.heap.size ∧ b6 < x.heap.size := by
 have h0 := h.2 (b0, o0) (by simp)
 have h1 := h.2 (b1, o1) (by simp)
 have h2 := h.2 (b2, o2) (by simp)
 have h3 := h.2 (b3, o3) (by simp)
 have h4 := h.2 (b4, o4) (by simp)
 have h5 := h.2 (b5, o5) (by simp)
 have h6 := h.2 (b6, o6) (by simp)
 exact ⟨v, by rw [aN h0, aN h1, aN h2, aN h3, aN h4, aN h5, aN h6], h, h.1.size, (Array.getElem?_eq_some_iff.mp h0).1, (Array.getElem?_eq_some_iff.mp h1).1, (Array.getElem?_eq_some_iff.mp h2).1, (Array.getElem?_eq_some_iff.mp h3).1, (Array.getElem?_eq_some_iff.mp h4).1, (Array.getElem?_eq_some_iff.mp h5).1, (Array.getElem?_eq_some_iff.mp h6).1⟩
theorem Keeps.akH {w v : World} {b0 b1 b2 b3 b4 b5 b6 b7 : Nat} {o0 o1 o2 o3 o4 o5 o6 o7 : Obj} (h : Keeps w [(b0, o0), (b1, o1), (b2, o2), (b3, o3), (b4, o4), (b5, o5), (b6, o6), (b7, o7)] v) :
 ∃ x, v = (((((((x.pin b0 o0).pin b1 o1).pin b2 o2).pin b3 o3).pin b4 o4).pin b5 o5).pin b6 o6).pin b7 o7 ∧ Keeps w [(b0, o0), (b1, o1), (b2, o2), (b3, o3), (b4, o4), (b5, o5), (b6, o6), (b7, o7)] x ∧ w.heap.size ≤ x.heap.size ∧ b0 < x.heap.size ∧ b1 < x.heap.size ∧ b2 < x.heap.size ∧ b3 < x.heap.size ∧ b4 < x.heap.size ∧ b5 < x.heap.size ∧ b6 < x.heap.size ∧ b7 < x.heap.size := by
 have h0 := h.2 (b0, o0) (by simp)
 have h1 := h.2 (b1, o1) (by simp)
 have h2 := h.2 (b2, o2) (by simp)
 have h3 := h.2 (b3, o3) (by simp)
 have h4 := h.2 (b4, o4) (by simp)
 have h5 := h.2 (b5, o5) (by simp)
 have h6 := h.2 (b6, o6) (by simp)
 have h7 := h.2 (b7, o7) (by simp)
 exact ⟨v, by rw [aN h0, aN h1, aN h2, aN h3, aN h4, aN h5, aN h6, aN h7], h, h.1.size, (Array.getElem?_eq_some_iff.mp h0).1, (Array.getElem?_eq_some_iff.mp h1).1, (Array.getElem?_eq_some_iff.mp h2).1, (Array.getElem?_eq_some_iff.mp h3).1, (Array.getElem?_eq_some_iff.mp h4).1, (Array.getElem?_eq_some_iff.mp h5).1, (Array.getElem?_eq_some_iff.mp h6).1, (Array.getElem?_eq_some_iff.mp h7).1⟩
theorem Keeps.akI {w v : World} {b0 b1 b2 b3 b4 b5 b6 b7 b8 : Nat} {o0 o1 o2 o3 o4 o5 o6 o7 o8 : Obj} (h : Keeps w [(b0, o0), (b1, o1), (b2, o2), (b3, o3), (b4, o4), (b5, o5), (b6, o6), (b7, o7), (b8, o8)] v) :
 ∃ x, v = ((((((((x.pin b0 o0).pin b1 o1).pin b2 o2).pin b3 o3).pin b4 o4).pin b5 o5).pin b6 o6).pin b7 o7).pin b8 o8 ∧ Keeps w [(b0, o0), (b1, o1), (b2, o2), (b3, o3), (b4, o4), (b5, o5), (b6, o6), (b7, o7), (b8, o8)] x ∧ w.heap.size ≤ x.heap.size ∧ b0 < x.heap.size ∧ b1 < x.heap.size ∧ b2 < x.heap.size ∧ b3 < x.heap.size ∧ b4 < x.heap.size ∧ b5 < x.heap.size ∧ b6 < x.heap.size ∧ b7 < x.heap.size ∧ b8 < x.heap.size := by
 have h0 := h.2 (b0, o0) (by simp)
 have h1 := h.2 (b1, o1) (by simp)
 have h2 := h.2 (b2, o2) (by simp)
 have h3 := h.2 (b3, o3) (by simp)
 have h4 := h.2 (b4, o4) (by simp)
 have h5 := h.2 (b5, o5) (by simp)
 have h6 := h.2 (b6, o6) (by simp)
 have h7 := h.2 (b7, o7) (by simp)
 have h8 := h.2 (b8, o8) (by simp)
 exact ⟨v, by rw [aN h0, aN h1, aN h2, aN h3, aN h4, aN h5, aN h6, aN h7, aN h8], h, h.1.size, (Array.getElem?_eq_some_iff.mp h0).1, (Array.getElem?_eq_some_iff.mp h1).1, (Array.getElem?_eq_some_iff.mp h2).1, (Array.getElem?_eq_some_iff.mp h3).1, (Array.getElem?_eq_some_iff.mp h4).1, (Array.getElem?_eq_some_iff.mp h5).1, (Array.getElem?_eq_some_iff.mp h6).1, (Array.getElem?_eq_some_iff.mp h7).1, (Array.getElem?_eq_some_iff.mp h8).1⟩
theorem Keeps.afY {w v : World} {b0 b1 b2 b3 b4 b5 b6 b7 b8 b9 : Nat} {o0 o1 o2 o3 o4 o5 o6 o7 o8 o9 : Obj} (h : Keeps w [(b0, o0), (b1, o1), (b2, o2), (b3, o3), (b4, o4), (b5, o5), (b6, o6), (b7, o7), (b8, o8), (b9, o9)] v) :
 ∃ x, v = (((((((((x.pin b0 o0).pin b1 o1).pin b2 o2).pin b3 o3).pin b4 o4).pin b5 o5).pin b6 o6).pin b7 o7).pin b8 o8).pin b9 o9 ∧ Keeps w [(b0, o0), (b1, o1), (b2, o2), (b3, o3), (b4, o4), (b5, o5), (b6, o6), (b7, o7), (b8, o8), (b9, o9)] x ∧ w.heap.size ≤ x.heap.size ∧ b0 < x.heap.size ∧ b1 < x.heap.size ∧ b2 < x.heap.size ∧ b3 < x.heap.size ∧ b4 < x.heap.size ∧ b5 < x.heap.size ∧ b6 < x.heap.size ∧ b7 < x.heap.size ∧ b8 < x.heap.size ∧ b9 < x.heap.size := by
 have h0 := h.2 (b0, o0) (by simp)
 have h1 := h.2 (b1, o1) (by simp)
 have h2 := h.2 (b2, o2) (by simp)
 have h3 := h.2 (b3, o3) (by simp)
 have h4 := h.2 (b4, o4) (by simp)
 have h5 := h.2 (b5, o5) (by simp)
 have h6 := h.2 (b6, o6) (by simp)
 have h7 := h.2 (b7, o7) (by simp)
 have h8 := h.2 (b8, o8) (by simp)
 have h9 := h.2 (b9, o9) (by simp)
 exact ⟨v, by rw [aN h0, aN h1, aN h2, aN h3, aN h4, aN h5, aN h6, aN h7, aN h8, aN h9], h, h.1.size, (Array.getElem?_eq_some_iff.mp h0).1, (Array.getElem?_eq_some_iff.mp h1).1, (Array.getElem?_eq_some_iff.mp h2).1, (Array.getElem?_eq_some_iff.mp h3).1, (Array.getElem?_eq_some_iff.mp h4).1, (Array.getElem?_eq_some_iff.mp h5).1, (Array.getElem?_eq_some_iff.mp h6).1, (Array.getElem?_eq_some_iff.mp h7).1, (Array.getElem?_eq_some_iff.mp h8).1, (Array.getElem?_eq_some_iff.mp h9).1⟩
end
section
open Go.RowKit Go.Proofs.YtehfkbaendajbaaGreatDoorW.PrintLast
theorem bt {B B2 : Nat} {y z w2 : World} (hb : Below B z w2) (h : Below B z w2 → Below B2 y w2 := by (intro hb; first | exact hb | exact Below.trans (Below.drew (Below.refl _ _)) hb | exact Below.trans (pl (Below.refl _ _)) (hb.mono sz))) : Below B2 y w2 := h hb
theorem aZ {B B2 : Nat} {w y z w2 : World} (h0 : Below B2 w y) (hb : Below B z w2) (h : Below B2 w y → Below B z w2 → Below B2 w w2 := by (intro h0 hb; exact Below.trans (pl h0) (hb.mono sz))) : Hid (Below B2 w w2) := Lib.hid (h h0 hb)
theorem eF : (∀ (w : World) (o : Obj), (w.alloc o).heap.size = w.heap.size + 1) ∧ (∀ (w : World) (b : Nat) (o : Obj), (w.pin b o).heap.size = w.heap.size) ∧ (∀ w : World, w.drew.heap.size = w.heap.size) ∧ (∀ (w : World) (p : Addr) (v : Value), (w.setCell p v).heap.size = w.heap.size) :=
 ⟨fun _ _ => World.size_alloc .., fun _ _ _ => aA, fun _ => World.size_drew .., fun _ _ _ => World.size_setCell ..⟩
section
variable {P : Program} {ops : Array Oper} {Q : Exit → Act → World → Prop} {md : Region.Mode} {S : World → Prop} {ds : List Nat}
theorem tk1 {w0 : World} {b0 : Nat} {o0 : Obj} {oi : Oper} {v : Value} {fuel : Nat} {l : Array Bool} {a a' : Act} {w : World} (i : Nat) (N : Option Tmp) (hS : Keeps w0 [(b0, o0)] w)
 (hi : ops[i]? = some oi := by rfl) (hN : oi.dst = N := by rfl) (hc : takeB md ops ds l (l.setIfInBounds i true) i = true := by kernel_rfl) (hQ : ∀ c a w, Q (.panic c) (a.put oi.dst v) w → Q (.panic c) a w := by exact fun _ _ _ h => h)
 (hw : Region.wanted oi (yielded ops a.tmps) = true := by rfl) (hy : ∀ w, Keeps w0 [(b0, o0)] w → (execOp a.eval oi).run P w = .ok (.value v) w := by (intro v hv; obtain ⟨x, rfl, _, _, n0⟩ := hv.jE; go_simp; first | done | with_reducible rfl))
 (ha : a.put N v = a' := by (simp only [Act.put, List.setIfInBounds_toArray, List.set_cons_zero, List.set_cons_succ]; rfl))
 (h : wpAnyLast P md ops Q (Keeps w0 [(b0, o0)]) ds fuel (l.setIfInBounds i true) a' w) : wpAnyLast P md ops Q (Keeps w0 [(b0, o0)]) ds (fuel + 1) l a w :=
 take_ _ hi hN hc hQ (Or.inl ⟨hw, hy⟩) hS ha h
theorem tk2 {w0 : World} {b0 : Nat} {o0 : Obj} {b1 : Nat} {o1 : Obj} {oi : Oper} {v : Value} {fuel : Nat} {l : Array Bool} {a a' : Act} {w : World} (i : Nat) (N : Option Tmp) (hS : Keeps w0 [(b0, o0), (b1, o1)] w)
 (hi : ops[i]? = some oi := by rfl) (hN : oi.dst = N := by rfl) (hc : takeB md ops ds l (l.setIfInBounds i true) i = true := by kernel_rfl) (hQ : ∀ c a w, Q (.panic c) (a.put oi.dst v) w → Q (.panic c) a w := by exact fun _ _ _ h => h)
 (hw : Region.wanted oi (yielded ops a.tmps) = true := by rfl) (hy : ∀ w, Keeps w0 [(b0, o0), (b1, o1)] w → (execOp a.eval oi).run P w = .ok (.value v) w := by (intro v hv; obtain ⟨x, rfl, _, _, n0, n1⟩ := hv.iL; go_simp; first | done | with_reducible rfl))
 (ha : a.put N v = a' := by (simp only [Act.put, List.setIfInBounds_toArray, List.set_cons_zero, List.set_cons_succ]; rfl))
 (h : wpAnyLast P md ops Q (Keeps w0 [(b0, o0), (b1, o1)]) ds fuel (l.setIfInBounds i true) a' w) : wpAnyLast P md ops Q (Keeps w0 [(b0, o0), (b1, o1)]) ds (fuel + 1) l a w :=
 take_ _ hi hN hc hQ (Or.inl ⟨hw, hy⟩) hS ha h
theorem tk3 {w0 : World} {b0 : Nat} {o0 : Obj} {b1 : Nat} {o1 : Obj} {b2 : Nat} {o2 : Obj} {oi : Oper} {v : Value} {fuel : Nat} {l : Array Bool} {a a' : Act} {w : World} (i : Nat) (N : Option Tmp) (hS : Keeps w0 [(b0, o0), (b1, o1), (b2, o2)] w)
 (hi : ops[i]? = some oi := by rfl) (hN : oi.dst = N := by rfl) (hc : takeB md ops ds l (l.setIfInBounds i true) i = true := by kernel_rfl) (hQ : ∀ c a w, Q (.panic c) (a.put oi.dst v) w → Q (.panic c) a w := by exact fun _ _ _ h => h)
 (hw : Region.wanted oi (yielded ops a.tmps) = true := by rfl) (hy : ∀ w, Keeps w0 [(b0, o0), (b1, o1), (b2, o2)] w → (execOp a.eval oi).run P w = .ok (.value v) w := by (intro v hv; obtain ⟨x, rfl, _, _, n0, n1, n2⟩ := hv.eG; go_simp; first | done | with_reducible rfl))
 (ha : a.put N v = a' := by (simp only [Act.put, List.setIfInBounds_toArray, List.set_cons_zero, List.set_cons_succ]; rfl))
 (h : wpAnyLast P md ops Q (Keeps w0 [(b0, o0), (b1, o1), (b2, o2)]) ds fuel (l.setIfInBounds i true) a' w) : wpAnyLast P md ops Q (Keeps w0 [(b0, o0), (b1, o1), (b2, o2)]) ds (fuel + 1) l a w :=
 take_ _ hi hN hc hQ (Or.inl ⟨hw, hy⟩) hS ha h
theorem jB {w0 : World} {b0 : Nat} {o0 : Obj} {b1 : Nat} {o1 : Obj} {b2 : Nat} {o2 : Obj} {b3 : Nat} {o3 : Obj} {b4 : Nat} {o4 : Obj} {oi : Oper} {v : Value} {fuel : Nat} {l : Array Bool} {a a' : Act} {w : World} (i : Nat) (N : Option Tmp) (hS : Keeps w0 [(b0, o0), (b1, o1), (b2, o2), (b3, o3), (b4, o4)] w)
 (hi : ops[i]? = some oi := by rfl) (hN : oi.dst = N := by rfl) (hc : takeB md ops ds l (l.setIfInBounds i true) i = true := by kernel_rfl) (hQ : ∀ c a w, Q (.panic c) (a.put oi.dst v) w → Q (.panic c) a w := by exact fun _ _ _ h => h)
 (hw : Region.wanted oi (yielded ops a.tmps) = true := by rfl) (hy : ∀ w, Keeps w0 [(b0, o0), (b1, o1), (b2, o2), (b3, o3), (b4, o4)] w → (execOp a.eval oi).run P w = .ok (.value v) w := by (intro v hv; obtain ⟨x, rfl, _, _, n0, n1, n2, n3, n4⟩ := hv.ji; go_simp; first | done | with_reducible rfl))
 (ha : a.put N v = a' := by (simp only [Act.put, List.setIfInBounds_toArray, List.set_cons_zero, List.set_cons_succ]; rfl))
 (h : wpAnyLast P md ops Q (Keeps w0 [(b0, o0), (b1, o1), (b2, o2), (b3, o3), (b4, o4)]) ds fuel (l.setIfInBounds i true) a' w) : wpAnyLast P md ops Q (Keeps w0 [(b0, o0), (b1, o1), (b2, o2), (b3, o3), (b4, o4)]) ds (fuel + 1) l a w :=
 take_ _ hi hN hc hQ (Or.inl ⟨hw, hy⟩) hS ha h
theorem uY {w0 : World} {b0 : Nat} {o0 : Obj} {b1 : Nat} {o1 : Obj} {b2 : Nat} {o2 : Obj} {b3 : Nat} {o3 : Obj} {b4 : Nat} {o4 : Obj} {b5 : Nat} {o5 : Obj} {oi : Oper} {v : Value} {fuel : Nat} {l : Array Bool} {a a' : Act} {w : World} (i : Nat) (N : Option Tmp) (hS : Keeps w0 [(b0, o0), (b1, o1), (b2, o2), (b3, o3), (b4, o4), (b5, o5)] w)
 (hi : ops[i]? = some oi := by rfl) (hN : oi.dst = N := by rfl) (hc : takeB md ops ds l (l.setIfInBounds i true) i = true := by kernel_rfl) (hQ : ∀ c a w, Q (.panic c) (a.put oi.dst v) w → Q (.panic c) a w := by exact fun _ _ _ h => h)
 (hw : Region.wanted oi (yielded ops a.tmps) = true := by rfl) (hy : ∀ w, Keeps w0 [(b0, o0), (b1, o1), (b2, o2), (b3, o3), (b4, o4), (b5, o5)] w → (execOp a.eval oi).run P w = .ok (.value v) w := by (intro v hv; obtain ⟨x, rfl, _, _, n0, n1, n2, n3, n4, n5⟩ := hv.FN; go_simp; first | done | with_reducible rfl))
 (ha : a.put N v = a' := by (simp only [Act.put, List.setIfInBounds_toArray, List.set_cons_zero, List.set_cons_succ]; rfl))
 (h : wpAnyLast P md ops Q (Keeps w0 [(b0, o0), (b1, o1), (b2, o2), (b3, o3), (b4, o4), (b5, o5)]) ds fuel (l.setIfInBounds i true) a' w) : wpAnyLast P md ops Q (Keeps w0 [(b0, o0), (b1, o1), (b2, o2), (b3, o3), (b4, o4), (b5, o5)]) ds (fuel + 1) l a w :=
 take_ _ hi hN hc hQ (Or.inl ⟨hw, hy⟩) hS ha h
theorem pO {oi : Oper} {fuel : Nat} {l : Array Bool} {a : Act} {w : World} (i : Nat) (N : Option Tmp) (hi : ops[i]? = some oi := by rfl) (hN : oi.dst = N := by rfl) (hc : readyB md ops l (l.setIfInBounds i true) i = true := by kernel_rfl) (hd : i ∈ ds := by decide)
 (h : ∀ K : Act → World → Prop, Shut (∀ a' w', wpAnyLast P md ops Q S ds fuel (l.setIfInBounds i true) a' w' → K a' w') → if Region.wanted oi (yielded ops a.tmps) = true then Oper.wp P oi a w K Q else K (a.put N undef) w) :
 wpAnyLast P md ops Q S ds (fuel + 1) l a w := last_ _ hi hN hc hd h
theorem st1 {L : List (Nat × Obj)} {id : Nat} {a : Act} {w : World} (w0 : World) (ds : List Nat) (n : Nat) (hS : Keeps w0 L w.drew) (h : Keeps w0 L w.drew → wpAnyLast P .any ops Q (Keeps w0 L) ds n (Array.replicate n false) a w.drew) (hm : P.follows .mixedOrders = true := by kernel_rfl) (hn : ops.size = n := by rfl) : (Code.region id ops true).wp P Q a w := start_ _ hm hn rfl hS h
theorem dH {oi : Oper} {fuel : Nat} {l : Array Bool} {a : Act} {w : World} (i : Nat) (N : Option Tmp) (hi : ops[i]? = some oi := by rfl) (hN : oi.dst = N := by rfl) (hc : readyB md ops l (l.setIfInBounds i true) i = true := by kernel_rfl) (hd : i ∉ ds := by decide)
 (h : ∀ K : Act → World → Prop, Shut (∀ a' w', S w' → (S w' → wpAnyLast P md ops Q S ds fuel (l.setIfInBounds i true) a' w') → K a' w') → if Region.wanted oi (yielded ops a.tmps) = true then Oper.wp P oi a w K Q else K (a.put N undef) w) :
 wpAnyLast P md ops Q S ds (fuel + 1) l a w := one_ _ hi hN hc hd h
end
end
section
open Go.RowKit Go.Proofs.YtehfkbaendajbaaGreatDoorW.PrintLast
section
variable {P : Program} {ops : Array Oper} {Q : Exit → Act → World → Prop}
theorem Ed {l : Array Bool} {j : Nat} (h : j < l.size) (x y : Bool) : l.getD j x = l.getD j y := by simp [Array.getD, h]
def nR (f : Nat → Oper → Prop) : Nat → List Oper → Prop
 | _, [] => True
 | i, o :: r => f i o ∧ nR f (i + 1) r
theorem nR.get {f : Nat → Oper → Prop} : ∀ {L : List Oper} {i : Nat}, nR f i L → ∀ (j : Nat) (o : Oper), L[j]? = some o → f (i + j) o
 | [], _, _, j, o, h => by simp at h
 | x :: L, i, hs, 0, o, h => by
  simp only [List.getElem?_cons_zero, Option.some.injEq] at h
  subst h
  exact hs.1
 | x :: L, i, hs, j + 1, o, h => by
  simp only [List.getElem?_cons_succ] at h
  have := nR.get hs.2 j o h
  rwa [Nat.add_assoc, Nat.add_comm 1 j] at this
end
def sel (b : Bool) (x y : Value) : Value := bif b then x else y
@[go_sem] theorem iU (x y : Value) : sel true x y = x := rfl
@[go_sem] theorem gW (x y : Value) : sel false x y = y := rfl
theorem put_comm (a : Act) {d e : Tmp} (x y : Value) (h : d ≠ e) : (a.put (some d) x).put (some e) y = (a.put (some e) y).put (some d) x := by
 simp only [Act.put]
 rw [Array.setIfInBounds_comm _ _ h]
theorem IW (a : Act) {d e : Tmp} (x : Value) (h : d ≠ e) : (a.put (some d) x).tmps.getD e undef = a.tmps.getD e undef := by
 simp only [Act.put, Array.getD_eq_getD_getElem?]
 rw [Array.getElem?_setIfInBounds_ne h]
theorem Vz (a : Act) (d : Tmp) (v : Value) : (a.put (some d) v).tmps.size = a.tmps.size := by simp [Act.put]
@[go_sem] theorem YH {w : World} {b n i : Nat} {o : Obj} (h : n ≠ b) : (w.pin b o).cell? ⟨n, i, none⟩ = w.cell? ⟨n, i, none⟩ := jM h
@[go_sem] theorem Vk {w : World} {b n i : Nat} {o : Obj} (h : n ≠ b) : (w.pin b o).frozen? ⟨n, i, none⟩ = w.frozen? ⟨n, i, none⟩ := pV h
@[go_sem] theorem QL {w : World} {b n i : Nat} {o : Obj} {v : Value} (h : n ≠ b) : (w.pin b o).setCell ⟨n, i, none⟩ v = (w.setCell ⟨n, i, none⟩ v).pin b o := oJ h
def gG (b s : Bool) (p B : Nat) (z o : Obj) (w : World) : Prop := (b = false → s = false) ∧ (b = true → B ≤ p ∧ w.heap[p]? = some (bif s then o else z))
section
variable {b s : Bool} {p B : Nat} {z o : Obj} {w y : World}
theorem gG.off : gG false false p B z o w := ⟨fun _ => rfl, (fun h => by cases h)⟩
theorem gG.step (h : gG b s p B z o w) {C : Nat} (hb : Below C w y) (hC : C = w.heap.size) : gG b s p B z o y := ⟨h.1, fun h1 => by
 subst hC
 have h2 := h.2 h1
 exact ⟨h2.1, (hb.block p (Array.getElem?_eq_some_iff.mp h2.2).1).trans h2.2⟩⟩
theorem gG.new (hB : B ≤ w.heap.size) : gG true false w.heap.size B z o (w.alloc z) := ⟨(fun h => by cases h), fun _ => ⟨hB, heap_alloc_new w z⟩⟩
theorem gG.lt (h : gG true s p B z o w) : p < w.heap.size := (Array.getElem?_eq_some_iff.mp (h.2 rfl).2).1
theorem gG.pin {q : Nat} {o' : Obj} (h : gG b s p B z o w) (hq : b = true → p ≠ q) : gG b s p B z o (w.pin q o') := ⟨h.1, fun h1 => by
 have h2 := h.2 h1
 exact ⟨h2.1, (je (hq h1)).trans h2.2⟩⟩
theorem gG.full (h : gG true false p B z o w) : gG true true p B z o (w.pin p o) := ⟨(fun h => by cases h), fun _ => ⟨(h.2 rfl).1, eY h.lt⟩⟩
theorem inv_start {w v : World} {L : List (Nat × Obj)} (h : Keeps w L v.drew) : v.heap.size ≤ v.drew.heap.size ∧ w.heap.size ≤ v.heap.size ∧ ∀ q ∈ L, q.1 < v.heap.size := ⟨Nat.le_refl _, h.1.size, fun q hq => (Array.getElem?_eq_some_iff.mp (h.2 q hq)).1⟩
theorem dB {x : World} {o' : Obj} : (x.pin p o).pin p o' = x.pin p o' := by
 simp only [World.pin]
 congr 1
 apply Array.ext_getElem?
 intro k
 rw [Array.getElem?_setIfInBounds, Array.getElem?_setIfInBounds, Array.getElem?_setIfInBounds]
 by_cases h : p = k
 · subst h; simp
 · simp [h]
theorem Keeps.pin {w0 : World} {L : List (Nat × Obj)} (h : Keeps w0 L w) (hB : w0.heap.size ≤ p) (hp : ∀ q ∈ L, q.1 ≠ p) : Keeps w0 L (w.pin p o) :=
 ⟨jS h.1 hB, fun q hq => (je (hp q hq)).trans (h.2 q hq)⟩
theorem Keeps.alloc {w0 : World} {L : List (Nat × Obj)} (h : Keeps w0 L w) : Keeps w0 L (w.alloc z) := h.step (Below.alloc (Below.refl _ _) (Nat.le_refl _) _) rfl
theorem Keeps.size {w0 : World} {L : List (Nat × Obj)} (h : Keeps w0 L w) : w0.heap.size ≤ w.heap.size := h.1.size
end
end
end Go.Proofs.YtehfkbaendajbaaGreatDoor
