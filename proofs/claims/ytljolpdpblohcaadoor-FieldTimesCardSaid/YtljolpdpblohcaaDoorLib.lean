/-
  Words for walks: a block of a world that is known is pinned ('pin'), so that behind a call the world is told by its known blocks.
-/
import Derived.WalkKit
import Derived.LoopN
import Derived.WalkLawsBesides
import Derived.WalkSpells
namespace Go.Proofs.YtljolpdpblohcaaDoor
open Go.RowKit

/-- A block that is known. -/
def _root_.Go.World.pin (w : World) (b : Nat) (o : Obj) : World := { w with heap := w.heap.setIfInBounds b o }

section
variable {w : World} {b n i : Nat} {o o' : Obj} {c : Array Value} {t : TypeId} {v : Value}

@[go_sem] theorem pin_size : (w.pin b o).heap.size = w.heap.size := by simp [World.pin]
theorem pin_at (h : b < w.heap.size) : (w.pin b o).heap[b]? = some o := by simp [World.pin, h]
theorem pin_past (h : n ≠ b) : (w.pin b o).heap[n]? = w.heap[n]? := by simp [World.pin, Ne.symm h]
theorem alloc_at (h : n = w.heap.size) : (w.alloc o).heap[n]? = some o := by subst h; exact heap_alloc_new w o
theorem alloc_past (h : n < w.heap.size) : (w.alloc o).heap[n]? = w.heap[n]? := by
  exact heap_alloc_old w o h
theorem past_alloc (hn : w.heap[n]? = some o) (h : n < w.heap.size) : (w.alloc o').heap[n]? = some o := (alloc_past h).trans hn
theorem past_drew (hn : w.heap[n]? = some o) : w.drew.heap[n]? = some o := hn
theorem past_pin (hn : w.heap[n]? = some o) (h : n ≠ b) : (w.pin b o').heap[n]? = some o := (pin_past h).trans hn
@[go_sem] theorem pin_cell (h : b < w.heap.size) : (w.pin b (.cells c t)).cell? ⟨b, i, none⟩ = c[i]? := by
  simp only [World.cell?, pin_at h]; simp
theorem pin_cell_ne (h : n ≠ b) : (w.pin b o).cell? ⟨n, i, none⟩ = w.cell? ⟨n, i, none⟩ := by
  simp only [World.cell?, pin_past h]
@[go_sem] theorem pin_cell_lt (h : n < b) : (w.pin b o).cell? ⟨n, i, none⟩ = w.cell? ⟨n, i, none⟩ := pin_cell_ne (by omega)
@[go_sem] theorem pin_cell_gt (h : b < n) : (w.pin b o).cell? ⟨n, i, none⟩ = w.cell? ⟨n, i, none⟩ := pin_cell_ne (by omega)
@[go_sem] theorem pin_frozen (h : b < w.heap.size) : (w.pin b (.cells c t)).frozen? ⟨b, i, none⟩ = false := by
  simp only [World.frozen?, pin_at h]; simp
theorem pin_frozen_ne (h : n ≠ b) : (w.pin b o).frozen? ⟨n, i, none⟩ = w.frozen? ⟨n, i, none⟩ := by
  simp only [World.frozen?, pin_past h]
@[go_sem] theorem pin_frozen_lt (h : n < b) : (w.pin b o).frozen? ⟨n, i, none⟩ = w.frozen? ⟨n, i, none⟩ := pin_frozen_ne (by omega)
@[go_sem] theorem pin_frozen_gt (h : b < n) : (w.pin b o).frozen? ⟨n, i, none⟩ = w.frozen? ⟨n, i, none⟩ := pin_frozen_ne (by omega)
@[go_sem] theorem pin_setCell : (w.pin b (.cells c t)).setCell ⟨b, i, none⟩ v = w.pin b (.cells (c.setIfInBounds i v) t) := by
  simp only [World.pin, World.setCell]
  congr 1
  apply Array.ext_getElem?
  intro k
  simp only [Array.getElem?_modify, Array.getElem?_setIfInBounds]
  split <;> simp_all
theorem pin_setCell_ne (h : n ≠ b) : (w.pin b o).setCell ⟨n, i, none⟩ v = (w.setCell ⟨n, i, none⟩ v).pin b o := by
  simp only [World.pin, World.setCell]
  congr 1
  apply Array.ext_getElem?
  intro k
  simp only [Array.getElem?_modify, Array.getElem?_setIfInBounds, Array.size_modify]
  by_cases h1 : b = k
  · subst h1; simp [h]
  · simp [h1]
@[go_sem] theorem pin_setCell_lt (h : n < b) : (w.pin b o).setCell ⟨n, i, none⟩ v = (w.setCell ⟨n, i, none⟩ v).pin b o := pin_setCell_ne (by omega)
@[go_sem] theorem pin_setCell_gt (h : b < n) : (w.pin b o).setCell ⟨n, i, none⟩ v = (w.setCell ⟨n, i, none⟩ v).pin b o := pin_setCell_ne (by omega)
@[go_sem] theorem pin_drew : w.drew.pin b o = (w.pin b o).drew := rfl
theorem pin_self (h : w.heap[b]? = some o) : w.pin b o = w := by
  obtain ⟨hb, h⟩ := Array.getElem?_eq_some_iff.mp h
  simp only [World.pin]
  congr 1
  apply Array.ext_getElem?
  intro k
  simp only [Array.getElem?_setIfInBounds]
  by_cases h1 : b = k
  · subst h1; simp [hb, h]
  · simp [h1]
end
@[go_sem] theorem lt_add_so {a b c : Nat} (h : a < b) : (a < b + c) = True := eq_true (by omega)

theorem below_pin {B b : Nat} {a w : World} {o : Obj} (h : Below B a w) (hb : B ≤ b) : Below B a (w.pin b o) :=
  h.trans ⟨rfl, rfl, rfl, by simp [World.pin], fun k hk => by rw [pin_past (by omega)]⟩

theorem keep0 {B : Nat} {W y : World} (hb : Below B W y) (hB : B = W.heap.size) : ∃ x, y = x ∧ Below B W x ∧ B ≤ x.heap.size :=
  ⟨y, rfl, hb, by have := hb.size; omega⟩

theorem keep1 {B : Nat} {W y : World} (hb : Below B W y) (hB : B = W.heap.size) {b : Nat} {o : Obj} (h : W.heap[b]? = some o) :
    ∃ x, y = x.pin b o ∧ Below B W x ∧ B ≤ x.heap.size ∧ b < x.heap.size := by
  have hs := hb.size
  have hlt : b < W.heap.size := (Array.getElem?_eq_some_iff.mp h).1
  exact ⟨y, (pin_self ((hb.block b (by omega)).trans h)).symm, hb, by omega, by omega⟩

theorem keep2 {B : Nat} {W y : World} (hb : Below B W y) (hB : B = W.heap.size) {b0 b1 : Nat} {o0 o1 : Obj} (h0 : W.heap[b0]? = some o0) (h1 : W.heap[b1]? = some o1) :
    ∃ x, y = (x.pin b0 o0).pin b1 o1 ∧ Below B W x ∧ B ≤ x.heap.size ∧ b0 < x.heap.size ∧ b1 < x.heap.size := by
  obtain ⟨x, rfl, hx, hs, l1⟩ := keep1 hb hB h1
  have hlt : b0 < W.heap.size := (Array.getElem?_eq_some_iff.mp h0).1
  exact ⟨x, by rw [pin_self ((hx.block b0 (by omega)).trans h0)], hx, hs, by omega, l1⟩

theorem keep3 {B : Nat} {W y : World} (hb : Below B W y) (hB : B = W.heap.size) {b0 b1 b2 : Nat} {o0 o1 o2 : Obj} (h0 : W.heap[b0]? = some o0) (h1 : W.heap[b1]? = some o1) (h2 : W.heap[b2]? = some o2) :
    ∃ x, y = ((x.pin b0 o0).pin b1 o1).pin b2 o2 ∧ Below B W x ∧ B ≤ x.heap.size ∧ b0 < x.heap.size ∧ b1 < x.heap.size ∧ b2 < x.heap.size := by
  obtain ⟨x, rfl, hx, hs, l1, l2⟩ := keep2 hb hB h1 h2
  have hlt : b0 < W.heap.size := (Array.getElem?_eq_some_iff.mp h0).1
  exact ⟨x, by rw [pin_self ((hx.block b0 (by omega)).trans h0)], hx, hs, by omega, l1, l2⟩

theorem keep4 {B : Nat} {W y : World} (hb : Below B W y) (hB : B = W.heap.size) {b0 b1 b2 b3 : Nat} {o0 o1 o2 o3 : Obj} (h0 : W.heap[b0]? = some o0) (h1 : W.heap[b1]? = some o1) (h2 : W.heap[b2]? = some o2) (h3 : W.heap[b3]? = some o3) :
    ∃ x, y = (((x.pin b0 o0).pin b1 o1).pin b2 o2).pin b3 o3 ∧ Below B W x ∧ B ≤ x.heap.size ∧ b0 < x.heap.size ∧ b1 < x.heap.size ∧ b2 < x.heap.size ∧ b3 < x.heap.size := by
  obtain ⟨x, rfl, hx, hs, l1, l2, l3⟩ := keep3 hb hB h1 h2 h3
  have hlt : b0 < W.heap.size := (Array.getElem?_eq_some_iff.mp h0).1
  exact ⟨x, by rw [pin_self ((hx.block b0 (by omega)).trans h0)], hx, hs, by omega, l1, l2, l3⟩

theorem pins1 {w : World} {b0 : Nat} {o0 : Obj} (h0 : w.heap[b0]? = some o0) : w = w.pin b0 o0 := by rw [pin_self h0]
theorem pins2 {w : World} {b0 b1 : Nat} {o0 o1 : Obj} (h0 : w.heap[b0]? = some o0) (h1 : w.heap[b1]? = some o1) : w = (w.pin b0 o0).pin b1 o1 := by rw [pin_self h0, pin_self h1]
theorem pins3 {w : World} {b0 b1 b2 : Nat} {o0 o1 o2 : Obj} (h0 : w.heap[b0]? = some o0) (h1 : w.heap[b1]? = some o1) (h2 : w.heap[b2]? = some o2) : w = ((w.pin b0 o0).pin b1 o1).pin b2 o2 := by rw [pin_self h0, pin_self h1, pin_self h2]
/-- What is known of a world is known behind a call that makes memory alone. -/
theorem held_step {B : Nat} {w v w' : World} (hb : Below B v w') (hB : B = v.heap.size) : (Below w.heap.size w v → Below w.heap.size w w') ∧ (∀ (b : Nat) (o : Obj), v.heap[b]? = some o → w'.heap[b]? = some o) ∧
    (∀ (b i : Nat) (u : Value), v.cell? ⟨b, i, none⟩ = some u → w'.cell? ⟨b, i, none⟩ = some u) ∧ (∀ (b i : Nat) (u : Value), v.cell? ⟨b, i, none⟩ = some u → v.frozen? ⟨b, i, none⟩ = false → w'.frozen? ⟨b, i, none⟩ = false) := by
  subst hB
  refine ⟨fun h => h.trans (hb.mono h.size), fun b o h => (hb.block b (Array.getElem?_eq_some_iff.mp h).1).trans h, fun b i u h => (hb.cell (p := ⟨b, i, none⟩) (World.block_lt_of_cell? v _ h)).trans h, fun b i u h h' => (hb.frozen (p := ⟨b, i, none⟩) (World.block_lt_of_cell? v _ h)).trans h'⟩

end Go.Proofs.YtljolpdpblohcaaDoor
