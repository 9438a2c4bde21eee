/-
  A slice of whole numbers that is read.
-/
import Derived.Test.YtljolpdpblohcaaDoorLib
namespace Go.Proofs.YtljolpdpblohcaaDoor
open Go.RowKit

/-- What is told of a slice that is read: the cells of its elements. -/
def Rd (w : World) (k : IntKind) (A : Option Addr) (xs : List Nat) : Prop :=
  ∀ i, (h : i < xs.length) → ∃ b off, A = some ⟨b, off, none⟩ ∧ w.cell? ⟨b, off + i, none⟩ = some (.int k ((xs[i]'h : Nat) : Int))

theorem Rd.nil (w : World) (k : IntKind) (A : Option Addr) : Rd w k A [] := fun i h => by simp at h
theorem Rd.mono {w w' : World} {k : IntKind} {A : Option Addr} {xs : List Nat} (h : Rd w k A xs) {B : Nat} (hb : Below B w w') (hB : w.heap.size ≤ B) : Rd w' k A xs := fun i hi => by
  obtain ⟨b, off, hA, hc⟩ := h i hi
  have hl := World.block_lt_of_cell? w _ hc
  exact ⟨b, off, hA, (hb.cell (p := ⟨b, off + i, none⟩) (Nat.lt_of_lt_of_le hl hB)).trans hc⟩
/-- Where there is an element, the slice leads to a place; all elements lie behind it. -/
theorem Rd.place {w : World} {k : IntKind} {A : Option Addr} {xs : List Nat} (h : Rd w k A xs) (h0 : 0 < xs.length) : ∃ b off, A = some ⟨b, off, none⟩ ∧ b < w.heap.size ∧ ∀ i, (hi : i < xs.length) → w.cell? ⟨b, off + i, none⟩ = some (.int k ((xs[i]'hi : Nat) : Int)) := by
  obtain ⟨b, off, rfl, hc⟩ := h 0 h0
  refine ⟨b, off, rfl, World.block_lt_of_cell? w _ hc, fun i hi => ?_⟩
  obtain ⟨b', off', he, hc'⟩ := h i hi
  simp only [Option.some.injEq, Addr.mk.injEq] at he
  obtain ⟨rfl, rfl, _⟩ := he
  exact hc'

/-- A block that holds just these numbers. -/
theorem rd_block {w : World} {k : IntKind} {b : Nat} {cs : Array Value} {t : TypeId} {xs : List Nat} (h : w.heap[b]? = some (.cells cs t)) (hc : ∀ i, (hi : i < xs.length) → cs[i]? = some (.int k ((xs[i]'hi : Nat) : Int))) : Rd w k (some ⟨b, 0, none⟩) xs := fun i hi => by
  refine ⟨b, 0, rfl, ?_⟩
  simp only [World.cell?, h, Nat.zero_add, hc i hi]
  simp
/-- The number of bytes, the least first. -/
def leN : List Nat → Nat
  | [] => 0
  | b :: l => b + 256 * leN l
theorem leN_lt : ∀ l : List Nat, (∀ b ∈ l, b < 256) → leN l < 256 ^ l.length
  | [], _ => by simp [leN]
  | b :: l, h => by
    have h1 := leN_lt l (fun x hx => h x (List.mem_cons_of_mem _ hx))
    have h2 := h b List.mem_cons_self
    simp only [leN, List.length_cons, Nat.pow_succ]
    omega
theorem leN_drop : ∀ (l : List Nat) (j : Nat), (∀ b ∈ l, b < 256) → leN l / 256 ^ j = leN (l.drop j)
  | l, 0, _ => by simp
  | [], j + 1, _ => by simp [leN]
  | b :: l, j + 1, h => by
    have h1 := leN_drop l j (fun x hx => h x (List.mem_cons_of_mem _ hx))
    have h2 := h b List.mem_cons_self
    rw [List.drop_succ_cons, ← h1, Nat.pow_succ, Nat.mul_comm (256 ^ j) 256, ← Nat.div_div_eq_div_mul]
    congr 1
    simp only [leN]
    omega
theorem leN_top (l : List Nat) (h : ∀ b ∈ l, b < 256) : leN l / 2 ^ (8 * l.length) = 0 := by
  rw [Nat.pow_mul]
  exact Nat.div_eq_of_lt (leN_lt l h)
/-- A binary digit of the number is one of a byte's. -/
theorem leN_bit (l : List Nat) (h : ∀ b ∈ l, b < 256) (i : Nat) (hi : i / 8 < l.length) : leN l / 2 ^ i % 2 = l[i / 8] / 2 ^ (i % 8) % 2 := by
  have e : 2 ^ i = 256 ^ (i / 8) * 2 ^ (i % 8) := by
    rw [show (256 : Nat) = 2 ^ 8 from rfl, ← Nat.pow_mul, ← Nat.pow_add, Nat.div_add_mod]
  rw [e, ← Nat.div_div_eq_div_mul, leN_drop l _ h, List.drop_eq_getElem_cons hi]
  simp only [leN]
  have hm : i % 8 < 8 := Nat.mod_lt _ (by decide)
  generalize l[i / 8] = x
  generalize leN (List.drop (i / 8 + 1) l) = y
  have : i % 8 = 0 ∨ i % 8 = 1 ∨ i % 8 = 2 ∨ i % 8 = 3 ∨ i % 8 = 4 ∨ i % 8 = 5 ∨ i % 8 = 6 ∨ i % 8 = 7 := by omega
  rcases this with h1 | h1 | h1 | h1 | h1 | h1 | h1 | h1 <;> rw [h1] <;> simp only [Nat.reducePow] <;> omega

end Go.Proofs.YtljolpdpblohcaaDoor
