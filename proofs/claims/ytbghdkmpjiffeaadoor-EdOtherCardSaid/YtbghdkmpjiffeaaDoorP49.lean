/-
  Shared, part 49: walks and plain laws; each theorem states its own conditions.
-/
import Derived.Test.YtbghdkmpjiffeaaDoorP47
namespace Go.Proofs.YtbghdkmpjiffeaaDoor
set_option linter.unusedSimpArgs false
set_option linter.unusedVariables false
set_option maxRecDepth 100000
set_option maxHeartbeats 8000000
section
open Go.RowKit
def ahy (xs ys : List Nat) : Nat → Nat
 | 0 => 0
 | i + 1 => (xs.getD i 0 + ys.getD i 0 + ahy xs ys i) / 256
def alc (xs ys : List Nat) (i : Nat) : Nat := (xs.getD i 0 + ys.getD i 0 + ahy xs ys i) % 256
def aei (xs ys : List Nat) (n : Nat) : List Nat := (List.range n).map (alc xs ys)
theorem afQ (xs ys : List Nat) (n : Nat) : (aei xs ys n).length = n := by simp [aei]
theorem alp (xs ys : List Nat) (n : Nat) : ∀ z ∈ aei xs ys n, z < 256 := by
 intro z hz
 obtain ⟨i, _, rfl⟩ := List.mem_map.1 hz
 exact Nat.mod_lt _ (by decide)
theorem akm (xs ys : List Nat) (n : Nat) : aei xs ys (n + 1) = aei xs ys n ++ [alc xs ys n] := by simp [aei, List.range_succ]
theorem akX {l : List Nat} (h : ∀ z ∈ l, z < 256) (i : Nat) : l.getD i 0 < 256 := by
 rw [List.getD_eq_getElem?_getD]
 by_cases hi : i < l.length
 · rw [List.getElem?_eq_getElem hi]; exact h _ (List.getElem_mem _)
 · rw [List.getElem?_eq_none (by omega)]; decide
theorem ale {xs ys : List Nat} (hx : ∀ z ∈ xs, z < 256) (hy : ∀ z ∈ ys, z < 256) : ∀ i, ahy xs ys i ≤ 1
 | 0 => Nat.zero_le _
 | i + 1 => by
  have h1 := akX hx i
  have h2 := akX hy i
  have h3 := ale hx hy i
  show (xs.getD i 0 + ys.getD i 0 + ahy xs ys i) / 256 ≤ 1
  omega
theorem akY : ∀ (l : List Nat) (z : Nat), bW (l ++ [z]) = bW l + 256 ^ l.length * z
 | [], z => by simp [bW]
 | b :: l, z => by
  simp only [List.cons_append, bW, akY l z, List.length_cons, Nat.pow_succ]
  rw [Nat.mul_add, ← Nat.add_assoc, ← Nat.mul_assoc, Nat.mul_comm 256 (256 ^ l.length)]
theorem ak7 {l : List Nat} {i : Nat} (h : i < l.length) : l.take (i + 1) = l.take i ++ [l.getD i 0] := by
 rw [List.take_succ_eq_append_getElem h, List.getD_eq_getElem?_getD, List.getElem?_eq_getElem h]
 rfl
theorem amM (xs ys : List Nat) (i : Nat) (hx : i ≤ xs.length) (hy : i ≤ ys.length) : bW (aei xs ys i) + 256 ^ i * ahy xs ys i = bW (xs.take i) + bW (ys.take i) := by
 induction i with
 | zero => simp [aei, ahy, bW]
 | succ i ih =>
  have h := ih (by omega) (by omega)
  rw [akm, akY, afQ, ak7 (by omega), ak7 (by omega), akY, akY, List.length_take, List.length_take, Nat.min_eq_left (by omega), Nat.min_eq_left (by omega)]
  have e : alc xs ys i + 256 * ahy xs ys (i + 1) = xs.getD i 0 + ys.getD i 0 + ahy xs ys i := Nat.mod_add_div _ _
  have e2 : 256 ^ i * alc xs ys i + 256 ^ (i + 1) * ahy xs ys (i + 1) = 256 ^ i * xs.getD i 0 + 256 ^ i * ys.getD i 0 + 256 ^ i * ahy xs ys i := by
   rw [Nat.pow_succ, Nat.mul_assoc, ← Nat.mul_add, e, Nat.mul_add, Nat.mul_add]
  omega
theorem akZ {S LB : List Nat} (hS : S.length = 32) (hL : LB.length = 32) (hbS : ∀ z ∈ S, z < 256) (hbL : ∀ z ∈ LB, z < 256) (h : bW S < LO) (hLB : bW LB = LO) : LO ≤ bW (aei S LB 32) := by
 have h1 := amM S LB 32 (by omega) (by omega)
 rw [List.take_of_length_le (by omega), List.take_of_length_le (by omega), hLB] at h1
 have hc := ale hbS hbL 32
 have h2 : 2 * LO ≤ 256 ^ 32 := by decide +kernel
 have h3 : ahy S LB 32 = 0 := by
  rcases Nat.le_one_iff_eq_zero_or_eq_one.1 hc with h0 | h0
  · exact h0
  · exfalso
    rw [h0, Nat.mul_one] at h1
    omega
 rw [h3, Nat.mul_zero, Nat.add_zero] at h1
 omega
end
end Go.Proofs.YtbghdkmpjiffeaaDoor
