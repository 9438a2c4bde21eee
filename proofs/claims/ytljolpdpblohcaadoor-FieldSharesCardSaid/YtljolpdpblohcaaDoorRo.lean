/-
  The root of a quotient, as the program reckons it: plain arithmetic (the two exponents n and m stay open here).
-/
import Derived.Test.YtljolpdpblohcaaDoorFf
namespace Go.Proofs.YtljolpdpblohcaaDoor
open Go.RowKit

def rootR (n A V : Nat) : Nat := A * (V * V * V) * ((V * V * V) * (V * V * V) * V * A) ^ n
def rootS (n m A V : Nat) : Nat := if rootR n A V * rootR n A V * V % Num.p = subM 0 A then rootR n A V * 2 ^ m else rootR n A V
def rootOk (n m A V : Nat) : Prop := rootS n m A V * rootS n m A V * V % Num.p = A % Num.p
instance (n m A V : Nat) : Decidable (rootOk n m A V) := inferInstanceAs (Decidable (_ = _))
/-- What Root hands back. -/
def rootV (n m A V : Nat) : Nat := if rootOk n m A V then (if rootS n m A V % Num.p % 2 = 1 then subM 0 (rootS n m A V) else rootS n m A V) else 0

theorem mm {a b c d : Nat} (h1 : a % Num.p = c % Num.p) (h2 : b % Num.p = d % Num.p) : a * b % Num.p = c * d % Num.p := by rw [Nat.mul_mod, h1, h2, ← Nat.mul_mod]
theorem mulm {r x s y t : Nat} (h1 : r % Num.p = x % Num.p) (h2 : s % Num.p = y % Num.p) (h3 : t % Num.p = r * s % Num.p) : t % Num.p = x * y % Num.p := h3.trans (mm h1 h2)
theorem powm {a b : Nat} (n : Nat) (h : a % Num.p = b % Num.p) : a ^ n % Num.p = b ^ n % Num.p := by rw [Nat.pow_mod, h, ← Nat.pow_mod]
theorem subM_congr {a b c d : Nat} (h1 : a % Num.p = c % Num.p) (h2 : b % Num.p = d % Num.p) : subM a b = subM c d := by unfold subM; rw [h1, h2]
theorem subM_mod (a b : Nat) : subM a b % Num.p = subM a b := by unfold subM; rw [Nat.mod_mod]

theorem rootR_congr {A V u v : Nat} (n : Nat) (hu : u % Num.p = A % Num.p) (hv : v % Num.p = V % Num.p) : rootR n u v % Num.p = rootR n A V % Num.p := by
  unfold rootR
  have h3 : v * v * v % Num.p = V * V * V % Num.p := mm (mm hv hv) hv
  exact mm (mm hu h3) (powm _ (mm (mm (mm h3 h3) hv) hu))

theorem root_end {A V u v q s r t n m : Nat} (hu : u % Num.p = A % Num.p) (hv : v % Num.p = V % Num.p) (hq : q % Num.p = u * (v * v * v) * ((v * v * v) * (v * v * v) * v * u) ^ n % Num.p)
    (hs : s % Num.p = q * q * v % Num.p) (hr : r % Num.p = (if s % Num.p = (small (subM 0 u)).val % Num.p then q * 2 ^ m else q) % Num.p) (ht : t % Num.p = r * r * v % Num.p) :
    (rootOk n m A V ↔ t % Num.p = u % Num.p) ∧ rootS n m A V % Num.p = r % Num.p := by
  have e : u * (v * v * v) * ((v * v * v) * (v * v * v) * v * u) ^ n = rootR n u v := by unfold rootR; rfl
  rw [e] at hq
  have hq' : q % Num.p = rootR n A V % Num.p := hq.trans (rootR_congr n hu hv)
  have hs' : s % Num.p = rootR n A V * rootR n A V * V % Num.p := hs.trans (mm (mm hq' hq') hv)
  have hc : (small (subM 0 u)).val % Num.p = subM 0 A := by rw [small_val, Nat.mod_mod, subM_mod, subM_congr rfl hu]
  have hS : rootS n m A V % Num.p = r % Num.p := by
    rw [hr, hs', hc]
    unfold rootS
    split
    · exact (mm hq'.symm rfl)
    · exact hq'.symm
  refine ⟨?_, hS⟩
  unfold rootOk
  rw [ht, hu, mm (mm hS hS) hv.symm]

theorem root_r {q t r s c m : Nat} (hc : s % Num.p = c % Num.p) (ht : t % Num.p = (small 2).val ^ m % Num.p) (h : r % Num.p = q * t % Num.p) :
    r % Num.p = (if s % Num.p = c % Num.p then q * 2 ^ m else q) % Num.p := by
  have h2 : (small 2).val % Num.p = 2 % Num.p := by rw [small_val, Nat.mod_mod]
  rw [if_pos hc]
  exact mulm rfl (ht.trans (powm m h2)) h
theorem root_r0 {q s c m : Nat} (hc : ¬ s % Num.p = c % Num.p) : q % Num.p = (if s % Num.p = c % Num.p then q * 2 ^ m else q) % Num.p := by
  rw [if_neg hc]
theorem root_odd {A V r t u n m : Nat} (h : (rootOk n m A V ↔ t % Num.p = u % Num.p) ∧ rootS n m A V % Num.p = r % Num.p) (h2 : t % Num.p = u % Num.p) (ho : r % Num.p % 2 = 1) :
    Ending.returned (.tuple #[(small (small (subM 0 r)).val).v, .bool true]) = Ending.returned (.tuple #[(small (rootV n m A V)).v, .bool (decide (rootOk n m A V))]) := by
  have h1 := h.1.mpr h2
  have e : small (small (subM 0 r)).val = small (subM 0 (rootS n m A V)) := small_congr (by rw [small_val, Nat.mod_mod, subM_congr (a := 0) (c := 0) rfl h.2])
  rw [decide_eq_true h1, rootV, if_pos h1, if_pos (by rw [h.2]; exact ho), e]
theorem root_even {A V r t u n m : Nat} (h : (rootOk n m A V ↔ t % Num.p = u % Num.p) ∧ rootS n m A V % Num.p = r % Num.p) (h2 : t % Num.p = u % Num.p) (ho : ¬ r % Num.p % 2 = 1) :
    Ending.returned (.tuple #[(small r).v, .bool true]) = Ending.returned (.tuple #[(small (rootV n m A V)).v, .bool (decide (rootOk n m A V))]) := by
  have h1 := h.1.mpr h2
  rw [decide_eq_true h1, rootV, if_pos h1, if_neg (by rw [h.2]; exact ho), small_congr h.2]
theorem root_none {A V r t u n m : Nat} (h : (rootOk n m A V ↔ t % Num.p = u % Num.p) ∧ rootS n m A V % Num.p = r % Num.p) (h2 : ¬ t % Num.p = u % Num.p) :
    Ending.returned (.tuple #[(⟨0, 0, 0, 0, 0⟩ : Fn).v, .bool false]) = Ending.returned (.tuple #[(small (rootV n m A V)).v, .bool (decide (rootOk n m A V))]) := by
  have h1 : ¬ rootOk n m A V := fun h3 => h2 (h.1.mp h3)
  rw [decide_eq_false h1, rootV, if_neg h1]
  rfl
end Go.Proofs.YtljolpdpblohcaaDoor
