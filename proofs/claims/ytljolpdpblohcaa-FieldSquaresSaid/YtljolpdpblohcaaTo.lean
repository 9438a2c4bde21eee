/-
  The field's functions, each by the name of what it hands back.
-/
import Derived.Test.YtljolpdpblohcaaKn
namespace Go.Proofs.Ytljolpdpblohcaa
open Go.RowKit

theorem sv (n : Nat) : (small n).val % Num.p = n % Num.p := by rw [small_val, Nat.mod_mod]
theorem am {a b c d : Nat} (h1 : a % Num.p = c % Num.p) (h2 : b % Num.p = d % Num.p) : (a + b) % Num.p = (c + d) % Num.p := by rw [Nat.add_mod, h1, h2, ← Nat.add_mod]
theorem Add_to (x y s : Fn) (n : Nat) (hx : x.lt 18446744073709551616) (hy : y.lt 18446744073709551616) (hs : s = small n) (h : (x.val + y.val) % Num.p = n % Num.p) : ∀ w, Calls Try.prog 34 #[x.v, y.v] w fun e w' => e = .returned s.v ∧ Below w.heap.size w w' := fun w => by
  have h0 := Add_any x y hx hy w
  rw [small_congr h, ← hs] at h0
  exact h0
theorem Sub_to (x y s : Fn) (n : Nat) (hx : x.lt 18446744073709551616) (hy : y.lt 18446744073709551616) (hs : s = small n) (h : subM x.val y.val % Num.p = n % Num.p) : ∀ w, Calls Try.prog 36 #[x.v, y.v] w fun e w' => e = .returned s.v ∧ Below w.heap.size w w' := fun w => by
  have h0 := Sub_any x y hx hy w
  rw [small_congr h, ← hs] at h0
  exact h0
theorem Mul_to (x y s : Fn) (n : Nat) (hx : x.lt 18446744073709551616) (hy : y.lt 18446744073709551616) (hs : s = small n) (h : x.val * y.val % Num.p = n % Num.p) : ∀ w, Calls Try.prog 29 #[x.v, y.v] w fun e w' => e = .returned s.v ∧ Below w.heap.size w w' := fun w => by
  have h0 := Mul_any x y hx hy w
  rw [small_congr h, ← hs] at h0
  exact h0
theorem Square_to (x s : Fn) (n : Nat) (hx : x.lt 18446744073709551616) (hs : s = small n) (h : x.val * x.val % Num.p = n % Num.p) : ∀ w, Calls Try.prog 31 #[x.v] w fun e w' => e = .returned s.v ∧ Below w.heap.size w w' := fun w => by
  have h0 := Square_any x hx w
  rw [small_congr h, ← hs] at h0
  exact h0
theorem Neg_to (x s : Fn) (n : Nat) (hx : x.lt 18446744073709551616) (hs : s = small n) (h : subM 0 x.val % Num.p = n % Num.p) : ∀ w, Calls Try.prog 32 #[x.v] w fun e w' => e = .returned s.v ∧ Below w.heap.size w w' := fun w => by
  have h0 := Neg_any x hx w
  rw [small_congr h, ← hs] at h0
  exact h0
theorem Inv_to (x s : Fn) (n : Nat) (hx : x.lt 18446744073709551616) (hs : s = small n) (h : x.val ^ (Num.p - 2) % Num.p = n % Num.p) : ∀ w, Calls Try.prog 39 #[x.v] w fun e w' => e = .returned s.v ∧ Below w.heap.size w w' := fun w => by
  have h0 := Inv_any x hx w
  rw [small_congr h, ← hs] at h0
  exact h0
theorem Red_to (x s : Fn) (n : Nat) (hx : x.lt 18446744073709551616) (hs : s = small n) (h : x.val % Num.p = n % Num.p) : ∀ w, Calls Try.prog 20 #[x.v] w fun e w' => e = .returned s.v ∧ Below w.heap.size w w' := fun w => by
  have h0 := reduce_nat x hx w
  rw [small_congr h, ← hs] at h0
  exact h0
theorem Same_to (x y : Fn) (b : Bool) (hx : x.lt 18446744073709551616) (hy : y.lt 18446744073709551616) (hb : decide (x.val % Num.p = y.val % Num.p) = b) : ∀ w, Calls Try.prog 23 #[x.v, y.v] w fun e w' => e = .returned (.bool b) ∧ Below w.heap.size w w' := fun w => by
  have h0 := Same_any x y hx hy w
  rw [hb] at h0
  exact h0
theorem Odd_to (x : Fn) (b : Bool) (hx : x.lt 18446744073709551616) (hb : decide (x.val % Num.p % 2 = 1) = b) : ∀ w, Calls Try.prog 25 #[x.v] w fun e w' => e = .returned (.bool b) ∧ Below w.heap.size w w' := fun w => by
  have h0 := Odd_any x hx w
  rw [hb] at h0
  exact h0
theorem neg_add (a : Nat) : (a + subM 0 a) % Num.p = 0 % Num.p := by
  unfold subM Num.p
  omega
theorem inv_mul {a : Nat} (h : ¬ a % Num.p = 0) : a * a ^ (Num.p - 2) % Num.p = 1 % Num.p := by
  have e : a * a ^ (Num.p - 2) = a ^ (Num.p - 1) := by rw [show Num.p - 1 = (Num.p - 2) + 1 by decide, Nat.pow_succ, Nat.mul_comm]
  rw [e, Num.prm_p.fermat a (fun hd => h (Nat.mod_eq_zero_of_dvd hd))]
  decide
end Go.Proofs.Ytljolpdpblohcaa
