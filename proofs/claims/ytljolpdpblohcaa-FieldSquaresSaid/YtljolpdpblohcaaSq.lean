/-
  Which quotients have a root: plain arithmetic modulo the prime.
-/
import Derived.Test.YtljolpdpblohcaaRt
namespace Go.Proofs.Ytljolpdpblohcaa
open Go.RowKit

theorem p_prime {a b : Nat} (h : a * b % Num.p = 0) : a % Num.p = 0 ∨ b % Num.p = 0 := by
  have h1 := Num.Prm.euclid Num.prm_p (Nat.dvd_of_mod_eq_zero h)
  rcases h1 with h1 | h1
  · exact .inl (Nat.mod_eq_zero_of_dvd h1)
  · exact .inr (Nat.mod_eq_zero_of_dvd h1)
/-- The half of p less 1. -/
abbrev HP : Nat := 28948022309329048855892746252171976963317496166410141009864396001978282409974
theorem HP2 : HP + HP = Num.p - 1 := by decide +kernel
theorem fermat1 {a : Nat} (h : ¬ a % Num.p = 0) : a ^ (Num.p - 1) % Num.p = 1 := Num.prm_p.fermat a (fun hd => h (Nat.mod_eq_zero_of_dvd hd))
theorem sq_eq0 {a b : Nat} (ha : a < Num.p) (hb : b < Num.p) (h1 : a * a % Num.p = b * b % Num.p) : a = b ∨ a = (Num.p - b) % Num.p := by
  have key : (a + (Num.p - b)) * (a + b) % Num.p = 0 := by
    obtain ⟨c, hc⟩ : ∃ c, c = Num.p - b := ⟨_, rfl⟩
    have hcb : c + b = Num.p := by omega
    rw [← hc]
    have e : (a + c) * (a + b) + b * b = a * a + Num.p * (a + b) := by
      rw [← hcb]
      simp only [Nat.add_mul, Nat.mul_add, Nat.mul_comm b a, Nat.mul_comm c a, Nat.mul_comm b c]
      omega
    have e2 : ((a + c) * (a + b) + b * b) % Num.p = b * b % Num.p := by rw [e, Nat.add_mul_mod_self_left, h1]
    have e3 : ((a + c) * (a + b) % Num.p + b * b % Num.p) % Num.p = b * b % Num.p := by rw [← Nat.add_mod]; exact e2
    have h4 : (a + c) * (a + b) % Num.p < Num.p := Nat.mod_lt _ p_pos
    have h5 : b * b % Num.p < Num.p := Nat.mod_lt _ p_pos
    generalize (a + c) * (a + b) % Num.p = u at *
    generalize b * b % Num.p = v at *
    clear e e2 h1 hc hcb
    unfold Num.p at *
    omega
  rcases p_prime key with h2 | h2
  · left
    clear key h1
    unfold Num.p at *
    omega
  · right
    clear key h1
    unfold Num.p at *
    omega
/-- Equal squares are of equal or of opposite numbers. -/
theorem sq_eq {x y : Nat} (h : x * x % Num.p = y * y % Num.p) : x % Num.p = y % Num.p ∨ x % Num.p = subM 0 y := by
  have h1 := sq_eq0 (a := x % Num.p) (b := y % Num.p) (Nat.mod_lt _ p_pos) (Nat.mod_lt _ p_pos) (by rw [← Nat.mul_mod, ← Nat.mul_mod]; exact h)
  rcases h1 with h1 | h1
  · exact .inl h1
  · right; rw [h1]; unfold subM; rw [Nat.zero_mod, Nat.zero_add]
theorem euler {a : Nat} (h : ¬ a % Num.p = 0) : a ^ HP % Num.p = 1 ∨ a ^ HP % Num.p = Num.p - 1 := by
  have h1 : a ^ HP * a ^ HP % Num.p = 1 * 1 % Num.p := by rw [← Nat.pow_add, HP2, fermat1 h]; decide
  rcases sq_eq h1 with h2 | h2
  · left; rw [h2]; decide
  · right; rw [h2]; decide
theorem two_HP : 2 ^ HP % Num.p = Num.p - 1 := by
  have h := pm_mod 2 HP 1 (by decide +kernel)
  rw [Nat.one_mul] at h
  rw [h]
  decide +kernel
end Go.Proofs.Ytljolpdpblohcaa
