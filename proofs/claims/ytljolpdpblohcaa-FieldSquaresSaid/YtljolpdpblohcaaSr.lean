/-
  Which quotients have a root: the rule, and what comes of squares: plain arithmetic.
-/
import Derived.Test.YtljolpdpblohcaaSq
namespace Go.Proofs.Ytljolpdpblohcaa
open Go.RowKit
set_option linter.unusedVariables false

/-- What the exponents are to each other: (p - 5) / 8, (p - 1) / 4, (p - 1) / 2. -/
structure Expo (E1 E2 HP : Nat) : Prop where
  E12 : E1 + E1 + 1 = E2
  E22 : E2 + E2 = HP
  HP2 : HP + HP = Num.p - 1
  two_HP : 2 ^ HP % Num.p = Num.p - 1
section
variable {E1 E2 HP : Nat} (X : Expo E1 E2 HP)
include X
theorem eulerX {a : Nat} (h : ¬ a % Num.p = 0) : a ^ HP % Num.p = 1 ∨ a ^ HP % Num.p = Num.p - 1 := by
  have h1 : a ^ HP * a ^ HP % Num.p = 1 * 1 % Num.p := by rw [← Nat.pow_add, X.HP2, fermat1 h]; decide
  rcases sq_eq h1 with h2 | h2
  · left; rw [h2]; decide
  · right; rw [h2]; decide
omit X
theorem pm1_sq : (Num.p - 1) * (Num.p - 1) % Num.p = 1 := by decide +kernel
theorem neg_mul (a : Nat) : subM 0 a % Num.p = (Num.p - 1) * a % Num.p := by
  have e : (Num.p - 1) * a + a = Num.p * a := by rw [Nat.sub_mul, Nat.one_mul]; exact Nat.sub_add_cancel (Nat.le_mul_of_pos_left _ p_pos)
  have h1 : ((Num.p - 1) * a % Num.p + a % Num.p) % Num.p = 0 := by rw [← Nat.add_mod, e, Nat.mul_mod_right]
  have h2 : (Num.p - 1) * a % Num.p < Num.p := Nat.mod_lt _ p_pos
  have h3 : a % Num.p < Num.p := Nat.mod_lt _ p_pos
  rw [subM_mod]
  unfold subM
  rw [Nat.zero_mod, Nat.zero_add]
  generalize (Num.p - 1) * a % Num.p = u at *
  generalize a % Num.p = v at *
  clear e
  unfold Num.p at *
  omega
theorem inv1 {a : Nat} (ha : ¬ a % Num.p = 0) : a * a ^ (Num.p - 2) % Num.p = 1 := by
  have e : a * a ^ (Num.p - 2) = a ^ (Num.p - 1) := by rw [show Num.p - 1 = (Num.p - 2) + 1 by decide, Nat.pow_succ, Nat.mul_comm]
  rw [e, fermat1 ha]
theorem cancel {a x y : Nat} (ha : ¬ a % Num.p = 0) (h : a * x % Num.p = a * y % Num.p) : x % Num.p = y % Num.p := by
  have h1 := mm (a := a ^ (Num.p - 2)) (c := a ^ (Num.p - 2)) rfl h
  have e : ∀ z, a ^ (Num.p - 2) * (a * z) % Num.p = z % Num.p := fun z => by
    rw [← Nat.mul_assoc, Nat.mul_comm (a ^ (Num.p - 2)) a, Nat.mul_mod, inv1 ha]
    rw [Nat.one_mul, Nat.mod_mod]
  rw [e, e] at h1
  exact h1
theorem rootR_sq (n A V : Nat) : rootR n A V * rootR n A V * V = A * (V * V * V * (V * V * V) * V * A) ^ (n + n + 1) := by
  unfold rootR
  obtain ⟨T, hT⟩ : ∃ T, T = V * V * V * (V * V * V) * V * A := ⟨_, rfl⟩
  obtain ⟨W, hW⟩ : ∃ W, W = V * V * V := ⟨_, rfl⟩
  rw [← hW] at hT ⊢
  rw [← hT, Nat.pow_succ, Nat.pow_add]
  have e : A * W * T ^ n * (A * W * T ^ n) * V = A * (T ^ n * T ^ n * (W * W * V * A)) := by simp only [Nat.mul_assoc, Nat.mul_comm, Nat.mul_left_comm]
  rw [e, ← hT]
include X
theorem i_sq : 2 ^ E2 * 2 ^ E2 % Num.p = Num.p - 1 := by rw [← Nat.pow_add, X.E22]; exact X.two_HP
omit X
theorem not_neg {a : Nat} (ha : ¬ a % Num.p = 0) : ¬ a % Num.p = subM 0 a := by
  intro h
  have h2 : subM 0 a = (Num.p - a % Num.p) % Num.p := by unfold subM; rw [Nat.zero_mod, Nat.zero_add]
  rw [h2] at h
  have h3 : a % Num.p < Num.p := Nat.mod_lt _ p_pos
  obtain ⟨v, hv⟩ : ∃ v, v = a % Num.p := ⟨_, rfl⟩
  rw [← hv] at h h3 ha
  rw [Nat.mod_eq_of_lt (by omega)] at h
  have h4 : v + v = Num.p := by omega
  have h5 : Num.p % 2 = 1 := by decide
  omega
include X
theorem T_HP (A V : Nat) (hV : ¬ V % Num.p = 0) : (V * V * V * (V * V * V) * V * A) ^ HP % Num.p = (V * A) ^ HP % Num.p := by
  have e : V * V * V * (V * V * V) * V * A = (V * V * V) * (V * V * V) * (V * A) := by simp only [Nat.mul_assoc, Nat.mul_comm, Nat.mul_left_comm]
  have hW : ¬ V * V * V % Num.p = 0 := fun h => by
    rcases p_prime h with h | h
    · rcases p_prime h with h | h <;> exact hV h
    · exact hV h
  rw [e, Nat.mul_pow, Nat.mul_pow, ← Nat.pow_add, X.HP2, Nat.mul_mod, fermat1 hW, Nat.one_mul, Nat.mod_mod]
theorem root_iff {A V : Nat} (hA : ¬ A % Num.p = 0) (hV : ¬ V % Num.p = 0) : rootOk E1 E2 A V ↔ (V * A) ^ HP % Num.p = 1 := by
  obtain ⟨c, hc⟩ : ∃ c, c = (V * V * V * (V * V * V) * V * A) ^ E2 := ⟨_, rfl⟩
  have hR : rootR E1 A V * rootR E1 A V * V = A * c := by rw [rootR_sq, X.E12, hc]
  have hcc : c * c % Num.p = (V * A) ^ HP % Num.p := by rw [hc, ← Nat.pow_add, X.E22, T_HP X A V hV]
  have hVA : ¬ V * A % Num.p = 0 := fun h => by rcases p_prime h with h | h; exact hV h; exact hA h
  have p1 : (1 : Nat) % Num.p = 1 := by decide
  constructor
  · intro hok
    unfold rootOk rootS at hok
    rw [hR] at hok
    by_cases ht : A * c % Num.p = subM 0 A
    · -- c is -1
      have h1 : c % Num.p = (Num.p - 1) % Num.p := cancel hA (by rw [ht, ← subM_mod, neg_mul, Nat.mul_comm])
      rw [← hcc, mm h1 h1, pm1_sq]
    · rw [if_neg ht, hR] at hok
      have h1 : c % Num.p = 1 % Num.p := cancel hA (by rw [hok, Nat.mul_one])
      rw [← hcc, mm h1 h1]
      decide
  · intro h1
    have h2 : c * c % Num.p = 1 * 1 % Num.p := by rw [hcc, h1]; decide
    unfold rootOk rootS
    rw [hR]
    rcases sq_eq h2 with h3 | h3
    · have h4 : A * c % Num.p = A % Num.p := by rw [mm (rfl : A % Num.p = A % Num.p) h3, Nat.mul_one]
      rw [if_neg (by rw [h4]; exact not_neg hA), hR, h4]
    · have h5 : c % Num.p = (Num.p - 1) % Num.p := by rw [h3, ← subM_mod, neg_mul, Nat.mul_one]
      have h4 : A * c % Num.p = subM 0 A := by rw [mm (rfl : A % Num.p = A % Num.p) h5, Nat.mul_comm, ← neg_mul, subM_mod]
      rw [if_pos h4]
      have e : rootR E1 A V * 2 ^ E2 * (rootR E1 A V * 2 ^ E2) * V = (rootR E1 A V * rootR E1 A V * V) * (2 ^ E2 * 2 ^ E2) := by simp only [Nat.mul_assoc, Nat.mul_comm, Nat.mul_left_comm]
      rw [e, hR]
      have h6 : A * c % Num.p = (Num.p - 1) * A % Num.p := by rw [h4, ← subM_mod, neg_mul]
      have h7 : 2 ^ E2 * 2 ^ E2 % Num.p = (Num.p - 1) % Num.p := by rw [i_sq X]; decide
      rw [mm h6 h7, Nat.mul_comm (Num.p - 1) A, Nat.mul_assoc, mm (rfl : A % Num.p = A % Num.p) (show (Num.p - 1) * (Num.p - 1) % Num.p = 1 % Num.p by rw [pm1_sq]; decide), Nat.mul_one]
omit X
/-- A root's parity. -/
theorem sub0 (a : Nat) : subM 0 a = (Num.p - a % Num.p) % Num.p := by unfold subM; rw [Nat.zero_mod, Nat.zero_add]
theorem rootV_even (n m A V : Nat) : rootV n m A V % Num.p % 2 = 0 := by
  unfold rootV
  split
  · split
    · rename_i h
      rw [subM_mod, sub0]
      have h3 : rootS n m A V % Num.p < Num.p := Nat.mod_lt _ p_pos
      obtain ⟨v, hv⟩ : ∃ v, v = rootS n m A V % Num.p := ⟨_, rfl⟩
      rw [← hv] at h h3 ⊢
      clear hv
      have h6 : Num.p - v < Num.p := by omega
      rw [Nat.mod_eq_of_lt h6]
      have h5 : Num.p % 2 = 1 := by decide
      omega
    · omega
  · decide
theorem neg_neg (a : Nat) : subM 0 (subM 0 a) = a % Num.p := by
  rw [sub0, subM_mod, sub0]
  have h3 : a % Num.p < Num.p := Nat.mod_lt _ p_pos
  obtain ⟨v, hv⟩ : ∃ v, v = a % Num.p := ⟨_, rfl⟩
  rw [← hv] at h3 ⊢
  clear hv
  by_cases h : v = 0
  · subst h; rw [Nat.sub_zero, Nat.mod_self, Nat.sub_zero, Nat.mod_self]
  · rw [Nat.mod_eq_of_lt (by omega : Num.p - v < Num.p), Nat.mod_eq_of_lt (by omega)]
    omega
include X
/-- A square has a root, its own number's or the opposite one's. -/
theorem root_square (a : Nat) : rootOk E1 E2 (a * a) 1 ∧ (rootV E1 E2 (a * a) 1 % Num.p = a % Num.p ∨ rootV E1 E2 (a * a) 1 % Num.p = subM 0 a) := by
  have hok : rootOk E1 E2 (a * a) 1 := by
    by_cases ha : a % Num.p = 0
    · have hR : rootR E1 (a * a) 1 % Num.p = 0 % Num.p := by
        unfold rootR
        rw [Nat.mul_assoc, Nat.mul_assoc, mm (a := a) (c := 0) (by rw [ha]; decide) rfl, Nat.zero_mul]
      have hS : rootS E1 E2 (a * a) 1 % Num.p = 0 % Num.p := by
        unfold rootS
        split
        · rw [mm hR rfl, Nat.zero_mul]
        · exact hR
      unfold rootOk
      rw [mm (mm hS hS) rfl, mm (a := a) (b := a) (c := 0) (d := 0) (by rw [ha]; decide) (by rw [ha]; decide)]
    · refine (root_iff X (fun h => ?_) (by decide)).mpr ?_
      · rcases p_prime h with h | h <;> exact ha h
      · rw [Nat.one_mul, Nat.mul_pow, ← Nat.pow_add, X.HP2, fermat1 ha]
  refine ⟨hok, ?_⟩
  have h := hok
  unfold rootOk at h
  rw [Nat.mul_one] at h
  unfold rootV
  rw [if_pos hok]
  rcases sq_eq h with h1 | h1
  · split
    · right; rw [subM_mod, subM_congr (a := 0) (c := 0) rfl h1]
    · left; exact h1
  · split
    · left
      rw [subM_mod, subM_congr (a := 0) (c := 0) (b := rootS E1 E2 (a * a) 1) (d := subM 0 a) rfl (by rw [h1, subM_mod]), neg_neg]
    · right; exact h1
/-- Of a quotient and twice it, one has a root. -/
theorem root_one {A V : Nat} (hA : ¬ A % Num.p = 0) (hV : ¬ V % Num.p = 0) : rootOk E1 E2 (A + A) V ↔ ¬ rootOk E1 E2 A V := by
  have hVA : ¬ V * A % Num.p = 0 := fun h => by rcases p_prime h with h | h; exact hV h; exact hA h
  have h2 : ¬ (2 : Nat) % Num.p = 0 := by decide
  have hAA : ¬ (A + A) % Num.p = 0 := fun h => by
    rw [← Nat.two_mul] at h
    rcases p_prime h with h | h
    · exact h2 h
    · exact hA h
  rw [root_iff X hA hV, root_iff X hAA hV]
  have e : V * (A + A) = 2 * (V * A) := by rw [← Nat.two_mul]; simp only [Nat.mul_assoc, Nat.mul_comm, Nat.mul_left_comm]
  have e2 : (V * (A + A)) ^ HP % Num.p = (Num.p - 1) * ((V * A) ^ HP % Num.p) % Num.p := by rw [e, Nat.mul_pow, Nat.mul_mod, X.two_HP]
  rw [e2]
  rcases eulerX X hVA with h | h
  · rw [h]; decide
  · rw [h]; decide
end
end Go.Proofs.Ytljolpdpblohcaa
