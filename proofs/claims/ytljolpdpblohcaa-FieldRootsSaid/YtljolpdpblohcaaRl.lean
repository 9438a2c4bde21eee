/-
  The document's root and the program's are the same: plain arithmetic modulo the prime.
-/
import Derived.Test.YtljolpdpblohcaaSr
namespace Go.Proofs.Ytljolpdpblohcaa
open Go.RowKit
set_option linter.unusedVariables false
set_option linter.unusedSimpArgs false

/-- The even one of a number and its opposite. -/
def evenV (a : Nat) : Nat := if a % Num.p % 2 = 1 then subM 0 a else a
theorem evenV_congr {a b : Nat} (h : a % Num.p = b % Num.p) : evenV a % Num.p = evenV b % Num.p := by
  unfold evenV
  rw [h]
  split
  · rw [subM_congr (a := 0) (c := 0) rfl h]
  · exact h
theorem evenV_neg {a b : Nat} (h : a % Num.p = subM 0 b) : evenV a % Num.p = evenV b % Num.p := by
  have e1 : evenV a % Num.p = if a % Num.p % 2 = 1 then (Num.p - a % Num.p) % Num.p else a % Num.p := by
    unfold evenV
    split
    · rw [subM_mod, sub0]
    · rfl
  have e2 : evenV b % Num.p = if b % Num.p % 2 = 1 then (Num.p - b % Num.p) % Num.p else b % Num.p := by
    unfold evenV
    split
    · rw [subM_mod, sub0]
    · rfl
  rw [e1, e2, h, sub0]
  have h3 : b % Num.p < Num.p := Nat.mod_lt _ p_pos
  obtain ⟨v, hv⟩ : ∃ v, v = b % Num.p := ⟨_, rfl⟩
  rw [← hv] at h3 ⊢
  clear hv e1 e2 h
  have h5 : Num.p % 2 = 1 := by decide
  by_cases h0 : v = 0
  · subst h0
    rw [Nat.sub_zero, Nat.mod_self]
    decide
  · rw [Nat.mod_eq_of_lt (by omega : Num.p - v < Num.p)]
    by_cases ho : v % 2 = 1
    · rw [if_pos ho, if_neg (by omega)]
    · rw [if_neg ho, if_pos (by omega), Nat.mod_eq_of_lt (by omega)]
      omega
theorem rootV_even' {n m A V : Nat} (h : rootOk n m A V) : rootV n m A V = evenV (rootS n m A V) := by
  unfold rootV evenV
  rw [if_pos h]
/-- A quotient's first root, as the document reckons, and what it is when the root of -1 is put to it. -/
def docR (Q e1 : Nat) : Nat := Q ^ e1 % Num.p
def docS (Q e1 e2 : Nat) : Nat := if docR Q e1 * docR Q e1 % Num.p = Q then docR Q e1 else docR Q e1 * (2 ^ e2 % Num.p) % Num.p
def docQ (U V : Nat) : Nat := U * (V ^ (Num.p - 2) % Num.p) % Num.p
theorem docQ_lt (U V : Nat) : docQ U V < Num.p := Nat.mod_lt _ p_pos
theorem docS_lt (Q e1 e2 : Nat) : docS Q e1 e2 < Num.p := by
  unfold docS docR
  split
  · exact Nat.mod_lt _ p_pos
  · exact Nat.mod_lt _ p_pos
theorem docQ_mul {U V : Nat} (hV : ¬ V % Num.p = 0) : docQ U V * V % Num.p = U % Num.p := by
  unfold docQ
  have h0 : U * (V ^ (Num.p - 2) % Num.p) % Num.p % Num.p = U * V ^ (Num.p - 2) % Num.p := by rw [Nat.mod_mod, Nat.mul_mod, Nat.mod_mod, ← Nat.mul_mod]
  have h1 : U * (V ^ (Num.p - 2) % Num.p) % Num.p * V % Num.p = U * (V * V ^ (Num.p - 2)) % Num.p := by
    rw [mm h0 (rfl : V % Num.p = V % Num.p), Nat.mul_assoc, Nat.mul_comm (V ^ (Num.p - 2)) V]
  rw [h1, mm (rfl : U % Num.p = U % Num.p) (show V * V ^ (Num.p - 2) % Num.p = 1 % Num.p by rw [inv1 hV]; decide), Nat.mul_one]
section
variable {E1 E2 HP : Nat} (X : Expo E1 E2 HP)
include X
theorem docR_sq (Q : Nat) : docR Q (E1 + 1) * docR Q (E1 + 1) % Num.p = Q * Q ^ E2 % Num.p := by
  unfold docR
  rw [← Nat.mul_mod, ← Nat.pow_add, ← X.E12, show E1 + 1 + (E1 + 1) = (E1 + E1 + 1) + 1 by omega, Nat.pow_succ, Nat.mul_comm]
theorem docS_sq (Q : Nat) (hq : Q < Num.p) : docS Q (E1 + 1) E2 * docS Q (E1 + 1) E2 % Num.p = if docR Q (E1 + 1) * docR Q (E1 + 1) % Num.p = Q then Q else (Num.p - 1) * (Q * Q ^ E2) % Num.p := by
  unfold docS
  split
  · rename_i h; exact h
  · rw [← Nat.mul_mod]
    have e : ∀ r i : Nat, r * i * (r * i) = i * i * (r * r) := fun r i => by simp only [Nat.mul_assoc, Nat.mul_comm, Nat.mul_left_comm]
    rw [e]
    refine mm ?_ ?_
    · rw [← Nat.mul_mod, i_sq X]
      exact (Nat.mod_eq_of_lt (by decide)).symm
    · exact docR_sq X Q
theorem doc_ok {U V : Nat} (hU : U < Num.p) (hV : ¬ V % Num.p = 0) : (docS (docQ U V) (E1 + 1) E2 * docS (docQ U V) (E1 + 1) E2 % Num.p = docQ U V) ↔ rootOk E1 E2 U V := by
  have hqv := docQ_mul (U := U) hV
  obtain ⟨Q, hQ⟩ : ∃ Q, Q = docQ U V := ⟨_, rfl⟩
  have hq : Q < Num.p := by rw [hQ]; exact docQ_lt U V
  rw [← hQ] at hqv ⊢
  by_cases h0 : U = 0
  · -- nought is nought's square
    have hQ0 : Q = 0 := by
      rw [hQ, h0]
      unfold docQ
      rw [Nat.zero_mul]
      decide
    have hr : rootOk E1 E2 U V := by
      have hR : rootR E1 U V = 0 := by rw [h0]; unfold rootR; rw [Nat.zero_mul, Nat.zero_mul]
      have hS : rootS E1 E2 U V = 0 := by
        unfold rootS
        rw [hR]
        split
        · rw [Nat.zero_mul]
        · rfl
      unfold rootOk
      rw [hS, h0]; simp only [Nat.zero_mul]
    refine ⟨fun _ => hr, fun _ => ?_⟩
    have hd : docR Q (E1 + 1) = 0 := by
      unfold docR
      rw [hQ0, Nat.pow_succ, Nat.mul_zero]
      decide
    have hs : docS Q (E1 + 1) E2 = 0 := by
      unfold docS
      rw [hd, Nat.zero_mul, Nat.zero_mul]
      split
      · rfl
      · decide
    rw [hs, hQ0]
    decide
  · have hU0 : ¬ U % Num.p = 0 := by rw [Nat.mod_eq_of_lt hU]; exact h0
    have hQ0 : ¬ Q % Num.p = 0 := fun h => hU0 (by rw [← hqv, mm (c := 0) (h.trans (by decide)) (rfl : V % Num.p = V % Num.p), Nat.zero_mul]; decide)
    have hQm : Q % Num.p = Q := Nat.mod_eq_of_lt hq
    obtain ⟨c, hc⟩ : ∃ c, c = Q ^ E2 := ⟨_, rfl⟩
    have hVU : (V * U) ^ HP % Num.p = c * c % Num.p := by
      have e1 : V * U % Num.p = V * V * Q % Num.p := by rw [mm (rfl : V % Num.p = V % Num.p) hqv.symm, Nat.mul_comm Q V, ← Nat.mul_assoc]
      rw [powm HP e1, Nat.mul_pow, Nat.mul_pow, ← Nat.pow_add, X.HP2, hc, ← Nat.pow_add, X.E22, Nat.mul_mod, fermat1 hV, Nat.one_mul, Nat.mod_mod]
    rw [root_iff X hU0 hV, hVU, docS_sq X Q hq, docR_sq X, ← hc]
    have p1 : (1 : Nat) % Num.p = 1 := by decide
    constructor
    · intro h
      by_cases hs : Q * c % Num.p = Q
      · have h1 : c % Num.p = 1 % Num.p := cancel hQ0 (by rw [hs, Nat.mul_one, hQm])
        rw [mm h1 h1]
        decide
      · rw [if_neg hs] at h
        have h1 : (Num.p - 1) * c % Num.p = 1 % Num.p := cancel hQ0 (by
          have e : Q * ((Num.p - 1) * c) = (Num.p - 1) * (Q * c) := by simp only [Nat.mul_assoc, Nat.mul_comm, Nat.mul_left_comm]
          rw [e, h, Nat.mul_one, hQm])
        have h2 : c % Num.p = (Num.p - 1) % Num.p := by
          have h3 := mm (rfl : (Num.p - 1) % Num.p = (Num.p - 1) % Num.p) h1
          rw [← Nat.mul_assoc, mm (show (Num.p - 1) * (Num.p - 1) % Num.p = 1 % Num.p by rw [pm1_sq]; decide) (rfl : c % Num.p = c % Num.p), Nat.one_mul, Nat.mul_one] at h3
          exact h3
        rw [mm h2 h2, pm1_sq]
    · intro h
      have h2 : c * c % Num.p = 1 * 1 % Num.p := by rw [h]; decide
      rcases sq_eq h2 with h3 | h3
      · have h4 : Q * c % Num.p = Q := by rw [mm (rfl : Q % Num.p = Q % Num.p) h3, Nat.mul_one, hQm]
        rw [if_pos h4]
      · have h5 : c % Num.p = (Num.p - 1) % Num.p := by rw [h3, ← subM_mod, neg_mul, Nat.mul_one]
        by_cases hs : Q * c % Num.p = Q
        · rw [if_pos hs]
        · rw [if_neg hs]
          have e : (Num.p - 1) * (Q * c) % Num.p = (Num.p - 1) * (Q * (Num.p - 1)) % Num.p := mm rfl (mm rfl h5)
          have e2 : (Num.p - 1) * (Q * (Num.p - 1)) = (Num.p - 1) * (Num.p - 1) * Q := by simp only [Nat.mul_assoc, Nat.mul_comm, Nat.mul_left_comm]
          rw [e, e2, mm (show (Num.p - 1) * (Num.p - 1) % Num.p = 1 % Num.p by rw [pm1_sq]; decide) (rfl : Q % Num.p = Q % Num.p), Nat.one_mul, hQm]
omit X
theorem doc_val {U V : Nat} (hV : ¬ V % Num.p = 0) (hok : rootOk E1 E2 U V) (hd : docS (docQ U V) (E1 + 1) E2 * docS (docQ U V) (E1 + 1) E2 % Num.p = docQ U V) : evenV (docS (docQ U V) (E1 + 1) E2) % Num.p = rootV E1 E2 U V % Num.p := by
  rw [rootV_even' hok]
  have hqv := docQ_mul (U := U) hV
  have h := hok
  unfold rootOk at h
  have h1 : docS (docQ U V) (E1 + 1) E2 * docS (docQ U V) (E1 + 1) E2 % Num.p = rootS E1 E2 U V * rootS E1 E2 U V % Num.p := by
    refine cancel hV ?_
    rw [Nat.mul_comm V, Nat.mul_comm V, h, mm (show docS (docQ U V) (E1 + 1) E2 * docS (docQ U V) (E1 + 1) E2 % Num.p = docQ U V % Num.p by rw [hd, Nat.mod_eq_of_lt (docQ_lt U V)]) (rfl : V % Num.p = V % Num.p), hqv]
  rcases sq_eq h1 with h2 | h2
  · exact evenV_congr h2
  · exact evenV_neg h2
/-- Nothing comes of a quotient by nought, but of nought. -/
theorem root_zero {U V : Nat} (hU : U < Num.p) (hV : V = 0) : (rootOk E1 E2 U V ↔ U = 0) ∧ rootV E1 E2 U V % Num.p = 0 := by
  have hR : rootR E1 U V = 0 := by rw [hV]; unfold rootR; simp
  have hS : rootS E1 E2 U V = 0 := by
    unfold rootS
    rw [hR]
    split
    · rw [Nat.zero_mul]
    · rfl
  constructor
  · unfold rootOk
    rw [hS]; simp only [Nat.zero_mul]; rw [Nat.zero_mod, Nat.mod_eq_of_lt hU]
    exact eq_comm
  · unfold rootV
    rw [hS]
    split
    · decide
    · decide
end
end Go.Proofs.Ytljolpdpblohcaa
