/-
  Binary digits put into limbs. No program in sight.
-/
import Derived.Test.YtljolpdpblohcaaDoorEnc
namespace Go.Proofs.YtljolpdpblohcaaDoor
open Go.RowKit
set_option linter.unusedSimpArgs false

theorem split_k (K i : Nat) : 2 ^ i = 2 ^ (K * (i / K)) * 2 ^ (i % K) := by rw [← Nat.pow_add, Nat.div_add_mod]
theorem d_lt (K n i : Nat) : n % 2 ^ i / 2 ^ (K * (i / K)) < 2 ^ (i % K) := by
  refine Nat.div_lt_of_lt_mul ?_
  rw [← split_k]
  exact Nat.mod_lt _ (Nat.two_pow_pos i)
theorem d_same (K n i : Nat) (hK : 0 < K) : n % 2 ^ (i + 1) / 2 ^ (K * (i / K)) % 2 ^ K = n % 2 ^ i / 2 ^ (K * (i / K)) % 2 ^ K + n / 2 ^ i % 2 * 2 ^ (i % K) := by
  have h3 := d_lt K n i
  have e : n % 2 ^ (i + 1) = n % 2 ^ i + 2 ^ (K * (i / K)) * (n / 2 ^ i % 2 * 2 ^ (i % K)) := by
    have e1 := Nat.mod_pow_succ (b := 2) (x := n) (k := i)
    rw [e1]
    have e2 := split_k K i
    generalize n / 2 ^ i % 2 = b
    rw [e2]
    generalize 2 ^ (K * (i / K)) = X
    generalize 2 ^ (i % K) = Y
    rw [Nat.mul_assoc, Nat.mul_comm Y b]
  rw [e, Nat.add_mul_div_left _ _ (Nat.two_pow_pos _)]
  have hb : n / 2 ^ i % 2 < 2 := Nat.mod_lt _ (by decide)
  have hq : 2 * 2 ^ (i % K) ≤ 2 ^ K := by
    rw [← Nat.pow_succ']
    exact Nat.pow_le_pow_right (by decide) (Nat.mod_lt _ hK)
  generalize n % 2 ^ i / 2 ^ (K * (i / K)) = A at *
  generalize n / 2 ^ i % 2 = b at *
  generalize 2 ^ (i % K) = Q at *
  generalize 2 ^ K = R at *
  have : b = 0 ∨ b = 1 := by omega
  rcases this with rfl | rfl
  · rw [Nat.zero_mul, Nat.add_zero, Nat.add_zero]
  · rw [Nat.one_mul, Nat.mod_eq_of_lt (by omega), Nat.mod_eq_of_lt (by omega)]
theorem d_other (K n i j : Nat) (hK : 0 < K) (h : j ≠ i / K) : n % 2 ^ (i + 1) / 2 ^ (K * j) % 2 ^ K = n % 2 ^ i / 2 ^ (K * j) % 2 ^ K := by
  have e1 := Nat.mod_pow_succ (b := 2) (x := n) (k := i)
  by_cases hj : j < i / K
  · have hle : K * (j + 1) ≤ i := Nat.le_trans (Nat.mul_le_mul_left K hj) (Nat.mul_div_le i K)
    have e2 : 2 ^ i = 2 ^ (K * j) * (2 ^ K * 2 ^ (i - K * (j + 1))) := by
      rw [← Nat.pow_add, ← Nat.pow_add]
      congr 1
      rw [Nat.mul_add, Nat.mul_one] at *
      omega
    rw [e1]
    generalize n / 2 ^ i % 2 = b
    have e3 : 2 ^ i * b = 2 ^ (K * j) * (2 ^ K * (2 ^ (i - K * (j + 1)) * b)) := by
      rw [e2, Nat.mul_assoc, Nat.mul_assoc]
    rw [e3, Nat.add_mul_div_left _ _ (Nat.two_pow_pos _), Nat.add_mul_mod_self_left]
  · have hlt : i + 1 ≤ K * j := by
      have h1 : i / K + 1 ≤ j := by omega
      have h2 := Nat.mul_le_mul_left K h1
      have h3 := Nat.lt_mul_div_succ i hK
      omega
    have hp : 2 ^ (i + 1) ≤ 2 ^ (K * j) := Nat.pow_le_pow_right (by decide) hlt
    have h1 : n % 2 ^ (i + 1) < 2 ^ (K * j) := Nat.lt_of_lt_of_le (Nat.mod_lt _ (Nat.two_pow_pos _)) hp
    have h2 : n % 2 ^ i < 2 ^ (K * j) := Nat.lt_of_lt_of_le (Nat.mod_lt _ (Nat.two_pow_pos _)) (Nat.le_trans (Nat.pow_le_pow_right (by decide) (by omega)) hp)
    rw [Nat.div_eq_of_lt h1, Nat.div_eq_of_lt h2]

theorem or_bit64 (x b q : Nat) (hx : x < 2 ^ q) (hb : b < 2) (hq : q < 63) : bits .or .u64 (x : Int) ((b * 2 ^ q : Nat) : Int) = ((x + b * 2 ^ q : Nat) : Int) := by
  have h2 : 2 ^ q ≤ 2 ^ 62 := Nat.pow_le_pow_right (by decide) (by omega)
  have hle : b * 2 ^ q ≤ 2 ^ 62 := by
    have : b = 0 ∨ b = 1 := by omega
    rcases this with rfl | rfl <;> omega
  have h := (bits_nat .u64 64 (by decide) (fun n h0 h1 => by
    simp only [IntKind.wrap, IntKind.bits, IntKind.signed] at *
    simp at *
    omega) x (b * 2 ^ q) (by omega) (by omega)).2
  rw [h]
  have e := Nat.shiftLeft_add_eq_or_of_lt hx b
  rw [Nat.shiftLeft_eq] at e
  rw [Nat.or_comm, ← e, Nat.add_comm]

theorem dec_step (n i bv : Nat) (h : i < 255) (hbv : bv < 256) (hbit : n / 2 ^ i % 2 = bv / 2 ^ (i % 8) % 2) :
    (feA (cut51 (n % 2 ^ i))).setIfInBounds (i / 51) (.int .u64 (bits .or .u64 (limbAt (cut51 (n % 2 ^ i)) (i / 51) : Int) (w64 (w64 (bits .and .u8 ((bv : Int) / 2 ^ (i % 8)) 1) * 2 ^ (i % 51))))) = feA (cut51 (n % 2 ^ (i + 1))) := by
  have e1 : ((bv : Int) / 2 ^ (i % 8)) = ((bv / 2 ^ (i % 8) : Nat) : Int) := by rw [Int.natCast_ediv, Int.natCast_pow]; rfl
  have hlt : bv / 2 ^ (i % 8) < 256 := Nat.lt_of_le_of_lt (Nat.div_le_self _ _) hbv
  have e2 : bits .and .u8 ((bv / 2 ^ (i % 8) : Nat) : Int) 1 = ((n / 2 ^ i % 2 : Nat) : Int) := by
    have hb := (bits_nat .u8 8 (by decide) wraps_u8 (bv / 2 ^ (i % 8)) 1 (by omega) (by omega)).1
    rw [Nat.and_one_is_mod, ← hbit] at hb
    exact hb
  have hb2 : n / 2 ^ i % 2 < 2 := Nat.mod_lt _ (by decide)
  have hr : i % 51 < 51 := Nat.mod_lt _ (by decide)
  have hq : 2 ^ (i % 51) ≤ 2 ^ 50 := Nat.pow_le_pow_right (by decide) (by omega)
  have e3 : w64 (((n / 2 ^ i % 2 : Nat) : Int) * 2 ^ (i % 51)) = ((n / 2 ^ i % 2 * 2 ^ (i % 51) : Nat) : Int) := by
    have : n / 2 ^ i % 2 = 0 ∨ n / 2 ^ i % 2 = 1 := by omega
    have e4 : ((2 : Int) ^ (i % 51)) = ((2 ^ (i % 51) : Nat) : Int) := by rw [Int.natCast_pow]; rfl
    rw [e4, w64_nat]
    rcases this with e | e <;> rw [e] <;> omega
  have hx : limbAt (cut51 (n % 2 ^ i)) (i / 51) < 2 ^ (i % 51) := by
    rw [limb_pow _ _ (by omega)]
    exact Nat.lt_of_le_of_lt (Nat.mod_le _ _) (d_lt 51 n i)
  have hnew : limbAt (cut51 (n % 2 ^ i)) (i / 51) + n / 2 ^ i % 2 * 2 ^ (i % 51) = limbAt (cut51 (n % 2 ^ (i + 1))) (i / 51) := by
    rw [limb_pow _ _ (by omega), limb_pow _ _ (by omega), d_same 51 n i (by decide)]
  rw [e1, e2, w64_of _ (show n / 2 ^ i % 2 < 18446744073709551616 by omega), e3, or_bit64 _ _ _ hx hb2 (by omega), hnew]
  apply Array.ext_getElem?
  intro k
  by_cases hk : k < 5
  · rw [feA_get _ k hk]
    by_cases hk2 : i / 51 = k
    · subst hk2
      rw [Array.getElem?_setIfInBounds_self_of_lt (by simp [feA]; omega)]
    · rw [Array.getElem?_setIfInBounds_ne hk2, feA_get _ k hk]
      rw [limb_pow _ _ hk, limb_pow _ _ hk, d_other 51 n i k (by decide) (Ne.symm hk2)]
  · rw [Array.getElem?_eq_none (by simp [feA]; omega), Array.getElem?_eq_none (by simp [feA]; omega)]

end Go.Proofs.YtljolpdpblohcaaDoor
