/-
  Binary digits of numbers, in bytes and in limbs. No program in sight.
-/
import Derived.Test.YtljolpdpblohcaaDoorFn
import Derived.Laws.Bits64b
namespace Go.Proofs.YtljolpdpblohcaaDoor
open Go.RowKit
set_option linter.unusedSimpArgs false

def feA (s : Fn) : Array Value := #[.int .u64 s.a, .int .u64 s.b, .int .u64 s.c, .int .u64 s.d, .int .u64 s.e]
def byteAt (n i j : Nat) : Nat := n % 2 ^ i / 256 ^ j % 256
def encA (n i : Nat) : Array Value := ((List.range 32).map fun j => Value.int .u8 (byteAt n i j)).toArray
def limbAt (s : Fn) : Nat → Nat
  | 0 => s.a
  | 1 => s.b
  | 2 => s.c
  | 3 => s.d
  | _ => s.e

theorem encA_get (n i j : Nat) (h : j < 32) : (encA n i)[j]? = some (.int .u8 (byteAt n i j)) := by
  simp [encA, h]
theorem feA_get (s : Fn) (m : Nat) (h : m < 5) : (feA s)[m]? = some (.int .u64 (limbAt s m)) := by
  have : m = 0 ∨ m = 1 ∨ m = 2 ∨ m = 3 ∨ m = 4 := by omega
  rcases this with rfl | rfl | rfl | rfl | rfl <;> rfl

theorem encA_zero (n : Nat) : encA n 0 = #[.int .u8 0, .int .u8 0, .int .u8 0, .int .u8 0, .int .u8 0, .int .u8 0, .int .u8 0, .int .u8 0, .int .u8 0, .int .u8 0, .int .u8 0, .int .u8 0, .int .u8 0, .int .u8 0, .int .u8 0, .int .u8 0, .int .u8 0, .int .u8 0, .int .u8 0, .int .u8 0, .int .u8 0, .int .u8 0, .int .u8 0, .int .u8 0, .int .u8 0, .int .u8 0, .int .u8 0, .int .u8 0, .int .u8 0, .int .u8 0, .int .u8 0, .int .u8 0] := by
  simp [encA, byteAt, Nat.mod_one, List.range_succ]
theorem bit_mod (X r K : Nat) (h : r < K) : X % 2 ^ K / 2 ^ r % 2 = X / 2 ^ r % 2 := by
  have h1 : Nat.testBit (X % 2 ^ K) r = Nat.testBit X r := by rw [Nat.testBit_mod_two_pow]; simp [h]
  simp only [Nat.testBit_eq_decide_div_mod_eq, decide_eq_decide] at h1
  omega
theorem limb_pow (n m : Nat) (h : m < 5) : limbAt (cut51 n) m = n / 2 ^ (51 * m) % 2 ^ 51 := by
  have : m = 0 ∨ m = 1 ∨ m = 2 ∨ m = 3 ∨ m = 4 := by omega
  rcases this with rfl | rfl | rfl | rfl | rfl <;> simp only [limbAt, cut51, Nat.div_div_eq_div_mul] <;> simp
theorem limb_bit (n i : Nat) (h : i < 255) : limbAt (cut51 n) (i / 51) / 2 ^ (i % 51) % 2 = n / 2 ^ i % 2 := by
  rw [limb_pow n _ (by omega), bit_mod _ _ _ (by omega), Nat.div_div_eq_div_mul, ← Nat.pow_add]
  rw [show 51 * (i / 51) + i % 51 = i from by omega]

theorem pow_split (i : Nat) : 2 ^ i = 256 ^ (i / 8) * 2 ^ (i % 8) := by
  rw [show (256 : Nat) = 2 ^ 8 from rfl, ← Nat.pow_mul, ← Nat.pow_add, Nat.div_add_mod]
theorem byte_lt (n i : Nat) : byteAt n i (i / 8) < 2 ^ (i % 8) := by
  unfold byteAt
  refine Nat.lt_of_le_of_lt (Nat.mod_le _ _) ?_
  refine Nat.div_lt_of_lt_mul ?_
  rw [← pow_split]
  exact Nat.mod_lt _ (Nat.two_pow_pos i)
theorem pow_q (q : Nat) (h : q < 8) : 2 ^ q ≤ 128 := by
  have := Nat.pow_le_pow_right (show 0 < 2 by omega) (show q ≤ 7 by omega)
  simpa using this
theorem byte_same (n i : Nat) : byteAt n (i + 1) (i / 8) = byteAt n i (i / 8) + n / 2 ^ i % 2 * 2 ^ (i % 8) := by
  have h1 := byte_lt n i
  have h2 := pow_q (i % 8) (Nat.mod_lt _ (by decide))
  unfold byteAt at *
  have h3 : n % 2 ^ i / 256 ^ (i / 8) < 2 ^ (i % 8) := by
    refine Nat.div_lt_of_lt_mul ?_
    rw [← pow_split]
    exact Nat.mod_lt _ (Nat.two_pow_pos i)
  have e : n % 2 ^ (i + 1) = n % 2 ^ i + 256 ^ (i / 8) * (n / 2 ^ i % 2 * 2 ^ (i % 8)) := by
    have e1 := Nat.mod_pow_succ (b := 2) (x := n) (k := i)
    rw [e1]
    have e2 := pow_split i
    generalize n / 2 ^ i % 2 = b
    rw [e2]
    simp only [Nat.mul_comm, Nat.mul_left_comm, Nat.mul_assoc]
  rw [e, Nat.add_mul_div_left _ _ (Nat.pow_pos (by decide))]
  have hb : n / 2 ^ i % 2 < 2 := Nat.mod_lt _ (by decide)
  generalize n % 2 ^ i / 256 ^ (i / 8) = A at *
  generalize n / 2 ^ i % 2 = b at *
  generalize 2 ^ (i % 8) = Q at *
  have : b = 0 ∨ b = 1 := by omega
  rcases this with rfl | rfl <;> omega
theorem byte_other (n i j : Nat) (h : j ≠ i / 8) : byteAt n (i + 1) j = byteAt n i j := by
  unfold byteAt
  have e1 := Nat.mod_pow_succ (b := 2) (x := n) (k := i)
  by_cases hj : j < i / 8
  · have e2 : 2 ^ i = 256 ^ j * (256 * 2 ^ (i - 8 * (j + 1))) := by
      rw [← Nat.mul_assoc, ← Nat.pow_succ, show (256 : Nat) = 2 ^ 8 from rfl, ← Nat.pow_mul, ← Nat.pow_add]
      congr 1; omega
    rw [e1]
    generalize n / 2 ^ i % 2 = b
    have e3 : 2 ^ i * b = 256 ^ j * (256 * (2 ^ (i - 8 * (j + 1)) * b)) := by
      rw [e2]; simp only [Nat.mul_comm, Nat.mul_left_comm, Nat.mul_assoc]
    rw [e3, Nat.add_mul_div_left _ _ (Nat.pow_pos (by decide)), Nat.add_mul_mod_self_left]
  · have hp : 2 ^ (i + 1) ≤ 256 ^ j := by
      rw [show (256 : Nat) = 2 ^ 8 from rfl, ← Nat.pow_mul]
      exact Nat.pow_le_pow_right (by decide) (by omega)
    have h1 : n % 2 ^ (i + 1) < 256 ^ j := Nat.lt_of_lt_of_le (Nat.mod_lt _ (Nat.two_pow_pos _)) hp
    have h2 : n % 2 ^ i < 256 ^ j := Nat.lt_of_lt_of_le (Nat.mod_lt _ (Nat.two_pow_pos _)) (Nat.le_trans (Nat.pow_le_pow_right (by decide) (by omega)) hp)
    rw [Nat.div_eq_of_lt h1, Nat.div_eq_of_lt h2]

theorem or_bit (x b q : Nat) (hx : x < 2 ^ q) (hb : b < 2) (hq : q < 8) : bits .or .u8 (x : Int) ((b * 2 ^ q : Nat) : Int) = ((x + b * 2 ^ q : Nat) : Int) := by
  have h2 := pow_q q hq
  have hle : b * 2 ^ q ≤ 128 := by
    have : b = 0 ∨ b = 1 := by omega
    rcases this with rfl | rfl <;> omega
  have h := (bits_nat .u8 8 (by decide) wraps_u8 x (b * 2 ^ q) (by omega) (by omega)).2
  rw [h]
  have e := Nat.shiftLeft_add_eq_or_of_lt hx b
  rw [Nat.shiftLeft_eq] at e
  rw [Nat.or_comm, ← e, Nat.add_comm]

theorem enc_step (n i : Nat) (h : i < 255) :
    (encA n i).setIfInBounds (i / 8) (.int .u8 (bits .or .u8 (byteAt n i (i / 8) : Int) (bits .and .u64 ((limbAt (cut51 n) (i / 51) : Int) / 2 ^ (i % 51)) 1 % 256 * 2 ^ (i % 8) % 256))) = encA n (i + 1) := by
  have hl := (Fn.lt_mono (cut51_lt n) (show 2251799813685248 ≤ 18446744073709551616 by decide))
  have hlim : limbAt (cut51 n) (i / 51) < 18446744073709551616 := by
    obtain ⟨h1, h2, h3, h4, h5⟩ := hl
    have : i / 51 = 0 ∨ i / 51 = 1 ∨ i / 51 = 2 ∨ i / 51 = 3 ∨ i / 51 = 4 := by omega
    rcases this with e | e | e | e | e <;> rw [e] <;> assumption
  have e1 : ((limbAt (cut51 n) (i / 51) : Int) / 2 ^ (i % 51)) = ((limbAt (cut51 n) (i / 51) / 2 ^ (i % 51) : Nat) : Int) := by rw [Int.natCast_ediv, Int.natCast_pow]; rfl
  have hlt : limbAt (cut51 n) (i / 51) / 2 ^ (i % 51) < 18446744073709551616 := Nat.lt_of_le_of_lt (Nat.div_le_self _ _) hlim
  have e2 : bits .and .u64 ((limbAt (cut51 n) (i / 51) / 2 ^ (i % 51) : Nat) : Int) 1 = ((n / 2 ^ i % 2 : Nat) : Int) := by
    have hb := bits_and_u64_nat (limbAt (cut51 n) (i / 51) / 2 ^ (i % 51)) 1 hlt (by omega)
    rw [Nat.and_one_is_mod, limb_bit n i h] at hb
    exact hb
  have hb2 : n / 2 ^ i % 2 < 2 := Nat.mod_lt _ (by decide)
  have hq := pow_q (i % 8) (Nat.mod_lt _ (by decide))
  have e3 : (((n / 2 ^ i % 2 : Nat) : Int) % 256 * 2 ^ (i % 8) % 256) = ((n / 2 ^ i % 2 * 2 ^ (i % 8) : Nat) : Int) := by
    have : n / 2 ^ i % 2 = 0 ∨ n / 2 ^ i % 2 = 1 := by omega
    have e4 : ((2 : Int) ^ (i % 8)) = ((2 ^ (i % 8) : Nat) : Int) := by rw [Int.natCast_pow]; rfl
    rw [e4]
    rcases this with e | e <;> rw [e] <;> omega
  rw [e1, e2, e3, or_bit _ _ _ (byte_lt n i) hb2 (Nat.mod_lt _ (by decide)), ← byte_same]
  apply Array.ext_getElem?
  intro k
  by_cases hk : k < 32
  · rw [encA_get n (i + 1) k hk]
    by_cases hk2 : i / 8 = k
    · subst hk2
      rw [Array.getElem?_setIfInBounds_self_of_lt (by simp [encA]; omega)]
    · rw [Array.getElem?_setIfInBounds_ne hk2, encA_get n i k hk, byte_other n i k (Ne.symm hk2)]
  · rw [Array.getElem?_eq_none (by simp [encA]; omega), Array.getElem?_eq_none (by simp [encA]; omega)]

end Go.Proofs.YtljolpdpblohcaaDoor
