/-
  A product modulo the prime, as the document reckons it: plain arithmetic.
-/
import Derived.Test.YtljolpdpblohcaaDoorMo
namespace Go.Proofs.YtljolpdpblohcaaDoor
open Go.RowKit
set_option linter.unusedSimpArgs false
set_option linter.unusedVariables false

abbrev MM : Nat := 4294836225
/-- At the head of row i. -/
def MulO (X Y i : Nat) (f : Nat → Nat) : Prop := valF 32 f = X % BB ^ i * Y ∧ ∀ j, f j ≤ i * MM
/-- In row i, behind k rounds. -/
def MulI (X Y i k : Nat) (f : Nat → Nat) : Prop := valF 32 f = X % BB ^ i * Y + dg X i * BB ^ i * (Y % BB ^ k) ∧ (∀ j, f j ≤ (i + 1) * MM) ∧ ∀ j, i + k ≤ j → f j ≤ i * MM
theorem mul_start (X Y : Nat) : MulO X Y 0 (fun _ => 0) := ⟨by simp [valF_zero, Nat.mod_one], fun _ => Nat.zero_le _⟩
theorem mul_row {X Y i : Nat} {f : Nat → Nat} (h : MulO X Y i f) : MulI X Y i 0 f := ⟨by rw [h.1]; simp [Nat.mod_one], fun j => Nat.le_trans (h.2 j) (by rw [Nat.add_mul]; omega), fun j _ => h.2 j⟩
theorem mul_dd (X Y i k : Nat) : dg X i * dg Y k ≤ MM := by
  have hx := digit_lt X i
  have hy := digit_lt Y k
  have h : dg X i * dg Y k ≤ 65535 * 65535 := Nat.mul_le_mul (by simp only [dg, BB] at *; omega) (by simp only [dg, BB] at *; omega)
  simp only [MM]
  omega
theorem mul_step {X Y i k : Nat} {f : Nat → Nat} (h : MulI X Y i k f) (hi : i + k < 32) : MulI X Y i (k + 1) (upd f (i + k) (f (i + k) + dg X i * dg Y k)) := by
  obtain ⟨h1, h2, h3⟩ := h
  have hd := mul_dd X Y i k
  refine ⟨?_, fun j => ?_, fun j hj => ?_⟩
  · have hv := valF_upd (n := 32) (f := f) (j := i + k) (v := f (i + k) + dg X i * dg Y k) hi
    rw [dig_step Y k, Nat.mul_add]
    have e1 : dg X i * dg Y k * BB ^ (i + k) = dg X i * BB ^ i * (dg Y k * BB ^ k) := by
      rw [Nat.pow_add, Nat.mul_assoc, Nat.mul_assoc, Nat.mul_left_comm (dg Y k)]
    rw [Nat.add_mul, e1] at hv
    simp only [dg] at *
    omega
  · by_cases hj : j = i + k
    · subst hj; rw [upd_self, Nat.add_mul, Nat.one_mul]; exact Nat.add_le_add (h3 _ (Nat.le_refl _)) hd
    · rw [upd_ne _ _ hj]; exact h2 j
  · rw [upd_ne _ _ (by omega)]; exact h3 j (by omega)
theorem mul_end {X Y i lb : Nat} {f : Nat → Nat} (h : MulI X Y i lb f) (hY : (dig Y).length ≤ lb) : MulO X Y (i + 1) f :=
  ⟨by rw [h.1, mod_len Y lb hY, dig_step X i, Nat.add_mul], h.2.1⟩
theorem mul_b {X Y i k : Nat} {f : Nat → Nat} (h : MulI X Y i k f) (hi : i < 16) : f (i + k) + dg X i * dg Y k < 68719476736 := by
  have h1 := h.2.2 (i + k) (Nat.le_refl _)
  have h2 := mul_dd X Y i k
  have h3 : i * MM ≤ 15 * MM := Nat.mul_le_mul_right _ (by omega)
  simp only [MM] at *
  omega
theorem mul_done {X Y la : Nat} {f : Nat → Nat} (h : MulO X Y la f) (hX : (dig X).length ≤ la) (hla : la ≤ 16) : valF 32 f = X * Y ∧ ∀ j, f j < 68719476736 := by
  refine ⟨by rw [h.1, mod_len X la hX], fun j => ?_⟩
  have h1 := h.2 j
  have h3 : la * MM ≤ 16 * MM := Nat.mul_le_mul_right _ hla
  simp only [MM] at *
  omega
/-- The upper half counts 38 times. -/
def FoldI (f : Nat → Nat) (i : Nat) (g : Nat → Nat) : Prop := ∀ j, g j = if j < i then f j + 38 * f (j + 16) else 0
theorem fold_start (f : Nat → Nat) : FoldI f 0 (fun _ => 0) := fun j => by simp
theorem fold_step {f g : Nat → Nat} {i : Nat} (h : FoldI f i g) : FoldI f (i + 1) (upd g i (f i + 38 * f (i + 16))) := by
  intro j
  by_cases h1 : j = i
  · subst h1; rw [upd_self, if_pos (by omega)]
  · rw [upd_ne _ _ h1, h j]
    by_cases h3 : j < i
    · rw [if_pos h3, if_pos (by omega)]
    · rw [if_neg h3, if_neg (by omega)]
theorem valF_split (n m : Nat) (f : Nat → Nat) : valF (n + m) f = valF n f + BB ^ n * valF m (fun j => f (j + n)) := by
  induction m with
  | zero => simp [valF]
  | succ m ih => rw [← Nat.add_assoc, valF, ih, valF, Nat.mul_add, Nat.add_comm n m, Nat.pow_add, Nat.mul_comm (BB ^ m), Nat.mul_left_comm (f (m + n))]; omega
theorem valF_lin (n : Nat) (f g : Nat → Nat) : valF n (fun j => f j + 38 * g j) = valF n f + 38 * valF n g := by
  induction n with
  | zero => rfl
  | succ n ih => simp only [valF, ih, Nat.add_mul, Nat.mul_add, Nat.mul_assoc]; omega
def KK : Nat := 115792089237316195423570985008687907853269984665640564039457584007913129639898
theorem KK_eq : BB ^ 16 = KK + 38 := by decide +kernel
theorem KK_p : KK = Num.p * 2 := by decide +kernel
theorem fold_end {f g : Nat → Nat} {N : Nat} (h : FoldI f 16 g) (hv : valF 32 f = N) (hb : ∀ j, f j < 68719476736) : valF 16 g % Num.p = N % Num.p ∧ ∀ j, g j < 8796093022208 := by
  constructor
  · rw [← hv, show (32 : Nat) = 16 + 16 from rfl, valF_split, valF_congr (g := fun j => f j + 38 * f (j + 16)) (fun i hi => by rw [h i, if_pos hi]), valF_lin]
    rw [KK_eq, KK_p, Nat.add_mul, ← Nat.add_assoc, Nat.add_right_comm, Nat.mul_assoc, Nat.add_mul_mod_self_left]
  · intro j
    rw [h j]
    have h1 := hb j
    have h2 := hb (j + 16)
    split <;> omega
/-- A pass of carries, behind i rounds. -/
def CarI (V i : Nat) (h : Nat → Nat) (c : Nat) : Prop := valF 16 h + c * BB ^ i = V ∧ c < 268435456 ∧ (∀ j, j < i → h j < BB) ∧ ∀ j, h j < 8796093022208
theorem car_start {g : Nat → Nat} (hb : ∀ j, g j < 8796093022208) : CarI (valF 16 g) 0 g 0 := ⟨by rw [Nat.zero_mul, Nat.add_zero], Nat.zero_lt_succ _, fun j hj => absurd hj (Nat.not_lt_zero j), hb⟩
theorem car_b {V i c : Nat} {h : Nat → Nat} (H : CarI V i h c) : h i + c < 8796361457664 := by
  have h1 := H.2.1
  have h2 := H.2.2.2 i
  omega
theorem car_step {V i c : Nat} {h : Nat → Nat} (H : CarI V i h c) (hi : i < 16) : CarI V (i + 1) (upd h i ((h i + c) % BB)) ((h i + c) / BB) := by
  have hb := car_b H
  obtain ⟨h1, h2, h3, h4⟩ := H
  refine ⟨?_, by simp only [BB]; omega, fun j hj => ?_, fun j => ?_⟩
  · have hv := valF_upd (n := 16) (f := h) (v := (h i + c) % BB) hi
    have hc := carry_eq (h i + c) (BB ^ i)
    rw [Nat.pow_succ]
    rw [Nat.add_mul] at hc
    omega
  · by_cases he : j = i
    · subst he; rw [upd_self]; exact Nat.mod_lt _ (by decide)
    · rw [upd_ne _ _ he]; exact h3 j (by omega)
  · by_cases he : j = i
    · subst he; rw [upd_self]; exact Nat.lt_trans (Nat.mod_lt _ (by decide)) (by decide)
    · rw [upd_ne _ _ he]; exact h4 j
theorem car_end {V c : Nat} {h : Nat → Nat} (H : CarI V 16 h c) : valF 16 (upd h 0 (h 0 + 38 * c)) + c * KK = V ∧ (∀ j, upd h 0 (h 0 + 38 * c) j < 8796093022208) ∧ (c = 0 → ∀ j, j < 16 → upd h 0 (h 0 + 38 * c) j < BB) := by
  obtain ⟨h1, h2, h3, h4⟩ := H
  have h0 := h3 0 (by decide)
  refine ⟨?_, fun j => ?_, fun hc j hj => ?_⟩
  · have hv := valF_upd (n := 16) (f := h) (j := 0) (v := h 0 + 38 * c) (by decide)
    have e : c * BB ^ 16 = c * KK + c * 38 := by rw [KK_eq, Nat.mul_add]
    simp only [Nat.pow_zero, Nat.mul_one] at hv
    omega
  · by_cases he : j = 0
    · subst he; rw [upd_self]; simp only [BB] at h0; omega
    · rw [upd_ne _ _ he]; exact h4 j
  · by_cases he : j = 0
    · subst he; rw [upd_self, hc]; exact h0
    · rw [upd_ne _ _ he]; exact h3 j hj
theorem car_mod {V W c : Nat} (h : W + c * KK = V) : W % Num.p = V % Num.p := by
  rw [← h, KK_p, ← Nat.mul_assoc, Nat.mul_comm c, Nat.mul_assoc, Nat.add_mul_mod_self_left]
theorem car_less {V W c : Nat} (h : W + c * KK = V) : 2 * W + (if 0 < c then 1 else 0) < 2 * V + 1 := by
  by_cases hc : 0 < c
  · rw [if_pos hc]
    have : 1 * 1 ≤ c * KK := Nat.mul_le_mul hc (by decide +kernel)
    omega
  · rw [if_neg hc]; omega
end Go.Proofs.YtljolpdpblohcaaDoor
