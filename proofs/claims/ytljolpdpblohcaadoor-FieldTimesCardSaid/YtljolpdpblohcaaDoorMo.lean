/-
  A number modulo the prime, as the document reckons it: plain arithmetic.
-/
import Derived.Test.YtljolpdpblohcaaDoorDs
import Derived.Test.YtljolpdpblohcaaDoorNum
namespace Go.Proofs.YtljolpdpblohcaaDoor
open Go.RowKit
set_option linter.unusedSimpArgs false

/-- The least number of which something is told (0 where there is none). -/
noncomputable def leastN (p : Nat → Prop) : Nat := by
  classical exact if h : ∃ n, p n ∧ ∀ m, p m → n ≤ m then Classical.choose h else 0
theorem leastN_spec {p : Nat → Prop} (h : ∃ n, p n) : p (leastN p) ∧ ∀ m, p m → leastN p ≤ m := by
  have h2 : ∃ n, p n ∧ ∀ m, p m → n ≤ m := by
    obtain ⟨n, hn⟩ := h
    induction n using Nat.strongRecOn with
    | ind n ih =>
      by_cases hm : ∃ m, m < n ∧ p m
      · obtain ⟨m, hlt, hp⟩ := hm
        exact ih m hlt hp
      · exact ⟨n, hn, fun m hp => Nat.le_of_not_lt fun hlt => hm ⟨m, hlt, hp⟩⟩
  unfold leastN
  rw [dif_pos h2]
  exact Classical.choose_spec h2
theorem leastN_lt {p q : Nat → Prop} {m : Nat} (hq : q m) (hm : m < leastN p) : leastN q < leastN p := Nat.lt_of_le_of_lt ((leastN_spec ⟨m, hq⟩).2 m hq) hm

theorem valF_dg (n N : Nat) : valF n (dg N) = N % BB ^ n := by
  induction n with
  | zero => simp [valF, Nat.mod_one]
  | succ n ih => rw [valF, ih, dig_step]
abbrev P255 : Nat := 57896044618658097711785492504343953926634992332820282019728792003956564819968
theorem P255_eq : P255 = BB ^ 15 * 32768 := by decide
theorem mod_low (N : Nat) : valF 16 (upd (dg N) 15 (dg N 15 % 32768)) = N % P255 := by
  rw [valF, upd_self, valF_congr (f := upd (dg N) 15 (dg N 15 % 32768)) (g := dg N) (fun i hi => upd_ne _ _ (by omega)), valF_dg, P255_eq, Nat.mod_mul]
  have : dg N 15 % 32768 = N / BB ^ 15 % 32768 := by simp only [dg]; generalize N / BB ^ 15 = q; simp only [BB]; omega
  rw [this, Nat.mul_comm]
theorem mod_high (N i j : Nat) (hj : i = j + 15) : dg N i / 32768 + dg N (i + 1) % 32768 * 2 = dg (N / P255) j := by
  subst hj
  simp only [dg]
  have e1 : N / BB ^ (j + 15 + 1) = N / BB ^ (j + 15) / BB := by rw [Nat.pow_succ (n := BB) (m := j + 15), Nat.div_div_eq_div_mul]
  have e2 : N / P255 / BB ^ j = N / BB ^ (j + 15) / 32768 := by
    have e3 : ∀ x y z : Nat, x * y * z = z * x * y := fun x y z => by rw [Nat.mul_comm (x * y), Nat.mul_assoc]
    rw [P255_eq, Nat.div_div_eq_div_mul, Nat.div_div_eq_div_mul, Nat.pow_add, e3]
  rw [e1, e2]
  generalize N / BB ^ (j + 15) = q
  simp only [BB]
  omega
/-- The high part, behind k rounds. -/
def HiI (N k : Nat) (f : Nat → Nat) : Prop := ∀ j, f j = if j < k then dg (N / P255) j else 0
theorem hi_start (N : Nat) : HiI N 0 (fun _ => 0) := fun j => by simp
theorem hi_step {N k v : Nat} {f : Nat → Nat} (h : HiI N k f) (hv : v = dg (N / P255) k) : HiI N (k + 1) (upd f k v) := by
  intro j
  by_cases h1 : j = k
  · subst h1; rw [upd_self, if_pos (by omega), hv]
  · rw [upd_ne _ _ h1, h j]
    by_cases h3 : j < k
    · rw [if_pos h3, if_pos (by omega)]
    · rw [if_neg h3, if_neg (by omega)]
theorem hi_end {N M : Nat} {f : Nat → Nat} (h : HiI N M f) (hM : (dig N).length ≤ M + 15) : valF M f = N / P255 ∧ ∀ j, f j < BB := by
  constructor
  · rw [valF_congr (g := dg (N / P255)) (fun i hi => by rw [h i, if_pos hi]), valF_dg]
    refine Nat.mod_eq_of_lt ?_
    have h1 := (dig_len_iff N (M + 15)).mp hM
    refine Nat.div_lt_of_lt_mul ?_
    rw [P255_eq]
    rw [Nat.pow_add, Nat.mul_comm] at h1
    refine Nat.lt_of_lt_of_le h1 ?_
    exact Nat.mul_le_mul_right _ (by decide)
  · intro j
    rw [h j]
    split
    · exact digit_lt _ _
    · decide
theorem mod_less {N : Nat} (h : P255 ≤ N) : N % P255 + N / P255 * 19 < N ∧ (N % P255 + N / P255 * 19) % Num.p = N % Num.p := by
  have h1 := Nat.div_add_mod N P255
  have h2 : 1 ≤ N / P255 := (Nat.one_le_div_iff (by decide)).mpr h
  constructor
  · simp only [P255] at *; omega
  · have e : N = Num.p * (N / P255) + (N % P255 + N / P255 * 19) := by simp only [P255, Num.p] at *; omega
    conv => rhs; rw [e]
    rw [Nat.mul_add_mod]
theorem dig_ge {N : Nat} (h : 16 < (dig N).length) : P255 ≤ N := Nat.le_trans (by decide) ((dig_lt_len N 16).mp h)
theorem dig_ge15 {N : Nat} (h : 32767 < dg N 15) : P255 ≤ N := by
  simp only [dg] at h
  have h2 : 32768 ≤ N / BB ^ 15 := by
    have := Nat.mod_le (N / BB ^ 15) BB
    omega
  have h3 := (Nat.le_div_iff_mul_le (by decide)).mp h2
  rw [Nat.mul_comm, ← P255_eq] at h3
  exact h3
theorem dig_low {N : Nat} (h : (dig N).length < 16) : N < Num.p := Nat.lt_of_lt_of_le ((dig_len_iff N 15).mp (by omega)) (by decide)
theorem dig_low15 {N k : Nat} (h : (dig N).length ≤ 16) (hk : dg N 15 < k) : N < k * BB ^ 15 := by
  have h1 := (dig_len_iff N 16).mp h
  simp only [dg] at hk
  have h2 : N / BB ^ 15 < BB := Nat.div_lt_of_lt_mul h1
  rw [Nat.mod_eq_of_lt h2] at hk
  have := (Nat.div_lt_iff_lt_mul (by decide)).mp hk
  exact this
theorem low_p {N : Nat} (h : N < 32767 * BB ^ 15) : N < Num.p := Nat.lt_of_lt_of_le h (by decide)
theorem low_255 {N : Nat} (h : N < 32768 * BB ^ 15) : N < P255 := Nat.lt_of_lt_of_le h (by decide)
theorem mod_sub {N : Nat} (h : N < P255) (hp : ¬ N < Num.p) : N - Num.p = N % Num.p := by
  simp only [P255, Num.p] at *
  omega
theorem dig_mono {m n : Nat} (h : m ≤ n) : (dig m).length ≤ (dig n).length := dig_len_le (Nat.lt_of_le_of_lt h (lt_dig n))
theorem low_dg (N : Nat) : ∀ j, upd (dg N) 15 (dg N 15 % 32768) j < BB := by
  intro j
  by_cases h : j = 15
  · subst h; rw [upd_self]; exact Nat.lt_of_lt_of_le (Nat.mod_lt _ (by decide)) (by decide)
  · rw [upd_ne _ _ h]; exact digit_lt N j
theorem dig19 : dig 19 = [19] := dig_of [19] (by decide) (by decide)
theorem hi_v {N k ai aj : Nat} (h1 : ai = dg N (k + 15)) (h2 : aj = dg N (k + 15 + 1)) : ai / 32768 + aj % 32768 * 2 = dg (N / P255) k := by
  rw [h1, h2]; exact mod_high N (k + 15) k rfl
end Go.Proofs.YtljolpdpblohcaaDoor
