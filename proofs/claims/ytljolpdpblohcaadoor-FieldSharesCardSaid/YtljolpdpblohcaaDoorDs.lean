/-
  What a round of a sum, of a difference and of a product leaves. No program in sight.
-/
import Derived.Test.YtljolpdpblohcaaDoorDg
namespace Go.Proofs.YtljolpdpblohcaaDoor
open Go.RowKit
set_option linter.unusedSimpArgs false

/-- A digit of a number. -/
abbrev dg (n i : Nat) : Nat := n / BB ^ i % BB

/-- A sum, behind i rounds: the cells f, the carry c. -/
def SumI (X Y L i : Nat) (f : Nat → Nat) (c : Nat) : Prop :=
  valF L f + c * BB ^ i = X % BB ^ i + Y % BB ^ i ∧ c ≤ 1 ∧ (∀ j, f j < BB) ∧ ∀ j, i ≤ j → f j = 0
theorem sum_start (X Y L : Nat) : SumI X Y L 0 (fun _ => 0) 0 :=
  ⟨by simp [valF_zero, Nat.mod_one], by omega, fun _ => (by decide : (0:Nat) < BB), fun _ _ => rfl⟩
theorem carry_eq (t Q : Nat) : t % BB * Q + t / BB * (Q * BB) = t * Q := by
  have h := Nat.div_add_mod t BB
  calc t % BB * Q + t / BB * (Q * BB) = (BB * (t / BB) + t % BB) * Q := by
        rw [Nat.add_mul, Nat.mul_comm BB (t / BB), Nat.mul_assoc (t / BB), Nat.mul_comm BB Q, Nat.add_comm]
    _ = t * Q := by rw [h]
theorem sum_step {X Y L i c : Nat} {f : Nat → Nat} (h : SumI X Y L i f c) (hi : i < L) : SumI X Y L (i + 1) (upd f i ((dg X i + c + dg Y i) % BB)) ((dg X i + c + dg Y i) / BB) := by
  obtain ⟨h1, h2, h3, h4⟩ := h
  have hx := digit_lt X i
  have hy := digit_lt Y i
  refine ⟨?_, ?_, ?_, ?_⟩
  · have hv := valF_upd (f := f) (v := (dg X i + c + dg Y i) % BB) hi
    rw [h4 i (Nat.le_refl _), Nat.zero_mul, Nat.add_zero] at hv
    rw [hv, dig_step X i, dig_step Y i, Nat.pow_succ, Nat.add_assoc, carry_eq, Nat.add_mul, Nat.add_mul]
    simp only [dg] at *
    omega
  · simp only [dg, BB] at *
    omega
  · intro j
    by_cases hj : j = i
    · subst hj; rw [upd_self]; exact Nat.mod_lt _ (by decide)
    · rw [upd_ne _ _ hj]; exact h3 j
  · intro j hj
    rw [upd_ne _ _ (by omega)]
    exact h4 j (by omega)
theorem sum_end {X Y L c : Nat} {f : Nat → Nat} (h : SumI X Y (L + 1) L f c) (hX : (dig X).length ≤ L) (hY : (dig Y).length ≤ L) :
    valF (L + 1) (upd f L c) = X + Y ∧ ∀ j, upd f L c j < BB := by
  obtain ⟨h1, h2, h3, h4⟩ := h
  have hv := valF_upd (n := L + 1) (f := f) (j := L) (v := c) (by omega)
  rw [h4 L (Nat.le_refl _), Nat.zero_mul, Nat.add_zero] at hv
  refine ⟨by rw [hv, h1, mod_len X L hX, mod_len Y L hY], fun j => ?_⟩
  by_cases hj : j = L
  · subst hj; rw [upd_self]; simp only [BB]; omega
  · rw [upd_ne _ _ hj]; exact h3 j

/-- A difference, behind i rounds: the cells f, the borrow b. -/
def MinI (X Y L i : Nat) (f : Nat → Nat) (b : Nat) : Prop :=
  valF L f + Y % BB ^ i = X % BB ^ i + b * BB ^ i ∧ b ≤ 1 ∧ (∀ j, f j < BB) ∧ ∀ j, i ≤ j → f j = 0
theorem min_start (X Y L : Nat) : MinI X Y L 0 (fun _ => 0) 0 :=
  ⟨by simp [valF_zero, Nat.mod_one], by omega, fun _ => (by decide : (0:Nat) < BB), fun _ _ => rfl⟩
theorem min_step {X Y L i b : Nat} {f : Nat → Nat} (h : MinI X Y L i f b) (hi : i < L) : MinI X Y L (i + 1) (upd f i ((BB + dg X i - b - dg Y i) % BB)) (1 - (BB + dg X i - b - dg Y i) / BB) := by
  obtain ⟨h1, h2, h3, h4⟩ := h
  have hx := digit_lt X i
  have hy := digit_lt Y i
  refine ⟨?_, Nat.sub_le 1 _, ?_, ?_⟩
  · have hv := valF_upd (f := f) (v := (BB + dg X i - b - dg Y i) % BB) hi
    rw [h4 i (Nat.le_refl _), Nat.zero_mul, Nat.add_zero] at hv
    rw [hv, dig_step X i, dig_step Y i, Nat.pow_succ]
    obtain ⟨t, ht⟩ : ∃ t, t = BB + dg X i - b - dg Y i := ⟨_, rfl⟩
    have hc := carry_eq t (BB ^ i)
    have ht2 : t + b + dg Y i = BB + dg X i := by simp only [dg, BB] at *; omega
    have hq : t / BB ≤ 1 := by simp only [dg, BB] at *; omega
    have e1 : (1 - t / BB) * (BB ^ i * BB) + t / BB * (BB ^ i * BB) = BB ^ i * BB := by rw [← Nat.add_mul, Nat.sub_add_cancel hq, Nat.one_mul]
    have e2 : t * BB ^ i + b * BB ^ i + dg Y i * BB ^ i = BB ^ i * BB + dg X i * BB ^ i := by rw [← Nat.add_mul, ← Nat.add_mul, ht2, Nat.add_mul, Nat.mul_comm BB]
    rw [← ht]
    simp only [dg] at *
    omega
  · intro j
    by_cases hj : j = i
    · subst hj; rw [upd_self]; exact Nat.mod_lt _ (by decide)
    · rw [upd_ne _ _ hj]; exact h3 j
  · intro j hj
    rw [upd_ne _ _ (by omega)]
    exact h4 j (by omega)
theorem min_end {X Y L b : Nat} {f : Nat → Nat} (h : MinI X Y L L f b) (hX : (dig X).length ≤ L) (hYX : Y ≤ X) : valF L f = X - Y ∧ ∀ j, f j < BB := by
  obtain ⟨h1, h2, h3, h4⟩ := h
  have hX2 := (dig_len_iff X L).mp hX
  rw [Nat.mod_eq_of_lt hX2, Nat.mod_eq_of_lt (Nat.lt_of_le_of_lt hYX hX2)] at h1
  have hlt := valF_lt (n := L) (f := f) (fun i _ => h3 i)
  have : b = 0 := by
    rcases Nat.eq_zero_or_pos b with h | h
    · exact h
    · have : b = 1 := by omega
      subst this; omega
  subst this
  exact ⟨by omega, h3⟩

/-- A product, at the head of row i. -/
def TimO (X Y L lb i : Nat) (f : Nat → Nat) : Prop := valF L f = X % BB ^ i * Y ∧ (∀ j, f j < BB) ∧ ∀ j, i + lb ≤ j → f j = 0
/-- A product, in row i, behind k rounds: the cells f, the carry c. -/
def TimI (X Y L lb i k : Nat) (f : Nat → Nat) (c : Nat) : Prop :=
  valF L f + c * BB ^ (i + k) = X % BB ^ i * Y + dg X i * BB ^ i * (Y % BB ^ k) ∧ c < BB ∧ (∀ j, f j < BB) ∧ ∀ j, i + lb ≤ j → f j = 0
theorem tim_start (X Y L lb : Nat) : TimO X Y L lb 0 (fun _ => 0) := ⟨by simp [valF_zero, Nat.mod_one], fun _ => (by decide : (0:Nat) < BB), fun _ _ => rfl⟩
theorem tim_row {X Y L lb i : Nat} {f : Nat → Nat} (h : TimO X Y L lb i f) : TimI X Y L lb i 0 f 0 := ⟨by rw [h.1]; simp [Nat.mod_one], by decide, h.2.1, h.2.2⟩
theorem tim_step {X Y L lb i k c : Nat} {f : Nat → Nat} (h : TimI X Y L lb i k f c) (hk : k < lb) (hL : i + lb < L) :
    TimI X Y L lb i (k + 1) (upd f (i + k) ((f (i + k) + dg X i * dg Y k + c) % BB)) ((f (i + k) + dg X i * dg Y k + c) / BB) := by
  obtain ⟨h1, h2, h3, h4⟩ := h
  have hx := digit_lt X i
  have hy := digit_lt Y k
  have hm : dg X i * dg Y k ≤ 65535 * 65535 := Nat.mul_le_mul (by simp only [dg, BB] at *; omega) (by simp only [dg, BB] at *; omega)
  refine ⟨?_, ?_, ?_, ?_⟩
  · obtain ⟨t, ht⟩ : ∃ t, t = f (i + k) + dg X i * dg Y k + c := ⟨_, rfl⟩
    have hv := valF_upd (f := f) (j := i + k) (v := t % BB) (n := L) (by omega)
    have hc := carry_eq t (BB ^ (i + k))
    rw [← ht, show i + (k + 1) = i + k + 1 by omega, Nat.pow_succ, dig_step Y k, Nat.mul_add]
    have e1 : t * BB ^ (i + k) = f (i + k) * BB ^ (i + k) + dg X i * BB ^ i * (dg Y k * BB ^ k) + c * BB ^ (i + k) := by
      rw [ht, Nat.add_mul, Nat.add_mul, Nat.pow_add]
      congr 2
      rw [Nat.mul_assoc, Nat.mul_assoc, Nat.mul_left_comm (dg Y k)]
    simp only [dg] at *
    omega
  · have := h3 (i + k)
    simp only [dg, BB] at *
    omega
  · intro j
    by_cases hj : j = i + k
    · subst hj; rw [upd_self]; exact Nat.mod_lt _ (by decide)
    · rw [upd_ne _ _ hj]; exact h3 j
  · intro j hj
    rw [upd_ne _ _ (by omega)]
    exact h4 j hj
theorem tim_end {X Y L lb i c : Nat} {f : Nat → Nat} (h : TimI X Y L lb i lb f c) (hY : (dig Y).length ≤ lb) (hL : i + lb < L) : TimO X Y L lb (i + 1) (upd f (i + lb) c) := by
  obtain ⟨h1, h2, h3, h4⟩ := h
  have hv := valF_upd (f := f) (j := i + lb) (v := c) (n := L) hL
  rw [h4 _ (Nat.le_refl _), Nat.zero_mul, Nat.add_zero, h1, mod_len Y lb hY] at hv
  refine ⟨by rw [hv, dig_step X i, Nat.add_mul], fun j => ?_, fun j hj => ?_⟩
  · by_cases hj : j = i + lb
    · subst hj; rw [upd_self]; exact h2
    · rw [upd_ne _ _ hj]; exact h3 j
  · rw [upd_ne _ _ (by omega)]; exact h4 j (by omega)
theorem tim_done {X Y L lb la : Nat} {f : Nat → Nat} (h : TimO X Y L lb la f) (hX : (dig X).length ≤ la) : valF L f = X * Y ∧ ∀ j, f j < BB := ⟨by rw [h.1, mod_len X la hX], h.2.1⟩
theorem sum_b {X Y L i c : Nat} {f : Nat → Nat} (h : SumI X Y L i f c) : dg X i + c + dg Y i < 131074 := by
  have h1 := digit_lt X i
  have h2 := digit_lt Y i
  have h3 := h.2.1
  simp only [dg, BB] at *
  omega
theorem tim_b {X Y L lb i k c : Nat} {f : Nat → Nat} (h : TimI X Y L lb i k f c) : f (i + k) + dg X i * dg Y k + c < 4294967296 := by
  have hx := digit_lt X i
  have hy := digit_lt Y k
  have hm : dg X i * dg Y k ≤ 65535 * 65535 := Nat.mul_le_mul (by simp only [dg, BB] at *; omega) (by simp only [dg, BB] at *; omega)
  have h2 := h.2.1
  have h3 := h.2.2.1 (i + k)
  simp only [dg, BB] at *
  omega
theorem less_len {X Y : Nat} (h : (dig X).length ≠ (dig Y).length) : decide ((dig X).length < (dig Y).length) = decide (X < Y) := by
  have h1 := dig_lt_len Y (dig X).length
  have h2 := dig_lt_len X (dig Y).length
  have h3 := lt_dig X
  have h4 := lt_dig Y
  rw [decide_eq_decide]
  omega
theorem less_dg {X Y k : Nat} (h : X / BB ^ (k + 1) = Y / BB ^ (k + 1)) (hne : dg X k ≠ dg Y k) : decide (dg X k < dg Y k) = decide (X < Y) := by
  have hx := Nat.div_add_mod (X / BB ^ k) BB
  have hy := Nat.div_add_mod (Y / BB ^ k) BB
  rw [Nat.pow_succ, ← Nat.div_div_eq_div_mul, ← Nat.div_div_eq_div_mul] at h
  rw [decide_eq_decide]
  have key : X / BB ^ k < Y / BB ^ k ↔ dg X k < dg Y k := by rw [h] at hx; simp only [dg] at *; omega
  rw [← key]
  constructor
  · intro h5
    exact Nat.lt_of_not_le (fun h6 => by have := Nat.div_le_div_right (c := BB ^ k) h6; omega)
  · intro h5
    have h6 := Nat.div_le_div_right (c := BB ^ k) (Nat.le_of_lt h5)
    have h7 : X / BB ^ k ≠ Y / BB ^ k := fun e => hne (by simp only [dg, e])
    omega
theorem eq_dg {X Y k : Nat} (h : X / BB ^ (k + 1) = Y / BB ^ (k + 1)) (he : dg X k = dg Y k) : X / BB ^ k = Y / BB ^ k := by
  have hx := Nat.div_add_mod (X / BB ^ k) BB
  have hy := Nat.div_add_mod (Y / BB ^ k) BB
  rw [Nat.pow_succ, ← Nat.div_div_eq_div_mul, ← Nat.div_div_eq_div_mul] at h
  simp only [dg] at he
  rw [h, he] at hx
  omega
theorem top_dg (X : Nat) : X / BB ^ (dig X).length = 0 := Nat.div_eq_of_lt (lt_dig X)
theorem u64n (n : Nat) (h : n < 18446744073709551616) : IntKind.u64.wrap (n : Int) = (n : Int) := by rw [IntKind.wrap_u64]; omega
theorem u64_add (a b : Nat) (h : a + b < 18446744073709551616) : IntKind.u64.wrap ((a : Int) + (b : Int)) = ((a + b : Nat) : Int) := by rw [IntKind.wrap_u64]; omega
theorem u64_quo (t : Nat) (h : t < 18446744073709551616) : IntKind.u64.wrap ((t : Int).tdiv 65536) = ((t / BB : Nat) : Int) := by
  have e : (t : Int).tdiv 65536 = ((t / BB : Nat) : Int) := by rw [Int.tdiv_eq_ediv_of_nonneg (by omega)]; simp only [BB]; omega
  rw [e]; exact u64n _ (by simp only [BB]; omega)
theorem u64_rem (t : Nat) : (t : Int).tmod 65536 = ((t % BB : Nat) : Int) := by
  rw [Int.tmod_eq_emod_of_nonneg (by omega)]; simp only [BB]; omega
theorem u64_mul (a b : Nat) (h : a * b < 18446744073709551616) : IntKind.u64.wrap ((a : Int) * (b : Int)) = ((a * b : Nat) : Int) := by
  rw [← Int.natCast_mul]; exact u64n _ h
theorem vq3 (a b c : Nat) : Value.int .u64 (((a : Int) + b + c) / 65536) = Value.int .u64 (((a + b + c) / BB : Nat) : Int) := congrArg (Value.int .u64) (by simp only [BB]; omega)
theorem vr3 (a b c : Nat) : ((a : Int) + b + c) % 65536 = (((a + b + c) % BB : Nat) : Int) := by simp only [BB]; omega
theorem vq2 (a b : Nat) : Value.int .u64 (((a : Int) + b) / 65536) = Value.int .u64 (((a + b) / BB : Nat) : Int) := congrArg (Value.int .u64) (by simp only [BB]; omega)
theorem vr2 (a b : Nat) : ((a : Int) + b) % 65536 = (((a + b) % BB : Nat) : Int) := by simp only [BB]; omega
theorem vi1 (i : Nat) (h : i < 9223372036854775807) : Value.int .i64 (wrap64 ((i : Int) + 1)) = Value.int .i64 ((i + 1 : Nat) : Int) := congrArg (Value.int .i64) (by rw [wr64 _ (by omega)]; omega)
theorem vbo (s : Nat) (h : s < 131072) : Value.int .u64 (IntKind.u64.wrap (1 - IntKind.u64.wrap ((s : Int) / 65536))) = Value.int .u64 ((1 - s / BB : Nat) : Int) := congrArg (Value.int .u64) (by rw [IntKind.wrap_u64, IntKind.wrap_u64]; simp only [BB]; omega)
theorem vr1 (s : Nat) : (s : Int) % 65536 = ((s % BB : Nat) : Int) := by simp only [BB]; omega
theorem vq1 (s : Nat) (h : s < 4294967296) : Value.int .u64 (IntKind.u64.wrap ((s : Int) / 65536)) = Value.int .u64 ((s / BB : Nat) : Int) := congrArg (Value.int .u64) (by rw [IntKind.wrap_u64]; simp only [BB]; omega)
theorem vim (k : Nat) (h : k < 9223372036854775807) : Value.int .i64 (wrap64 ((k : Int) - 1)) = Value.int .i64 ((k : Int) - 1) := congrArg (Value.int .i64) (wr64 _ (by omega))
theorem meas_down (k : Nat) (h : k < 9223372036854775807) : (intOf (.int .i64 (wrap64 ((k : Int) - 1))) + 1).toNat < (intOf (.int .i64 (k : Int)) + 1).toNat := by
  rw [wr64 _ (by omega)]
  show ((k : Int) - 1 + 1).toNat < ((k : Int) + 1).toNat
  omega
theorem meas_up (L i : Nat) (hi : i < L) (h : i < 9223372036854775807) : ((L : Int) - intOf (.int .i64 (wrap64 ((i : Int) + 1)))).toNat < ((L : Int) - intOf (.int .i64 (i : Int))).toNat := by
  rw [wr64 _ (by omega)]
  show ((L : Int) - ((i : Int) + 1)).toNat < ((L : Int) - (i : Int)).toNat
  omega
theorem wrap_w64 (n : Int) : IntKind.i64.wrap n = wrap64 n := by rw [IntKind.wrap_i64]; unfold wrap64; rfl
theorem i64s (n : Nat) (h : n < 9223372036854775807) : wrap64 ((n : Int) + 1) = (n : Int) + 1 := wr64 _ (by omega)
end Go.Proofs.YtljolpdpblohcaaDoor
