/-
  Numbers and their bytes. No program in sight.
-/
import Derived.Test.YtljolpdpblohcaaDoorDs
namespace Go.Proofs.YtljolpdpblohcaaDoor
open Go.RowKit
set_option linter.unusedSimpArgs false

/-- A byte of a number. -/
abbrev byt (n j : Nat) : Nat := n / 256 ^ j % 256
/-- So many bytes of a number. -/
def bytesN (k n : Nat) : List Nat := (List.range k).map (byt n)
theorem bytesN_len (k n : Nat) : (bytesN k n).length = k := by simp [bytesN]
theorem bytesN_lt (k n : Nat) : ∀ b ∈ bytesN k n, b < 256 := by
  intro b hb
  obtain ⟨i, _, rfl⟩ := List.mem_map.mp hb
  exact Nat.mod_lt _ (by decide)
def row8 (n : Nat) (f : Nat → Nat) : Array Value := ((List.range n).map fun j => Value.int .u8 ((f j : Nat) : Int)).toArray
theorem row8_size (n : Nat) (f : Nat → Nat) : (row8 n f).size = n := by simp [row8]
theorem row8_get {n j : Nat} (f : Nat → Nat) (h : j < n) : (row8 n f)[j]? = some (.int .u8 ((f j : Nat) : Int)) := by simp [row8, h]
theorem row8_set {n j : Nat} (f : Nat → Nat) (v : Nat) : (row8 n f).setIfInBounds j (.int .u8 (v : Int)) = row8 n (upd f j v) := by
  apply Array.ext_getElem?
  intro i
  rw [Array.getElem?_setIfInBounds, row8_size]
  by_cases h : j = i
  · subst h
    by_cases hj : j < n
    · rw [if_pos rfl, if_pos hj, row8_get _ hj, upd_self]
    · rw [if_pos rfl, if_neg hj]; simp [row8, hj]
  · rw [if_neg h]
    simp only [row8, List.getElem?_toArray, List.getElem?_map]
    cases hr : (List.range n)[i]? with
    | none => rfl
    | some k =>
      have : k = i := by
        obtain ⟨hk, he⟩ := List.getElem?_eq_some_iff.mp hr
        simpa using he.symm
      subst this
      simp [upd, Ne.symm h]
theorem row8_rd {w : World} {b n : Nat} {f : Nat → Nat} {t : TypeId} (h : w.heap[b]? = some (.cells (row8 n f) t)) : Rd w .u8 (some ⟨b, 0, none⟩) ((List.range n).map f) :=
  rd_block h (fun i hi => by
    have hi' : i < n := by simpa using hi
    rw [row8_get f hi']
    simp)
theorem BB_pow (i : Nat) : BB ^ i = 256 ^ (2 * i) := by rw [Nat.pow_mul]
theorem byt_even (n i : Nat) : dg n i % 256 = byt n (2 * i) := by
  simp only [dg, byt, BB_pow]
  generalize n / 256 ^ (2 * i) = q
  simp only [BB]; omega
theorem byt_odd (n i : Nat) : dg n i / 256 = byt n (2 * i + 1) := by
  simp only [dg, byt, BB_pow]
  rw [Nat.pow_succ, ← Nat.div_div_eq_div_mul]
  generalize n / 256 ^ (2 * i) = q
  simp only [BB]; omega
/-- The bytes, behind i rounds. -/
def BytI (X i : Nat) (f : Nat → Nat) : Prop := ∀ j, f j = if j < 2 * i then byt X j else 0
theorem byt_start (X : Nat) : BytI X 0 (fun _ => 0) := fun j => by simp
theorem byt_step {X i : Nat} {f : Nat → Nat} (h : BytI X i f) : BytI X (i + 1) (upd (upd f (2 * i) (dg X i % 256)) (2 * i + 1) (dg X i / 256)) := by
  intro j
  by_cases h1 : j = 2 * i + 1
  · subst h1; rw [upd_self, byt_odd, if_pos (by omega)]
  · rw [upd_ne _ _ h1]
    by_cases h2 : j = 2 * i
    · subst h2; rw [upd_self, byt_even, if_pos (by omega)]
    · rw [upd_ne _ _ h2, h j]
      by_cases h3 : j < 2 * i
      · rw [if_pos h3, if_pos (by omega)]
      · rw [if_neg h3, if_neg (by omega)]
theorem byt_end {X L : Nat} {f : Nat → Nat} (h : BytI X L f) (hL : (dig X).length ≤ L) : (List.range 32).map f = bytesN 32 X := by
  unfold bytesN
  refine List.map_congr_left (fun j _ => ?_)
  rw [h j]
  by_cases hj : j < 2 * L
  · rw [if_pos hj]
  · rw [if_neg hj]
    have h1 := (dig_len_iff X L).mp hL
    rw [BB_pow] at h1
    have h2 : X < 256 ^ j := Nat.lt_of_lt_of_le h1 (Nat.pow_le_pow_right (by decide) (by omega))
    simp only [byt, Nat.div_eq_of_lt h2]
theorem leN_take (l : List Nat) (i : Nat) (h : i < l.length) : leN (l.take (i + 1)) = leN (l.take i) + l[i] * 256 ^ i := by
  induction l generalizing i with
  | nil => simp at h
  | cons b l ih =>
    cases i with
    | zero => simp [leN]
    | succ i =>
      simp only [List.take_succ_cons, leN, List.getElem_cons_succ]
      rw [ih i (by simpa using h), Nat.pow_succ, Nat.mul_add, Nat.mul_comm (256 ^ i) 256, Nat.mul_left_comm 256, Nat.add_assoc]
/-- The number of bytes, behind i rounds. -/
def NumI (bs : List Nat) (L i : Nat) (f : Nat → Nat) : Prop := valF L f = leN (bs.take i) ∧ (∀ j, f j < BB) ∧ (∀ j, i ≤ 2 * j → f j = 0) ∧ (i % 2 = 1 → f (i / 2) < 256)
theorem num_start (bs : List Nat) (L : Nat) : NumI bs L 0 (fun _ => 0) := ⟨by simp [valF_zero, leN], fun _ => (by decide : (0:Nat) < BB), fun _ _ => rfl, fun _ => (by decide : (0:Nat) < 256)⟩
theorem num_odd {bs : List Nat} {L i : Nat} {f : Nat → Nat} (h : NumI bs L i f) (hi : i < bs.length) (hL : i / 2 < L) (hb : bs[i] < 256) (ho : i % 2 = 1) : NumI bs L (i + 1) (upd f (i / 2) (f (i / 2) + bs[i] * 256)) := by
  obtain ⟨h1, h2, h3, h4⟩ := h
  have h5 := h4 ho
  have e : BB ^ (i / 2) * 256 = 256 ^ i := by rw [BB_pow, ← Nat.pow_succ]; congr 1; omega
  refine ⟨?_, fun j => ?_, fun j hj => ?_, fun h6 => by omega⟩
  · have hv := valF_upd (n := L) (f := f) (j := i / 2) (v := f (i / 2) + bs[i] * 256) hL
    rw [leN_take bs i hi, ← e, ← h1]
    rw [Nat.add_mul, Nat.mul_assoc, Nat.mul_comm 256 (BB ^ (i / 2))] at hv
    omega
  · by_cases hj : j = i / 2
    · subst hj; rw [upd_self]; simp only [BB]; omega
    · rw [upd_ne _ _ hj]; exact h2 j
  · rw [upd_ne _ _ (by omega)]; exact h3 j (by omega)
theorem num_even {bs : List Nat} {L i : Nat} {f : Nat → Nat} (h : NumI bs L i f) (hi : i < bs.length) (hL : i / 2 < L) (hb : bs[i] < 256) (ho : ¬ i % 2 = 1) : NumI bs L (i + 1) (upd f (i / 2) (f (i / 2) + bs[i])) := by
  obtain ⟨h1, h2, h3, h4⟩ := h
  have h5 := h3 (i / 2) (by omega)
  have e : BB ^ (i / 2) = 256 ^ i := by rw [BB_pow]; congr 1; omega
  refine ⟨?_, fun j => ?_, fun j hj => ?_, fun h6 => ?_⟩
  · have hv := valF_upd (n := L) (f := f) (j := i / 2) (v := f (i / 2) + bs[i]) hL
    rw [leN_take bs i hi, ← e, ← h1]
    rw [Nat.add_mul] at hv
    omega
  · by_cases hj : j = i / 2
    · subst hj; rw [upd_self, h5]; simp only [BB]; omega
    · rw [upd_ne _ _ hj]; exact h2 j
  · rw [upd_ne _ _ (by omega)]; exact h3 j (by omega)
  · rw [show (i + 1) / 2 = i / 2 by omega, upd_self, h5]; omega
theorem num_end {bs : List Nat} {L : Nat} {f : Nat → Nat} (h : NumI bs L bs.length f) : valF L f = leN bs ∧ ∀ j, f j < BB := by
  have h1 := h.1
  rw [List.take_length] at h1
  exact ⟨h1, h.2.1⟩
theorem num_b {bs : List Nat} {L i : Nat} {f : Nat → Nat} (h : NumI bs L i f) (b : Nat) (hb : b < 256) : f (i / 2) + b * 256 < 131072 := by
  have := h.2.1 (i / 2)
  simp only [BB] at this
  omega
theorem v8r (a : Nat) : ((a : Int) % 256) = ((a % 256 : Nat) : Int) := by omega
theorem v8q (a : Nat) (h : a < 65536) : (IntKind.u64.wrap ((a : Int) / 256) % 256) = ((a / 256 : Nat) : Int) := by rw [IntKind.wrap_u64]; omega
theorem vi0 (i : Nat) : Value.int .i64 ((i : Int) + 1) = Value.int .i64 ((i + 1 : Nat) : Int) := congrArg (Value.int .i64) (by omega)
theorem meas_up0 (L i : Nat) (hi : i < L) : ((L : Int) - intOf (.int .i64 ((i : Int) + 1))).toNat < ((L : Int) - intOf (.int .i64 (i : Int))).toNat := by
  show ((L : Int) - ((i : Int) + 1)).toNat < ((L : Int) - (i : Int)).toNat
  omega
end Go.Proofs.YtljolpdpblohcaaDoor
