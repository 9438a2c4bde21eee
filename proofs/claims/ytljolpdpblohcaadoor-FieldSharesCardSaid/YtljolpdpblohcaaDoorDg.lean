/-
  Numbers as rows of digits of 2 to the 16, the least one first. No program in sight.
-/
import Derived.Test.YtljolpdpblohcaaDoorRd
namespace Go.Proofs.YtljolpdpblohcaaDoor
open Go.RowKit
set_option linter.unusedSimpArgs false
set_option linter.unusedVariables false

abbrev BB : Nat := 65536
/-- The number of digits. -/
def leD : List Nat → Nat
  | [] => 0
  | d :: l => d + BB * leD l
/-- The digits of a number, without noughts at the end. -/
def dig (n : Nat) : List Nat := if h : n = 0 then [] else n % BB :: dig (n / BB)
termination_by n
decreasing_by exact Nat.div_lt_self (Nat.pos_of_ne_zero h) (by decide)

theorem dig_zero : dig 0 = [] := by rw [dig]; simp
theorem dig_pos {n : Nat} (h : n ≠ 0) : dig n = n % BB :: dig (n / BB) := by rw [dig]; simp [h]
theorem leD_dig (n : Nat) : leD (dig n) = n := by
  induction n using Nat.strongRecOn with
  | ind n ih =>
    by_cases h : n = 0
    · subst h; rw [dig_zero]; rfl
    · rw [dig_pos h]
      show n % BB + BB * leD (dig (n / BB)) = n
      rw [ih _ (Nat.div_lt_self (Nat.pos_of_ne_zero h) (by decide))]
      exact Nat.mod_add_div n BB
theorem dig_inj {m n : Nat} (h : dig m = dig n) : m = n := by rw [← leD_dig m, h, leD_dig]
theorem leD_app (l m : List Nat) : leD (l ++ m) = leD l + BB ^ l.length * leD m := by
  induction l with
  | nil => simp [leD]
  | cons d l ih => simp only [List.cons_append, leD, ih, List.length_cons]; rw [Nat.pow_succ, Nat.mul_add, Nat.add_assoc, Nat.mul_comm (BB ^ l.length) BB, Nat.mul_assoc]
theorem leD_lt : ∀ l : List Nat, (∀ d ∈ l, d < BB) → leD l < BB ^ l.length
  | [], _ => by simp [leD]
  | d :: l, h => by
    have h1 := leD_lt l (fun x hx => h x (List.mem_cons_of_mem _ hx))
    have h2 := h d List.mem_cons_self
    simp only [leD, List.length_cons, Nat.pow_succ, BB] at *
    omega
/-- Digits whose last one is no nought are a number's. -/
theorem dig_of : ∀ (l : List Nat), (∀ d ∈ l, d < BB) → (∀ h : l ≠ [], l.getLast h ≠ 0) → dig (leD l) = l
  | [], _, _ => dig_zero
  | d :: l, h, hl => by
    have h2 := h d List.mem_cons_self
    have ih := dig_of l (fun x hx => h x (List.mem_cons_of_mem _ hx)) (fun h3 => by have := hl (by simp); rwa [List.getLast_cons h3] at this)
    have e1 : (d + BB * leD l) % BB = d := by simp only [BB] at *; omega
    have e2 : (d + BB * leD l) / BB = leD l := by simp only [BB] at *; omega
    have h0 : d + BB * leD l ≠ 0 := by
      intro h0
      have hz : leD l = 0 := by simp only [BB] at *; omega
      have hd : d = 0 := by omega
      rw [hz, dig_zero] at ih
      subst ih
      exact hl (by simp) (by simpa using hd)
    show dig (d + BB * leD l) = d :: l
    rw [dig_pos h0, e1, e2, ih]
theorem dig_lt (n : Nat) : ∀ d ∈ dig n, d < BB := by
  induction n using Nat.strongRecOn with
  | ind n ih =>
    by_cases h : n = 0
    · subst h; rw [dig_zero]; simp
    · rw [dig_pos h]
      intro d hd
      rcases List.mem_cons.mp hd with rfl | hd
      · exact Nat.mod_lt _ (by decide)
      · exact ih _ (Nat.div_lt_self (Nat.pos_of_ne_zero h) (by decide)) d hd
theorem dig_last (n : Nat) : ∀ h : dig n ≠ [], (dig n).getLast h ≠ 0 := by
  induction n using Nat.strongRecOn with
  | ind n ih =>
    by_cases h : n = 0
    · subst h; rw [dig_zero]; simp
    · simp only [dig_pos h]
      intro _
      by_cases h2 : n / BB = 0
      · simp only [h2, dig_zero, List.getLast_singleton]
        simp only [BB] at *
        omega
      · have h3 : dig (n / BB) ≠ [] := by rw [dig_pos h2]; simp
        rw [List.getLast_cons h3]
        exact ih _ (Nat.div_lt_self (Nat.pos_of_ne_zero h) (by decide)) h3
theorem lt_dig (n : Nat) : n < BB ^ (dig n).length := by
  have := leD_lt (dig n) (dig_lt n)
  rwa [leD_dig] at this
theorem dig_getElem : ∀ (n i : Nat) (h : i < (dig n).length), (dig n)[i] = n / BB ^ i % BB
  | n, i, h => by
    by_cases hn : n = 0
    · subst hn; simp [dig_zero] at h
    · cases i with
      | zero => simp only [dig_pos hn, List.getElem_cons_zero]; simp
      | succ i =>
        have h' : i < (dig (n / BB)).length := by simp only [dig_pos hn, List.length_cons] at h; omega
        have ih := dig_getElem (n / BB) i h'
        simp only [dig_pos hn, List.getElem_cons_succ, ih]
        rw [Nat.div_div_eq_div_mul, Nat.pow_succ, Nat.mul_comm BB]
theorem dig_len_le {n k : Nat} (h : n < BB ^ k) : (dig n).length ≤ k := by
  induction k generalizing n with
  | zero => have : n = 0 := by simpa using h
            subst this; simp [dig_zero]
  | succ k ih =>
    by_cases hn : n = 0
    · subst hn; simp [dig_zero]
    · rw [dig_pos hn, List.length_cons]
      have := ih (n := n / BB) (Nat.div_lt_of_lt_mul (by rw [Nat.mul_comm, ← Nat.pow_succ]; exact h))
      omega
theorem dig_len_iff (n k : Nat) : (dig n).length ≤ k ↔ n < BB ^ k :=
  ⟨fun h => Nat.lt_of_lt_of_le (lt_dig n) (Nat.pow_le_pow_right (by decide) h), dig_len_le⟩
theorem dig_lt_len (n k : Nat) : k < (dig n).length ↔ BB ^ k ≤ n := by
  have := dig_len_iff n k; omega
/-- What is told of the digit at a place, and of the numbers below it. -/
theorem dig_step (n i : Nat) : n % BB ^ (i + 1) = n % BB ^ i + n / BB ^ i % BB * BB ^ i := by
  rw [Nat.mod_pow_succ, Nat.mul_comm]
theorem mod_len (n i : Nat) (h : (dig n).length ≤ i) : n % BB ^ i = n := Nat.mod_eq_of_lt ((dig_len_iff n i).mp h)
theorem dig_off (n i : Nat) (h : (dig n).length ≤ i) : n / BB ^ i % BB = 0 := by rw [Nat.div_eq_of_lt ((dig_len_iff n i).mp h)]; simp
theorem digit_lt (n i : Nat) : n / BB ^ i % BB < BB := Nat.mod_lt _ (by decide)

/-- The number of a row of cells. -/
def valF : Nat → (Nat → Nat) → Nat
  | 0, _ => 0
  | n + 1, f => valF n f + f n * BB ^ n
def upd (f : Nat → Nat) (j v : Nat) : Nat → Nat := fun i => if i = j then v else f i
theorem upd_self (f : Nat → Nat) (j v : Nat) : upd f j v j = v := by simp [upd]
theorem upd_ne (f : Nat → Nat) {j i : Nat} (v : Nat) (h : i ≠ j) : upd f j v i = f i := by simp [upd, h]
theorem valF_congr {n : Nat} {f g : Nat → Nat} (h : ∀ i, i < n → f i = g i) : valF n f = valF n g := by
  induction n with
  | zero => rfl
  | succ n ih => simp only [valF, ih (fun i hi => h i (by omega)), h n (by omega)]
theorem valF_zero (n : Nat) : valF n (fun _ => 0) = 0 := by
  induction n with
  | zero => rfl
  | succ n ih => simp [valF, ih]
theorem valF_upd {n : Nat} {f : Nat → Nat} {j v : Nat} (h : j < n) : valF n (upd f j v) + f j * BB ^ j = valF n f + v * BB ^ j := by
  induction n with
  | zero => omega
  | succ n ih =>
    simp only [valF]
    by_cases hj : j = n
    · subst hj
      rw [upd_self, valF_congr (f := upd f j v) (g := f) (fun i hi => upd_ne f v (by omega))]
      omega
    · rw [upd_ne f v (by omega : n ≠ j)]
      have := ih (by omega)
      omega
theorem valF_row (n : Nat) (f : Nat → Nat) : leD ((List.range n).map f) = valF n f := by
  induction n with
  | zero => rfl
  | succ n ih => rw [List.range_succ, List.map_append, leD_app, ih, List.length_map, List.length_range, valF]; simp [leD, Nat.mul_comm]
theorem valF_lt {n : Nat} {f : Nat → Nat} (h : ∀ i, i < n → f i < BB) : valF n f < BB ^ n := by
  have := leD_lt ((List.range n).map f) (by intro d hd; obtain ⟨i, hi, rfl⟩ := List.mem_map.mp hd; exact h i (List.mem_range.mp hi))
  rwa [valF_row, List.length_map, List.length_range] at this
theorem valF_more (n m : Nat) (f : Nat → Nat) (h : ∀ i, m ≤ i → f i = 0) (hm : m ≤ n) : valF n f = valF m f := by
  induction n with
  | zero => rw [show m = 0 by omega]
  | succ n ih =>
    by_cases hn : m = n + 1
    · rw [hn]
    · rw [valF, h n (by omega), ih (by omega)]; simp

/-- The cells of a block of a call's own. -/
def row (n : Nat) (f : Nat → Nat) : Array Value := ((List.range n).map fun j => Value.int .u64 ((f j : Nat) : Int)).toArray
theorem row_size (n : Nat) (f : Nat → Nat) : (row n f).size = n := by simp [row]
theorem row_get {n j : Nat} (f : Nat → Nat) (h : j < n) : (row n f)[j]? = some (.int .u64 ((f j : Nat) : Int)) := by simp [row, h]
theorem row_set {n j : Nat} (f : Nat → Nat) (v : Nat) : (row n f).setIfInBounds j (.int .u64 (v : Int)) = row n (upd f j v) := by
  apply Array.ext_getElem?
  intro i
  rw [Array.getElem?_setIfInBounds, row_size]
  by_cases h : j = i
  · subst h
    by_cases hj : j < n
    · rw [if_pos rfl, if_pos hj, row_get _ hj, upd_self]
    · rw [if_pos rfl, if_neg hj]; simp [row, hj]
  · rw [if_neg h]
    simp only [row, List.getElem?_toArray, List.getElem?_map]
    cases hr : (List.range n)[i]? with
    | none => rfl
    | some k =>
      have : k = i := by
        obtain ⟨hk, he⟩ := List.getElem?_eq_some_iff.mp hr
        simpa using he.symm
      subst this
      simp [upd, Ne.symm h]
theorem row_zero (n : Nat) : row n (fun _ => 0) = Array.replicate n (.int .u64 0) := by
  apply Array.ext_getElem?
  intro i
  simp only [row, List.getElem?_toArray, List.getElem?_map, Array.getElem?_replicate]
  by_cases h : i < n
  · simp [h]
  · simp [h]
theorem row_rd {w : World} {b n : Nat} {f : Nat → Nat} {t : TypeId} (h : w.heap[b]? = some (.cells (row n f) t)) : Rd w .u64 (some ⟨b, 0, none⟩) ((List.range n).map f) :=
  rd_block h (fun i hi => by
    have hi' : i < n := by simpa using hi
    rw [row_get f hi']
    simp)
theorem rd_take {w : World} {k : IntKind} {A : Option Addr} {xs : List Nat} (h : Rd w k A xs) (n : Nat) : Rd w k A (xs.take n) := fun i hi => by
  have hi' : i < xs.length := by rw [List.length_take] at hi; omega
  obtain ⟨b, off, hA, hc⟩ := h i hi'
  refine ⟨b, off, hA, ?_⟩
  rw [hc, List.getElem_take]
theorem leD_take_last {l : List Nat} {k : Nat} (h : k < l.length) (h0 : l[k] = 0) : leD (l.take (k + 1)) = leD (l.take k) := by
  rw [List.take_succ_eq_append_getElem h, leD_app]
  simp [leD, h0]
theorem take_dig0 {ds : List Nat} (he : leD (ds.take 0) = leD ds) : dig (leD ds) = [] := by
  rw [← he]; exact dig_zero
theorem take_dig {ds : List Nat} {n : Nat} (hd : ∀ d ∈ ds, d < BB) (hn : n < (ds.take (n + 1)).length) (he : leD (ds.take (n + 1)) = leD ds) (h : (ds.take (n + 1))[n] ≠ 0) : dig (leD ds) = ds.take (n + 1) ∧ (dig (leD ds)).length = n + 1 := by
  have hl : (ds.take (n + 1)).length = n + 1 := by rw [List.length_take] at *; omega
  have e : dig (leD ds) = ds.take (n + 1) := by
    rw [← he]
    refine dig_of _ (fun d h => hd d (List.mem_of_mem_take h)) (fun h3 => ?_)
    rw [List.getLast_eq_getElem]
    simp only [hl, Nat.add_sub_cancel]
    exact h
  exact ⟨e, by rw [e, hl]⟩
theorem take_less {ds : List Nat} {n : Nat} (hn : n < (ds.take (n + 1)).length) (h : (ds.take (n + 1))[n] = 0) : leD (ds.take n) = leD (ds.take (n + 1)) := by
  have hl : n < ds.length := by rw [List.length_take] at hn; omega
  rw [List.getElem_take] at h
  exact (leD_take_last hl h).symm
theorem wr64 (n : Int) (h : -9223372036854775808 ≤ n ∧ n ≤ 9223372036854775807) : wrap64 n = n := by unfold wrap64; omega
/-- A slice that is read holds a number's digits. -/
def Dn (w : World) (A : Option Addr) (c n : Nat) : Prop := Rd w .u64 A (dig n) ∧ (dig n).length ≤ c
theorem Dn.mono {w w' : World} {A : Option Addr} {c n : Nat} (h : Dn w A c n) {B : Nat} (hb : Below B w w') (hB : w.heap.size ≤ B) : Dn w' A c n := ⟨h.1.mono hb hB, h.2⟩
theorem Dn.next {w w' : World} {A : Option Addr} {c n : Nat} (h : Dn w A c n) (hb : Below w.heap.size w w') : Dn w' A c n := h.mono hb (Nat.le_refl _)
/-- A digit is read. -/
theorem Dn.cell {w : World} {A : Option Addr} {c n i : Nat} (h : Dn w A c n) (hi : i < (dig n).length) : ∃ b off, A = some ⟨b, off, none⟩ ∧ b < w.heap.size ∧ ∀ j, j < (dig n).length → w.cell? ⟨b, off + j, none⟩ = some (.int .u64 ((n / BB ^ j % BB : Nat) : Int)) := by
  obtain ⟨b, off, hA, hb, hc⟩ := h.1.place (by omega)
  exact ⟨b, off, hA, hb, fun j hj => by rw [hc j hj, dig_getElem]⟩
end Go.Proofs.YtljolpdpblohcaaDoor
