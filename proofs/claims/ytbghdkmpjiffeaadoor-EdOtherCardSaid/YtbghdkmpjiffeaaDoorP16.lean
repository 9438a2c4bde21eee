/-
  Shared, part 16: walks and plain laws; each theorem states its own conditions.
-/
import Derived.Test.YtbghdkmpjiffeaaDoorProg
import Derived.Test.YtbghdkmpjiffeaaDoorP9
import Derived.Deep.OwnRows
import Derived.IntWalk
import Derived.Lib.Hide
import Derived.StillTailTactics
namespace Go.Proofs.YtbghdkmpjiffeaaDoor
set_option linter.unusedSimpArgs false
set_option linter.unusedVariables false
set_option maxRecDepth 100000
set_option maxHeartbeats 8000000
section
open Go.RowKit Go.Proofs.YtbghdkmpjiffeaaDoorW.PrintLast
theorem UO (w : World) : (Instr.makeSlice 22 (.int .i64 32) (.int .i64 32)).run Tryd.prog w = .ok (.slice (some ⟨w.heap.size, 0, none⟩) 32 32) (w.alloc (.cells (tV 32 fun _ => 0) 5)) := by kernel_rfl
end
section
open Go.RowKit
structure kY (B g : Nat) (w v : World) : Prop where
 os : v.os = w.os
 tape : v.tape = w.tape
 output : v.output = w.output
 size : w.heap.size ≤ v.heap.size
 block : ∀ k, k < B → k ≠ g → v.heap[k]? = w.heap[k]?
section
variable {B C g b : Nat} {w v y : World} {o : Obj}
theorem kY.refl (B g : Nat) (w : World) : kY B g w w := ⟨rfl, rfl, rfl, Nat.le_refl _, fun _ _ _ => rfl⟩
theorem kY.below (h : kY B g w v) (k : Below C v y) (hC : B ≤ C) : kY B g w y :=
 ⟨k.os.trans h.os, k.tape.trans h.tape, k.output.trans h.output, Nat.le_trans h.size k.size, fun i hi hg => (k.block i (Nat.lt_of_lt_of_le hi hC)).trans (h.block i hi hg)⟩
theorem kY.akc (h : kY B g w v) : kY B g w (v.pin g o) := ⟨h.os, h.tape, h.output, by rw [aA]; exact h.size, fun k hk hg => by rw [je hg]; exact h.block k hk hg⟩
theorem kY.pin (h : kY B g w v) (hb : B ≤ b) : kY B g w (v.pin b o) := ⟨h.os, h.tape, h.output, by rw [aA]; exact h.size, fun k hk hg => by rw [je (by omega)]; exact h.block k hk hg⟩
theorem kY.alloc (h : kY B g w v) (hB : B ≤ v.heap.size) : kY B g w (v.alloc o) := h.below (Below.alloc (Below.refl B v) hB o) (Nat.le_refl _)
theorem kY.drew (h : kY B g w v) : kY B g w v.drew := h.below (Below.drew (Below.refl B v)) (Nat.le_refl _)
theorem kY.Wp (hb : B = w.heap.size) : kY B g (w.pin g o) w := ⟨rfl, rfl, rfl, by rw [aA]; exact Nat.le_refl _, fun k _ hg => by rw [je hg]⟩
theorem kY.done (h : kY B g w v) (ho : v.heap[g]? = some o) (hg : g < w.heap.size) : Below B (w.pin g o) v := by
 refine ⟨h.os, h.tape, h.output, by rw [aA]; exact h.size, fun k hk => ?_⟩
 by_cases e : k = g
 · subst e; rw [eY hg, ho]
 · rw [je e]; exact h.block k hk e
theorem uP {B g : Nat} {w y w' : World} (h0 : kY B g w y) (h : kY B g w y → kY B g w w' := by (intro hb0; (repeat (first | with_reducible exact hb0 | with_reducible refine kY.akc ?_ | with_reducible refine kY.pin ?_ ?_ | with_reducible refine kY.alloc ?_ ?_ | with_reducible refine kY.drew ?_)); all_goals (first | omega | (simp only [World.size_alloc, aA, World.size_drew, World.size_setCell] <;> omega)))) : kY B g w w' := h h0
theorem Keeps.base {w v : World} {L : List (Nat × Obj)} (h : Keeps w L v) : Below w.heap.size w v := h.1
end
end
section
open Go.RowKit
def KK : Nat := 115792089237316195423570985008687907853269984665640564039457584007913129639898
end
section
open Go.RowKit
abbrev WW : Nat := 18446744073709551616
def lim (n j : Nat) : Nat := n / WW ^ j % WW
theorem V3 (n j : Nat) : lim n j < WW := Nat.mod_lt _ (by decide)
abbrev Lv (n : Nat) : Value := .agg #[.int .u64 ((lim n 0 : Nat) : Int), .int .u64 ((lim n 1 : Nat) : Int), .int .u64 ((lim n 2 : Nat) : Int), .int .u64 ((lim n 3 : Nat) : Int), .int .u64 ((lim n 4 : Nat) : Int), .int .u64 ((lim n 5 : Nat) : Int), .int .u64 ((lim n 6 : Nat) : Int), .int .u64 ((lim n 7 : Nat) : Int), .int .u64 ((lim n 8 : Nat) : Int)]
theorem He (n : Nat) : row 9 (lim n) = #[.int .u64 ((lim n 0 : Nat) : Int), .int .u64 ((lim n 1 : Nat) : Int), .int .u64 ((lim n 2 : Nat) : Int), .int .u64 ((lim n 3 : Nat) : Int), .int .u64 ((lim n 4 : Nat) : Int), .int .u64 ((lim n 5 : Nat) : Int), .int .u64 ((lim n 6 : Nat) : Int), .int .u64 ((lim n 7 : Nat) : Int), .int .u64 ((lim n 8 : Nat) : Int)] := rfl
theorem Hg (i : Nat) : 0 < WW ^ i := Nat.pow_pos (by decide)
theorem EX (n i : Nat) : n % WW ^ (i + 1) = n % WW ^ i + lim n i * WW ^ i := by
 rw [Nat.pow_succ, Nat.mod_mul, lim, Nat.mul_comm (WW ^ i)]
theorem afG (j : Nat) : lim 0 j = 0 := by simp [lim]
theorem ah9 {n i : Nat} (h : n < WW ^ i) : lim n i = 0 := by unfold lim; rw [Nat.div_eq_of_lt h]; decide
def bor (x y i : Nat) : Nat := if x % WW ^ i < y % WW ^ i then 1 else 0
theorem afZ (x y i : Nat) : bor x y i ≤ 1 := by unfold bor; split <;> omega
theorem ae3 (x y : Nat) : bor x y 0 = 0 := by simp [bor, Nat.mod_one]
theorem akr {x y : Nat} (hx : x < WW ^ 9) (hy : y < WW ^ 9) : bor x y 9 = if x < y then 1 else 0 := by unfold bor; rw [Nat.mod_eq_of_lt hx, Nat.mod_eq_of_lt hy]
theorem lex_lt {a b A B P : Nat} (hA : A < P) (hB : B < P) : A + a * P < B + b * P ↔ (a < b ∨ a = b ∧ A < B) := by
 constructor
 · intro h
   rcases Nat.lt_trichotomy a b with h1 | h1 | h1
   · exact .inl h1
   · subst h1; exact .inr ⟨rfl, by omega⟩
   · exfalso
     have h2 : (b + 1) * P ≤ a * P := Nat.mul_le_mul_right P h1
     rw [Nat.add_mul, Nat.one_mul] at h2
     omega
 · rintro (h1 | ⟨rfl, h1⟩)
   · have h2 : (a + 1) * P ≤ b * P := Nat.mul_le_mul_right P h1
     rw [Nat.add_mul, Nat.one_mul] at h2
     omega
   · omega
theorem ae0 (x y i : Nat) : bor x y (i + 1) = if lim x i < lim y i + bor x y i then 1 else 0 := by
 have hA : x % WW ^ i < WW ^ i := Nat.mod_lt _ (Hg i)
 have hB : y % WW ^ i < WW ^ i := Nat.mod_lt _ (Hg i)
 unfold bor
 rw [EX, EX]
 have h := lex_lt (a := lim x i) (b := lim y i) hA hB
 by_cases h1 : x % WW ^ i < y % WW ^ i
 · rw [if_pos h1]
   by_cases h2 : lim x i < lim y i + 1
   · rw [if_pos h2, if_pos (h.mpr (by omega))]
   · rw [if_neg h2, if_neg (fun h3 => by have := h.mp h3; omega)]
 · rw [if_neg h1]
   by_cases h2 : lim x i < lim y i + 0
   · rw [if_pos h2, if_pos (h.mpr (by omega))]
   · rw [if_neg h2, if_neg (fun h3 => by have := h.mp h3; omega)]
theorem akT {x y P : Nat} (hP : 0 < P) (h : y ≤ x) : (x - y) / P = x / P - y / P - (if x % P < y % P then 1 else 0) ∧ y / P + (if x % P < y % P then 1 else 0) ≤ x / P := by
 have ex := Nat.div_add_mod x P
 have ey := Nat.div_add_mod y P
 have hx := Nat.mod_lt x hP
 have hy := Nat.mod_lt y hP
 have hle : y / P ≤ x / P := Nat.div_le_div_right h
 by_cases h1 : x % P < y % P
 · rw [if_pos h1]
   have hlt : y / P < x / P := by
    rcases Nat.lt_or_ge (y / P) (x / P) with h2 | h2
    · exact h2
    · exfalso
      have h3 : x / P = y / P := by omega
      rw [h3] at ex
      omega
   refine ⟨?_, hlt⟩
   obtain ⟨k, hk⟩ : ∃ k, x / P = y / P + 1 + k := ⟨x / P - y / P - 1, by omega⟩
   have e : x - y = P * k + (P + x % P - y % P) := by
    have : P * (x / P) = P * (y / P) + P + P * k := by rw [hk, Nat.mul_add, Nat.mul_add, Nat.mul_one]
    omega
   rw [e, Nat.mul_add_div hP, Nat.div_eq_of_lt (by omega : P + x % P - y % P < P)]
   omega
 · rw [if_neg h1]
   refine ⟨?_, by omega⟩
   obtain ⟨k, hk⟩ : ∃ k, x / P = y / P + k := ⟨x / P - y / P, by omega⟩
   have e : x - y = P * k + (x % P - y % P) := by
    have : P * (x / P) = P * (y / P) + P * k := by rw [hk, Nat.mul_add]
    omega
   rw [e, Nat.mul_add_div hP, Nat.div_eq_of_lt (by omega : x % P - y % P < P)]
   omega
theorem akK {x y : Nat} (h : y ≤ x) (i : Nat) : (lim x i + WW - lim y i - bor x y i) % WW = lim (x - y) i := by
 have h1 := akT (P := WW ^ i) (Hg i) h
 unfold lim bor
 rw [h1.1]
 have h2 := h1.2
 have hb := afZ x y i
 unfold bor at hb
 generalize (if x % WW ^ i < y % WW ^ i then 1 else 0) = b at *
 generalize x / WW ^ i = X at *
 generalize y / WW ^ i = Y at *
 clear h1 h
 simp only [WW] at *
 omega
theorem afx (x i : Nat) : lim x i / 2 + lim x (i + 1) % 2 * 9223372036854775808 = lim (x / 2) i := by
 unfold lim
 have e1 : x / WW ^ (i + 1) = x / WW ^ i / WW := by rw [Nat.pow_succ, Nat.div_div_eq_div_mul]
 have e2 : x / 2 / WW ^ i = x / WW ^ i / 2 := by rw [Nat.div_div_eq_div_mul, Nat.div_div_eq_div_mul, Nat.mul_comm]
 rw [e1, e2]
 generalize x / WW ^ i = q
 simp only [WW]
 omega
def zo : Nat → (Nat → Nat) → Nat
 | 0, _ => 0
 | n + 1, f => zo n f + f n * WW ^ n
theorem afO (x : Nat) : ∀ n, zo n (lim x) = x % WW ^ n
 | 0 => by simp [zo, Nat.mod_one]
 | n + 1 => by rw [zo, afO x n, EX]
theorem agH {f : Nat → Nat} (h : ∀ j, f j < WW) : ∀ n, zo n f < WW ^ n
 | 0 => by simp [zo]
 | n + 1 => by
  have h1 := agH h n
  have h2 := h n
  have h3 : f n * WW ^ n + WW ^ n ≤ WW ^ (n + 1) := by
   rw [Nat.pow_succ, Nat.mul_comm (WW ^ n) WW]
   have := Nat.mul_le_mul_right (WW ^ n) (show f n + 1 ≤ WW from h2)
   rw [Nat.add_mul, Nat.one_mul] at this
   exact this
  rw [zo]
  omega
theorem aia {f : Nat → Nat} (h : ∀ j, f j < WW) (n j : Nat) (hj : j < n) : lim (zo n f) j = f j := by
 induction n with
 | zero => omega
 | succ n ih =>
  rw [zo]
  by_cases he : j = n
  · subst he
    unfold lim
    rw [Nat.add_mul_div_right _ _ (Hg j), Nat.div_eq_of_lt (agH h j), Nat.zero_add, Nat.mod_eq_of_lt (h j)]
  · have hlt : j < n := by omega
    rw [← ih hlt]
    unfold lim
    obtain ⟨d, hd⟩ : ∃ d, n = j + 1 + d := ⟨n - j - 1, by omega⟩
    have e : f n * WW ^ n = f n * WW ^ d * WW * WW ^ j := by rw [hd, Nat.pow_add, Nat.pow_add, Nat.pow_one]; simp only [Nat.mul_assoc, Nat.mul_comm, Nat.mul_left_comm]
    rw [e, Nat.add_mul_div_right _ _ (Hg j), Nat.add_mul_mod_self_right]
theorem afP {f : Nat → Nat} {n j v : Nat} (hj : j < n) : zo n (upd f j v) + f j * WW ^ j = zo n f + v * WW ^ j := by
 induction n with
 | zero => omega
 | succ n ih =>
  rw [zo, zo]
  by_cases he : j = n
  · subst he
    rw [eU]
    have : zo j (upd f j v) = zo j f := by
     have : ∀ m, m ≤ j → zo m (upd f j v) = zo m f := by
      intro m hm
      induction m with
      | zero => rfl
      | succ m ihm => rw [zo, zo, ihm (by omega), upd_ne _ _ (by omega)]
     exact this j (Nat.le_refl _)
    rw [this]
    omega
  · have := ih (by omega)
    rw [upd_ne _ _ (Ne.symm he)]
    omega
theorem A8 {n : Nat} {f g : Nat → Nat} (h : ∀ j, j < n → f j = g j) : row n f = row n g := by
 unfold row
 congr 1
 exact List.map_congr_left (fun j hj => by rw [h j (List.mem_range.mp hj)])
theorem aiO {f : Nat → Nat} (h : ∀ j, f j < WW) : row 9 f = row 9 (lim (zo 9 f)) := A8 (fun j hj => (aia h 9 j hj).symm)
theorem agB (j : Nat) : WW ^ j = 256 ^ (8 * j) := by rw [show WW = 256 ^ 8 by decide, ← Nat.pow_mul]
theorem aga {N b i j : Nat} (hN : N < 256 ^ i) (hb : b < 256) (h : j ≠ i / 8) : lim (N + b * 256 ^ i) j = lim N j := by
 unfold lim
 rw [agB]
 rcases Nat.lt_or_ge j (i / 8) with h1 | h1
 · obtain ⟨d, hd⟩ : ∃ d, i = 8 * j + 8 + d := ⟨i - 8 * j - 8, by omega⟩
   have e : b * 256 ^ i = b * 256 ^ d * WW * 256 ^ (8 * j) := by rw [hd, Nat.pow_add, Nat.pow_add, show WW = 256 ^ 8 by decide]; simp only [Nat.mul_assoc, Nat.mul_comm, Nat.mul_left_comm]
   rw [e, Nat.add_mul_div_right _ _ (Nat.pow_pos (by decide)), Nat.add_mul_mod_self_right]
 · have hp : 256 ^ (i + 1) ≤ 256 ^ (8 * j) := Nat.pow_le_pow_right (by decide) (by omega)
   have hs : N + b * 256 ^ i < 256 ^ (i + 1) := by
    have := Nat.mul_le_mul_right (256 ^ i) (show b + 1 ≤ 256 from hb)
    rw [Nat.add_mul, Nat.one_mul] at this
    rw [Nat.pow_succ, Nat.mul_comm (256 ^ i) 256]
    omega
   have hs2 : N < 256 ^ (8 * j) := by omega
   rw [Nat.div_eq_of_lt (Nat.lt_of_lt_of_le hs hp), Nat.div_eq_of_lt hs2]
theorem agF {N b i : Nat} (hN : N < 256 ^ i) (hb : b < 256) : lim N (i / 8) < 256 ^ (i % 8) ∧ lim (N + b * 256 ^ i) (i / 8) = lim N (i / 8) + b * 256 ^ (i % 8) := by
 obtain ⟨q, hq⟩ : ∃ q, q = i / 8 := ⟨_, rfl⟩
 obtain ⟨r, hr⟩ : ∃ r, r = i % 8 := ⟨_, rfl⟩
 have hi : i = 8 * q + r := by omega
 have ZE : r < 8 := by omega
 rw [← hq, ← hr]
 have e : 256 ^ i = 256 ^ r * 256 ^ (8 * q) := by rw [hi, Nat.pow_add, Nat.mul_comm]
 have hlow : N / 256 ^ (8 * q) < 256 ^ r := by
  refine Nat.div_lt_of_lt_mul ?_
  rw [Nat.mul_comm, ← e]
  exact hN
 have hpr : 256 ^ (r + 1) ≤ 256 ^ 8 := Nat.pow_le_pow_right (by decide) (by omega)
 have hW : (256 : Nat) ^ 8 = WW := by decide
 have hrp : 256 ^ r ≤ 256 ^ (r + 1) := Nat.pow_le_pow_right (by decide) (by omega)
 have hl : lim N q = N / 256 ^ (8 * q) := by
  unfold lim
  rw [agB, Nat.mod_eq_of_lt (by omega)]
 refine ⟨by rw [hl]; exact hlow, ?_⟩
 rw [hl]
 unfold lim
 rw [agB, e, ← Nat.mul_assoc, Nat.add_mul_div_right _ _ (Nat.pow_pos (by decide))]
 refine Nat.mod_eq_of_lt ?_
 have := Nat.mul_le_mul_right (256 ^ r) (show b + 1 ≤ 256 from hb)
 rw [Nat.add_mul, Nat.one_mul] at this
 rw [Nat.pow_succ, Nat.mul_comm (256 ^ r) 256] at hpr
 omega
theorem aiz {N b i v : Nat} (hN : N < 256 ^ i) (hb : b < 256) (hv : v = lim N (i / 8) + b * 256 ^ (i % 8)) : row 9 (upd (lim N) (i / 8) v) = row 9 (lim (N + b * 256 ^ i)) := by
 refine A8 (fun j hj => ?_)
 by_cases h : j = i / 8
 · rw [h, eU, hv, (agF hN hb).2]
 · rw [upd_ne _ _ h, aga hN hb h]
theorem Hu : ∀ (bs : List Nat) (i : Nat) (h : i < bs.length), bW (bs.take (i + 1)) = bW (bs.take i) + bs[i] * 256 ^ i
 | [], i, h => by simp at h
 | b :: l, 0, _ => by simp [bW]
 | b :: l, i + 1, h => by
  have h' : i < l.length := by simpa using h
  have := Hu l i h'
  simp only [List.take_succ_cons, bW, List.getElem_cons_succ, this, Nat.pow_succ]
  rw [Nat.mul_add, ← Nat.add_assoc]
  congr 1
  simp only [Nat.mul_assoc, Nat.mul_comm, Nat.mul_left_comm]
theorem ae4 (bs : List Nat) (h : ∀ b ∈ bs, b < 256) (i : Nat) (hi : i ≤ bs.length) : bW (bs.take i) < 256 ^ i := by
 have := oD (bs.take i) (fun b hb => h b (List.mem_of_mem_take hb))
 rwa [List.length_take, Nat.min_eq_left hi] at this
theorem ah8 (n i : Nat) : lim n (i / 8) / 2 ^ (8 * (i % 8)) % 256 = n / 256 ^ i % 256 := by
 unfold lim
 have e : 256 ^ i = WW ^ (i / 8) * 2 ^ (8 * (i % 8)) := by
  rw [agB, show (2 : Nat) ^ (8 * (i % 8)) = 256 ^ (i % 8) by rw [show (256 : Nat) = 2 ^ 8 by decide, ← Nat.pow_mul], ← Nat.pow_add, Nat.div_add_mod]
 rw [e, ← Nat.div_div_eq_div_mul]
 have hm : i % 8 < 8 := Nat.mod_lt _ (by decide)
 generalize n / WW ^ (i / 8) = q
 have : i % 8 = 0 ∨ i % 8 = 1 ∨ i % 8 = 2 ∨ i % 8 = 3 ∨ i % 8 = 4 ∨ i % 8 = 5 ∨ i % 8 = 6 ∨ i % 8 = 7 := by omega
 rcases this with h1 | h1 | h1 | h1 | h1 | h1 | h1 | h1 <;> rw [h1] <;> simp only [WW, Nat.reducePow, Nat.reduceMul] <;> omega
def ac1 (a b i k : Nat) (f : Nat → Nat) (c : Nat) : Prop := (∀ j, f j < WW) ∧ c < WW ∧ (∀ j, i + 4 ≤ j → f j = 0) ∧ zo 9 f + c * WW ^ (i + k) = a % WW ^ i * b + lim a i * (b % WW ^ k) * WW ^ i
theorem af8 (a b : Nat) (f : Nat → Nat) (i : Nat) (h1 : ∀ j, f j < WW) (h2 : ∀ j, i + 4 ≤ j → f j = 0) (h3 : zo 9 f = a % WW ^ i * b) : ac1 a b i 0 f 0 := ⟨h1, by decide, h2, by rw [h3]; simp [Nat.mod_one]⟩
theorem prod_bound (x y o c : Nat) (hx : x < WW) (hy : y < WW) (ho : o < WW) (hc : c < WW) : x * y + o + c < WW * WW := by
 have := Nat.mul_le_mul (show x ≤ 18446744073709551615 by simp only [WW] at hx; omega) (show y ≤ 18446744073709551615 by simp only [WW] at hy; omega)
 simp only [WW] at *
 omega
theorem ahm {a b i k c v c' : Nat} {f : Nat → Nat} (h : ac1 a b i k f c) (hk : i + k < 9) (hk4 : k < 4) (hv : v = (lim a i * lim b k + f (i + k) + c) % WW) (hc : c' = (lim a i * lim b k + f (i + k) + c) / WW) : ac1 a b i (k + 1) (upd f (i + k) v) c' := by
 obtain ⟨h1, h2, h3, h4⟩ := h
 have hb := prod_bound (lim a i) (lim b k) (f (i + k)) c (V3 _ _) (V3 _ _) (h1 _) h2
 refine ⟨?_, ?_, ?_, ?_⟩
 · intro j
   by_cases hj : j = i + k
   · rw [hj, eU, hv]; exact Nat.mod_lt _ (by decide)
   · rw [upd_ne _ _ hj]; exact h1 j
 · rw [hc]
   exact Nat.div_lt_of_lt_mul hb
 · intro j hj
   rw [upd_ne _ _ (by omega)]
   exact h3 j hj
 · have hu := afP (f := f) (v := v) hk
   have hT : v + c' * WW = lim a i * lim b k + f (i + k) + c := by
    rw [hv, hc]
    generalize lim a i * lim b k + f (i + k) + c = T
    simp only [WW]
    omega
   have e1 : c' * WW ^ (i + (k + 1)) = c' * WW * WW ^ (i + k) := by rw [← Nat.add_assoc, Nat.pow_succ]; simp only [Nat.mul_assoc, Nat.mul_comm, Nat.mul_left_comm]
   have e2 : lim a i * (b % WW ^ (k + 1)) * WW ^ i = lim a i * (b % WW ^ k) * WW ^ i + lim a i * lim b k * WW ^ (i + k) := by rw [EX, Nat.pow_add, Nat.mul_add, Nat.add_mul]; simp only [Nat.mul_assoc, Nat.mul_comm, Nat.mul_left_comm]
   have e3 : v * WW ^ (i + k) + c' * WW * WW ^ (i + k) = lim a i * lim b k * WW ^ (i + k) + f (i + k) * WW ^ (i + k) + c * WW ^ (i + k) := by rw [← Nat.add_mul, hT, Nat.add_mul, Nat.add_mul]
   rw [e1, e2]
   omega
theorem ait {a b i c : Nat} {f : Nat → Nat} (h : ac1 a b i 4 f c) (hi : i + 4 < 9) (hb : b < WW ^ 4) : (∀ j, upd f (i + 4) c j < WW) ∧ (∀ j, i + 1 + 4 ≤ j → upd f (i + 4) c j = 0) ∧ zo 9 (upd f (i + 4) c) = a % WW ^ (i + 1) * b := by
 obtain ⟨h1, h2, h3, h4⟩ := h
 refine ⟨?_, ?_, ?_⟩
 · intro j
   by_cases hj : j = i + 4
   · rw [hj, eU]; exact h2
   · rw [upd_ne _ _ hj]; exact h1 j
 · intro j hj
   rw [upd_ne _ _ (by omega)]
   exact h3 j (by omega)
 · have hu := afP (f := f) (v := c) hi
   rw [h3 (i + 4) (Nat.le_refl _), Nat.zero_mul, Nat.add_zero] at hu
   rw [hu, h4, Nat.mod_eq_of_lt hb, EX, Nat.add_mul]
   congr 1
   simp only [Nat.mul_assoc, Nat.mul_comm, Nat.mul_left_comm]
def ahA (x y i : Nat) (f : Nat → Nat) (c : Nat) : Prop := c ≤ 1 ∧ (∀ j, j < i → f j = lim (x + y) j) ∧ (∀ j, i ≤ j → f j = lim x j) ∧ c = (x % WW ^ i + y % WW ^ i) / WW ^ i
theorem agM (x y : Nat) : ahA x y 0 (lim x) 0 := ⟨by decide, fun j h => by omega, fun j _ => rfl, by simp [Nat.mod_one]⟩
theorem akn {x y i : Nat} : (x % WW ^ i + y % WW ^ i) / WW ^ i ≤ 1 := by
 have h1 := Nat.mod_lt x (Hg i)
 have h2 := Nat.mod_lt y (Hg i)
 have : x % WW ^ i + y % WW ^ i < WW ^ i * 2 := by omega
 have := Nat.div_lt_of_lt_mul this
 omega
theorem akp (x y i : Nat) : lim (x + y) i = (lim x i + lim y i + (x % WW ^ i + y % WW ^ i) / WW ^ i) % WW ∧ (x % WW ^ (i + 1) + y % WW ^ (i + 1)) / WW ^ (i + 1) = (lim x i + lim y i + (x % WW ^ i + y % WW ^ i) / WW ^ i) / WW := by
 have hP := Hg i
 obtain ⟨P, hPe⟩ : ∃ P, P = WW ^ i := ⟨_, rfl⟩
 have e0 : (x + y) / P = x / P + y / P + (x % P + y % P) / P := by
  rw [hPe]
  have ex := Nat.div_add_mod x (WW ^ i)
  have ey := Nat.div_add_mod y (WW ^ i)
  have : x + y = (x % WW ^ i + y % WW ^ i) + (x / WW ^ i + y / WW ^ i) * WW ^ i := by rw [Nat.add_mul, Nat.mul_comm (x / WW ^ i), Nat.mul_comm (y / WW ^ i)]; omega
  conv => lhs; rw [this]
  rw [Nat.add_mul_div_right _ _ hP]
  omega
 constructor
 · unfold lim
   rw [← hPe, e0]
   generalize x / P = X
   generalize y / P = Y
   generalize (x % P + y % P) / P = c
   simp only [WW]
   omega
 · rw [EX, EX, Nat.pow_succ, ← Nat.div_div_eq_div_mul]
   have : x % WW ^ i + lim x i * WW ^ i + (y % WW ^ i + lim y i * WW ^ i) = (x % WW ^ i + y % WW ^ i) + (lim x i + lim y i) * WW ^ i := by rw [Nat.add_mul]; omega
   rw [this, Nat.add_mul_div_right _ _ hP]
   congr 1
   omega
theorem ahG {x y i c : Nat} {f : Nat → Nat} (h : ahA x y i f c) : ahA x y (i + 1) (upd f i ((lim x i + lim y i + c) % WW)) ((lim x i + lim y i + c) / WW) := by
 obtain ⟨h1, h2, h3, h4⟩ := h
 have hl := akp x y i
 rw [← h4] at hl
 refine ⟨?_, ?_, ?_, hl.2.symm⟩
 · rw [← hl.2]; exact akn
 · intro j hj
   by_cases he : j = i
   · rw [he, eU]; exact hl.1.symm
   · rw [upd_ne _ _ he]; exact h2 j (by omega)
 · intro j hj
   rw [upd_ne _ _ (by omega)]
   exact h3 j (by omega)
end
end Go.Proofs.YtbghdkmpjiffeaaDoor
