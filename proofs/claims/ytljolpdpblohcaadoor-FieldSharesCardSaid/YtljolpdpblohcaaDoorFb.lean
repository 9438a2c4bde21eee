/-
  Walks: package field, products.
-/
import Derived.Test.YtljolpdpblohcaaDoorBits
import Derived.Test.YtljolpdpblohcaaDoorFa
import Derived.Test.YtljolpdpblohcaaDoorFn
import Derived.Deep.RegionHeld3
import Derived.StillTailTactics
import Derived.Lib.Hide
namespace Go.Proofs.YtljolpdpblohcaaDoor
open Go.RowKit
set_option linter.unusedSimpArgs false

/-- A number of two words. -/
abbrev wideV (n : Nat) : Value := .agg #[.int .u64 (hiW n), .int .u64 (loW n)]
theorem w64_two (a b c : Nat) (h : a + b = c) (hc : c < 18446744073709551616) : w64 ((a : Int) + (b : Int)) = (c : Int) := by rw [w64_nat]; omega
theorem lo_add (n m : Nat) : loW (loW n + loW m) = loW (n + m) := by unfold loW; omega
theorem hi_add (n m : Nat) : hiW n + hiW m + hiW (loW n + loW m) = hiW (n + m) := by unfold hiW loW; omega
theorem hi_le (n m : Nat) : hiW (loW n + loW m) ≤ 1 := by unfold hiW loW; omega
theorem loW_of (n : Nat) (h : n < 18446744073709551616) : loW n = n := Nat.mod_eq_of_lt h
theorem hiW_of (n : Nat) (h : n < 18446744073709551616) : hiW n = 0 := Nat.div_eq_of_lt h

theorem wadd_law1 (n m : Nat) (w : World) : (callFunc 29 #[.int .u64 (loW n), .int .u64 (loW m), .int .u64 0]).run Tryd.prog w = .ok (.value (.tuple #[.int .u64 (loW (n + m)), .int .u64 (hiW (loW n + loW m))])) w := by
  have h := add64_law (loW n) (loW m) 0 (by omega) w
  rw [Nat.add_zero, lo_add] at h
  exact h
theorem wadd_law2 (n m : Nat) (h : n + m < 340282366920938463463374607431768211456) (w : World) : (callFunc 29 #[.int .u64 (hiW n), .int .u64 (hiW m), .int .u64 (hiW (loW n + loW m))]).run Tryd.prog w = .ok (.value (.tuple #[.int .u64 (hiW (n + m)), .int .u64 0])) w := by
  have h2 := add64_law (hiW n) (hiW m) (hiW (loW n + loW m)) (hi_le _ _) w
  have hl : hiW (n + m) < 18446744073709551616 := by unfold hiW; omega
  rw [hi_add, loW_of _ hl, hiW_of _ hl] at h2
  exact h2

set_option maxRecDepth 100000 in
set_option maxHeartbeats 1000000 in
theorem wadd_any (n x y : Nat) (hx : x < 18446744073709551616) (hy : y < 18446744073709551616) (h : n + x * y < 340282366920938463463374607431768211456) (w : World) :
    Calls Tryd.prog 47 #[wideV n, .int .u64 x, .int .u64 y] w fun e w' => (∃ m, m = n + x * y ∧ e = .returned (wideV m)) ∧ Below w.heap.size w w' := by
  have A1 := wadd_law1 n (x * y)
  have A2 := wadd_law2 n (x * y) h
  have M := mul64_any x y hx hy
  clear hx hy h
  go_enter Tryd.func47, Tryd.ntmps47
  go_wp2_with fail
  refine (M _).mono ?_
  rintro e w1 ⟨rfl, rfl⟩
  go_wp2_with fail
  refine bodyPost_ret (v := wideV (n + x * y)) ?_ rfl ⟨⟨_, rfl, rfl⟩, ?_⟩
  · simp [results, Tryd.results47, go_sem]
  · exact (by (repeat (first | with_reducible exact (Below.refl _ _) | with_reducible refine below_pin ?_ ?_ | with_reducible refine Below.alloc ?_ ?_ _ | with_reducible refine Below.setCell ?_ ?_ _ | with_reducible refine Below.drew ?_)); all_goals (first | omega | (simp only [World.size_alloc, pin_size, World.size_drew, World.size_setCell] <;> omega)))

set_option maxRecDepth 100000 in
set_option maxHeartbeats 1000000 in
theorem wadd0_any (x y : Nat) (hx : x < 18446744073709551616) (hy : y < 18446744073709551616) (w : World) :
    Calls Tryd.prog 47 #[.agg #[.int .u64 0, .int .u64 0], .int .u64 x, .int .u64 y] w fun e w' => (∃ m, m = x * y ∧ e = .returned (wideV m)) ∧ Below w.heap.size w w' := by
  have h := wadd_any 0 x y hx hy (by rw [Nat.zero_add]; have := Nat.mul_le_mul (show x ≤ 18446744073709551615 by omega) (show y ≤ 18446744073709551615 by omega); omega) w
  rw [Nat.zero_add] at h
  exact h

/-- What stands above the lowest 51 digits. -/
theorem above_eq (n : Nat) (h : n < 41538374868278621028243970633760768) : bits .or .u64 (w64 ((hiW n : Int) * 8192)) (hi51 (loW n)) = ((n / 2251799813685248 : Nat) : Int) := by
  have h1 : hiW n < 2251799813685248 := by unfold hiW; omega
  have h2 := loW_lt n
  have h3 : (hiW n : Int) * 8192 = ((hiW n * 8192 : Nat) : Int) := by omega
  rw [hi51_of, h3, w64_of _ (by omega)]
  have hor := bits_nat .u64 64 (by decide) (fun n h0 h1 => by
    simp only [IntKind.wrap, IntKind.bits, IntKind.signed] at *
    simp at *
    omega) (hiW n * 8192) (loW n / 2251799813685248) (by omega) (by omega)
  have e : hiW n * 8192 ||| loW n / 2251799813685248 = hiW n * 8192 + loW n / 2251799813685248 := by
    have := Nat.shiftLeft_add_eq_or_of_lt (show loW n / 2251799813685248 < 2 ^ 13 by omega) (hiW n)
    rw [Nat.shiftLeft_eq, show (2 : Nat) ^ 13 = 8192 from rfl] at this
    omega
  rw [hor.2, e]
  have := hi_lo n
  omega

set_option maxRecDepth 100000 in
set_option maxHeartbeats 1000000 in
theorem above_any (n : Nat) (h : n < 41538374868278621028243970633760768) (w : World) :
    Calls Tryd.prog 48 #[wideV n] w fun e w' => e = .returned (.int .u64 ((n / 2251799813685248 : Nat) : Int)) ∧ Below w.heap.size w w' := by
  have H := Lib.hid (above_eq n h)
  clear h
  go_enter Tryd.func48, Tryd.ntmps48
  go_wp2
  go_ret
  refine ⟨by rw [← H.out]; rfl, (by (repeat (first | with_reducible exact (Below.refl _ _) | with_reducible refine below_pin ?_ ?_ | with_reducible refine Below.alloc ?_ ?_ _ | with_reducible refine Below.setCell ?_ ?_ _ | with_reducible refine Below.drew ?_)); all_goals (first | omega | (simp only [World.size_alloc, pin_size, World.size_drew, World.size_setCell] <;> omega)))⟩
@[go_sem] theorem index_wides0 (x0 x1 x2 x3 x4 y0 y1 y2 y3 y4 : Value) (w : World) : (Instr.index 69 (.agg #[x0, y0, x1, y1, x2, y2, x3, y3, x4, y4]) (.int .i64 0)).run Tryd.prog w = .ok (.agg #[x0, y0]) w := by kernel_rfl
@[go_sem] theorem index_wides1 (x0 x1 x2 x3 x4 y0 y1 y2 y3 y4 : Value) (w : World) : (Instr.index 69 (.agg #[x0, y0, x1, y1, x2, y2, x3, y3, x4, y4]) (.int .i64 1)).run Tryd.prog w = .ok (.agg #[x1, y1]) w := by kernel_rfl
@[go_sem] theorem index_wides2 (x0 x1 x2 x3 x4 y0 y1 y2 y3 y4 : Value) (w : World) : (Instr.index 69 (.agg #[x0, y0, x1, y1, x2, y2, x3, y3, x4, y4]) (.int .i64 2)).run Tryd.prog w = .ok (.agg #[x2, y2]) w := by kernel_rfl
@[go_sem] theorem index_wides3 (x0 x1 x2 x3 x4 y0 y1 y2 y3 y4 : Value) (w : World) : (Instr.index 69 (.agg #[x0, y0, x1, y1, x2, y2, x3, y3, x4, y4]) (.int .i64 3)).run Tryd.prog w = .ok (.agg #[x3, y3]) w := by kernel_rfl
@[go_sem] theorem index_wides4 (x0 x1 x2 x3 x4 y0 y1 y2 y3 y4 : Value) (w : World) : (Instr.index 69 (.agg #[x0, y0, x1, y1, x2, y2, x3, y3, x4, y4]) (.int .i64 4)).run Tryd.prog w = .ok (.agg #[x4, y4]) w := by kernel_rfl
@[go_sem] theorem index_elem0 (x0 x1 x2 x3 x4 : Value) (w : World) : (Instr.index 35 (.agg #[x0, x1, x2, x3, x4]) (.int .i64 0)).run Tryd.prog w = .ok x0 w := by kernel_rfl
@[go_sem] theorem index_elem1 (x0 x1 x2 x3 x4 : Value) (w : World) : (Instr.index 35 (.agg #[x0, x1, x2, x3, x4]) (.int .i64 1)).run Tryd.prog w = .ok x1 w := by kernel_rfl
@[go_sem] theorem index_elem2 (x0 x1 x2 x3 x4 : Value) (w : World) : (Instr.index 35 (.agg #[x0, x1, x2, x3, x4]) (.int .i64 2)).run Tryd.prog w = .ok x2 w := by kernel_rfl
@[go_sem] theorem index_elem3 (x0 x1 x2 x3 x4 : Value) (w : World) : (Instr.index 35 (.agg #[x0, x1, x2, x3, x4]) (.int .i64 3)).run Tryd.prog w = .ok x3 w := by kernel_rfl
@[go_sem] theorem index_elem4 (x0 x1 x2 x3 x4 : Value) (w : World) : (Instr.index 35 (.agg #[x0, x1, x2, x3, x4]) (.int .i64 4)).run Tryd.prog w = .ok x4 w := by kernel_rfl

/-- A product more, told by how many there are. -/
theorem wadd_step (n x y j : Nat) (hn : n ≤ j * 649037107316853453566312041152512) (hj : j ≤ 5) (hx : x < 144115188075855872) (hy : y < 4503599627370496) (w : World) :
    Calls Tryd.prog 47 #[wideV n, .int .u64 x, .int .u64 y] w fun e w' => (∃ m, Hid (m = n + x * y ∧ m ≤ (j + 1) * 649037107316853453566312041152512) ∧ e = .returned (wideV m)) ∧ Below w.heap.size w w' := by
  have hp := Nat.mul_le_mul (show x ≤ 144115188075855871 by omega) (show y ≤ 4503599627370495 by omega)
  refine (wadd_any n x y (by omega) (by omega) (by omega) w).mono ?_
  rintro e w' ⟨⟨m, hm, he⟩, hb⟩
  exact ⟨⟨m, ⟨hm, by rw [Nat.add_mul]; omega⟩, he⟩, hb⟩
theorem wadd_first (x y : Nat) (hx : x < 144115188075855872) (hy : y < 4503599627370496) (w : World) :
    Calls Tryd.prog 47 #[.agg #[.int .u64 0, .int .u64 0], .int .u64 x, .int .u64 y] w fun e w' => (∃ m, Hid (m = 0 + x * y ∧ m ≤ 1 * 649037107316853453566312041152512) ∧ e = .returned (wideV m)) ∧ Below w.heap.size w w' := by
  have hp := Nat.mul_le_mul (show x ≤ 144115188075855871 by omega) (show y ≤ 4503599627370495 by omega)
  refine (wadd0_any x y (by omega) (by omega) w).mono ?_
  rintro e w' ⟨⟨m, hm, he⟩, hb⟩
  exact ⟨⟨m, ⟨by omega, by omega⟩, he⟩, hb⟩
theorem above_step (n : Nat) (h : n < 41538374868278621028243970633760768) (w : World) :
    Calls Tryd.prog 48 #[wideV n] w fun e w' => (∃ c, Hid (c = n / 2251799813685248) ∧ e = .returned (.int .u64 (c : Int))) ∧ Below w.heap.size w w' := by
  refine (above_any n h w).mono ?_
  rintro e w' ⟨he, hb⟩
  exact ⟨⟨_, rfl, he⟩, hb⟩
/-- What a round of carrying wants. -/
theorem carry_facts (n c : Nat) (hn : n + c < 41538374868278621028243970633760768) (hc : c < 18446744073709551616) : ∃ m u o : Nat, Hid (m = n + c ∧ o = m % 2251799813685248) ∧
    (∀ w, (callFunc 29 #[.int .u64 (loW n), .int .u64 c, .int .u64 0]).run Tryd.prog w = .ok (.value (.tuple #[.int .u64 (loW m), .int .u64 u])) w) ∧
    w64 ((hiW n : Int) + (u : Int)) = (hiW m : Int) ∧ lo51 (loW m) = (o : Int) := by
  refine ⟨n + c, hiW (loW n + c), (n + c) % 2251799813685248, ⟨rfl, rfl⟩, ?_, ?_, ?_⟩
  · intro w
    have h := wadd_law1 n c w
    rw [loW_of c hc] at h
    exact h
  · have h := hi_add n c
    rw [loW_of c hc, hiW_of c hc, Nat.add_zero] at h
    exact w64_two _ _ _ h (by unfold hiW; omega)
  · rw [lo51_of _ (loW_lt _)]
    unfold loW; omega
theorem carry_first (n : Nat) (hn : n < 41538374868278621028243970633760768) : ∃ o : Nat, Hid (o = n % 2251799813685248) ∧
    (∀ w, (callFunc 29 #[.int .u64 (loW n), .int .u64 0, .int .u64 0]).run Tryd.prog w = .ok (.value (.tuple #[.int .u64 (loW n), .int .u64 0])) w) ∧
    w64 (hiW n : Int) = (hiW n : Int) ∧ lo51 (loW n) = (o : Int) := by
  refine ⟨n % 2251799813685248, rfl, ?_, w64_of _ (by unfold hiW; omega), ?_⟩
  · intro w
    have h := add64_law (loW n) 0 0 (by omega) w
    rw [Nat.add_zero, loW_of _ (loW_lt n), hiW_of _ (loW_lt n)] at h
    exact h
  · rw [lo51_of _ (loW_lt _)]
    unfold loW; omega
theorem mul19 (c : Nat) (hc : c < 18446744073709551616) (w : World) :
    Calls Tryd.prog 45 #[.int .u64 c, .int .u64 19] w fun e w' => (∃ q, Hid (q = c * 19) ∧ e = .returned (.tuple #[.int .u64 (hiW q), .int .u64 (loW q)])) ∧ w = w' :=
  (mul64_any c 19 hc (by omega) w).mono fun e w' ⟨he, hw⟩ => ⟨⟨_, rfl, he⟩, hw⟩


theorem weak_nat (x : Fn) (h : x.lt 18446744073709551616) (w : World) : Calls Tryd.prog 34 #[x.v] w fun e w' => e = .returned (nweak x).v ∧ Below w.heap.size w w' := by
  have h1 := weak_any x.fe w
  rw [rweak_of x h] at h1
  exact h1
theorem reduce_nat (x : Fn) (h : x.lt 18446744073709551616) (w : World) : Calls Tryd.prog 32 #[x.v] w fun e w' => e = .returned (small x.val).v ∧ Below w.heap.size w w' := by
  have h1 := reduce_any x.fe w
  rw [rred_of x h] at h1
  exact h1
theorem sub_nat (x y : Fn) (hx : x.lt 4503599627370496) (hy : y.lt 4503599627370496) (w : World) : Calls Tryd.prog 46 #[x.v, y.v] w fun e w' => e = .returned (nsub x y).v ∧ Below w.heap.size w w' := by
  have h1 := sub_any x.fe y.fe w
  rw [rsub_of x y hx hy] at h1
  exact h1

theorem mul_sum (a0 a1 a2 a3 a4 b0 b1 b2 b3 b4 X P : Int) (h : P = X ^ 5 - 19) :
    (a0 + X*(a1 + X*(a2 + X*(a3 + X*a4)))) * (b0 + X*(b1 + X*(b2 + X*(b3 + X*b4)))) =
     (a0*b0 + 19*(a1*b4 + a2*b3 + a3*b2 + a4*b1)) + X*((a0*b1 + a1*b0 + 19*(a2*b4 + a3*b3 + a4*b2)) + X*((a0*b2 + a1*b1 + a2*b0 + 19*(a3*b4+a4*b3)) + X*((a0*b3+a1*b2+a2*b1+a3*b0 + 19*(a4*b4)) + X*(a0*b4+a1*b3+a2*b2+a3*b1+a4*b0)))) +
     P * ((a1*b4 + a2*b3 + a3*b2 + a4*b1) + X * ((a2*b4 + a3*b3 + a4*b2) + X*((a3*b4+a4*b3) + X * (a4*b4)))) := by
  subst h
  grind

theorem mul_sumN (a0 a1 a2 a3 a4 b0 b1 b2 b3 b4 X P : Nat) (h : P + 19 = X ^ 5) :
    (a0 + X*(a1 + X*(a2 + X*(a3 + X*a4)))) * (b0 + X*(b1 + X*(b2 + X*(b3 + X*b4)))) =
     (a0*b0 + 19*(a1*b4 + a2*b3 + a3*b2 + a4*b1)) + X*((a0*b1 + a1*b0 + 19*(a2*b4 + a3*b3 + a4*b2)) + X*((a0*b2 + a1*b1 + a2*b0 + 19*(a3*b4+a4*b3)) + X*((a0*b3+a1*b2+a2*b1+a3*b0 + 19*(a4*b4)) + X*(a0*b4+a1*b3+a2*b2+a3*b1+a4*b0)))) +
     P * ((a1*b4 + a2*b3 + a3*b2 + a4*b1) + X * ((a2*b4 + a3*b3 + a4*b2) + X*((a3*b4+a4*b3) + X * (a4*b4)))) := by
  have h1 : (P : Int) = (X : Int) ^ 5 - 19 := by
    have h2 : (P : Int) + 19 = (X : Int) ^ 5 := by exact_mod_cast h
    omega
  exact_mod_cast mul_sum a0 a1 a2 a3 a4 b0 b1 b2 b3 b4 X P h1

theorem mul_math (a0 a1 a2 a3 a4 b0 b1 b2 b3 b4 N S : Nat) (c : Nat) (hS : S = (a0*b0 + 19*(a1*b4 + a2*b3 + a3*b2 + a4*b1)) + 2251799813685248*((a0*b1 + a1*b0 + 19*(a2*b4 + a3*b3 + a4*b2)) + 2251799813685248*((a0*b2 + a1*b1 + a2*b0 + 19*(a3*b4+a4*b3)) + 2251799813685248*((a0*b3+a1*b2+a2*b1+a3*b0 + 19*(a4*b4)) + 2251799813685248*(a0*b4+a1*b3+a2*b2+a3*b1+a4*b0)))))
    (hN : S = N + Num.p * c) : N % Num.p = (Fn.val ⟨a0, a1, a2, a3, a4⟩ * Fn.val ⟨b0, b1, b2, b3, b4⟩) % Num.p := by
  have h := mul_sumN a0 a1 a2 a3 a4 b0 b1 b2 b3 b4 2251799813685248 Num.p (by decide)
  have e : Fn.val ⟨a0, a1, a2, a3, a4⟩ * Fn.val ⟨b0, b1, b2, b3, b4⟩ = S + Num.p * ((a1*b4 + a2*b3 + a3*b2 + a4*b1) + 2251799813685248 * ((a2*b4 + a3*b3 + a4*b2) + 2251799813685248*((a3*b4+a4*b3) + 2251799813685248 * (a4*b4)))) := by
    rw [hS]
    exact h
  rw [e, hN, Nat.add_assoc, ← Nat.mul_add, Nat.add_mul_mod_self_left]

set_option maxRecDepth 100000 in
set_option maxHeartbeats 8000000 in
theorem mul_any (x y : Fn) (hx : x.lt 4503599627370496) (hy : y.lt 4503599627370496) (w : World) :
    Calls Tryd.prog 35 #[x.v, y.v] w fun e w' => (∃ r : Fn, r.lt (2251799813685248 + 19) ∧ r.val % Num.p = (x.val * y.val) % Num.p ∧ e = .returned r.v) ∧ Below w.heap.size w w' := by
  obtain ⟨a0, a1, a2, a3, a4⟩ := x
  obtain ⟨b0, b1, b2, b3, b4⟩ := y
  obtain ⟨hx0, hx1, hx2, hx3, hx4⟩ := hx
  obtain ⟨hy0, hy1, hy2, hy3, hy4⟩ := hy
  simp only [Fn.v] at hx0 hx1 hx2 hx3 hx4 hy0 hy1 hy2 hy3 hy4 ⊢
  obtain ⟨z1, hz1, Z1⟩ : ∃ z : Nat, z = 19 * a1 ∧ w64 (19 * (a1 : Int)) = (z : Int) := ⟨_, rfl, by rw [w64_nat]; omega⟩
  have hzb1 : z1 < 144115188075855872 := by omega
  have HZ1 := Lib.hid hz1
  clear hz1
  obtain ⟨z2, hz2, Z2⟩ : ∃ z : Nat, z = 19 * a2 ∧ w64 (19 * (a2 : Int)) = (z : Int) := ⟨_, rfl, by rw [w64_nat]; omega⟩
  have hzb2 : z2 < 144115188075855872 := by omega
  have HZ2 := Lib.hid hz2
  clear hz2
  obtain ⟨z3, hz3, Z3⟩ : ∃ z : Nat, z = 19 * a3 ∧ w64 (19 * (a3 : Int)) = (z : Int) := ⟨_, rfl, by rw [w64_nat]; omega⟩
  have hzb3 : z3 < 144115188075855872 := by omega
  have HZ3 := Lib.hid hz3
  clear hz3
  obtain ⟨z4, hz4, Z4⟩ : ∃ z : Nat, z = 19 * a4 ∧ w64 (19 * (a4 : Int)) = (z : Int) := ⟨_, rfl, by rw [w64_nat]; omega⟩
  have hzb4 : z4 < 144115188075855872 := by omega
  have HZ4 := Lib.hid hz4
  clear hz4
  have HX0 := Lib.hid (show a0 < 144115188075855872 by omega)
  have HY0 := Lib.hid hy0
  have HX1 := Lib.hid (show a1 < 144115188075855872 by omega)
  have HY1 := Lib.hid hy1
  have HX2 := Lib.hid (show a2 < 144115188075855872 by omega)
  have HY2 := Lib.hid hy2
  have HX3 := Lib.hid (show a3 < 144115188075855872 by omega)
  have HY3 := Lib.hid hy3
  have HX4 := Lib.hid (show a4 < 144115188075855872 by omega)
  have HY4 := Lib.hid hy4
  have HW1 := Lib.hid hzb1
  have HW2 := Lib.hid hzb2
  have HW3 := Lib.hid hzb3
  have HW4 := Lib.hid hzb4
  clear hx0 hx1 hx2 hx3 hx4 hy0 hy1 hy2 hy3 hy4 hzb1 hzb2 hzb3 hzb4
  go_enter Tryd.func35, Tryd.ntmps35
  go_wp2_with fail
  refine wp_loop_rounds 6 ?_
  rw [rounds_succ]
  go_wp2_with fail
  refine wp_loop_rounds 6 ?_
  rw [rounds_succ]
  go_wp2_with fail
  refine (wadd_first a0 b0 HX0.out HY0.out _).mono ?_
  rintro e y1 ⟨⟨m0, Hm0, rfl⟩, hb1⟩
  obtain ⟨x1, rfl, hc1, hz1, l10, l11, l12⟩ := keep3 (b0 := w.heap.size + 1) (b1 := w.heap.size + 2) (b2 := w.heap.size + 3) hb1 rfl (by (repeat (first | with_reducible exact pin_at (by assumption) | (with_reducible apply pin_at; (first | omega | (simp only [World.size_alloc, pin_size, World.size_drew, World.size_setCell] <;> omega))) | (with_reducible apply alloc_at; first | rfl | (simp only [World.size_alloc, pin_size, World.size_drew, World.size_setCell] <;> omega)) | with_reducible apply past_pin | with_reducible apply past_alloc | with_reducible apply past_drew)); all_goals (first | omega | (simp only [World.size_alloc, pin_size, World.size_drew, World.size_setCell] <;> omega))) (by (repeat (first | with_reducible exact pin_at (by assumption) | (with_reducible apply pin_at; (first | omega | (simp only [World.size_alloc, pin_size, World.size_drew, World.size_setCell] <;> omega))) | (with_reducible apply alloc_at; first | rfl | (simp only [World.size_alloc, pin_size, World.size_drew, World.size_setCell] <;> omega)) | with_reducible apply past_pin | with_reducible apply past_alloc | with_reducible apply past_drew)); all_goals (first | omega | (simp only [World.size_alloc, pin_size, World.size_drew, World.size_setCell] <;> omega))) (by (repeat (first | with_reducible exact pin_at (by assumption) | (with_reducible apply pin_at; (first | omega | (simp only [World.size_alloc, pin_size, World.size_drew, World.size_setCell] <;> omega))) | (with_reducible apply alloc_at; first | rfl | (simp only [World.size_alloc, pin_size, World.size_drew, World.size_setCell] <;> omega)) | with_reducible apply past_pin | with_reducible apply past_alloc | with_reducible apply past_drew)); all_goals (first | omega | (simp only [World.size_alloc, pin_size, World.size_drew, World.size_setCell] <;> omega)))
  have HB1 : Hid (Below w.heap.size w x1) := Below.trans (by (repeat (first | with_reducible exact (Below.refl _ _) | with_reducible refine below_pin ?_ ?_ | with_reducible refine Below.alloc ?_ ?_ _ | with_reducible refine Below.setCell ?_ ?_ _ | with_reducible refine Below.drew ?_)); all_goals (first | omega | (simp only [World.size_alloc, pin_size, World.size_drew, World.size_setCell] <;> omega))) (hc1.mono (by (first | omega | (simp only [World.size_alloc, pin_size, World.size_drew, World.size_setCell] <;> omega))))
  clear hb1 hc1
  try simp only [World.size_alloc, pin_size, World.size_drew, World.size_setCell] at hz1
  go_wp2_with fail
  rw [rounds_succ]
  go_wp2_with fail
  refine (wadd_first a0 b1 HX0.out HY1.out _).mono ?_
  rintro e y2 ⟨⟨m1, Hm1, rfl⟩, hb2⟩
  obtain ⟨x2, rfl, hc2, hz2, l20, l21, l22⟩ := keep3 (b0 := w.heap.size + 1) (b1 := w.heap.size + 2) (b2 := w.heap.size + 3) hb2 rfl (by (repeat (first | with_reducible exact pin_at (by assumption) | (with_reducible apply pin_at; (first | omega | (simp only [World.size_alloc, pin_size, World.size_drew, World.size_setCell] <;> omega))) | (with_reducible apply alloc_at; first | rfl | (simp only [World.size_alloc, pin_size, World.size_drew, World.size_setCell] <;> omega)) | with_reducible apply past_pin | with_reducible apply past_alloc | with_reducible apply past_drew)); all_goals (first | omega | (simp only [World.size_alloc, pin_size, World.size_drew, World.size_setCell] <;> omega))) (by (repeat (first | with_reducible exact pin_at (by assumption) | (with_reducible apply pin_at; (first | omega | (simp only [World.size_alloc, pin_size, World.size_drew, World.size_setCell] <;> omega))) | (with_reducible apply alloc_at; first | rfl | (simp only [World.size_alloc, pin_size, World.size_drew, World.size_setCell] <;> omega)) | with_reducible apply past_pin | with_reducible apply past_alloc | with_reducible apply past_drew)); all_goals (first | omega | (simp only [World.size_alloc, pin_size, World.size_drew, World.size_setCell] <;> omega))) (by (repeat (first | with_reducible exact pin_at (by assumption) | (with_reducible apply pin_at; (first | omega | (simp only [World.size_alloc, pin_size, World.size_drew, World.size_setCell] <;> omega))) | (with_reducible apply alloc_at; first | rfl | (simp only [World.size_alloc, pin_size, World.size_drew, World.size_setCell] <;> omega)) | with_reducible apply past_pin | with_reducible apply past_alloc | with_reducible apply past_drew)); all_goals (first | omega | (simp only [World.size_alloc, pin_size, World.size_drew, World.size_setCell] <;> omega)))
  have HB2 : Hid (Below w.heap.size w x2) := Below.trans (by (repeat (first | with_reducible exact HB1.out | with_reducible refine below_pin ?_ ?_ | with_reducible refine Below.alloc ?_ ?_ _ | with_reducible refine Below.setCell ?_ ?_ _ | with_reducible refine Below.drew ?_)); all_goals (first | omega | (simp only [World.size_alloc, pin_size, World.size_drew, World.size_setCell] <;> omega))) (hc2.mono (by (first | omega | (simp only [World.size_alloc, pin_size, World.size_drew, World.size_setCell] <;> omega))))
  clear hb2 hc2
  try simp only [World.size_alloc, pin_size, World.size_drew, World.size_setCell] at hz2
  go_wp2_with fail
  rw [rounds_succ]
  go_wp2_with fail
  refine (wadd_first a0 b2 HX0.out HY2.out _).mono ?_
  rintro e y3 ⟨⟨m2, Hm2, rfl⟩, hb3⟩
  obtain ⟨x3, rfl, hc3, hz3, l30, l31, l32⟩ := keep3 (b0 := w.heap.size + 1) (b1 := w.heap.size + 2) (b2 := w.heap.size + 3) hb3 rfl (by (repeat (first | with_reducible exact pin_at (by assumption) | (with_reducible apply pin_at; (first | omega | (simp only [World.size_alloc, pin_size, World.size_drew, World.size_setCell] <;> omega))) | (with_reducible apply alloc_at; first | rfl | (simp only [World.size_alloc, pin_size, World.size_drew, World.size_setCell] <;> omega)) | with_reducible apply past_pin | with_reducible apply past_alloc | with_reducible apply past_drew)); all_goals (first | omega | (simp only [World.size_alloc, pin_size, World.size_drew, World.size_setCell] <;> omega))) (by (repeat (first | with_reducible exact pin_at (by assumption) | (with_reducible apply pin_at; (first | omega | (simp only [World.size_alloc, pin_size, World.size_drew, World.size_setCell] <;> omega))) | (with_reducible apply alloc_at; first | rfl | (simp only [World.size_alloc, pin_size, World.size_drew, World.size_setCell] <;> omega)) | with_reducible apply past_pin | with_reducible apply past_alloc | with_reducible apply past_drew)); all_goals (first | omega | (simp only [World.size_alloc, pin_size, World.size_drew, World.size_setCell] <;> omega))) (by (repeat (first | with_reducible exact pin_at (by assumption) | (with_reducible apply pin_at; (first | omega | (simp only [World.size_alloc, pin_size, World.size_drew, World.size_setCell] <;> omega))) | (with_reducible apply alloc_at; first | rfl | (simp only [World.size_alloc, pin_size, World.size_drew, World.size_setCell] <;> omega)) | with_reducible apply past_pin | with_reducible apply past_alloc | with_reducible apply past_drew)); all_goals (first | omega | (simp only [World.size_alloc, pin_size, World.size_drew, World.size_setCell] <;> omega)))
  have HB3 : Hid (Below w.heap.size w x3) := Below.trans (by (repeat (first | with_reducible exact HB2.out | with_reducible refine below_pin ?_ ?_ | with_reducible refine Below.alloc ?_ ?_ _ | with_reducible refine Below.setCell ?_ ?_ _ | with_reducible refine Below.drew ?_)); all_goals (first | omega | (simp only [World.size_alloc, pin_size, World.size_drew, World.size_setCell] <;> omega))) (hc3.mono (by (first | omega | (simp only [World.size_alloc, pin_size, World.size_drew, World.size_setCell] <;> omega))))
  clear hb3 hc3
  try simp only [World.size_alloc, pin_size, World.size_drew, World.size_setCell] at hz3
  go_wp2_with fail
  rw [rounds_succ]
  go_wp2_with fail
  refine (wadd_first a0 b3 HX0.out HY3.out _).mono ?_
  rintro e y4 ⟨⟨m3, Hm3, rfl⟩, hb4⟩
  obtain ⟨x4, rfl, hc4, hz4, l40, l41, l42⟩ := keep3 (b0 := w.heap.size + 1) (b1 := w.heap.size + 2) (b2 := w.heap.size + 3) hb4 rfl (by (repeat (first | with_reducible exact pin_at (by assumption) | (with_reducible apply pin_at; (first | omega | (simp only [World.size_alloc, pin_size, World.size_drew, World.size_setCell] <;> omega))) | (with_reducible apply alloc_at; first | rfl | (simp only [World.size_alloc, pin_size, World.size_drew, World.size_setCell] <;> omega)) | with_reducible apply past_pin | with_reducible apply past_alloc | with_reducible apply past_drew)); all_goals (first | omega | (simp only [World.size_alloc, pin_size, World.size_drew, World.size_setCell] <;> omega))) (by (repeat (first | with_reducible exact pin_at (by assumption) | (with_reducible apply pin_at; (first | omega | (simp only [World.size_alloc, pin_size, World.size_drew, World.size_setCell] <;> omega))) | (with_reducible apply alloc_at; first | rfl | (simp only [World.size_alloc, pin_size, World.size_drew, World.size_setCell] <;> omega)) | with_reducible apply past_pin | with_reducible apply past_alloc | with_reducible apply past_drew)); all_goals (first | omega | (simp only [World.size_alloc, pin_size, World.size_drew, World.size_setCell] <;> omega))) (by (repeat (first | with_reducible exact pin_at (by assumption) | (with_reducible apply pin_at; (first | omega | (simp only [World.size_alloc, pin_size, World.size_drew, World.size_setCell] <;> omega))) | (with_reducible apply alloc_at; first | rfl | (simp only [World.size_alloc, pin_size, World.size_drew, World.size_setCell] <;> omega)) | with_reducible apply past_pin | with_reducible apply past_alloc | with_reducible apply past_drew)); all_goals (first | omega | (simp only [World.size_alloc, pin_size, World.size_drew, World.size_setCell] <;> omega)))
  have HB4 : Hid (Below w.heap.size w x4) := Below.trans (by (repeat (first | with_reducible exact HB3.out | with_reducible refine below_pin ?_ ?_ | with_reducible refine Below.alloc ?_ ?_ _ | with_reducible refine Below.setCell ?_ ?_ _ | with_reducible refine Below.drew ?_)); all_goals (first | omega | (simp only [World.size_alloc, pin_size, World.size_drew, World.size_setCell] <;> omega))) (hc4.mono (by (first | omega | (simp only [World.size_alloc, pin_size, World.size_drew, World.size_setCell] <;> omega))))
  clear hb4 hc4
  try simp only [World.size_alloc, pin_size, World.size_drew, World.size_setCell] at hz4
  go_wp2_with fail
  rw [rounds_succ]
  go_wp2_with fail
  refine (wadd_first a0 b4 HX0.out HY4.out _).mono ?_
  rintro e y5 ⟨⟨m4, Hm4, rfl⟩, hb5⟩
  obtain ⟨x5, rfl, hc5, hz5, l50, l51, l52⟩ := keep3 (b0 := w.heap.size + 1) (b1 := w.heap.size + 2) (b2 := w.heap.size + 3) hb5 rfl (by (repeat (first | with_reducible exact pin_at (by assumption) | (with_reducible apply pin_at; (first | omega | (simp only [World.size_alloc, pin_size, World.size_drew, World.size_setCell] <;> omega))) | (with_reducible apply alloc_at; first | rfl | (simp only [World.size_alloc, pin_size, World.size_drew, World.size_setCell] <;> omega)) | with_reducible apply past_pin | with_reducible apply past_alloc | with_reducible apply past_drew)); all_goals (first | omega | (simp only [World.size_alloc, pin_size, World.size_drew, World.size_setCell] <;> omega))) (by (repeat (first | with_reducible exact pin_at (by assumption) | (with_reducible apply pin_at; (first | omega | (simp only [World.size_alloc, pin_size, World.size_drew, World.size_setCell] <;> omega))) | (with_reducible apply alloc_at; first | rfl | (simp only [World.size_alloc, pin_size, World.size_drew, World.size_setCell] <;> omega)) | with_reducible apply past_pin | with_reducible apply past_alloc | with_reducible apply past_drew)); all_goals (first | omega | (simp only [World.size_alloc, pin_size, World.size_drew, World.size_setCell] <;> omega))) (by (repeat (first | with_reducible exact pin_at (by assumption) | (with_reducible apply pin_at; (first | omega | (simp only [World.size_alloc, pin_size, World.size_drew, World.size_setCell] <;> omega))) | (with_reducible apply alloc_at; first | rfl | (simp only [World.size_alloc, pin_size, World.size_drew, World.size_setCell] <;> omega)) | with_reducible apply past_pin | with_reducible apply past_alloc | with_reducible apply past_drew)); all_goals (first | omega | (simp only [World.size_alloc, pin_size, World.size_drew, World.size_setCell] <;> omega)))
  have HB5 : Hid (Below w.heap.size w x5) := Below.trans (by (repeat (first | with_reducible exact HB4.out | with_reducible refine below_pin ?_ ?_ | with_reducible refine Below.alloc ?_ ?_ _ | with_reducible refine Below.setCell ?_ ?_ _ | with_reducible refine Below.drew ?_)); all_goals (first | omega | (simp only [World.size_alloc, pin_size, World.size_drew, World.size_setCell] <;> omega))) (hc5.mono (by (first | omega | (simp only [World.size_alloc, pin_size, World.size_drew, World.size_setCell] <;> omega))))
  clear hb5 hc5
  try simp only [World.size_alloc, pin_size, World.size_drew, World.size_setCell] at hz5
  go_wp2_with fail
  rw [rounds_succ]
  go_wp2_with fail
  rw [rounds_succ]
  go_wp2_with fail
  refine wp_loop_rounds 6 ?_
  rw [rounds_succ]
  go_wp2_with fail
  refine (wadd_step m1 a1 b0 1 Hm1.out.2 (by decide) HX1.out HY0.out _).mono ?_
  rintro e y6 ⟨⟨m5, Hm5, rfl⟩, hb6⟩
  obtain ⟨x6, rfl, hc6, hz6, l60, l61, l62⟩ := keep3 (b0 := w.heap.size + 1) (b1 := w.heap.size + 2) (b2 := w.heap.size + 3) hb6 rfl (by (repeat (first | with_reducible exact pin_at (by assumption) | (with_reducible apply pin_at; (first | omega | (simp only [World.size_alloc, pin_size, World.size_drew, World.size_setCell] <;> omega))) | (with_reducible apply alloc_at; first | rfl | (simp only [World.size_alloc, pin_size, World.size_drew, World.size_setCell] <;> omega)) | with_reducible apply past_pin | with_reducible apply past_alloc | with_reducible apply past_drew)); all_goals (first | omega | (simp only [World.size_alloc, pin_size, World.size_drew, World.size_setCell] <;> omega))) (by (repeat (first | with_reducible exact pin_at (by assumption) | (with_reducible apply pin_at; (first | omega | (simp only [World.size_alloc, pin_size, World.size_drew, World.size_setCell] <;> omega))) | (with_reducible apply alloc_at; first | rfl | (simp only [World.size_alloc, pin_size, World.size_drew, World.size_setCell] <;> omega)) | with_reducible apply past_pin | with_reducible apply past_alloc | with_reducible apply past_drew)); all_goals (first | omega | (simp only [World.size_alloc, pin_size, World.size_drew, World.size_setCell] <;> omega))) (by (repeat (first | with_reducible exact pin_at (by assumption) | (with_reducible apply pin_at; (first | omega | (simp only [World.size_alloc, pin_size, World.size_drew, World.size_setCell] <;> omega))) | (with_reducible apply alloc_at; first | rfl | (simp only [World.size_alloc, pin_size, World.size_drew, World.size_setCell] <;> omega)) | with_reducible apply past_pin | with_reducible apply past_alloc | with_reducible apply past_drew)); all_goals (first | omega | (simp only [World.size_alloc, pin_size, World.size_drew, World.size_setCell] <;> omega)))
  have HB6 : Hid (Below w.heap.size w x6) := Below.trans (by (repeat (first | with_reducible exact HB5.out | with_reducible refine below_pin ?_ ?_ | with_reducible refine Below.alloc ?_ ?_ _ | with_reducible refine Below.setCell ?_ ?_ _ | with_reducible refine Below.drew ?_)); all_goals (first | omega | (simp only [World.size_alloc, pin_size, World.size_drew, World.size_setCell] <;> omega))) (hc6.mono (by (first | omega | (simp only [World.size_alloc, pin_size, World.size_drew, World.size_setCell] <;> omega))))
  clear hb6 hc6
  try simp only [World.size_alloc, pin_size, World.size_drew, World.size_setCell] at hz6
  go_wp2_with fail
  rw [rounds_succ]
  go_wp2_with fail
  refine (wadd_step m2 a1 b1 1 Hm2.out.2 (by decide) HX1.out HY1.out _).mono ?_
  rintro e y7 ⟨⟨m6, Hm6, rfl⟩, hb7⟩
  obtain ⟨x7, rfl, hc7, hz7, l70, l71, l72⟩ := keep3 (b0 := w.heap.size + 1) (b1 := w.heap.size + 2) (b2 := w.heap.size + 3) hb7 rfl (by (repeat (first | with_reducible exact pin_at (by assumption) | (with_reducible apply pin_at; (first | omega | (simp only [World.size_alloc, pin_size, World.size_drew, World.size_setCell] <;> omega))) | (with_reducible apply alloc_at; first | rfl | (simp only [World.size_alloc, pin_size, World.size_drew, World.size_setCell] <;> omega)) | with_reducible apply past_pin | with_reducible apply past_alloc | with_reducible apply past_drew)); all_goals (first | omega | (simp only [World.size_alloc, pin_size, World.size_drew, World.size_setCell] <;> omega))) (by (repeat (first | with_reducible exact pin_at (by assumption) | (with_reducible apply pin_at; (first | omega | (simp only [World.size_alloc, pin_size, World.size_drew, World.size_setCell] <;> omega))) | (with_reducible apply alloc_at; first | rfl | (simp only [World.size_alloc, pin_size, World.size_drew, World.size_setCell] <;> omega)) | with_reducible apply past_pin | with_reducible apply past_alloc | with_reducible apply past_drew)); all_goals (first | omega | (simp only [World.size_alloc, pin_size, World.size_drew, World.size_setCell] <;> omega))) (by (repeat (first | with_reducible exact pin_at (by assumption) | (with_reducible apply pin_at; (first | omega | (simp only [World.size_alloc, pin_size, World.size_drew, World.size_setCell] <;> omega))) | (with_reducible apply alloc_at; first | rfl | (simp only [World.size_alloc, pin_size, World.size_drew, World.size_setCell] <;> omega)) | with_reducible apply past_pin | with_reducible apply past_alloc | with_reducible apply past_drew)); all_goals (first | omega | (simp only [World.size_alloc, pin_size, World.size_drew, World.size_setCell] <;> omega)))
  have HB7 : Hid (Below w.heap.size w x7) := Below.trans (by (repeat (first | with_reducible exact HB6.out | with_reducible refine below_pin ?_ ?_ | with_reducible refine Below.alloc ?_ ?_ _ | with_reducible refine Below.setCell ?_ ?_ _ | with_reducible refine Below.drew ?_)); all_goals (first | omega | (simp only [World.size_alloc, pin_size, World.size_drew, World.size_setCell] <;> omega))) (hc7.mono (by (first | omega | (simp only [World.size_alloc, pin_size, World.size_drew, World.size_setCell] <;> omega))))
  clear hb7 hc7
  try simp only [World.size_alloc, pin_size, World.size_drew, World.size_setCell] at hz7
  go_wp2_with fail
  rw [rounds_succ]
  go_wp2_with fail
  refine (wadd_step m3 a1 b2 1 Hm3.out.2 (by decide) HX1.out HY2.out _).mono ?_
  rintro e y8 ⟨⟨m7, Hm7, rfl⟩, hb8⟩
  obtain ⟨x8, rfl, hc8, hz8, l80, l81, l82⟩ := keep3 (b0 := w.heap.size + 1) (b1 := w.heap.size + 2) (b2 := w.heap.size + 3) hb8 rfl (by (repeat (first | with_reducible exact pin_at (by assumption) | (with_reducible apply pin_at; (first | omega | (simp only [World.size_alloc, pin_size, World.size_drew, World.size_setCell] <;> omega))) | (with_reducible apply alloc_at; first | rfl | (simp only [World.size_alloc, pin_size, World.size_drew, World.size_setCell] <;> omega)) | with_reducible apply past_pin | with_reducible apply past_alloc | with_reducible apply past_drew)); all_goals (first | omega | (simp only [World.size_alloc, pin_size, World.size_drew, World.size_setCell] <;> omega))) (by (repeat (first | with_reducible exact pin_at (by assumption) | (with_reducible apply pin_at; (first | omega | (simp only [World.size_alloc, pin_size, World.size_drew, World.size_setCell] <;> omega))) | (with_reducible apply alloc_at; first | rfl | (simp only [World.size_alloc, pin_size, World.size_drew, World.size_setCell] <;> omega)) | with_reducible apply past_pin | with_reducible apply past_alloc | with_reducible apply past_drew)); all_goals (first | omega | (simp only [World.size_alloc, pin_size, World.size_drew, World.size_setCell] <;> omega))) (by (repeat (first | with_reducible exact pin_at (by assumption) | (with_reducible apply pin_at; (first | omega | (simp only [World.size_alloc, pin_size, World.size_drew, World.size_setCell] <;> omega))) | (with_reducible apply alloc_at; first | rfl | (simp only [World.size_alloc, pin_size, World.size_drew, World.size_setCell] <;> omega)) | with_reducible apply past_pin | with_reducible apply past_alloc | with_reducible apply past_drew)); all_goals (first | omega | (simp only [World.size_alloc, pin_size, World.size_drew, World.size_setCell] <;> omega)))
  have HB8 : Hid (Below w.heap.size w x8) := Below.trans (by (repeat (first | with_reducible exact HB7.out | with_reducible refine below_pin ?_ ?_ | with_reducible refine Below.alloc ?_ ?_ _ | with_reducible refine Below.setCell ?_ ?_ _ | with_reducible refine Below.drew ?_)); all_goals (first | omega | (simp only [World.size_alloc, pin_size, World.size_drew, World.size_setCell] <;> omega))) (hc8.mono (by (first | omega | (simp only [World.size_alloc, pin_size, World.size_drew, World.size_setCell] <;> omega))))
  clear hb8 hc8
  try simp only [World.size_alloc, pin_size, World.size_drew, World.size_setCell] at hz8
  go_wp2_with fail
  rw [rounds_succ]
  go_wp2_with fail
  refine (wadd_step m4 a1 b3 1 Hm4.out.2 (by decide) HX1.out HY3.out _).mono ?_
  rintro e y9 ⟨⟨m8, Hm8, rfl⟩, hb9⟩
  obtain ⟨x9, rfl, hc9, hz9, l90, l91, l92⟩ := keep3 (b0 := w.heap.size + 1) (b1 := w.heap.size + 2) (b2 := w.heap.size + 3) hb9 rfl (by (repeat (first | with_reducible exact pin_at (by assumption) | (with_reducible apply pin_at; (first | omega | (simp only [World.size_alloc, pin_size, World.size_drew, World.size_setCell] <;> omega))) | (with_reducible apply alloc_at; first | rfl | (simp only [World.size_alloc, pin_size, World.size_drew, World.size_setCell] <;> omega)) | with_reducible apply past_pin | with_reducible apply past_alloc | with_reducible apply past_drew)); all_goals (first | omega | (simp only [World.size_alloc, pin_size, World.size_drew, World.size_setCell] <;> omega))) (by (repeat (first | with_reducible exact pin_at (by assumption) | (with_reducible apply pin_at; (first | omega | (simp only [World.size_alloc, pin_size, World.size_drew, World.size_setCell] <;> omega))) | (with_reducible apply alloc_at; first | rfl | (simp only [World.size_alloc, pin_size, World.size_drew, World.size_setCell] <;> omega)) | with_reducible apply past_pin | with_reducible apply past_alloc | with_reducible apply past_drew)); all_goals (first | omega | (simp only [World.size_alloc, pin_size, World.size_drew, World.size_setCell] <;> omega))) (by (repeat (first | with_reducible exact pin_at (by assumption) | (with_reducible apply pin_at; (first | omega | (simp only [World.size_alloc, pin_size, World.size_drew, World.size_setCell] <;> omega))) | (with_reducible apply alloc_at; first | rfl | (simp only [World.size_alloc, pin_size, World.size_drew, World.size_setCell] <;> omega)) | with_reducible apply past_pin | with_reducible apply past_alloc | with_reducible apply past_drew)); all_goals (first | omega | (simp only [World.size_alloc, pin_size, World.size_drew, World.size_setCell] <;> omega)))
  have HB9 : Hid (Below w.heap.size w x9) := Below.trans (by (repeat (first | with_reducible exact HB8.out | with_reducible refine below_pin ?_ ?_ | with_reducible refine Below.alloc ?_ ?_ _ | with_reducible refine Below.setCell ?_ ?_ _ | with_reducible refine Below.drew ?_)); all_goals (first | omega | (simp only [World.size_alloc, pin_size, World.size_drew, World.size_setCell] <;> omega))) (hc9.mono (by (first | omega | (simp only [World.size_alloc, pin_size, World.size_drew, World.size_setCell] <;> omega))))
  clear hb9 hc9
  try simp only [World.size_alloc, pin_size, World.size_drew, World.size_setCell] at hz9
  go_wp2_with fail
  rw [rounds_succ]
  go_wp2_with fail
  refine (wadd_step m0 z1 b4 1 Hm0.out.2 (by decide) HW1.out HY4.out _).mono ?_
  rintro e y10 ⟨⟨m9, Hm9, rfl⟩, hb10⟩
  obtain ⟨x10, rfl, hc10, hz10, l100, l101, l102⟩ := keep3 (b0 := w.heap.size + 1) (b1 := w.heap.size + 2) (b2 := w.heap.size + 3) hb10 rfl (by (repeat (first | with_reducible exact pin_at (by assumption) | (with_reducible apply pin_at; (first | omega | (simp only [World.size_alloc, pin_size, World.size_drew, World.size_setCell] <;> omega))) | (with_reducible apply alloc_at; first | rfl | (simp only [World.size_alloc, pin_size, World.size_drew, World.size_setCell] <;> omega)) | with_reducible apply past_pin | with_reducible apply past_alloc | with_reducible apply past_drew)); all_goals (first | omega | (simp only [World.size_alloc, pin_size, World.size_drew, World.size_setCell] <;> omega))) (by (repeat (first | with_reducible exact pin_at (by assumption) | (with_reducible apply pin_at; (first | omega | (simp only [World.size_alloc, pin_size, World.size_drew, World.size_setCell] <;> omega))) | (with_reducible apply alloc_at; first | rfl | (simp only [World.size_alloc, pin_size, World.size_drew, World.size_setCell] <;> omega)) | with_reducible apply past_pin | with_reducible apply past_alloc | with_reducible apply past_drew)); all_goals (first | omega | (simp only [World.size_alloc, pin_size, World.size_drew, World.size_setCell] <;> omega))) (by (repeat (first | with_reducible exact pin_at (by assumption) | (with_reducible apply pin_at; (first | omega | (simp only [World.size_alloc, pin_size, World.size_drew, World.size_setCell] <;> omega))) | (with_reducible apply alloc_at; first | rfl | (simp only [World.size_alloc, pin_size, World.size_drew, World.size_setCell] <;> omega)) | with_reducible apply past_pin | with_reducible apply past_alloc | with_reducible apply past_drew)); all_goals (first | omega | (simp only [World.size_alloc, pin_size, World.size_drew, World.size_setCell] <;> omega)))
  have HB10 : Hid (Below w.heap.size w x10) := Below.trans (by (repeat (first | with_reducible exact HB9.out | with_reducible refine below_pin ?_ ?_ | with_reducible refine Below.alloc ?_ ?_ _ | with_reducible refine Below.setCell ?_ ?_ _ | with_reducible refine Below.drew ?_)); all_goals (first | omega | (simp only [World.size_alloc, pin_size, World.size_drew, World.size_setCell] <;> omega))) (hc10.mono (by (first | omega | (simp only [World.size_alloc, pin_size, World.size_drew, World.size_setCell] <;> omega))))
  clear hb10 hc10
  try simp only [World.size_alloc, pin_size, World.size_drew, World.size_setCell] at hz10
  go_wp2_with fail
  rw [rounds_succ]
  go_wp2_with fail
  rw [rounds_succ]
  go_wp2_with fail
  refine wp_loop_rounds 6 ?_
  rw [rounds_succ]
  go_wp2_with fail
  refine (wadd_step m6 a2 b0 2 Hm6.out.2 (by decide) HX2.out HY0.out _).mono ?_
  rintro e y11 ⟨⟨m10, Hm10, rfl⟩, hb11⟩
  obtain ⟨x11, rfl, hc11, hz11, l110, l111, l112⟩ := keep3 (b0 := w.heap.size + 1) (b1 := w.heap.size + 2) (b2 := w.heap.size + 3) hb11 rfl (by (repeat (first | with_reducible exact pin_at (by assumption) | (with_reducible apply pin_at; (first | omega | (simp only [World.size_alloc, pin_size, World.size_drew, World.size_setCell] <;> omega))) | (with_reducible apply alloc_at; first | rfl | (simp only [World.size_alloc, pin_size, World.size_drew, World.size_setCell] <;> omega)) | with_reducible apply past_pin | with_reducible apply past_alloc | with_reducible apply past_drew)); all_goals (first | omega | (simp only [World.size_alloc, pin_size, World.size_drew, World.size_setCell] <;> omega))) (by (repeat (first | with_reducible exact pin_at (by assumption) | (with_reducible apply pin_at; (first | omega | (simp only [World.size_alloc, pin_size, World.size_drew, World.size_setCell] <;> omega))) | (with_reducible apply alloc_at; first | rfl | (simp only [World.size_alloc, pin_size, World.size_drew, World.size_setCell] <;> omega)) | with_reducible apply past_pin | with_reducible apply past_alloc | with_reducible apply past_drew)); all_goals (first | omega | (simp only [World.size_alloc, pin_size, World.size_drew, World.size_setCell] <;> omega))) (by (repeat (first | with_reducible exact pin_at (by assumption) | (with_reducible apply pin_at; (first | omega | (simp only [World.size_alloc, pin_size, World.size_drew, World.size_setCell] <;> omega))) | (with_reducible apply alloc_at; first | rfl | (simp only [World.size_alloc, pin_size, World.size_drew, World.size_setCell] <;> omega)) | with_reducible apply past_pin | with_reducible apply past_alloc | with_reducible apply past_drew)); all_goals (first | omega | (simp only [World.size_alloc, pin_size, World.size_drew, World.size_setCell] <;> omega)))
  have HB11 : Hid (Below w.heap.size w x11) := Below.trans (by (repeat (first | with_reducible exact HB10.out | with_reducible refine below_pin ?_ ?_ | with_reducible refine Below.alloc ?_ ?_ _ | with_reducible refine Below.setCell ?_ ?_ _ | with_reducible refine Below.drew ?_)); all_goals (first | omega | (simp only [World.size_alloc, pin_size, World.size_drew, World.size_setCell] <;> omega))) (hc11.mono (by (first | omega | (simp only [World.size_alloc, pin_size, World.size_drew, World.size_setCell] <;> omega))))
  clear hb11 hc11
  try simp only [World.size_alloc, pin_size, World.size_drew, World.size_setCell] at hz11
  go_wp2_with fail
  rw [rounds_succ]
  go_wp2_with fail
  refine (wadd_step m7 a2 b1 2 Hm7.out.2 (by decide) HX2.out HY1.out _).mono ?_
  rintro e y12 ⟨⟨m11, Hm11, rfl⟩, hb12⟩
  obtain ⟨x12, rfl, hc12, hz12, l120, l121, l122⟩ := keep3 (b0 := w.heap.size + 1) (b1 := w.heap.size + 2) (b2 := w.heap.size + 3) hb12 rfl (by (repeat (first | with_reducible exact pin_at (by assumption) | (with_reducible apply pin_at; (first | omega | (simp only [World.size_alloc, pin_size, World.size_drew, World.size_setCell] <;> omega))) | (with_reducible apply alloc_at; first | rfl | (simp only [World.size_alloc, pin_size, World.size_drew, World.size_setCell] <;> omega)) | with_reducible apply past_pin | with_reducible apply past_alloc | with_reducible apply past_drew)); all_goals (first | omega | (simp only [World.size_alloc, pin_size, World.size_drew, World.size_setCell] <;> omega))) (by (repeat (first | with_reducible exact pin_at (by assumption) | (with_reducible apply pin_at; (first | omega | (simp only [World.size_alloc, pin_size, World.size_drew, World.size_setCell] <;> omega))) | (with_reducible apply alloc_at; first | rfl | (simp only [World.size_alloc, pin_size, World.size_drew, World.size_setCell] <;> omega)) | with_reducible apply past_pin | with_reducible apply past_alloc | with_reducible apply past_drew)); all_goals (first | omega | (simp only [World.size_alloc, pin_size, World.size_drew, World.size_setCell] <;> omega))) (by (repeat (first | with_reducible exact pin_at (by assumption) | (with_reducible apply pin_at; (first | omega | (simp only [World.size_alloc, pin_size, World.size_drew, World.size_setCell] <;> omega))) | (with_reducible apply alloc_at; first | rfl | (simp only [World.size_alloc, pin_size, World.size_drew, World.size_setCell] <;> omega)) | with_reducible apply past_pin | with_reducible apply past_alloc | with_reducible apply past_drew)); all_goals (first | omega | (simp only [World.size_alloc, pin_size, World.size_drew, World.size_setCell] <;> omega)))
  have HB12 : Hid (Below w.heap.size w x12) := Below.trans (by (repeat (first | with_reducible exact HB11.out | with_reducible refine below_pin ?_ ?_ | with_reducible refine Below.alloc ?_ ?_ _ | with_reducible refine Below.setCell ?_ ?_ _ | with_reducible refine Below.drew ?_)); all_goals (first | omega | (simp only [World.size_alloc, pin_size, World.size_drew, World.size_setCell] <;> omega))) (hc12.mono (by (first | omega | (simp only [World.size_alloc, pin_size, World.size_drew, World.size_setCell] <;> omega))))
  clear hb12 hc12
  try simp only [World.size_alloc, pin_size, World.size_drew, World.size_setCell] at hz12
  go_wp2_with fail
  rw [rounds_succ]
  go_wp2_with fail
  refine (wadd_step m8 a2 b2 2 Hm8.out.2 (by decide) HX2.out HY2.out _).mono ?_
  rintro e y13 ⟨⟨m12, Hm12, rfl⟩, hb13⟩
  obtain ⟨x13, rfl, hc13, hz13, l130, l131, l132⟩ := keep3 (b0 := w.heap.size + 1) (b1 := w.heap.size + 2) (b2 := w.heap.size + 3) hb13 rfl (by (repeat (first | with_reducible exact pin_at (by assumption) | (with_reducible apply pin_at; (first | omega | (simp only [World.size_alloc, pin_size, World.size_drew, World.size_setCell] <;> omega))) | (with_reducible apply alloc_at; first | rfl | (simp only [World.size_alloc, pin_size, World.size_drew, World.size_setCell] <;> omega)) | with_reducible apply past_pin | with_reducible apply past_alloc | with_reducible apply past_drew)); all_goals (first | omega | (simp only [World.size_alloc, pin_size, World.size_drew, World.size_setCell] <;> omega))) (by (repeat (first | with_reducible exact pin_at (by assumption) | (with_reducible apply pin_at; (first | omega | (simp only [World.size_alloc, pin_size, World.size_drew, World.size_setCell] <;> omega))) | (with_reducible apply alloc_at; first | rfl | (simp only [World.size_alloc, pin_size, World.size_drew, World.size_setCell] <;> omega)) | with_reducible apply past_pin | with_reducible apply past_alloc | with_reducible apply past_drew)); all_goals (first | omega | (simp only [World.size_alloc, pin_size, World.size_drew, World.size_setCell] <;> omega))) (by (repeat (first | with_reducible exact pin_at (by assumption) | (with_reducible apply pin_at; (first | omega | (simp only [World.size_alloc, pin_size, World.size_drew, World.size_setCell] <;> omega))) | (with_reducible apply alloc_at; first | rfl | (simp only [World.size_alloc, pin_size, World.size_drew, World.size_setCell] <;> omega)) | with_reducible apply past_pin | with_reducible apply past_alloc | with_reducible apply past_drew)); all_goals (first | omega | (simp only [World.size_alloc, pin_size, World.size_drew, World.size_setCell] <;> omega)))
  have HB13 : Hid (Below w.heap.size w x13) := Below.trans (by (repeat (first | with_reducible exact HB12.out | with_reducible refine below_pin ?_ ?_ | with_reducible refine Below.alloc ?_ ?_ _ | with_reducible refine Below.setCell ?_ ?_ _ | with_reducible refine Below.drew ?_)); all_goals (first | omega | (simp only [World.size_alloc, pin_size, World.size_drew, World.size_setCell] <;> omega))) (hc13.mono (by (first | omega | (simp only [World.size_alloc, pin_size, World.size_drew, World.size_setCell] <;> omega))))
  clear hb13 hc13
  try simp only [World.size_alloc, pin_size, World.size_drew, World.size_setCell] at hz13
  go_wp2_with fail
  rw [rounds_succ]
  go_wp2_with fail
  refine (wadd_step m9 z2 b3 2 Hm9.out.2 (by decide) HW2.out HY3.out _).mono ?_
  rintro e y14 ⟨⟨m13, Hm13, rfl⟩, hb14⟩
  obtain ⟨x14, rfl, hc14, hz14, l140, l141, l142⟩ := keep3 (b0 := w.heap.size + 1) (b1 := w.heap.size + 2) (b2 := w.heap.size + 3) hb14 rfl (by (repeat (first | with_reducible exact pin_at (by assumption) | (with_reducible apply pin_at; (first | omega | (simp only [World.size_alloc, pin_size, World.size_drew, World.size_setCell] <;> omega))) | (with_reducible apply alloc_at; first | rfl | (simp only [World.size_alloc, pin_size, World.size_drew, World.size_setCell] <;> omega)) | with_reducible apply past_pin | with_reducible apply past_alloc | with_reducible apply past_drew)); all_goals (first | omega | (simp only [World.size_alloc, pin_size, World.size_drew, World.size_setCell] <;> omega))) (by (repeat (first | with_reducible exact pin_at (by assumption) | (with_reducible apply pin_at; (first | omega | (simp only [World.size_alloc, pin_size, World.size_drew, World.size_setCell] <;> omega))) | (with_reducible apply alloc_at; first | rfl | (simp only [World.size_alloc, pin_size, World.size_drew, World.size_setCell] <;> omega)) | with_reducible apply past_pin | with_reducible apply past_alloc | with_reducible apply past_drew)); all_goals (first | omega | (simp only [World.size_alloc, pin_size, World.size_drew, World.size_setCell] <;> omega))) (by (repeat (first | with_reducible exact pin_at (by assumption) | (with_reducible apply pin_at; (first | omega | (simp only [World.size_alloc, pin_size, World.size_drew, World.size_setCell] <;> omega))) | (with_reducible apply alloc_at; first | rfl | (simp only [World.size_alloc, pin_size, World.size_drew, World.size_setCell] <;> omega)) | with_reducible apply past_pin | with_reducible apply past_alloc | with_reducible apply past_drew)); all_goals (first | omega | (simp only [World.size_alloc, pin_size, World.size_drew, World.size_setCell] <;> omega)))
  have HB14 : Hid (Below w.heap.size w x14) := Below.trans (by (repeat (first | with_reducible exact HB13.out | with_reducible refine below_pin ?_ ?_ | with_reducible refine Below.alloc ?_ ?_ _ | with_reducible refine Below.setCell ?_ ?_ _ | with_reducible refine Below.drew ?_)); all_goals (first | omega | (simp only [World.size_alloc, pin_size, World.size_drew, World.size_setCell] <;> omega))) (hc14.mono (by (first | omega | (simp only [World.size_alloc, pin_size, World.size_drew, World.size_setCell] <;> omega))))
  clear hb14 hc14
  try simp only [World.size_alloc, pin_size, World.size_drew, World.size_setCell] at hz14
  go_wp2_with fail
  rw [rounds_succ]
  go_wp2_with fail
  refine (wadd_step m5 z2 b4 2 Hm5.out.2 (by decide) HW2.out HY4.out _).mono ?_
  rintro e y15 ⟨⟨m14, Hm14, rfl⟩, hb15⟩
  obtain ⟨x15, rfl, hc15, hz15, l150, l151, l152⟩ := keep3 (b0 := w.heap.size + 1) (b1 := w.heap.size + 2) (b2 := w.heap.size + 3) hb15 rfl (by (repeat (first | with_reducible exact pin_at (by assumption) | (with_reducible apply pin_at; (first | omega | (simp only [World.size_alloc, pin_size, World.size_drew, World.size_setCell] <;> omega))) | (with_reducible apply alloc_at; first | rfl | (simp only [World.size_alloc, pin_size, World.size_drew, World.size_setCell] <;> omega)) | with_reducible apply past_pin | with_reducible apply past_alloc | with_reducible apply past_drew)); all_goals (first | omega | (simp only [World.size_alloc, pin_size, World.size_drew, World.size_setCell] <;> omega))) (by (repeat (first | with_reducible exact pin_at (by assumption) | (with_reducible apply pin_at; (first | omega | (simp only [World.size_alloc, pin_size, World.size_drew, World.size_setCell] <;> omega))) | (with_reducible apply alloc_at; first | rfl | (simp only [World.size_alloc, pin_size, World.size_drew, World.size_setCell] <;> omega)) | with_reducible apply past_pin | with_reducible apply past_alloc | with_reducible apply past_drew)); all_goals (first | omega | (simp only [World.size_alloc, pin_size, World.size_drew, World.size_setCell] <;> omega))) (by (repeat (first | with_reducible exact pin_at (by assumption) | (with_reducible apply pin_at; (first | omega | (simp only [World.size_alloc, pin_size, World.size_drew, World.size_setCell] <;> omega))) | (with_reducible apply alloc_at; first | rfl | (simp only [World.size_alloc, pin_size, World.size_drew, World.size_setCell] <;> omega)) | with_reducible apply past_pin | with_reducible apply past_alloc | with_reducible apply past_drew)); all_goals (first | omega | (simp only [World.size_alloc, pin_size, World.size_drew, World.size_setCell] <;> omega)))
  have HB15 : Hid (Below w.heap.size w x15) := Below.trans (by (repeat (first | with_reducible exact HB14.out | with_reducible refine below_pin ?_ ?_ | with_reducible refine Below.alloc ?_ ?_ _ | with_reducible refine Below.setCell ?_ ?_ _ | with_reducible refine Below.drew ?_)); all_goals (first | omega | (simp only [World.size_alloc, pin_size, World.size_drew, World.size_setCell] <;> omega))) (hc15.mono (by (first | omega | (simp only [World.size_alloc, pin_size, World.size_drew, World.size_setCell] <;> omega))))
  clear hb15 hc15
  try simp only [World.size_alloc, pin_size, World.size_drew, World.size_setCell] at hz15
  go_wp2_with fail
  rw [rounds_succ]
  go_wp2_with fail
  rw [rounds_succ]
  go_wp2_with fail
  refine wp_loop_rounds 6 ?_
  rw [rounds_succ]
  go_wp2_with fail
  refine (wadd_step m11 a3 b0 3 Hm11.out.2 (by decide) HX3.out HY0.out _).mono ?_
  rintro e y16 ⟨⟨m15, Hm15, rfl⟩, hb16⟩
  obtain ⟨x16, rfl, hc16, hz16, l160, l161, l162⟩ := keep3 (b0 := w.heap.size + 1) (b1 := w.heap.size + 2) (b2 := w.heap.size + 3) hb16 rfl (by (repeat (first | with_reducible exact pin_at (by assumption) | (with_reducible apply pin_at; (first | omega | (simp only [World.size_alloc, pin_size, World.size_drew, World.size_setCell] <;> omega))) | (with_reducible apply alloc_at; first | rfl | (simp only [World.size_alloc, pin_size, World.size_drew, World.size_setCell] <;> omega)) | with_reducible apply past_pin | with_reducible apply past_alloc | with_reducible apply past_drew)); all_goals (first | omega | (simp only [World.size_alloc, pin_size, World.size_drew, World.size_setCell] <;> omega))) (by (repeat (first | with_reducible exact pin_at (by assumption) | (with_reducible apply pin_at; (first | omega | (simp only [World.size_alloc, pin_size, World.size_drew, World.size_setCell] <;> omega))) | (with_reducible apply alloc_at; first | rfl | (simp only [World.size_alloc, pin_size, World.size_drew, World.size_setCell] <;> omega)) | with_reducible apply past_pin | with_reducible apply past_alloc | with_reducible apply past_drew)); all_goals (first | omega | (simp only [World.size_alloc, pin_size, World.size_drew, World.size_setCell] <;> omega))) (by (repeat (first | with_reducible exact pin_at (by assumption) | (with_reducible apply pin_at; (first | omega | (simp only [World.size_alloc, pin_size, World.size_drew, World.size_setCell] <;> omega))) | (with_reducible apply alloc_at; first | rfl | (simp only [World.size_alloc, pin_size, World.size_drew, World.size_setCell] <;> omega)) | with_reducible apply past_pin | with_reducible apply past_alloc | with_reducible apply past_drew)); all_goals (first | omega | (simp only [World.size_alloc, pin_size, World.size_drew, World.size_setCell] <;> omega)))
  have HB16 : Hid (Below w.heap.size w x16) := Below.trans (by (repeat (first | with_reducible exact HB15.out | with_reducible refine below_pin ?_ ?_ | with_reducible refine Below.alloc ?_ ?_ _ | with_reducible refine Below.setCell ?_ ?_ _ | with_reducible refine Below.drew ?_)); all_goals (first | omega | (simp only [World.size_alloc, pin_size, World.size_drew, World.size_setCell] <;> omega))) (hc16.mono (by (first | omega | (simp only [World.size_alloc, pin_size, World.size_drew, World.size_setCell] <;> omega))))
  clear hb16 hc16
  try simp only [World.size_alloc, pin_size, World.size_drew, World.size_setCell] at hz16
  go_wp2_with fail
  rw [rounds_succ]
  go_wp2_with fail
  refine (wadd_step m12 a3 b1 3 Hm12.out.2 (by decide) HX3.out HY1.out _).mono ?_
  rintro e y17 ⟨⟨m16, Hm16, rfl⟩, hb17⟩
  obtain ⟨x17, rfl, hc17, hz17, l170, l171, l172⟩ := keep3 (b0 := w.heap.size + 1) (b1 := w.heap.size + 2) (b2 := w.heap.size + 3) hb17 rfl (by (repeat (first | with_reducible exact pin_at (by assumption) | (with_reducible apply pin_at; (first | omega | (simp only [World.size_alloc, pin_size, World.size_drew, World.size_setCell] <;> omega))) | (with_reducible apply alloc_at; first | rfl | (simp only [World.size_alloc, pin_size, World.size_drew, World.size_setCell] <;> omega)) | with_reducible apply past_pin | with_reducible apply past_alloc | with_reducible apply past_drew)); all_goals (first | omega | (simp only [World.size_alloc, pin_size, World.size_drew, World.size_setCell] <;> omega))) (by (repeat (first | with_reducible exact pin_at (by assumption) | (with_reducible apply pin_at; (first | omega | (simp only [World.size_alloc, pin_size, World.size_drew, World.size_setCell] <;> omega))) | (with_reducible apply alloc_at; first | rfl | (simp only [World.size_alloc, pin_size, World.size_drew, World.size_setCell] <;> omega)) | with_reducible apply past_pin | with_reducible apply past_alloc | with_reducible apply past_drew)); all_goals (first | omega | (simp only [World.size_alloc, pin_size, World.size_drew, World.size_setCell] <;> omega))) (by (repeat (first | with_reducible exact pin_at (by assumption) | (with_reducible apply pin_at; (first | omega | (simp only [World.size_alloc, pin_size, World.size_drew, World.size_setCell] <;> omega))) | (with_reducible apply alloc_at; first | rfl | (simp only [World.size_alloc, pin_size, World.size_drew, World.size_setCell] <;> omega)) | with_reducible apply past_pin | with_reducible apply past_alloc | with_reducible apply past_drew)); all_goals (first | omega | (simp only [World.size_alloc, pin_size, World.size_drew, World.size_setCell] <;> omega)))
  have HB17 : Hid (Below w.heap.size w x17) := Below.trans (by (repeat (first | with_reducible exact HB16.out | with_reducible refine below_pin ?_ ?_ | with_reducible refine Below.alloc ?_ ?_ _ | with_reducible refine Below.setCell ?_ ?_ _ | with_reducible refine Below.drew ?_)); all_goals (first | omega | (simp only [World.size_alloc, pin_size, World.size_drew, World.size_setCell] <;> omega))) (hc17.mono (by (first | omega | (simp only [World.size_alloc, pin_size, World.size_drew, World.size_setCell] <;> omega))))
  clear hb17 hc17
  try simp only [World.size_alloc, pin_size, World.size_drew, World.size_setCell] at hz17
  go_wp2_with fail
  rw [rounds_succ]
  go_wp2_with fail
  refine (wadd_step m13 z3 b2 3 Hm13.out.2 (by decide) HW3.out HY2.out _).mono ?_
  rintro e y18 ⟨⟨m17, Hm17, rfl⟩, hb18⟩
  obtain ⟨x18, rfl, hc18, hz18, l180, l181, l182⟩ := keep3 (b0 := w.heap.size + 1) (b1 := w.heap.size + 2) (b2 := w.heap.size + 3) hb18 rfl (by (repeat (first | with_reducible exact pin_at (by assumption) | (with_reducible apply pin_at; (first | omega | (simp only [World.size_alloc, pin_size, World.size_drew, World.size_setCell] <;> omega))) | (with_reducible apply alloc_at; first | rfl | (simp only [World.size_alloc, pin_size, World.size_drew, World.size_setCell] <;> omega)) | with_reducible apply past_pin | with_reducible apply past_alloc | with_reducible apply past_drew)); all_goals (first | omega | (simp only [World.size_alloc, pin_size, World.size_drew, World.size_setCell] <;> omega))) (by (repeat (first | with_reducible exact pin_at (by assumption) | (with_reducible apply pin_at; (first | omega | (simp only [World.size_alloc, pin_size, World.size_drew, World.size_setCell] <;> omega))) | (with_reducible apply alloc_at; first | rfl | (simp only [World.size_alloc, pin_size, World.size_drew, World.size_setCell] <;> omega)) | with_reducible apply past_pin | with_reducible apply past_alloc | with_reducible apply past_drew)); all_goals (first | omega | (simp only [World.size_alloc, pin_size, World.size_drew, World.size_setCell] <;> omega))) (by (repeat (first | with_reducible exact pin_at (by assumption) | (with_reducible apply pin_at; (first | omega | (simp only [World.size_alloc, pin_size, World.size_drew, World.size_setCell] <;> omega))) | (with_reducible apply alloc_at; first | rfl | (simp only [World.size_alloc, pin_size, World.size_drew, World.size_setCell] <;> omega)) | with_reducible apply past_pin | with_reducible apply past_alloc | with_reducible apply past_drew)); all_goals (first | omega | (simp only [World.size_alloc, pin_size, World.size_drew, World.size_setCell] <;> omega)))
  have HB18 : Hid (Below w.heap.size w x18) := Below.trans (by (repeat (first | with_reducible exact HB17.out | with_reducible refine below_pin ?_ ?_ | with_reducible refine Below.alloc ?_ ?_ _ | with_reducible refine Below.setCell ?_ ?_ _ | with_reducible refine Below.drew ?_)); all_goals (first | omega | (simp only [World.size_alloc, pin_size, World.size_drew, World.size_setCell] <;> omega))) (hc18.mono (by (first | omega | (simp only [World.size_alloc, pin_size, World.size_drew, World.size_setCell] <;> omega))))
  clear hb18 hc18
  try simp only [World.size_alloc, pin_size, World.size_drew, World.size_setCell] at hz18
  go_wp2_with fail
  rw [rounds_succ]
  go_wp2_with fail
  refine (wadd_step m14 z3 b3 3 Hm14.out.2 (by decide) HW3.out HY3.out _).mono ?_
  rintro e y19 ⟨⟨m18, Hm18, rfl⟩, hb19⟩
  obtain ⟨x19, rfl, hc19, hz19, l190, l191, l192⟩ := keep3 (b0 := w.heap.size + 1) (b1 := w.heap.size + 2) (b2 := w.heap.size + 3) hb19 rfl (by (repeat (first | with_reducible exact pin_at (by assumption) | (with_reducible apply pin_at; (first | omega | (simp only [World.size_alloc, pin_size, World.size_drew, World.size_setCell] <;> omega))) | (with_reducible apply alloc_at; first | rfl | (simp only [World.size_alloc, pin_size, World.size_drew, World.size_setCell] <;> omega)) | with_reducible apply past_pin | with_reducible apply past_alloc | with_reducible apply past_drew)); all_goals (first | omega | (simp only [World.size_alloc, pin_size, World.size_drew, World.size_setCell] <;> omega))) (by (repeat (first | with_reducible exact pin_at (by assumption) | (with_reducible apply pin_at; (first | omega | (simp only [World.size_alloc, pin_size, World.size_drew, World.size_setCell] <;> omega))) | (with_reducible apply alloc_at; first | rfl | (simp only [World.size_alloc, pin_size, World.size_drew, World.size_setCell] <;> omega)) | with_reducible apply past_pin | with_reducible apply past_alloc | with_reducible apply past_drew)); all_goals (first | omega | (simp only [World.size_alloc, pin_size, World.size_drew, World.size_setCell] <;> omega))) (by (repeat (first | with_reducible exact pin_at (by assumption) | (with_reducible apply pin_at; (first | omega | (simp only [World.size_alloc, pin_size, World.size_drew, World.size_setCell] <;> omega))) | (with_reducible apply alloc_at; first | rfl | (simp only [World.size_alloc, pin_size, World.size_drew, World.size_setCell] <;> omega)) | with_reducible apply past_pin | with_reducible apply past_alloc | with_reducible apply past_drew)); all_goals (first | omega | (simp only [World.size_alloc, pin_size, World.size_drew, World.size_setCell] <;> omega)))
  have HB19 : Hid (Below w.heap.size w x19) := Below.trans (by (repeat (first | with_reducible exact HB18.out | with_reducible refine below_pin ?_ ?_ | with_reducible refine Below.alloc ?_ ?_ _ | with_reducible refine Below.setCell ?_ ?_ _ | with_reducible refine Below.drew ?_)); all_goals (first | omega | (simp only [World.size_alloc, pin_size, World.size_drew, World.size_setCell] <;> omega))) (hc19.mono (by (first | omega | (simp only [World.size_alloc, pin_size, World.size_drew, World.size_setCell] <;> omega))))
  clear hb19 hc19
  try simp only [World.size_alloc, pin_size, World.size_drew, World.size_setCell] at hz19
  go_wp2_with fail
  rw [rounds_succ]
  go_wp2_with fail
  refine (wadd_step m10 z3 b4 3 Hm10.out.2 (by decide) HW3.out HY4.out _).mono ?_
  rintro e y20 ⟨⟨m19, Hm19, rfl⟩, hb20⟩
  obtain ⟨x20, rfl, hc20, hz20, l200, l201, l202⟩ := keep3 (b0 := w.heap.size + 1) (b1 := w.heap.size + 2) (b2 := w.heap.size + 3) hb20 rfl (by (repeat (first | with_reducible exact pin_at (by assumption) | (with_reducible apply pin_at; (first | omega | (simp only [World.size_alloc, pin_size, World.size_drew, World.size_setCell] <;> omega))) | (with_reducible apply alloc_at; first | rfl | (simp only [World.size_alloc, pin_size, World.size_drew, World.size_setCell] <;> omega)) | with_reducible apply past_pin | with_reducible apply past_alloc | with_reducible apply past_drew)); all_goals (first | omega | (simp only [World.size_alloc, pin_size, World.size_drew, World.size_setCell] <;> omega))) (by (repeat (first | with_reducible exact pin_at (by assumption) | (with_reducible apply pin_at; (first | omega | (simp only [World.size_alloc, pin_size, World.size_drew, World.size_setCell] <;> omega))) | (with_reducible apply alloc_at; first | rfl | (simp only [World.size_alloc, pin_size, World.size_drew, World.size_setCell] <;> omega)) | with_reducible apply past_pin | with_reducible apply past_alloc | with_reducible apply past_drew)); all_goals (first | omega | (simp only [World.size_alloc, pin_size, World.size_drew, World.size_setCell] <;> omega))) (by (repeat (first | with_reducible exact pin_at (by assumption) | (with_reducible apply pin_at; (first | omega | (simp only [World.size_alloc, pin_size, World.size_drew, World.size_setCell] <;> omega))) | (with_reducible apply alloc_at; first | rfl | (simp only [World.size_alloc, pin_size, World.size_drew, World.size_setCell] <;> omega)) | with_reducible apply past_pin | with_reducible apply past_alloc | with_reducible apply past_drew)); all_goals (first | omega | (simp only [World.size_alloc, pin_size, World.size_drew, World.size_setCell] <;> omega)))
  have HB20 : Hid (Below w.heap.size w x20) := Below.trans (by (repeat (first | with_reducible exact HB19.out | with_reducible refine below_pin ?_ ?_ | with_reducible refine Below.alloc ?_ ?_ _ | with_reducible refine Below.setCell ?_ ?_ _ | with_reducible refine Below.drew ?_)); all_goals (first | omega | (simp only [World.size_alloc, pin_size, World.size_drew, World.size_setCell] <;> omega))) (hc20.mono (by (first | omega | (simp only [World.size_alloc, pin_size, World.size_drew, World.size_setCell] <;> omega))))
  clear hb20 hc20
  try simp only [World.size_alloc, pin_size, World.size_drew, World.size_setCell] at hz20
  go_wp2_with fail
  rw [rounds_succ]
  go_wp2_with fail
  rw [rounds_succ]
  go_wp2_with fail
  refine wp_loop_rounds 6 ?_
  rw [rounds_succ]
  go_wp2_with fail
  refine (wadd_step m16 a4 b0 4 Hm16.out.2 (by decide) HX4.out HY0.out _).mono ?_
  rintro e y21 ⟨⟨m20, Hm20, rfl⟩, hb21⟩
  obtain ⟨x21, rfl, hc21, hz21, l210, l211, l212⟩ := keep3 (b0 := w.heap.size + 1) (b1 := w.heap.size + 2) (b2 := w.heap.size + 3) hb21 rfl (by (repeat (first | with_reducible exact pin_at (by assumption) | (with_reducible apply pin_at; (first | omega | (simp only [World.size_alloc, pin_size, World.size_drew, World.size_setCell] <;> omega))) | (with_reducible apply alloc_at; first | rfl | (simp only [World.size_alloc, pin_size, World.size_drew, World.size_setCell] <;> omega)) | with_reducible apply past_pin | with_reducible apply past_alloc | with_reducible apply past_drew)); all_goals (first | omega | (simp only [World.size_alloc, pin_size, World.size_drew, World.size_setCell] <;> omega))) (by (repeat (first | with_reducible exact pin_at (by assumption) | (with_reducible apply pin_at; (first | omega | (simp only [World.size_alloc, pin_size, World.size_drew, World.size_setCell] <;> omega))) | (with_reducible apply alloc_at; first | rfl | (simp only [World.size_alloc, pin_size, World.size_drew, World.size_setCell] <;> omega)) | with_reducible apply past_pin | with_reducible apply past_alloc | with_reducible apply past_drew)); all_goals (first | omega | (simp only [World.size_alloc, pin_size, World.size_drew, World.size_setCell] <;> omega))) (by (repeat (first | with_reducible exact pin_at (by assumption) | (with_reducible apply pin_at; (first | omega | (simp only [World.size_alloc, pin_size, World.size_drew, World.size_setCell] <;> omega))) | (with_reducible apply alloc_at; first | rfl | (simp only [World.size_alloc, pin_size, World.size_drew, World.size_setCell] <;> omega)) | with_reducible apply past_pin | with_reducible apply past_alloc | with_reducible apply past_drew)); all_goals (first | omega | (simp only [World.size_alloc, pin_size, World.size_drew, World.size_setCell] <;> omega)))
  have HB21 : Hid (Below w.heap.size w x21) := Below.trans (by (repeat (first | with_reducible exact HB20.out | with_reducible refine below_pin ?_ ?_ | with_reducible refine Below.alloc ?_ ?_ _ | with_reducible refine Below.setCell ?_ ?_ _ | with_reducible refine Below.drew ?_)); all_goals (first | omega | (simp only [World.size_alloc, pin_size, World.size_drew, World.size_setCell] <;> omega))) (hc21.mono (by (first | omega | (simp only [World.size_alloc, pin_size, World.size_drew, World.size_setCell] <;> omega))))
  clear hb21 hc21
  try simp only [World.size_alloc, pin_size, World.size_drew, World.size_setCell] at hz21
  go_wp2_with fail
  rw [rounds_succ]
  go_wp2_with fail
  refine (wadd_step m17 z4 b1 4 Hm17.out.2 (by decide) HW4.out HY1.out _).mono ?_
  rintro e y22 ⟨⟨m21, Hm21, rfl⟩, hb22⟩
  obtain ⟨x22, rfl, hc22, hz22, l220, l221, l222⟩ := keep3 (b0 := w.heap.size + 1) (b1 := w.heap.size + 2) (b2 := w.heap.size + 3) hb22 rfl (by (repeat (first | with_reducible exact pin_at (by assumption) | (with_reducible apply pin_at; (first | omega | (simp only [World.size_alloc, pin_size, World.size_drew, World.size_setCell] <;> omega))) | (with_reducible apply alloc_at; first | rfl | (simp only [World.size_alloc, pin_size, World.size_drew, World.size_setCell] <;> omega)) | with_reducible apply past_pin | with_reducible apply past_alloc | with_reducible apply past_drew)); all_goals (first | omega | (simp only [World.size_alloc, pin_size, World.size_drew, World.size_setCell] <;> omega))) (by (repeat (first | with_reducible exact pin_at (by assumption) | (with_reducible apply pin_at; (first | omega | (simp only [World.size_alloc, pin_size, World.size_drew, World.size_setCell] <;> omega))) | (with_reducible apply alloc_at; first | rfl | (simp only [World.size_alloc, pin_size, World.size_drew, World.size_setCell] <;> omega)) | with_reducible apply past_pin | with_reducible apply past_alloc | with_reducible apply past_drew)); all_goals (first | omega | (simp only [World.size_alloc, pin_size, World.size_drew, World.size_setCell] <;> omega))) (by (repeat (first | with_reducible exact pin_at (by assumption) | (with_reducible apply pin_at; (first | omega | (simp only [World.size_alloc, pin_size, World.size_drew, World.size_setCell] <;> omega))) | (with_reducible apply alloc_at; first | rfl | (simp only [World.size_alloc, pin_size, World.size_drew, World.size_setCell] <;> omega)) | with_reducible apply past_pin | with_reducible apply past_alloc | with_reducible apply past_drew)); all_goals (first | omega | (simp only [World.size_alloc, pin_size, World.size_drew, World.size_setCell] <;> omega)))
  have HB22 : Hid (Below w.heap.size w x22) := Below.trans (by (repeat (first | with_reducible exact HB21.out | with_reducible refine below_pin ?_ ?_ | with_reducible refine Below.alloc ?_ ?_ _ | with_reducible refine Below.setCell ?_ ?_ _ | with_reducible refine Below.drew ?_)); all_goals (first | omega | (simp only [World.size_alloc, pin_size, World.size_drew, World.size_setCell] <;> omega))) (hc22.mono (by (first | omega | (simp only [World.size_alloc, pin_size, World.size_drew, World.size_setCell] <;> omega))))
  clear hb22 hc22
  try simp only [World.size_alloc, pin_size, World.size_drew, World.size_setCell] at hz22
  go_wp2_with fail
  rw [rounds_succ]
  go_wp2_with fail
  refine (wadd_step m18 z4 b2 4 Hm18.out.2 (by decide) HW4.out HY2.out _).mono ?_
  rintro e y23 ⟨⟨m22, Hm22, rfl⟩, hb23⟩
  obtain ⟨x23, rfl, hc23, hz23, l230, l231, l232⟩ := keep3 (b0 := w.heap.size + 1) (b1 := w.heap.size + 2) (b2 := w.heap.size + 3) hb23 rfl (by (repeat (first | with_reducible exact pin_at (by assumption) | (with_reducible apply pin_at; (first | omega | (simp only [World.size_alloc, pin_size, World.size_drew, World.size_setCell] <;> omega))) | (with_reducible apply alloc_at; first | rfl | (simp only [World.size_alloc, pin_size, World.size_drew, World.size_setCell] <;> omega)) | with_reducible apply past_pin | with_reducible apply past_alloc | with_reducible apply past_drew)); all_goals (first | omega | (simp only [World.size_alloc, pin_size, World.size_drew, World.size_setCell] <;> omega))) (by (repeat (first | with_reducible exact pin_at (by assumption) | (with_reducible apply pin_at; (first | omega | (simp only [World.size_alloc, pin_size, World.size_drew, World.size_setCell] <;> omega))) | (with_reducible apply alloc_at; first | rfl | (simp only [World.size_alloc, pin_size, World.size_drew, World.size_setCell] <;> omega)) | with_reducible apply past_pin | with_reducible apply past_alloc | with_reducible apply past_drew)); all_goals (first | omega | (simp only [World.size_alloc, pin_size, World.size_drew, World.size_setCell] <;> omega))) (by (repeat (first | with_reducible exact pin_at (by assumption) | (with_reducible apply pin_at; (first | omega | (simp only [World.size_alloc, pin_size, World.size_drew, World.size_setCell] <;> omega))) | (with_reducible apply alloc_at; first | rfl | (simp only [World.size_alloc, pin_size, World.size_drew, World.size_setCell] <;> omega)) | with_reducible apply past_pin | with_reducible apply past_alloc | with_reducible apply past_drew)); all_goals (first | omega | (simp only [World.size_alloc, pin_size, World.size_drew, World.size_setCell] <;> omega)))
  have HB23 : Hid (Below w.heap.size w x23) := Below.trans (by (repeat (first | with_reducible exact HB22.out | with_reducible refine below_pin ?_ ?_ | with_reducible refine Below.alloc ?_ ?_ _ | with_reducible refine Below.setCell ?_ ?_ _ | with_reducible refine Below.drew ?_)); all_goals (first | omega | (simp only [World.size_alloc, pin_size, World.size_drew, World.size_setCell] <;> omega))) (hc23.mono (by (first | omega | (simp only [World.size_alloc, pin_size, World.size_drew, World.size_setCell] <;> omega))))
  clear hb23 hc23
  try simp only [World.size_alloc, pin_size, World.size_drew, World.size_setCell] at hz23
  go_wp2_with fail
  rw [rounds_succ]
  go_wp2_with fail
  refine (wadd_step m19 z4 b3 4 Hm19.out.2 (by decide) HW4.out HY3.out _).mono ?_
  rintro e y24 ⟨⟨m23, Hm23, rfl⟩, hb24⟩
  obtain ⟨x24, rfl, hc24, hz24, l240, l241, l242⟩ := keep3 (b0 := w.heap.size + 1) (b1 := w.heap.size + 2) (b2 := w.heap.size + 3) hb24 rfl (by (repeat (first | with_reducible exact pin_at (by assumption) | (with_reducible apply pin_at; (first | omega | (simp only [World.size_alloc, pin_size, World.size_drew, World.size_setCell] <;> omega))) | (with_reducible apply alloc_at; first | rfl | (simp only [World.size_alloc, pin_size, World.size_drew, World.size_setCell] <;> omega)) | with_reducible apply past_pin | with_reducible apply past_alloc | with_reducible apply past_drew)); all_goals (first | omega | (simp only [World.size_alloc, pin_size, World.size_drew, World.size_setCell] <;> omega))) (by (repeat (first | with_reducible exact pin_at (by assumption) | (with_reducible apply pin_at; (first | omega | (simp only [World.size_alloc, pin_size, World.size_drew, World.size_setCell] <;> omega))) | (with_reducible apply alloc_at; first | rfl | (simp only [World.size_alloc, pin_size, World.size_drew, World.size_setCell] <;> omega)) | with_reducible apply past_pin | with_reducible apply past_alloc | with_reducible apply past_drew)); all_goals (first | omega | (simp only [World.size_alloc, pin_size, World.size_drew, World.size_setCell] <;> omega))) (by (repeat (first | with_reducible exact pin_at (by assumption) | (with_reducible apply pin_at; (first | omega | (simp only [World.size_alloc, pin_size, World.size_drew, World.size_setCell] <;> omega))) | (with_reducible apply alloc_at; first | rfl | (simp only [World.size_alloc, pin_size, World.size_drew, World.size_setCell] <;> omega)) | with_reducible apply past_pin | with_reducible apply past_alloc | with_reducible apply past_drew)); all_goals (first | omega | (simp only [World.size_alloc, pin_size, World.size_drew, World.size_setCell] <;> omega)))
  have HB24 : Hid (Below w.heap.size w x24) := Below.trans (by (repeat (first | with_reducible exact HB23.out | with_reducible refine below_pin ?_ ?_ | with_reducible refine Below.alloc ?_ ?_ _ | with_reducible refine Below.setCell ?_ ?_ _ | with_reducible refine Below.drew ?_)); all_goals (first | omega | (simp only [World.size_alloc, pin_size, World.size_drew, World.size_setCell] <;> omega))) (hc24.mono (by (first | omega | (simp only [World.size_alloc, pin_size, World.size_drew, World.size_setCell] <;> omega))))
  clear hb24 hc24
  try simp only [World.size_alloc, pin_size, World.size_drew, World.size_setCell] at hz24
  go_wp2_with fail
  rw [rounds_succ]
  go_wp2_with fail
  refine (wadd_step m15 z4 b4 4 Hm15.out.2 (by decide) HW4.out HY4.out _).mono ?_
  rintro e y25 ⟨⟨m24, Hm24, rfl⟩, hb25⟩
  obtain ⟨x25, rfl, hc25, hz25, l250, l251, l252⟩ := keep3 (b0 := w.heap.size + 1) (b1 := w.heap.size + 2) (b2 := w.heap.size + 3) hb25 rfl (by (repeat (first | with_reducible exact pin_at (by assumption) | (with_reducible apply pin_at; (first | omega | (simp only [World.size_alloc, pin_size, World.size_drew, World.size_setCell] <;> omega))) | (with_reducible apply alloc_at; first | rfl | (simp only [World.size_alloc, pin_size, World.size_drew, World.size_setCell] <;> omega)) | with_reducible apply past_pin | with_reducible apply past_alloc | with_reducible apply past_drew)); all_goals (first | omega | (simp only [World.size_alloc, pin_size, World.size_drew, World.size_setCell] <;> omega))) (by (repeat (first | with_reducible exact pin_at (by assumption) | (with_reducible apply pin_at; (first | omega | (simp only [World.size_alloc, pin_size, World.size_drew, World.size_setCell] <;> omega))) | (with_reducible apply alloc_at; first | rfl | (simp only [World.size_alloc, pin_size, World.size_drew, World.size_setCell] <;> omega)) | with_reducible apply past_pin | with_reducible apply past_alloc | with_reducible apply past_drew)); all_goals (first | omega | (simp only [World.size_alloc, pin_size, World.size_drew, World.size_setCell] <;> omega))) (by (repeat (first | with_reducible exact pin_at (by assumption) | (with_reducible apply pin_at; (first | omega | (simp only [World.size_alloc, pin_size, World.size_drew, World.size_setCell] <;> omega))) | (with_reducible apply alloc_at; first | rfl | (simp only [World.size_alloc, pin_size, World.size_drew, World.size_setCell] <;> omega)) | with_reducible apply past_pin | with_reducible apply past_alloc | with_reducible apply past_drew)); all_goals (first | omega | (simp only [World.size_alloc, pin_size, World.size_drew, World.size_setCell] <;> omega)))
  have HB25 : Hid (Below w.heap.size w x25) := Below.trans (by (repeat (first | with_reducible exact HB24.out | with_reducible refine below_pin ?_ ?_ | with_reducible refine Below.alloc ?_ ?_ _ | with_reducible refine Below.setCell ?_ ?_ _ | with_reducible refine Below.drew ?_)); all_goals (first | omega | (simp only [World.size_alloc, pin_size, World.size_drew, World.size_setCell] <;> omega))) (hc25.mono (by (first | omega | (simp only [World.size_alloc, pin_size, World.size_drew, World.size_setCell] <;> omega))))
  clear hb25 hc25
  try simp only [World.size_alloc, pin_size, World.size_drew, World.size_setCell] at hz25
  go_wp2_with fail
  rw [rounds_succ]
  go_wp2_with fail
  rw [rounds_succ]
  go_wp2_with fail
  refine wp_loop_rounds 6 ?_
  obtain ⟨o0, Ho0, E0, S0, L0⟩ := carry_first m21 (by have := Hm21.out.2; omega)
  rw [rounds_succ]
  go_wp2_with fail
  refine (above_step m21 (by have := Hm21.out.2; omega) _).mono ?_
  rintro e y26 ⟨⟨c1, Hc1, rfl⟩, hb26⟩
  obtain ⟨x26, rfl, hc26, hz26, l260, l261⟩ := keep2 (b0 := w.heap.size + 2) (b1 := x25.heap.size) hb26 rfl (by (repeat (first | with_reducible exact pin_at (by assumption) | (with_reducible apply pin_at; (first | omega | (simp only [World.size_alloc, pin_size, World.size_drew, World.size_setCell] <;> omega))) | (with_reducible apply alloc_at; first | rfl | (simp only [World.size_alloc, pin_size, World.size_drew, World.size_setCell] <;> omega)) | with_reducible apply past_pin | with_reducible apply past_alloc | with_reducible apply past_drew)); all_goals (first | omega | (simp only [World.size_alloc, pin_size, World.size_drew, World.size_setCell] <;> omega))) (by (repeat (first | with_reducible exact pin_at (by assumption) | (with_reducible apply pin_at; (first | omega | (simp only [World.size_alloc, pin_size, World.size_drew, World.size_setCell] <;> omega))) | (with_reducible apply alloc_at; first | rfl | (simp only [World.size_alloc, pin_size, World.size_drew, World.size_setCell] <;> omega)) | with_reducible apply past_pin | with_reducible apply past_alloc | with_reducible apply past_drew)); all_goals (first | omega | (simp only [World.size_alloc, pin_size, World.size_drew, World.size_setCell] <;> omega)))
  have HB26 : Hid (Below w.heap.size w x26) := Below.trans (by (repeat (first | with_reducible exact HB25.out | with_reducible refine below_pin ?_ ?_ | with_reducible refine Below.alloc ?_ ?_ _ | with_reducible refine Below.setCell ?_ ?_ _ | with_reducible refine Below.drew ?_)); all_goals (first | omega | (simp only [World.size_alloc, pin_size, World.size_drew, World.size_setCell] <;> omega))) (hc26.mono (by (first | omega | (simp only [World.size_alloc, pin_size, World.size_drew, World.size_setCell] <;> omega))))
  clear hb26 hc26
  try simp only [World.size_alloc, pin_size, World.size_drew, World.size_setCell] at hz26
  have B1 := Lib.hid (show c1 < 18446744073709551616 by have := Hc1.out; have := Hm21.out.2; omega)
  try clear E0 S0 L0
  go_wp2_with fail
  obtain ⟨r1, u1, o1, Ho1, E1, S1, L1⟩ := carry_facts m22 c1 (by have := Hm22.out.2; have := B1.out; omega) (by have := B1.out; omega)
  rw [rounds_succ]
  go_wp2_with fail
  refine (above_step r1 (by have := (show r1 < 41538374868278621028243970633760768 by have := Ho1.out.1; have := Hm22.out.2; have := B1.out; omega); omega) _).mono ?_
  rintro e y27 ⟨⟨c2, Hc2, rfl⟩, hb27⟩
  obtain ⟨x27, rfl, hc27, hz27, l270, l271⟩ := keep2 (b0 := w.heap.size + 2) (b1 := x25.heap.size) hb27 rfl (by (repeat (first | with_reducible exact pin_at (by assumption) | (with_reducible apply pin_at; (first | omega | (simp only [World.size_alloc, pin_size, World.size_drew, World.size_setCell] <;> omega))) | (with_reducible apply alloc_at; first | rfl | (simp only [World.size_alloc, pin_size, World.size_drew, World.size_setCell] <;> omega)) | with_reducible apply past_pin | with_reducible apply past_alloc | with_reducible apply past_drew)); all_goals (first | omega | (simp only [World.size_alloc, pin_size, World.size_drew, World.size_setCell] <;> omega))) (by (repeat (first | with_reducible exact pin_at (by assumption) | (with_reducible apply pin_at; (first | omega | (simp only [World.size_alloc, pin_size, World.size_drew, World.size_setCell] <;> omega))) | (with_reducible apply alloc_at; first | rfl | (simp only [World.size_alloc, pin_size, World.size_drew, World.size_setCell] <;> omega)) | with_reducible apply past_pin | with_reducible apply past_alloc | with_reducible apply past_drew)); all_goals (first | omega | (simp only [World.size_alloc, pin_size, World.size_drew, World.size_setCell] <;> omega)))
  have HB27 : Hid (Below w.heap.size w x27) := Below.trans (by (repeat (first | with_reducible exact HB26.out | with_reducible refine below_pin ?_ ?_ | with_reducible refine Below.alloc ?_ ?_ _ | with_reducible refine Below.setCell ?_ ?_ _ | with_reducible refine Below.drew ?_)); all_goals (first | omega | (simp only [World.size_alloc, pin_size, World.size_drew, World.size_setCell] <;> omega))) (hc27.mono (by (first | omega | (simp only [World.size_alloc, pin_size, World.size_drew, World.size_setCell] <;> omega))))
  clear hb27 hc27
  try simp only [World.size_alloc, pin_size, World.size_drew, World.size_setCell] at hz27
  have B2 := Lib.hid (show c2 < 18446744073709551616 by have := Hc2.out; have := (show r1 < 41538374868278621028243970633760768 by have := Ho1.out.1; have := Hm22.out.2; have := B1.out; omega); omega)
  try clear E1 S1 L1
  go_wp2_with fail
  obtain ⟨r2, u2, o2, Ho2, E2, S2, L2⟩ := carry_facts m23 c2 (by have := Hm23.out.2; have := B2.out; omega) (by have := B2.out; omega)
  rw [rounds_succ]
  go_wp2_with fail
  refine (above_step r2 (by have := (show r2 < 41538374868278621028243970633760768 by have := Ho2.out.1; have := Hm23.out.2; have := B2.out; omega); omega) _).mono ?_
  rintro e y28 ⟨⟨c3, Hc3, rfl⟩, hb28⟩
  obtain ⟨x28, rfl, hc28, hz28, l280, l281⟩ := keep2 (b0 := w.heap.size + 2) (b1 := x25.heap.size) hb28 rfl (by (repeat (first | with_reducible exact pin_at (by assumption) | (with_reducible apply pin_at; (first | omega | (simp only [World.size_alloc, pin_size, World.size_drew, World.size_setCell] <;> omega))) | (with_reducible apply alloc_at; first | rfl | (simp only [World.size_alloc, pin_size, World.size_drew, World.size_setCell] <;> omega)) | with_reducible apply past_pin | with_reducible apply past_alloc | with_reducible apply past_drew)); all_goals (first | omega | (simp only [World.size_alloc, pin_size, World.size_drew, World.size_setCell] <;> omega))) (by (repeat (first | with_reducible exact pin_at (by assumption) | (with_reducible apply pin_at; (first | omega | (simp only [World.size_alloc, pin_size, World.size_drew, World.size_setCell] <;> omega))) | (with_reducible apply alloc_at; first | rfl | (simp only [World.size_alloc, pin_size, World.size_drew, World.size_setCell] <;> omega)) | with_reducible apply past_pin | with_reducible apply past_alloc | with_reducible apply past_drew)); all_goals (first | omega | (simp only [World.size_alloc, pin_size, World.size_drew, World.size_setCell] <;> omega)))
  have HB28 : Hid (Below w.heap.size w x28) := Below.trans (by (repeat (first | with_reducible exact HB27.out | with_reducible refine below_pin ?_ ?_ | with_reducible refine Below.alloc ?_ ?_ _ | with_reducible refine Below.setCell ?_ ?_ _ | with_reducible refine Below.drew ?_)); all_goals (first | omega | (simp only [World.size_alloc, pin_size, World.size_drew, World.size_setCell] <;> omega))) (hc28.mono (by (first | omega | (simp only [World.size_alloc, pin_size, World.size_drew, World.size_setCell] <;> omega))))
  clear hb28 hc28
  try simp only [World.size_alloc, pin_size, World.size_drew, World.size_setCell] at hz28
  have B3 := Lib.hid (show c3 < 18446744073709551616 by have := Hc3.out; have := (show r2 < 41538374868278621028243970633760768 by have := Ho2.out.1; have := Hm23.out.2; have := B2.out; omega); omega)
  try clear E2 S2 L2
  go_wp2_with fail
  obtain ⟨r3, u3, o3, Ho3, E3, S3, L3⟩ := carry_facts m24 c3 (by have := Hm24.out.2; have := B3.out; omega) (by have := B3.out; omega)
  rw [rounds_succ]
  go_wp2_with fail
  refine (above_step r3 (by have := (show r3 < 41538374868278621028243970633760768 by have := Ho3.out.1; have := Hm24.out.2; have := B3.out; omega); omega) _).mono ?_
  rintro e y29 ⟨⟨c4, Hc4, rfl⟩, hb29⟩
  obtain ⟨x29, rfl, hc29, hz29, l290, l291⟩ := keep2 (b0 := w.heap.size + 2) (b1 := x25.heap.size) hb29 rfl (by (repeat (first | with_reducible exact pin_at (by assumption) | (with_reducible apply pin_at; (first | omega | (simp only [World.size_alloc, pin_size, World.size_drew, World.size_setCell] <;> omega))) | (with_reducible apply alloc_at; first | rfl | (simp only [World.size_alloc, pin_size, World.size_drew, World.size_setCell] <;> omega)) | with_reducible apply past_pin | with_reducible apply past_alloc | with_reducible apply past_drew)); all_goals (first | omega | (simp only [World.size_alloc, pin_size, World.size_drew, World.size_setCell] <;> omega))) (by (repeat (first | with_reducible exact pin_at (by assumption) | (with_reducible apply pin_at; (first | omega | (simp only [World.size_alloc, pin_size, World.size_drew, World.size_setCell] <;> omega))) | (with_reducible apply alloc_at; first | rfl | (simp only [World.size_alloc, pin_size, World.size_drew, World.size_setCell] <;> omega)) | with_reducible apply past_pin | with_reducible apply past_alloc | with_reducible apply past_drew)); all_goals (first | omega | (simp only [World.size_alloc, pin_size, World.size_drew, World.size_setCell] <;> omega)))
  have HB29 : Hid (Below w.heap.size w x29) := Below.trans (by (repeat (first | with_reducible exact HB28.out | with_reducible refine below_pin ?_ ?_ | with_reducible refine Below.alloc ?_ ?_ _ | with_reducible refine Below.setCell ?_ ?_ _ | with_reducible refine Below.drew ?_)); all_goals (first | omega | (simp only [World.size_alloc, pin_size, World.size_drew, World.size_setCell] <;> omega))) (hc29.mono (by (first | omega | (simp only [World.size_alloc, pin_size, World.size_drew, World.size_setCell] <;> omega))))
  clear hb29 hc29
  try simp only [World.size_alloc, pin_size, World.size_drew, World.size_setCell] at hz29
  have B4 := Lib.hid (show c4 < 18446744073709551616 by have := Hc4.out; have := (show r3 < 41538374868278621028243970633760768 by have := Ho3.out.1; have := Hm24.out.2; have := B3.out; omega); omega)
  try clear E3 S3 L3
  go_wp2_with fail
  obtain ⟨r4, u4, o4, Ho4, E4, S4, L4⟩ := carry_facts m20 c4 (by have := Hm20.out.2; have := B4.out; omega) (by have := B4.out; omega)
  rw [rounds_succ]
  go_wp2_with fail
  refine (above_step r4 (by have := (show r4 < 41538374868278621028243970633760768 by have := Ho4.out.1; have := Hm20.out.2; have := B4.out; omega); omega) _).mono ?_
  rintro e y30 ⟨⟨c5, Hc5, rfl⟩, hb30⟩
  obtain ⟨x30, rfl, hc30, hz30, l300, l301⟩ := keep2 (b0 := w.heap.size + 2) (b1 := x25.heap.size) hb30 rfl (by (repeat (first | with_reducible exact pin_at (by assumption) | (with_reducible apply pin_at; (first | omega | (simp only [World.size_alloc, pin_size, World.size_drew, World.size_setCell] <;> omega))) | (with_reducible apply alloc_at; first | rfl | (simp only [World.size_alloc, pin_size, World.size_drew, World.size_setCell] <;> omega)) | with_reducible apply past_pin | with_reducible apply past_alloc | with_reducible apply past_drew)); all_goals (first | omega | (simp only [World.size_alloc, pin_size, World.size_drew, World.size_setCell] <;> omega))) (by (repeat (first | with_reducible exact pin_at (by assumption) | (with_reducible apply pin_at; (first | omega | (simp only [World.size_alloc, pin_size, World.size_drew, World.size_setCell] <;> omega))) | (with_reducible apply alloc_at; first | rfl | (simp only [World.size_alloc, pin_size, World.size_drew, World.size_setCell] <;> omega)) | with_reducible apply past_pin | with_reducible apply past_alloc | with_reducible apply past_drew)); all_goals (first | omega | (simp only [World.size_alloc, pin_size, World.size_drew, World.size_setCell] <;> omega)))
  have HB30 : Hid (Below w.heap.size w x30) := Below.trans (by (repeat (first | with_reducible exact HB29.out | with_reducible refine below_pin ?_ ?_ | with_reducible refine Below.alloc ?_ ?_ _ | with_reducible refine Below.setCell ?_ ?_ _ | with_reducible refine Below.drew ?_)); all_goals (first | omega | (simp only [World.size_alloc, pin_size, World.size_drew, World.size_setCell] <;> omega))) (hc30.mono (by (first | omega | (simp only [World.size_alloc, pin_size, World.size_drew, World.size_setCell] <;> omega))))
  clear hb30 hc30
  try simp only [World.size_alloc, pin_size, World.size_drew, World.size_setCell] at hz30
  have B5 := Lib.hid (show c5 < 18446744073709551616 by have := Hc5.out; have := (show r4 < 41538374868278621028243970633760768 by have := Ho4.out.1; have := Hm20.out.2; have := B4.out; omega); omega)
  try clear E4 S4 L4
  go_wp2_with fail
  rw [rounds_succ]
  go_wp2_with fail
  refine (mul19 c5 B5.out _).mono ?_
  rintro e w1 ⟨⟨q, Hq, rfl⟩, rfl⟩
  obtain ⟨r5, u5, o5, Ho5, E5, S5, L5⟩ := carry_facts q o0 (by have := Hq.out; have := B5.out; have := Ho0.out; omega) (by have := Ho0.out; omega)
  have B6 := Lib.hid (show r5 < 41538374868278621028243970633760768 by have := Hq.out; have := B5.out; have := Ho0.out; have := Ho5.out; omega)
  go_wp2_with fail
  go_region_with ((go_at_call 48; refine (above_step r5 (by have := B6.out; omega) _).mono ?_; rintro e y31 ⟨⟨c6, Hc6, rfl⟩, hb31⟩; obtain ⟨x31, rfl, hc31, hz31, l310, l311, l312⟩ := keep3 (b0 := w.heap.size + 2) (b1 := x25.heap.size) (b2 := x30.heap.size) hb31 rfl (by (repeat (first | with_reducible exact pin_at (by assumption) | (with_reducible apply pin_at; (first | omega | (simp only [World.size_alloc, pin_size, World.size_drew, World.size_setCell] <;> omega))) | (with_reducible apply alloc_at; first | rfl | (simp only [World.size_alloc, pin_size, World.size_drew, World.size_setCell] <;> omega)) | with_reducible apply past_pin | with_reducible apply past_alloc | with_reducible apply past_drew)); all_goals (first | omega | (simp only [World.size_alloc, pin_size, World.size_drew, World.size_setCell] <;> omega))) (by (repeat (first | with_reducible exact pin_at (by assumption) | (with_reducible apply pin_at; (first | omega | (simp only [World.size_alloc, pin_size, World.size_drew, World.size_setCell] <;> omega))) | (with_reducible apply alloc_at; first | rfl | (simp only [World.size_alloc, pin_size, World.size_drew, World.size_setCell] <;> omega)) | with_reducible apply past_pin | with_reducible apply past_alloc | with_reducible apply past_drew)); all_goals (first | omega | (simp only [World.size_alloc, pin_size, World.size_drew, World.size_setCell] <;> omega))) (by (repeat (first | with_reducible exact pin_at (by assumption) | (with_reducible apply pin_at; (first | omega | (simp only [World.size_alloc, pin_size, World.size_drew, World.size_setCell] <;> omega))) | (with_reducible apply alloc_at; first | rfl | (simp only [World.size_alloc, pin_size, World.size_drew, World.size_setCell] <;> omega)) | with_reducible apply past_pin | with_reducible apply past_alloc | with_reducible apply past_drew)); all_goals (first | omega | (simp only [World.size_alloc, pin_size, World.size_drew, World.size_setCell] <;> omega))); have HB31 : Hid (Below w.heap.size w x31) := Below.trans (by (repeat (first | with_reducible exact HB30.out | with_reducible refine below_pin ?_ ?_ | with_reducible refine Below.alloc ?_ ?_ _ | with_reducible refine Below.setCell ?_ ?_ _ | with_reducible refine Below.drew ?_)); all_goals (first | omega | (simp only [World.size_alloc, pin_size, World.size_drew, World.size_setCell] <;> omega))) (hc31.mono (by (first | omega | (simp only [World.size_alloc, pin_size, World.size_drew, World.size_setCell] <;> omega)))); clear hb31 hc31 hz31); obtain ⟨s, Hs, W6⟩ : ∃ s : Nat, Hid (s = o1 + c6 ∧ s < 4503599627370496) ∧ w64 ((o1 : Int) + (c6 : Int)) = (s : Int) := by (have k1 := Hc6.out; have k2 := B5.out; have k3 := Ho1.out; have k5 := Hq.out; have k6 := Ho5.out; have k7 := Ho0.out; have k4 : o1 + c6 < 4503599627370496 := by omega); exact ⟨_, ⟨rfl, k4⟩, by rw [w64_nat]; omega⟩)
  all_goals
    go_wp2_with fail
    refine (weak_nat ⟨o5, s, o2, o3, o4⟩ (by have k0 := Ho5.out; have k1 := Ho2.out; have k2 := Ho3.out; have k3 := Ho4.out; have k4 := Hs.out; exact ⟨by simp only; omega, by simp only; omega, by simp only; omega, by simp only; omega, by simp only; omega⟩) _).mono ?_
    rintro e y32 ⟨rfl, hb32⟩
    obtain ⟨x32, rfl, hc32, hz32, l320⟩ := keep1 (b := w.heap.size + 2) hb32 rfl (by (repeat (first | with_reducible exact pin_at (by assumption) | (with_reducible apply pin_at; (first | omega | (simp only [World.size_alloc, pin_size, World.size_drew, World.size_setCell] <;> omega))) | (with_reducible apply alloc_at; first | rfl | (simp only [World.size_alloc, pin_size, World.size_drew, World.size_setCell] <;> omega)) | with_reducible apply past_pin | with_reducible apply past_alloc | with_reducible apply past_drew)); all_goals (first | omega | (simp only [World.size_alloc, pin_size, World.size_drew, World.size_setCell] <;> omega)))
    have HB32 : Hid (Below w.heap.size w x32) := Below.trans (by (repeat (first | with_reducible exact HB31.out | with_reducible refine below_pin ?_ ?_ | with_reducible refine Below.alloc ?_ ?_ _ | with_reducible refine Below.setCell ?_ ?_ _ | with_reducible refine Below.drew ?_)); all_goals (first | omega | (simp only [World.size_alloc, pin_size, World.size_drew, World.size_setCell] <;> omega))) (hc32.mono (by (first | omega | (simp only [World.size_alloc, pin_size, World.size_drew, World.size_setCell] <;> omega))))
    clear hb32 hc32
    try simp only [World.size_alloc, pin_size, World.size_drew, World.size_setCell] at hz32
    go_wp2_with fail
    refine bodyPost_ret (v := (nweak ⟨o5, s, o2, o3, o4⟩).v) ?_ rfl ⟨⟨_, nweak_lt _ ?_, ?_, rfl⟩, ?_⟩
    · simp [results, Tryd.results35, go_sem, l10, l11, l12, l20, l21, l22, l30, l31, l32, l40, l41, l42, l50, l51, l52, l60, l61, l62, l70, l71, l72, l80, l81, l82, l90, l91, l92, l100, l101, l102, l110, l111, l112, l120, l121, l122, l130, l131, l132, l140, l141, l142, l150, l151, l152, l160, l161, l162, l170, l171, l172, l180, l181, l182, l190, l191, l192, l200, l201, l202, l210, l211, l212, l220, l221, l222, l230, l231, l232, l240, l241, l242, l250, l251, l252, l260, l261, l270, l271, l280, l281, l290, l291, l300, l301, l310, l311, l312, l320]
    · have k0 := Ho5.out; have k1 := Ho2.out; have k2 := Ho3.out; have k3 := Ho4.out; have k4 := Hs.out; exact ⟨by simp only; omega, by simp only; omega, by simp only; omega, by simp only; omega, by simp only; omega⟩
    · rw [nweak_mod]
      refine mul_math a0 a1 a2 a3 a4 b0 b1 b2 b3 b4 _ (m21 + 2251799813685248 * (m22 + 2251799813685248 * (m23 + 2251799813685248 * (m24 + 2251799813685248 * m20)))) c5 ?_ ?_
      · have g0 := Hm0.out.1
        have g1 := Hm1.out.1
        have g2 := Hm2.out.1
        have g3 := Hm3.out.1
        have g4 := Hm4.out.1
        have g5 := Hm5.out.1
        have g6 := Hm6.out.1
        have g7 := Hm7.out.1
        have g8 := Hm8.out.1
        have g9 := Hm9.out.1
        have g10 := Hm10.out.1
        have g11 := Hm11.out.1
        have g12 := Hm12.out.1
        have g13 := Hm13.out.1
        have g14 := Hm14.out.1
        have g15 := Hm15.out.1
        have g16 := Hm16.out.1
        have g17 := Hm17.out.1
        have g18 := Hm18.out.1
        have g19 := Hm19.out.1
        have g20 := Hm20.out.1
        have g21 := Hm21.out.1
        have g22 := Hm22.out.1
        have g23 := Hm23.out.1
        have g24 := Hm24.out.1
        have q1 := HZ1.out
        have q2 := HZ2.out
        have q3 := HZ3.out
        have q4 := HZ4.out
        have p0 := Ho0.out
        have p1 := Ho1.out
        have p2 := Ho2.out
        have p3 := Ho3.out
        have p4 := Ho4.out
        have p5 := Ho5.out
        have d1 := Hc1.out
        have d2 := Hc2.out
        have d3 := Hc3.out
        have d4 := Hc4.out
        have d5 := Hc5.out
        have d6 := Hc6.out
        have e1 := Hs.out.1
        have e2 := Hq.out
        subst q1 q2 q3 q4
        simp only [Nat.mul_assoc] at *
        omega
      · have g0 := Hm0.out.1
        have g1 := Hm1.out.1
        have g2 := Hm2.out.1
        have g3 := Hm3.out.1
        have g4 := Hm4.out.1
        have g5 := Hm5.out.1
        have g6 := Hm6.out.1
        have g7 := Hm7.out.1
        have g8 := Hm8.out.1
        have g9 := Hm9.out.1
        have g10 := Hm10.out.1
        have g11 := Hm11.out.1
        have g12 := Hm12.out.1
        have g13 := Hm13.out.1
        have g14 := Hm14.out.1
        have g15 := Hm15.out.1
        have g16 := Hm16.out.1
        have g17 := Hm17.out.1
        have g18 := Hm18.out.1
        have g19 := Hm19.out.1
        have g20 := Hm20.out.1
        have g21 := Hm21.out.1
        have g22 := Hm22.out.1
        have g23 := Hm23.out.1
        have g24 := Hm24.out.1
        have q1 := HZ1.out
        have q2 := HZ2.out
        have q3 := HZ3.out
        have q4 := HZ4.out
        have p0 := Ho0.out
        have p1 := Ho1.out
        have p2 := Ho2.out
        have p3 := Ho3.out
        have p4 := Ho4.out
        have p5 := Ho5.out
        have d1 := Hc1.out
        have d2 := Hc2.out
        have d3 := Hc3.out
        have d4 := Hc4.out
        have d5 := Hc5.out
        have d6 := Hc6.out
        have e1 := Hs.out.1
        have e2 := Hq.out
        clear q1 q2 q3 q4 g0 g1 g2 g3 g4 g5 g6 g7 g8 g9 g10 g11 g12 g13 g14 g15 g16 g17 g18 g19 g20 g21 g22 g23 g24
        simp only [Fn.val, Num.p]
        omega
    · exact (by (repeat (first | with_reducible exact HB32.out | with_reducible refine below_pin ?_ ?_ | with_reducible refine Below.alloc ?_ ?_ _ | with_reducible refine Below.setCell ?_ ?_ _ | with_reducible refine Below.drew ?_)); all_goals (first | omega | (simp only [World.size_alloc, pin_size, World.size_drew, World.size_setCell] <;> omega)))

end Go.Proofs.YtljolpdpblohcaaDoor
