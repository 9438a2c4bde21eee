/-
  Shared, part 5: walks and plain laws; each theorem states its own conditions.
-/
import Derived.Test.YtehfkbaendajbaaGreatDoorProg
import Derived.Test.YtehfkbaendajbaaGreatDoorB4
import Derived.Deep.RegionHeld3
import Derived.Lib.Hide
import Derived.StillTailTactics
namespace Go.Proofs.YtehfkbaendajbaaGreatDoor
set_option linter.unusedSimpArgs false
set_option linter.unusedVariables false
set_option maxRecDepth 100000
set_option maxHeartbeats 8000000
section
open Go.RowKit
theorem CS (x : Fe) (w : World) :
 Calls Tryz.prog 77 #[x.v] w fun e w' => e = .returned (BP x).v ∧ Below w.heap.size w w' := by
 go_enter Tryz.func77, Tryz.ntmps77
 go_wp2
 refine wp_loop_rounds 3 ?_
 rw [rounds_succ]
 go_wp2
 refine wp_loop_rounds 6 ?_
 iterate 6 (rw [rounds_succ]; go_wp2)
 rw [rounds_succ]; go_wp2
 refine wp_loop_rounds 6 ?_
 iterate 6 (rw [rounds_succ]; go_wp2)
 rw [rounds_succ]; go_wp2
 refine bodyPost_ret (v := (BO (BO x)).v) ?_ rfl ⟨rfl, ?_⟩
 · simp only [BO]
   simp [results, Tryz.results77, go_sem]
 · exact (pl (Below.refl _ _))
theorem Ld (x : Fe) (w : World) :
 Calls Tryz.prog 75 #[x.v] w fun e w' => e = .returned (VL x).v ∧ Below w.heap.size w w' := by
 go_enter Tryz.func75, Tryz.ntmps75
 go_wp2_with fail
 refine (CS _ _).mono ?_
 rintro e y1 ⟨rfl, hb1⟩
 obtain ⟨x1, rfl, hc1, hz1, l10, nG⟩ := fO (b0 := w.heap.size) (b1 := w.heap.size + 1) hb1 rfl ob ob
 have HB1 : Hid (Below w.heap.size w x1) := Below.trans (pl (Below.refl _ _)) (hc1.mono sz)
 clear hb1 hc1
 try simp only [eF] at hz1
 go_wp2_with fail
 refine (CS _ _).mono ?_
 rintro e y2 ⟨rfl, hb2⟩
 obtain ⟨x2, rfl, hc2, hz2, kD, rQ⟩ := fO (b0 := w.heap.size) (b1 := w.heap.size + 1) hb2 rfl ob ob
 have HB2 := aZ HB1.out hc2
 clear hb2 hc2
 try simp only [eF] at hz2
 go_wp2_with fail
 refine wp_loop_rounds 5 ?_
 iterate 5 (rw [rounds_succ]; go_wp2)
 refine wp_loop_rounds 6 ?_
 iterate 6 (rw [rounds_succ]; go_wp2)
 refine bodyPost_ret (v := (VL x).v) ?_ rfl ⟨rfl, ?_⟩
 · simp only [VL, BH, rq]
   simp [results, Tryz.results75, go_sem, l10, nG, kD, rQ]
 · exact (pl HB2.out)
theorem add_any (x y : Fe) (w : World) :
 Calls Tryz.prog 102 #[x.v, y.v] w fun e w' => e = .returned (VD x y).v ∧ Below w.heap.size w w' := by
 go_enter Tryz.func102, Tryz.ntmps102
 go_wp2
 refine wp_loop_rounds 6 ?_
 iterate 5 (rw [rounds_succ]; go_wp2; refine wp_region_still_tail 8 (by kernel_rfl) (by kernel_rfl) ?_; simp only [List.take_succ_cons, List.take_zero, List.drop_succ_cons, List.drop_zero, World.drew_eq]; (repeat still_step); refine wpStill_nil ?_; go_wp2)
 rw [rounds_succ]; go_wp2
 refine bodyPost_ret (v := (VD x y).v) ?_ rfl ⟨rfl, ?_⟩
 · simp only [VD]
   simp [results, Tryz.results102, go_sem]
 · exact (pl (Below.refl _ _))
theorem Y5 (x y : Fe) (w : World) :
 Calls Tryz.prog 101 #[x.v, y.v] w fun e w' => e = .returned (VN x y).v ∧ Below w.heap.size w w' := by
 go_enter Tryz.func101, Tryz.ntmps101
 go_wp2
 refine wp_loop_rounds 5 ?_
 iterate 5 (rw [rounds_succ]; go_wp2)
 refine wp_loop_rounds 6 ?_
 iterate 5 (rw [rounds_succ]; go_wp2; refine wp_region_still_tail 8 (by kernel_rfl) (by kernel_rfl) ?_; simp only [List.take_succ_cons, List.take_zero, List.drop_succ_cons, List.drop_zero, World.drew_eq]; (repeat still_step); refine wpStill_nil ?_; go_wp2)
 rw [rounds_succ]; go_wp2
 refine bodyPost_ret (v := (VN x y).v) ?_ rfl ⟨rfl, ?_⟩
 · simp only [VN]
   simp [results, Tryz.results101, go_sem]
 · exact (pl (Below.refl _ _))
end
section
open Go.RowKit
abbrev xZ (n : Nat) : Value := .agg #[.int .u64 (qw n), .int .u64 (oO n)]
theorem Zj (a b c : Nat) (h : a + b = c) (hc : c < 18446744073709551616) : eX ((a : Int) + (b : Int)) = (c : Int) := by rw [iW]; omega
theorem ab4 (n m : Nat) : oO (oO n + oO m) = oO (n + m) := by unfold oO; omega
theorem TL (n m : Nat) : qw n + qw m + qw (oO n + oO m) = qw (n + m) := by unfold qw oO; omega
theorem aeo (n m : Nat) : qw (oO n + oO m) ≤ 1 := by unfold qw oO; omega
theorem FH (n : Nat) (h : n < 18446744073709551616) : oO n = n := Nat.mod_eq_of_lt h
theorem J6 (n : Nat) (h : n < 18446744073709551616) : qw n = 0 := Nat.div_eq_of_lt h
theorem EH (n m : Nat) (w : World) : (callFunc 44 #[.int .u64 (oO n), .int .u64 (oO m), .int .u64 0]).run Tryz.prog w = .ok (.value (.tuple #[.int .u64 (oO (n + m)), .int .u64 (qw (oO n + oO m))])) w := by
 have h := yB (oO n) (oO m) 0 (by omega) w
 rw [Nat.add_zero, ab4] at h
 exact h
theorem QA (n m : Nat) (h : n + m < 340282366920938463463374607431768211456) (w : World) : (callFunc 44 #[.int .u64 (qw n), .int .u64 (qw m), .int .u64 (qw (oO n + oO m))]).run Tryz.prog w = .ok (.value (.tuple #[.int .u64 (qw (n + m)), .int .u64 0])) w := by
 have h2 := yB (qw n) (qw m) (qw (oO n + oO m)) (aeo _ _) w
 have hl : qw (n + m) < 18446744073709551616 := by unfold qw; omega
 rw [TL, FH _ hl, J6 _ hl] at h2
 exact h2
theorem Jh (n x y : Nat) (hx : x < 18446744073709551616) (hy : y < 18446744073709551616) (h : n + x * y < 340282366920938463463374607431768211456) (w : World) :
 Calls Tryz.prog 107 #[xZ n, .int .u64 x, .int .u64 y] w fun e w' => (∃ m, m = n + x * y ∧ e = .returned (xZ m)) ∧ Below w.heap.size w w' := by
 have A1 := EH n (x * y)
 have A2 := QA n (x * y) h
 have M := Ei x y hx hy
 clear hx hy h
 go_enter Tryz.func107, Tryz.ntmps107
 go_wp2_with fail
 refine (M _).mono ?_
 rintro e w1 ⟨rfl, rfl⟩
 go_wp2_with fail
 refine bodyPost_ret (v := xZ (n + x * y)) ?_ rfl ⟨⟨_, rfl, rfl⟩, ?_⟩
 · simp [results, Tryz.results107, go_sem]
 · exact (pl (Below.refl _ _))
theorem Qz (x y : Nat) (hx : x < 18446744073709551616) (hy : y < 18446744073709551616) (w : World) :
 Calls Tryz.prog 107 #[.agg #[.int .u64 0, .int .u64 0], .int .u64 x, .int .u64 y] w fun e w' => (∃ m, m = x * y ∧ e = .returned (xZ m)) ∧ Below w.heap.size w w' := by
 have h := Jh 0 x y hx hy (by rw [Nat.zero_add]; have := Nat.mul_le_mul (show x ≤ 18446744073709551615 by omega) (show y ≤ 18446744073709551615 by omega); omega) w
 rw [Nat.zero_add] at h
 exact h
theorem RH (n : Nat) (h : n < 41538374868278621028243970633760768) : bits .or .u64 (eX ((qw n : Int) * 8192)) (lU (oO n)) = ((n / 2251799813685248 : Nat) : Int) := by
 have h1 : qw n < 2251799813685248 := by unfold qw; omega
 have h2 := Bz n
 have h3 : (qw n : Int) * 8192 = ((qw n * 8192 : Nat) : Int) := by omega
 rw [Fg, h3, nH _ (by omega)]
 have hor := bits_nat .u64 64 (by decide) (fun n h0 h1 => by
  simp only [IntKind.wrap, IntKind.bits, IntKind.signed] at *
  simp at *
  omega) (qw n * 8192) (oO n / 2251799813685248) (by omega) (by omega)
 have e : qw n * 8192 ||| oO n / 2251799813685248 = qw n * 8192 + oO n / 2251799813685248 := by
  have := Nat.shiftLeft_add_eq_or_of_lt (show oO n / 2251799813685248 < 2 ^ 13 by omega) (qw n)
  rw [Nat.shiftLeft_eq, show (2 : Nat) ^ 13 = 8192 from rfl] at this
  omega
 rw [hor.2, e]
 have := aep n
 omega
theorem Oi (n : Nat) (h : n < 41538374868278621028243970633760768) (w : World) :
 Calls Tryz.prog 108 #[xZ n] w fun e w' => e = .returned (.int .u64 ((n / 2251799813685248 : Nat) : Int)) ∧ Below w.heap.size w w' := by
 have H := Lib.hid (RH n h)
 clear h
 go_enter Tryz.func108, Tryz.ntmps108
 go_wp2
 go_ret
 refine ⟨by rw [← H.out]; rfl, (pl (Below.refl _ _))⟩
@[go_sem] theorem X5 (x0 x1 x2 x3 x4 y0 y1 y2 y3 y4 : Value) (w : World) : (Instr.index 119 (.agg #[x0, y0, x1, y1, x2, y2, x3, y3, x4, y4]) (.int .i64 0)).run Tryz.prog w = .ok (.agg #[x0, y0]) w := by kernel_rfl
@[go_sem] theorem X6 (x0 x1 x2 x3 x4 y0 y1 y2 y3 y4 : Value) (w : World) : (Instr.index 119 (.agg #[x0, y0, x1, y1, x2, y2, x3, y3, x4, y4]) (.int .i64 1)).run Tryz.prog w = .ok (.agg #[x1, y1]) w := by kernel_rfl
@[go_sem] theorem X7 (x0 x1 x2 x3 x4 y0 y1 y2 y3 y4 : Value) (w : World) : (Instr.index 119 (.agg #[x0, y0, x1, y1, x2, y2, x3, y3, x4, y4]) (.int .i64 2)).run Tryz.prog w = .ok (.agg #[x2, y2]) w := by kernel_rfl
@[go_sem] theorem X8 (x0 x1 x2 x3 x4 y0 y1 y2 y3 y4 : Value) (w : World) : (Instr.index 119 (.agg #[x0, y0, x1, y1, x2, y2, x3, y3, x4, y4]) (.int .i64 3)).run Tryz.prog w = .ok (.agg #[x3, y3]) w := by kernel_rfl
@[go_sem] theorem X9 (x0 x1 x2 x3 x4 y0 y1 y2 y3 y4 : Value) (w : World) : (Instr.index 119 (.agg #[x0, y0, x1, y1, x2, y2, x3, y3, x4, y4]) (.int .i64 4)).run Tryz.prog w = .ok (.agg #[x4, y4]) w := by kernel_rfl
@[go_sem] theorem ZI (x0 x1 x2 x3 x4 : Value) (w : World) : (Instr.index 36 (.agg #[x0, x1, x2, x3, x4]) (.int .i64 0)).run Tryz.prog w = .ok x0 w := by kernel_rfl
@[go_sem] theorem ZJ (x0 x1 x2 x3 x4 : Value) (w : World) : (Instr.index 36 (.agg #[x0, x1, x2, x3, x4]) (.int .i64 1)).run Tryz.prog w = .ok x1 w := by kernel_rfl
@[go_sem] theorem ZK (x0 x1 x2 x3 x4 : Value) (w : World) : (Instr.index 36 (.agg #[x0, x1, x2, x3, x4]) (.int .i64 2)).run Tryz.prog w = .ok x2 w := by kernel_rfl
@[go_sem] theorem ZL (x0 x1 x2 x3 x4 : Value) (w : World) : (Instr.index 36 (.agg #[x0, x1, x2, x3, x4]) (.int .i64 3)).run Tryz.prog w = .ok x3 w := by kernel_rfl
@[go_sem] theorem ZM (x0 x1 x2 x3 x4 : Value) (w : World) : (Instr.index 36 (.agg #[x0, x1, x2, x3, x4]) (.int .i64 4)).run Tryz.prog w = .ok x4 w := by kernel_rfl
theorem dX (n x y j : Nat) (hn : n ≤ j * 649037107316853453566312041152512) (hj : j ≤ 5) (hx : x < 144115188075855872) (hy : y < 4503599627370496) (w : World) :
 Calls Tryz.prog 107 #[xZ n, .int .u64 x, .int .u64 y] w fun e w' => (∃ m, Hid (m = n + x * y ∧ m ≤ (j + 1) * 649037107316853453566312041152512) ∧ e = .returned (xZ m)) ∧ Below w.heap.size w w' := by
 have hp := Nat.mul_le_mul (show x ≤ 144115188075855871 by omega) (show y ≤ 4503599627370495 by omega)
 refine (Jh n x y (by omega) (by omega) (by omega) w).mono ?_
 rintro e w' ⟨⟨m, hm, he⟩, hb⟩
 exact ⟨⟨m, ⟨hm, by rw [Nat.add_mul]; omega⟩, he⟩, hb⟩
theorem oN (x y : Nat) (hx : x < 144115188075855872) (hy : y < 4503599627370496) (w : World) :
 Calls Tryz.prog 107 #[.agg #[.int .u64 0, .int .u64 0], .int .u64 x, .int .u64 y] w fun e w' => (∃ m, Hid (m = 0 + x * y ∧ m ≤ 1 * 649037107316853453566312041152512) ∧ e = .returned (xZ m)) ∧ Below w.heap.size w w' := by
 have hp := Nat.mul_le_mul (show x ≤ 144115188075855871 by omega) (show y ≤ 4503599627370495 by omega)
 refine (Qz x y (by omega) (by omega) w).mono ?_
 rintro e w' ⟨⟨m, hm, he⟩, hb⟩
 exact ⟨⟨m, ⟨by omega, by omega⟩, he⟩, hb⟩
theorem lX (n : Nat) (h : n < 41538374868278621028243970633760768) (w : World) :
 Calls Tryz.prog 108 #[xZ n] w fun e w' => (∃ c, Hid (c = n / 2251799813685248) ∧ e = .returned (.int .u64 (c : Int))) ∧ Below w.heap.size w w' := by
 refine (Oi n h w).mono ?_
 rintro e w' ⟨he, hb⟩
 exact ⟨⟨_, rfl, he⟩, hb⟩
theorem mM (n c : Nat) (hn : n + c < 41538374868278621028243970633760768) (hc : c < 18446744073709551616) : ∃ m u o : Nat, Hid (m = n + c ∧ o = m % 2251799813685248) ∧
 (∀ w, (callFunc 44 #[.int .u64 (oO n), .int .u64 c, .int .u64 0]).run Tryz.prog w = .ok (.value (.tuple #[.int .u64 (oO m), .int .u64 u])) w) ∧
 eX ((qw n : Int) + (u : Int)) = (qw m : Int) ∧ uT (oO m) = (o : Int) := by
 refine ⟨n + c, qw (oO n + c), (n + c) % 2251799813685248, ⟨rfl, rfl⟩, ?_, ?_, ?_⟩
 · intro w
   have h := EH n c w
   rw [FH c hc] at h
   exact h
 · have h := TL n c
   rw [FH c hc, J6 c hc, Nat.add_zero] at h
   exact Zj _ _ _ h (by unfold qw; omega)
 · rw [jV _ (Bz _)]
   unfold oO; omega
theorem GK (n : Nat) (hn : n < 41538374868278621028243970633760768) : ∃ o : Nat, Hid (o = n % 2251799813685248) ∧
 (∀ w, (callFunc 44 #[.int .u64 (oO n), .int .u64 0, .int .u64 0]).run Tryz.prog w = .ok (.value (.tuple #[.int .u64 (oO n), .int .u64 0])) w) ∧
 eX (qw n : Int) = (qw n : Int) ∧ uT (oO n) = (o : Int) := by
 refine ⟨n % 2251799813685248, rfl, ?_, nH _ (by unfold qw; omega), ?_⟩
 · intro w
   have h := yB (oO n) 0 0 (by omega) w
   rw [Nat.add_zero, FH _ (Bz n), J6 _ (Bz n)] at h
   exact h
 · rw [jV _ (Bz _)]
   unfold oO; omega
theorem afk (c : Nat) (hc : c < 18446744073709551616) (w : World) :
 Calls Tryz.prog 83 #[.int .u64 c, .int .u64 19] w fun e w' => (∃ q, Hid (q = c * 19) ∧ e = .returned (.tuple #[.int .u64 (qw q), .int .u64 (oO q)])) ∧ w = w' :=
 (Ei c 19 hc (by omega) w).mono fun e w' ⟨he, hw⟩ => ⟨⟨_, rfl, he⟩, hw⟩
theorem kM (x : Fn) (h : x.lt 18446744073709551616) (w : World) : Calls Tryz.prog 77 #[x.v] w fun e w' => e = .returned (lK x).v ∧ Below w.heap.size w w' := by
 have h1 := CS x.fe w
 rw [BQ x h] at h1
 exact h1
theorem reduce_nat (x : Fn) (h : x.lt 18446744073709551616) (w : World) : Calls Tryz.prog 75 #[x.v] w fun e w' => e = .returned (small x.val).v ∧ Below w.heap.size w w' := by
 have h1 := Ld x.fe w
 rw [YT x h] at h1
 exact h1
theorem Xj (x y : Fn) (hx : x.lt 4503599627370496) (hy : y.lt 4503599627370496) (w : World) : Calls Tryz.prog 102 #[x.v, y.v] w fun e w' => e = .returned (FK x y).v ∧ Below w.heap.size w w' := by
 have h1 := add_any x.fe y.fe w
 rw [YP x y hx hy] at h1
 exact h1
theorem Y7 (x y : Fn) (hx : x.lt 4503599627370496) (hy : y.lt 4503599627370496) (w : World) : Calls Tryz.prog 101 #[x.v, y.v] w fun e w' => e = .returned (FM x y).v ∧ Below w.heap.size w w' := by
 have h1 := Y5 x.fe y.fe w
 rw [YU x y hx hy] at h1
 exact h1
theorem Yz (a0 a1 a2 a3 a4 b0 b1 b2 b3 b4 X P : Int) (h : P = X ^ 5 - 19) :
 (a0 + X*(a1 + X*(a2 + X*(a3 + X*a4)))) * (b0 + X*(b1 + X*(b2 + X*(b3 + X*b4)))) =
  (a0*b0 + 19*(a1*b4 + a2*b3 + a3*b2 + a4*b1)) + X*((a0*b1 + a1*b0 + 19*(a2*b4 + a3*b3 + a4*b2)) + X*((a0*b2 + a1*b1 + a2*b0 + 19*(a3*b4+a4*b3)) + X*((a0*b3+a1*b2+a2*b1+a3*b0 + 19*(a4*b4)) + X*(a0*b4+a1*b3+a2*b2+a3*b1+a4*b0)))) +
  P * ((a1*b4 + a2*b3 + a3*b2 + a4*b1) + X * ((a2*b4 + a3*b3 + a4*b2) + X*((a3*b4+a4*b3) + X * (a4*b4)))) := by
 subst h
 grind
theorem U4 (a0 a1 a2 a3 a4 b0 b1 b2 b3 b4 X P : Nat) (h : P + 19 = X ^ 5) :
 (a0 + X*(a1 + X*(a2 + X*(a3 + X*a4)))) * (b0 + X*(b1 + X*(b2 + X*(b3 + X*b4)))) =
  (a0*b0 + 19*(a1*b4 + a2*b3 + a3*b2 + a4*b1)) + X*((a0*b1 + a1*b0 + 19*(a2*b4 + a3*b3 + a4*b2)) + X*((a0*b2 + a1*b1 + a2*b0 + 19*(a3*b4+a4*b3)) + X*((a0*b3+a1*b2+a2*b1+a3*b0 + 19*(a4*b4)) + X*(a0*b4+a1*b3+a2*b2+a3*b1+a4*b0)))) +
  P * ((a1*b4 + a2*b3 + a3*b2 + a4*b1) + X * ((a2*b4 + a3*b3 + a4*b2) + X*((a3*b4+a4*b3) + X * (a4*b4)))) := by
 have h1 : (P : Int) = (X : Int) ^ 5 - 19 := by
  have h2 : (P : Int) + 19 = (X : Int) ^ 5 := by exact_mod_cast h
  omega
 exact_mod_cast Yz a0 a1 a2 a3 a4 b0 b1 b2 b3 b4 X P h1
theorem U2 (a0 a1 a2 a3 a4 b0 b1 b2 b3 b4 N S : Nat) (c : Nat) (hS : S = (a0*b0 + 19*(a1*b4 + a2*b3 + a3*b2 + a4*b1)) + 2251799813685248*((a0*b1 + a1*b0 + 19*(a2*b4 + a3*b3 + a4*b2)) + 2251799813685248*((a0*b2 + a1*b1 + a2*b0 + 19*(a3*b4+a4*b3)) + 2251799813685248*((a0*b3+a1*b2+a2*b1+a3*b0 + 19*(a4*b4)) + 2251799813685248*(a0*b4+a1*b3+a2*b2+a3*b1+a4*b0)))))
 (hN : S = N + Num.p * c) : N % Num.p = (Fn.val ⟨a0, a1, a2, a3, a4⟩ * Fn.val ⟨b0, b1, b2, b3, b4⟩) % Num.p := by
 have h := U4 a0 a1 a2 a3 a4 b0 b1 b2 b3 b4 2251799813685248 Num.p (by decide)
 have e : Fn.val ⟨a0, a1, a2, a3, a4⟩ * Fn.val ⟨b0, b1, b2, b3, b4⟩ = S + Num.p * ((a1*b4 + a2*b3 + a3*b2 + a4*b1) + 2251799813685248 * ((a2*b4 + a3*b3 + a4*b2) + 2251799813685248*((a3*b4+a4*b3) + 2251799813685248 * (a4*b4)))) := by
  rw [hS]
  exact h
 rw [e, hN, Nat.add_assoc, ← Nat.mul_add, Nat.add_mul_mod_self_left]
theorem mul_any (x y : Fn) (hx : x.lt 4503599627370496) (hy : y.lt 4503599627370496) (w : World) :
 Calls Tryz.prog 79 #[x.v, y.v] w fun e w' => (∃ r : Fn, r.lt (2251799813685248 + 19) ∧ r.val % Num.p = (x.val * y.val) % Num.p ∧ e = .returned r.v) ∧ Below w.heap.size w w' := by
 obtain ⟨a0, a1, a2, a3, a4⟩ := x
 obtain ⟨b0, b1, b2, b3, b4⟩ := y
 obtain ⟨hx0, hx1, hx2, hx3, hx4⟩ := hx
 obtain ⟨hy0, hy1, hy2, hy3, hy4⟩ := hy
 simp only [Fn.v] at hx0 hx1 hx2 hx3 hx4 hy0 hy1 hy2 hy3 hy4 ⊢
 obtain ⟨z1, hz1, Z1⟩ : ∃ z : Nat, z = 19 * a1 ∧ eX (19 * (a1 : Int)) = (z : Int) := ⟨_, rfl, by rw [iW]; omega⟩
 have aeU : z1 < 144115188075855872 := by omega
 have HZ1 := Lib.hid hz1
 clear hz1
 obtain ⟨z2, hz2, Z2⟩ : ∃ z : Nat, z = 19 * a2 ∧ eX (19 * (a2 : Int)) = (z : Int) := ⟨_, rfl, by rw [iW]; omega⟩
 have aeV : z2 < 144115188075855872 := by omega
 have HZ2 := Lib.hid hz2
 clear hz2
 obtain ⟨z3, hz3, Z3⟩ : ∃ z : Nat, z = 19 * a3 ∧ eX (19 * (a3 : Int)) = (z : Int) := ⟨_, rfl, by rw [iW]; omega⟩
 have aeW : z3 < 144115188075855872 := by omega
 have HZ3 := Lib.hid hz3
 clear hz3
 obtain ⟨z4, lT, Z4⟩ : ∃ z : Nat, z = 19 * a4 ∧ eX (19 * (a4 : Int)) = (z : Int) := ⟨_, rfl, by rw [iW]; omega⟩
 have aeX : z4 < 144115188075855872 := by omega
 have HZ4 := Lib.hid lT
 clear lT
 have HX0 := Lib.hid (show a0 < 144115188075855872 by omega)
 have Q5 := Lib.hid hy0
 have HX1 := Lib.hid (show a1 < 144115188075855872 by omega)
 have HY1 := Lib.hid hy1
 have HX2 := Lib.hid (show a2 < 144115188075855872 by omega)
 have HY2 := Lib.hid hy2
 have HX3 := Lib.hid (show a3 < 144115188075855872 by omega)
 have HY3 := Lib.hid hy3
 have HX4 := Lib.hid (show a4 < 144115188075855872 by omega)
 have HY4 := Lib.hid hy4
 have HW1 := Lib.hid aeU
 have HW2 := Lib.hid aeV
 have HW3 := Lib.hid aeW
 have HW4 := Lib.hid aeX
 clear hx0 hx1 hx2 hx3 hx4 hy0 hy1 hy2 hy3 hy4 aeU aeV aeW aeX
 go_enter Tryz.func79, Tryz.ntmps79
 go_wp2_with fail
 refine wp_loop_rounds 6 ?_
 rw [rounds_succ]
 go_wp2_with fail
 refine wp_loop_rounds 6 ?_
 rw [rounds_succ]
 go_wp2_with fail
 refine (oN a0 b0 HX0.out Q5.out _).mono ?_
 rintro e y1 ⟨⟨m0, Hm0, rfl⟩, hb1⟩
 obtain ⟨x1, rfl, hc1, hz1, l10, nG, l12⟩ := bZ (b0 := w.heap.size + 1) (b1 := w.heap.size + 2) (b2 := w.heap.size + 3) hb1 rfl ob ob ob
 have HB1 : Hid (Below w.heap.size w x1) := Below.trans (pl (Below.refl _ _)) (hc1.mono sz)
 clear hb1 hc1
 try simp only [eF] at hz1
 go_wp2_with fail
 rw [rounds_succ]
 go_wp2_with fail
 refine (oN a0 b1 HX0.out HY1.out _).mono ?_
 rintro e y2 ⟨⟨m1, Hm1, rfl⟩, hb2⟩
 obtain ⟨x2, rfl, hc2, hz2, kD, rQ, Gh⟩ := bZ (b0 := w.heap.size + 1) (b1 := w.heap.size + 2) (b2 := w.heap.size + 3) hb2 rfl ob ob ob
 have HB2 := aZ HB1.out hc2
 clear hb2 hc2
 try simp only [eF] at hz2
 go_wp2_with fail
 rw [rounds_succ]
 go_wp2_with fail
 refine (oN a0 b2 HX0.out HY2.out _).mono ?_
 rintro e y3 ⟨⟨m2, Hm2, rfl⟩, hb3⟩
 obtain ⟨x3, rfl, hc3, hz3, nN, uq, zn⟩ := bZ (b0 := w.heap.size + 1) (b1 := w.heap.size + 2) (b2 := w.heap.size + 3) hb3 rfl ob ob ob
 have HB3 := aZ HB2.out hc3
 clear hb3 hc3
 try simp only [eF] at hz3
 go_wp2_with fail
 rw [rounds_succ]
 go_wp2_with fail
 refine (oN a0 b3 HX0.out HY3.out _).mono ?_
 rintro e y4 ⟨⟨m3, Hm3, rfl⟩, hb4⟩
 obtain ⟨x4, rfl, hc4, lT, rU, yL, Dj⟩ := bZ (b0 := w.heap.size + 1) (b1 := w.heap.size + 2) (b2 := w.heap.size + 3) hb4 rfl ob ob ob
 have HB4 := aZ HB3.out hc4
 clear hb4 hc4
 try simp only [eF] at lT
 go_wp2_with fail
 rw [rounds_succ]
 go_wp2_with fail
 refine (oN a0 b4 HX0.out HY4.out _).mono ?_
 rintro e y5 ⟨⟨m4, Hm4, rfl⟩, hb5⟩
 obtain ⟨x5, rfl, hc5, rP, Ae, l51, Gi⟩ := bZ (b0 := w.heap.size + 1) (b1 := w.heap.size + 2) (b2 := w.heap.size + 3) hb5 rfl ob ob ob
 have kR := aZ HB4.out hc5
 clear hb5 hc5
 try simp only [eF] at rP
 go_wp2_with fail
 rw [rounds_succ]
 go_wp2_with fail
 rw [rounds_succ]
 go_wp2_with fail
 refine wp_loop_rounds 6 ?_
 rw [rounds_succ]
 go_wp2_with fail
 refine (dX m1 a1 b0 1 Hm1.out.2 (by decide) HX1.out Q5.out _).mono ?_
 rintro e y6 ⟨⟨m5, Hm5, rfl⟩, hb6⟩
 obtain ⟨x6, rfl, hc6, yH, Gj, Jk, Kz⟩ := bZ (b0 := w.heap.size + 1) (b1 := w.heap.size + 2) (b2 := w.heap.size + 3) hb6 rfl ob ob ob
 have mg := aZ kR.out hc6
 clear hb6 hc6
 try simp only [eF] at yH
 go_wp2_with fail
 rw [rounds_succ]
 go_wp2_with fail
 refine (dX m2 a1 b1 1 Hm2.out.2 (by decide) HX1.out HY1.out _).mono ?_
 rintro e y7 ⟨⟨m6, Hm6, rfl⟩, hb7⟩
 obtain ⟨x7, rfl, Ef, Ac, KA, Pz, QJ⟩ := bZ (b0 := w.heap.size + 1) (b1 := w.heap.size + 2) (b2 := w.heap.size + 3) hb7 rfl ob ob ob
 have oW := aZ mg.out Ef
 clear hb7 Ef
 try simp only [eF] at Ac
 go_wp2_with fail
 rw [rounds_succ]
 go_wp2_with fail
 refine (dX m3 a1 b2 1 Hm3.out.2 (by decide) HX1.out HY2.out _).mono ?_
 rintro e y8 ⟨⟨m7, Hm7, rfl⟩, hb8⟩
 obtain ⟨x8, rfl, hc8, Di, PD, QK, UG⟩ := bZ (b0 := w.heap.size + 1) (b1 := w.heap.size + 2) (b2 := w.heap.size + 3) hb8 rfl ob ob ob
 have ru := aZ oW.out hc8
 clear hb8 hc8
 try simp only [eF] at Di
 go_wp2_with fail
 rw [rounds_succ]
 go_wp2_with fail
 refine (dX m4 a1 b3 1 Hm4.out.2 (by decide) HX1.out HY3.out _).mono ?_
 rintro e y9 ⟨⟨m8, Hm8, rfl⟩, kP⟩
 obtain ⟨x9, rfl, Ib, Fj, WG, Yi, ZR⟩ := bZ (b0 := w.heap.size + 1) (b1 := w.heap.size + 2) (b2 := w.heap.size + 3) kP rfl ob ob ob
 have pW := aZ ru.out Ib
 clear kP Ib
 try simp only [eF] at Fj
 go_wp2_with fail
 rw [rounds_succ]
 go_wp2_with fail
 refine (dX m0 z1 b4 1 Hm0.out.2 (by decide) HW1.out HY4.out _).mono ?_
 rintro e y10 ⟨⟨m9, Hm9, rfl⟩, dP⟩
 obtain ⟨x10, rfl, wQ, uQ, Kq, Pm, Po⟩ := bZ (b0 := w.heap.size + 1) (b1 := w.heap.size + 2) (b2 := w.heap.size + 3) dP rfl ob ob ob
 have fB := aZ pW.out wQ
 clear dP wQ
 try simp only [eF] at uQ
 go_wp2_with fail
 rw [rounds_succ]
 go_wp2_with fail
 rw [rounds_succ]
 go_wp2_with fail
 refine wp_loop_rounds 6 ?_
 rw [rounds_succ]
 go_wp2_with fail
 refine (dX m6 a2 b0 2 Hm6.out.2 (by decide) HX2.out Q5.out _).mono ?_
 rintro e y11 ⟨⟨m10, aav, rfl⟩, dG⟩
 obtain ⟨x11, rfl, mQ, nD, Bo, Kr, Kt⟩ := bZ (b0 := w.heap.size + 1) (b1 := w.heap.size + 2) (b2 := w.heap.size + 3) dG rfl ob ob ob
 have fC := aZ fB.out mQ
 clear dG mQ
 try simp only [eF] at nD
 go_wp2_with fail
 rw [rounds_succ]
 go_wp2_with fail
 refine (dX m7 a2 b1 2 Hm7.out.2 (by decide) HX2.out HY1.out _).mono ?_
 rintro e QN ⟨⟨m11, aaw, rfl⟩, bT⟩
 obtain ⟨x12, rfl, hc12, kF, uS, vI, vJ⟩ := bZ (b0 := w.heap.size + 1) (b1 := w.heap.size + 2) (b2 := w.heap.size + 3) bT rfl ob ob ob
 have fG := aZ fC.out hc12
 clear bT hc12
 try simp only [eF] at kF
 go_wp2_with fail
 rw [rounds_succ]
 go_wp2_with fail
 refine (dX m8 a2 b2 2 Hm8.out.2 (by decide) HX2.out HY2.out _).mono ?_
 rintro e y13 ⟨⟨m12, aax, rfl⟩, bM⟩
 obtain ⟨DL, rfl, hc13, jJ, tq, xg, xk⟩ := bZ (b0 := w.heap.size + 1) (b1 := w.heap.size + 2) (b2 := w.heap.size + 3) bM rfl ob ob ob
 have iH := aZ fG.out hc13
 clear bM hc13
 try simp only [eF] at jJ
 go_wp2_with fail
 rw [rounds_succ]
 go_wp2_with fail
 refine (dX m9 z2 b3 2 Hm9.out.2 (by decide) HW2.out HY3.out _).mono ?_
 rintro e Zl ⟨⟨m13, aay, rfl⟩, dO⟩
 obtain ⟨x14, rfl, lH, lZ, xq, xu, xw⟩ := bZ (b0 := w.heap.size + 1) (b1 := w.heap.size + 2) (b2 := w.heap.size + 3) dO rfl ob ob ob
 have jo := aZ iH.out lH
 clear dO lH
 try simp only [eF] at lZ
 go_wp2_with fail
 rw [rounds_succ]
 go_wp2_with fail
 refine (dX m5 z2 b4 2 Hm5.out.2 (by decide) HW2.out HY4.out _).mono ?_
 rintro e y15 ⟨⟨m14, aaz, rfl⟩, fH⟩
 obtain ⟨x15, rfl, rM, vH, Pq, Pv, Px⟩ := bZ (b0 := w.heap.size + 1) (b1 := w.heap.size + 2) (b2 := w.heap.size + 3) fH rfl ob ob ob
 have nV := aZ jo.out rM
 clear fH rM
 try simp only [eF] at vH
 go_wp2_with fail
 rw [rounds_succ]
 go_wp2_with fail
 rw [rounds_succ]
 go_wp2_with fail
 refine wp_loop_rounds 6 ?_
 rw [rounds_succ]
 go_wp2_with fail
 refine (dX m11 a3 b0 3 aaw.out.2 (by decide) HX3.out Q5.out _).mono ?_
 rintro e y16 ⟨⟨m15, aaA, rfl⟩, hb16⟩
 obtain ⟨x16, rfl, hc16, Un, ajm, ajn, ajo⟩ := bZ (b0 := w.heap.size + 1) (b1 := w.heap.size + 2) (b2 := w.heap.size + 3) hb16 rfl ob ob ob
 have yu := aZ nV.out hc16
 clear hb16 hc16
 try simp only [eF] at Un
 go_wp2_with fail
 rw [rounds_succ]
 go_wp2_with fail
 refine (dX m12 a3 b1 3 aax.out.2 (by decide) HX3.out HY1.out _).mono ?_
 rintro e y17 ⟨⟨m16, aaB, rfl⟩, rJ⟩
 obtain ⟨x17, rfl, hc17, Uo, ajp, ajq, ajr⟩ := bZ (b0 := w.heap.size + 1) (b1 := w.heap.size + 2) (b2 := w.heap.size + 3) rJ rfl ob ob ob
 have yw := aZ yu.out hc17
 clear rJ hc17
 try simp only [eF] at Uo
 go_wp2_with fail
 rw [rounds_succ]
 go_wp2_with fail
 refine (dX m13 z3 b2 3 aay.out.2 (by decide) HW3.out HY2.out _).mono ?_
 rintro e y18 ⟨⟨m17, aaC, rfl⟩, OV⟩
 obtain ⟨x18, rfl, hc18, aeT, ajs, ajt, aju⟩ := bZ (b0 := w.heap.size + 1) (b1 := w.heap.size + 2) (b2 := w.heap.size + 3) OV rfl ob ob ob
 have WS := aZ yw.out hc18
 clear OV hc18
 try simp only [eF] at aeT
 go_wp2_with fail
 rw [rounds_succ]
 go_wp2_with fail
 refine (dX m14 z3 b3 3 aaz.out.2 (by decide) HW3.out HY3.out _).mono ?_
 rintro e y19 ⟨⟨m18, aaD, rfl⟩, ad4⟩
 obtain ⟨x19, rfl, hc19, ai7, ajv, ajw, ajx⟩ := bZ (b0 := w.heap.size + 1) (b1 := w.heap.size + 2) (b2 := w.heap.size + 3) ad4 rfl ob ob ob
 have agO := aZ WS.out hc19
 clear ad4 hc19
 try simp only [eF] at ai7
 go_wp2_with fail
 rw [rounds_succ]
 go_wp2_with fail
 refine (dX m10 z3 b4 3 aav.out.2 (by decide) HW3.out HY4.out _).mono ?_
 rintro e y20 ⟨⟨m19, aaE, rfl⟩, ad5⟩
 obtain ⟨x20, rfl, aej, ai8, ajy, ajz, ajA⟩ := bZ (b0 := w.heap.size + 1) (b1 := w.heap.size + 2) (b2 := w.heap.size + 3) ad5 rfl ob ob ob
 have agP := aZ agO.out aej
 clear ad5 aej
 try simp only [eF] at ai8
 go_wp2_with fail
 rw [rounds_succ]
 go_wp2_with fail
 rw [rounds_succ]
 go_wp2_with fail
 refine wp_loop_rounds 6 ?_
 rw [rounds_succ]
 go_wp2_with fail
 refine (dX m16 a4 b0 4 aaB.out.2 (by decide) HX4.out Q5.out _).mono ?_
 rintro e y21 ⟨⟨m20, Q7, rfl⟩, ad6⟩
 obtain ⟨x21, rfl, hc21, ai9, ajB, ajC, ajD⟩ := bZ (b0 := w.heap.size + 1) (b1 := w.heap.size + 2) (b2 := w.heap.size + 3) ad6 rfl ob ob ob
 have agQ := aZ agP.out hc21
 clear ad6 hc21
 try simp only [eF] at ai9
 go_wp2_with fail
 rw [rounds_succ]
 go_wp2_with fail
 refine (dX m17 z4 b1 4 aaC.out.2 (by decide) HW4.out HY1.out _).mono ?_
 rintro e y22 ⟨⟨m21, Q8, rfl⟩, ad7⟩
 obtain ⟨x22, rfl, hc22, aja, ajE, ajF, ajG⟩ := bZ (b0 := w.heap.size + 1) (b1 := w.heap.size + 2) (b2 := w.heap.size + 3) ad7 rfl ob ob ob
 have agR := aZ agQ.out hc22
 clear ad7 hc22
 try simp only [eF] at aja
 go_wp2_with fail
 rw [rounds_succ]
 go_wp2_with fail
 refine (dX m18 z4 b2 4 aaD.out.2 (by decide) HW4.out HY2.out _).mono ?_
 rintro e y23 ⟨⟨m22, Q9, rfl⟩, ad8⟩
 obtain ⟨x23, rfl, aek, ajb, ajH, ajI, ajJ⟩ := bZ (b0 := w.heap.size + 1) (b1 := w.heap.size + 2) (b2 := w.heap.size + 3) ad8 rfl ob ob ob
 have agS := aZ agR.out aek
 clear ad8 aek
 try simp only [eF] at ajb
 go_wp2_with fail
 rw [rounds_succ]
 go_wp2_with fail
 refine (dX m19 z4 b3 4 aaE.out.2 (by decide) HW4.out HY3.out _).mono ?_
 rintro e y24 ⟨⟨m23, Rf, rfl⟩, ad9⟩
 obtain ⟨x24, rfl, hc24, ajc, ajL, ajM, ajN⟩ := bZ (b0 := w.heap.size + 1) (b1 := w.heap.size + 2) (b2 := w.heap.size + 3) ad9 rfl ob ob ob
 have agT := aZ agS.out hc24
 clear ad9 hc24
 try simp only [eF] at ajc
 go_wp2_with fail
 rw [rounds_succ]
 go_wp2_with fail
 refine (dX m15 z4 b4 4 aaA.out.2 (by decide) HW4.out HY4.out _).mono ?_
 rintro e y25 ⟨⟨m24, Rh, rfl⟩, aea⟩
 obtain ⟨x25, rfl, hc25, ajd, ajO, ajP, ajQ⟩ := bZ (b0 := w.heap.size + 1) (b1 := w.heap.size + 2) (b2 := w.heap.size + 3) aea rfl ob ob ob
 have agU := aZ agT.out hc25
 clear aea hc25
 try simp only [eF] at ajd
 go_wp2_with fail
 rw [rounds_succ]
 go_wp2_with fail
 rw [rounds_succ]
 go_wp2_with fail
 refine wp_loop_rounds 6 ?_
 obtain ⟨o0, Ho0, E0, S0, L0⟩ := GK m21 (by have := Q8.out.2; omega)
 rw [rounds_succ]
 go_wp2_with fail
 refine (lX m21 (by have := Q8.out.2; omega) _).mono ?_
 rintro e y26 ⟨⟨c1, Hc1, rfl⟩, aeb⟩
 obtain ⟨x26, rfl, ael, aje, ajR, ajS⟩ := fO (b0 := w.heap.size + 2) (b1 := x25.heap.size) aeb rfl ob ob
 have agV := aZ agU.out ael
 clear aeb ael
 try simp only [eF] at aje
 have B1 := Lib.hid (show c1 < 18446744073709551616 by have := Hc1.out; have := Q8.out.2; omega)
 try clear E0 S0 L0
 go_wp2_with fail
 obtain ⟨r1, u1, o1, Ho1, E1, S1, L1⟩ := mM m22 c1 (by have := Q9.out.2; have := B1.out; omega) (by have := B1.out; omega)
 rw [rounds_succ]
 go_wp2_with fail
 refine (lX r1 (by have := (show r1 < 41538374868278621028243970633760768 by have := Ho1.out.1; have := Q9.out.2; have := B1.out; omega); omega) _).mono ?_
 rintro e y27 ⟨⟨c2, Hc2, rfl⟩, aec⟩
 obtain ⟨x27, rfl, hc27, ajf, ajT, ajU⟩ := fO (b0 := w.heap.size + 2) (b1 := x25.heap.size) aec rfl ob ob
 have agW := aZ agV.out hc27
 clear aec hc27
 try simp only [eF] at ajf
 have B2 := Lib.hid (show c2 < 18446744073709551616 by have := Hc2.out; have := (show r1 < 41538374868278621028243970633760768 by have := Ho1.out.1; have := Q9.out.2; have := B1.out; omega); omega)
 try clear E1 S1 L1
 go_wp2_with fail
 obtain ⟨r2, u2, o2, Ho2, E2, S2, L2⟩ := mM m23 c2 (by have := Rf.out.2; have := B2.out; omega) (by have := B2.out; omega)
 rw [rounds_succ]
 go_wp2_with fail
 refine (lX r2 (by have := (show r2 < 41538374868278621028243970633760768 by have := Ho2.out.1; have := Rf.out.2; have := B2.out; omega); omega) _).mono ?_
 rintro e y28 ⟨⟨c3, Hc3, rfl⟩, aed⟩
 obtain ⟨x28, rfl, hc28, ajg, ajV, ajW⟩ := fO (b0 := w.heap.size + 2) (b1 := x25.heap.size) aed rfl ob ob
 have agX := aZ agW.out hc28
 clear aed hc28
 try simp only [eF] at ajg
 have B3 := Lib.hid (show c3 < 18446744073709551616 by have := Hc3.out; have := (show r2 < 41538374868278621028243970633760768 by have := Ho2.out.1; have := Rf.out.2; have := B2.out; omega); omega)
 try clear E2 S2 L2
 go_wp2_with fail
 obtain ⟨r3, u3, o3, Ho3, E3, S3, L3⟩ := mM m24 c3 (by have := Rh.out.2; have := B3.out; omega) (by have := B3.out; omega)
 rw [rounds_succ]
 go_wp2_with fail
 refine (lX r3 (by have := (show r3 < 41538374868278621028243970633760768 by have := Ho3.out.1; have := Rh.out.2; have := B3.out; omega); omega) _).mono ?_
 rintro e y29 ⟨⟨c4, Hc4, rfl⟩, aee⟩
 obtain ⟨x29, rfl, hc29, ajh, ajX, ajY⟩ := fO (b0 := w.heap.size + 2) (b1 := x25.heap.size) aee rfl ob ob
 have agY := aZ agX.out hc29
 clear aee hc29
 try simp only [eF] at ajh
 have B4 := Lib.hid (show c4 < 18446744073709551616 by have := Hc4.out; have := (show r3 < 41538374868278621028243970633760768 by have := Ho3.out.1; have := Rh.out.2; have := B3.out; omega); omega)
 try clear E3 S3 L3
 go_wp2_with fail
 obtain ⟨r4, u4, o4, Ho4, E4, S4, L4⟩ := mM m20 c4 (by have := Q7.out.2; have := B4.out; omega) (by have := B4.out; omega)
 rw [rounds_succ]
 go_wp2_with fail
 refine (lX r4 (by have := (show r4 < 41538374868278621028243970633760768 by have := Ho4.out.1; have := Q7.out.2; have := B4.out; omega); omega) _).mono ?_
 rintro e y30 ⟨⟨c5, Hc5, rfl⟩, aef⟩
 obtain ⟨x30, rfl, aem, aji, ajZ, aj0⟩ := fO (b0 := w.heap.size + 2) (b1 := x25.heap.size) aef rfl ob ob
 have agZ := aZ agY.out aem
 clear aef aem
 try simp only [eF] at aji
 have B5 := Lib.hid (show c5 < 18446744073709551616 by have := Hc5.out; have := (show r4 < 41538374868278621028243970633760768 by have := Ho4.out.1; have := Q7.out.2; have := B4.out; omega); omega)
 try clear E4 S4 L4
 go_wp2_with fail
 rw [rounds_succ]
 go_wp2_with fail
 refine (afk c5 B5.out _).mono ?_
 rintro e w1 ⟨⟨q, Hq, rfl⟩, rfl⟩
 obtain ⟨r5, u5, o5, Ho5, E5, S5, L5⟩ := mM q o0 (by have := Hq.out; have := B5.out; have := Ho0.out; omega) (by have := Ho0.out; omega)
 have B6 := Lib.hid (show r5 < 41538374868278621028243970633760768 by have := Hq.out; have := B5.out; have := Ho0.out; have := Ho5.out; omega)
 go_wp2_with fail
 go_region_with ((go_at_call 108; refine (lX r5 (by have := B6.out; omega) _).mono ?_; rintro e y31 ⟨⟨c6, Hc6, rfl⟩, aeg⟩; obtain ⟨x31, rfl, hc31, ajj, aj1, aj2, aj3⟩ := bZ (b0 := w.heap.size + 2) (b1 := x25.heap.size) (b2 := x30.heap.size) aeg rfl ob ob ob; have ag0 := aZ agZ.out hc31; clear aeg hc31 ajj); obtain ⟨s, Hs, W6⟩ : ∃ s : Nat, Hid (s = o1 + c6 ∧ s < 4503599627370496) ∧ eX ((o1 : Int) + (c6 : Int)) = (s : Int) := by (have k1 := Hc6.out; have k2 := B5.out; have k3 := Ho1.out; have k5 := Hq.out; have k6 := Ho5.out; have k7 := Ho0.out; have k4 : o1 + c6 < 4503599627370496 := by omega); exact ⟨_, ⟨rfl, k4⟩, by rw [iW]; omega⟩)
 all_goals
  go_wp2_with fail
  refine (kM ⟨o5, s, o2, o3, o4⟩ (by have k0 := Ho5.out; have k1 := Ho2.out; have k2 := Ho3.out; have k3 := Ho4.out; have k4 := Hs.out; exact ⟨by simp only; omega, by simp only; omega, by simp only; omega, by simp only; omega, by simp only; omega⟩) _).mono ?_
  rintro e y32 ⟨rfl, aeh⟩
  obtain ⟨x32, rfl, hc32, hz32, aj6⟩ := bQ (b := w.heap.size + 2) aeh rfl ob
  have ag1 := aZ ag0.out hc32
  clear aeh hc32
  try simp only [eF] at hz32
  go_wp2_with fail
  refine bodyPost_ret (v := (lK ⟨o5, s, o2, o3, o4⟩).v) ?_ rfl ⟨⟨_, xG _ ?_, ?_, rfl⟩, ?_⟩
  · simp [results, Tryz.results79, go_sem, l10, nG, l12, kD, rQ, Gh, nN, uq, zn, rU, yL, Dj, Ae, l51, Gi, Gj, Jk, Kz, KA, Pz, QJ, PD, QK, UG, WG, Yi, ZR, Kq, Pm, Po, Bo, Kr, Kt, uS, vI, vJ, tq, xg, xk, xq, xu, xw, Pq, Pv, Px, ajm, ajn, ajo, ajp, ajq, ajr, ajs, ajt, aju, ajv, ajw, ajx, ajy, ajz, ajA, ajB, ajC, ajD, ajE, ajF, ajG, ajH, ajI, ajJ, ajL, ajM, ajN, ajO, ajP, ajQ, ajR, ajS, ajT, ajU, ajV, ajW, ajX, ajY, ajZ, aj0, aj1, aj2, aj3, aj6]
  · have k0 := Ho5.out; have k1 := Ho2.out; have k2 := Ho3.out; have k3 := Ho4.out; have k4 := Hs.out; exact ⟨by simp only; omega, by simp only; omega, by simp only; omega, by simp only; omega, by simp only; omega⟩
  · rw [gU]
    refine U2 a0 a1 a2 a3 a4 b0 b1 b2 b3 b4 _ (m21 + 2251799813685248 * (m22 + 2251799813685248 * (m23 + 2251799813685248 * (m24 + 2251799813685248 * m20)))) c5 ?_ ?_
    · have g0 := Hm0.out.1
      have g1 := Hm1.out.1
      have g2 := Hm2.out.1
      have g3 := Hm3.out.1
      have g4 := Hm4.out.1
      have g5 := Hm5.out.1
      have g6 := Hm6.out.1
      have g7 := Hm7.out.1
      have g8 := Hm8.out.1
      have g9 := Hm9.out.1
      have g10 := aav.out.1
      have g11 := aaw.out.1
      have g12 := aax.out.1
      have g13 := aay.out.1
      have g14 := aaz.out.1
      have g15 := aaA.out.1
      have g16 := aaB.out.1
      have g17 := aaC.out.1
      have g18 := aaD.out.1
      have g19 := aaE.out.1
      have g20 := Q7.out.1
      have g21 := Q8.out.1
      have g22 := Q9.out.1
      have g23 := Rf.out.1
      have g24 := Rh.out.1
      have q1 := HZ1.out
      have q2 := HZ2.out
      have q3 := HZ3.out
      have q4 := HZ4.out
      have p0 := Ho0.out
      have p1 := Ho1.out
      have p2 := Ho2.out
      have p3 := Ho3.out
      have p4 := Ho4.out
      have p5 := Ho5.out
      have d1 := Hc1.out
      have d2 := Hc2.out
      have d3 := Hc3.out
      have d4 := Hc4.out
      have d5 := Hc5.out
      have d6 := Hc6.out
      have e1 := Hs.out.1
      have e2 := Hq.out
      subst q1 q2 q3 q4
      simp only [Nat.mul_assoc] at *
      omega
    · have g0 := Hm0.out.1
      have g1 := Hm1.out.1
      have g2 := Hm2.out.1
      have g3 := Hm3.out.1
      have g4 := Hm4.out.1
      have g5 := Hm5.out.1
      have g6 := Hm6.out.1
      have g7 := Hm7.out.1
      have g8 := Hm8.out.1
      have g9 := Hm9.out.1
      have g10 := aav.out.1
      have g11 := aaw.out.1
      have g12 := aax.out.1
      have g13 := aay.out.1
      have g14 := aaz.out.1
      have g15 := aaA.out.1
      have g16 := aaB.out.1
      have g17 := aaC.out.1
      have g18 := aaD.out.1
      have g19 := aaE.out.1
      have g20 := Q7.out.1
      have g21 := Q8.out.1
      have g22 := Q9.out.1
      have g23 := Rf.out.1
      have g24 := Rh.out.1
      have q1 := HZ1.out
      have q2 := HZ2.out
      have q3 := HZ3.out
      have q4 := HZ4.out
      have p0 := Ho0.out
      have p1 := Ho1.out
      have p2 := Ho2.out
      have p3 := Ho3.out
      have p4 := Ho4.out
      have p5 := Ho5.out
      have d1 := Hc1.out
      have d2 := Hc2.out
      have d3 := Hc3.out
      have d4 := Hc4.out
      have d5 := Hc5.out
      have d6 := Hc6.out
      have e1 := Hs.out.1
      have e2 := Hq.out
      clear q1 q2 q3 q4 g0 g1 g2 g3 g4 g5 g6 g7 g8 g9 g10 g11 g12 g13 g14 g15 g16 g17 g18 g19 g20 g21 g22 g23 g24
      simp only [Fn.val, Num.p]
      omega
  · exact (pl ag1.out)
end
end Go.Proofs.YtehfkbaendajbaaGreatDoor
