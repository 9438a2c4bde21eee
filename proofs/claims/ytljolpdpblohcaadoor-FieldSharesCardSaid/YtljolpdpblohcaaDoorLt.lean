/-
  Walks: package field, products of scalars.
-/
import Derived.Test.YtljolpdpblohcaaDoorLs
namespace Go.Proofs.YtljolpdpblohcaaDoor
open Go.RowKit Go.Proofs.YtljolpdpblohcaaDoorW.PrintLast
set_option linter.unusedSimpArgs false

set_option linter.unusedVariables false
theorem readR (A : Option Addr) (c L N : Nat) (bs : List Nat) (hby : ∀ b ∈ bs, b < 256) (hl : bs.length ≤ 64) (hL : L = bs.length) (hN : N = leN bs) (w : World) (hr : Rd w .u8 A bs) : Calls Tryd.prog 21 #[.slice A L c] w fun e w' => e = .returned (.agg (row 9 (lim N))) ∧ Below w.heap.size w w' :=
  readZ A c L N bs hby hl hL hN w hr
theorem productZ (a b p : Nat) (ha : a < WW ^ 4) (hb : b < WW ^ 4) (hp : p = a * b) (w : World) : Calls Tryd.prog 28 #[Lv a, Lv b] w fun e w' => e = .returned (Lv p) ∧ Below w.heap.size w w' := by
  subst hp
  exact product_any a b ha hb w
theorem AddC (x y c l d : Nat) (hc : c ≤ 1) (h1 : l = (x + y + c) % WW) (h2 : d = (x + y + c) / WW) (w : World) : (callFunc 29 #[.int .u64 (x : Int), .int .u64 (y : Int), .int .u64 (c : Int)]).run Tryd.prog w = .ok (.value (.tuple #[.int .u64 (l : Int), .int .u64 (d : Int)])) w := by
  have h := add64_law x y c hc w
  rw [h1, h2]
  exact h
theorem w4_of {bs : List Nat} (h : ∀ b ∈ bs, b < 256) (hl : bs.length ≤ 32) : leN bs < WW ^ 4 := Nat.lt_of_lt_of_le (b64_lt h hl) (by decide +kernel)
theorem times_lt {a b c : Nat} (ha : a < WW ^ 4) (hb : b < WW ^ 4) (hc : c < WW ^ 4) : a * b + c < LO * 2 ^ 321 := by
  have h1 := Nat.mul_le_mul (Nat.le_of_lt ha) (Nat.le_of_lt hb)
  have h2 : WW ^ 4 * WW ^ 4 + WW ^ 4 < LO * 2 ^ 321 := by decide +kernel
  exact Nat.lt_of_le_of_lt (Nat.add_le_add h1 (Nat.le_of_lt hc)) h2
theorem index9_0 (f : Nat → Nat) (w : World) : (Instr.index 44 (.agg (row 9 f)) (.int .i64 ((0 : Nat) : Int))).run Tryd.prog w = .ok (.int .u64 ((f 0 : Nat) : Int)) w := by kernel_rfl
theorem index9_1 (f : Nat → Nat) (w : World) : (Instr.index 44 (.agg (row 9 f)) (.int .i64 ((1 : Nat) : Int))).run Tryd.prog w = .ok (.int .u64 ((f 1 : Nat) : Int)) w := by kernel_rfl
theorem index9_2 (f : Nat → Nat) (w : World) : (Instr.index 44 (.agg (row 9 f)) (.int .i64 ((2 : Nat) : Int))).run Tryd.prog w = .ok (.int .u64 ((f 2 : Nat) : Int)) w := by kernel_rfl
theorem index9_3 (f : Nat → Nat) (w : World) : (Instr.index 44 (.agg (row 9 f)) (.int .i64 ((3 : Nat) : Int))).run Tryd.prog w = .ok (.int .u64 ((f 3 : Nat) : Int)) w := by kernel_rfl
theorem index9_4 (f : Nat → Nat) (w : World) : (Instr.index 44 (.agg (row 9 f)) (.int .i64 ((4 : Nat) : Int))).run Tryd.prog w = .ok (.int .u64 ((f 4 : Nat) : Int)) w := by kernel_rfl
theorem index9_5 (f : Nat → Nat) (w : World) : (Instr.index 44 (.agg (row 9 f)) (.int .i64 ((5 : Nat) : Int))).run Tryd.prog w = .ok (.int .u64 ((f 5 : Nat) : Int)) w := by kernel_rfl
theorem index9_6 (f : Nat → Nat) (w : World) : (Instr.index 44 (.agg (row 9 f)) (.int .i64 ((6 : Nat) : Int))).run Tryd.prog w = .ok (.int .u64 ((f 6 : Nat) : Int)) w := by kernel_rfl
theorem index9_7 (f : Nat → Nat) (w : World) : (Instr.index 44 (.agg (row 9 f)) (.int .i64 ((7 : Nat) : Int))).run Tryd.prog w = .ok (.int .u64 ((f 7 : Nat) : Int)) w := by kernel_rfl
theorem index9_8 (f : Nat → Nat) (w : World) : (Instr.index 44 (.agg (row 9 f)) (.int .i64 ((8 : Nat) : Int))).run Tryd.prog w = .ok (.int .u64 ((f 8 : Nat) : Int)) w := by kernel_rfl
theorem index9 (f : Nat → Nat) (i : Nat) (h : i < 9) (w : World) : (Instr.index 44 (.agg (row 9 f)) (.int .i64 (i : Int))).run Tryd.prog w = .ok (.int .u64 ((f i : Nat) : Int)) w := by
  match i, h with
  | 0, _ => exact index9_0 f w
  | 1, _ => exact index9_1 f w
  | 2, _ => exact index9_2 f w
  | 3, _ => exact index9_3 f w
  | 4, _ => exact index9_4 f w
  | 5, _ => exact index9_5 f w
  | 6, _ => exact index9_6 f w
  | 7, _ => exact index9_7 f w
  | 8, _ => exact index9_8 f w
theorem pins1f {w : World} {b0 : Nat} {o0 p0 : Obj} (h0 : w.heap[b0]? = some o0) (e0 : o0 = p0) : w = w.pin b0 p0 := by
  subst e0; exact pins1 h0
set_option maxRecDepth 100000 in
set_option maxHeartbeats 2000000 in
theorem Times_ok (A0 : Option Addr) (c0 : Nat) (b0 : List Nat) (by0 : ∀ b ∈ b0, b < 256) (l0 : b0.length ≤ 32) (A1 : Option Addr) (c1 : Nat) (b1 : List Nat) (by1 : ∀ b ∈ b1, b < 256) (l1 : b1.length ≤ 32) (A2 : Option Addr) (c2 : Nat) (b2 : List Nat) (by2 : ∀ b ∈ b2, b < 256) (l2 : b2.length ≤ 32) (w : World) (r0 : Rd w .u8 A0 b0) (r1 : Rd w .u8 A1 b1) (r2 : Rd w .u8 A2 b2) (ho : OrdAt w) :
    Calls Tryd.prog 12 #[.slice A0 b0.length c0, .slice A1 b1.length c1, .slice A2 b2.length c2] w fun e w' => (∃ b, e = .returned (.tuple #[.slice (some ⟨b, 0, none⟩) 32 32, .int .i64 0]) ∧ Rd w' .u8 (some ⟨b, 0, none⟩) (bytesN 32 ((leN b0 * leN b1 + leN b2) % LO))) ∧ Below w.heap.size w w' := by
  have HO := Lib.hid ho
  clear ho
  obtain ⟨L0, hL0⟩ : ∃ L, L = b0.length := ⟨_, rfl⟩
  obtain ⟨N0, hN0⟩ : ∃ N, N = leN b0 := ⟨_, rfl⟩
  have H0 := Lib.hid (show L0 = b0.length ∧ N0 = leN b0 ∧ N0 < WW ^ 4 ∧ b0.length ≤ 64 by rw [hL0, hN0]; exact ⟨rfl, rfl, w4_of by0 l0, by omega⟩)
  have hlz0 : ¬ (32 : Int) < (L0 : Int) := by omega
  have hd0 : decide (32 < L0) = false := decide_eq_false (by omega)
  rw [← hL0, ← hN0]
  have HR0 := Lib.hid r0
  have HY0 := Lib.hid by0
  clear r0 by0 l0 hL0 hN0
  obtain ⟨L1, hL1⟩ : ∃ L, L = b1.length := ⟨_, rfl⟩
  obtain ⟨N1, hN1⟩ : ∃ N, N = leN b1 := ⟨_, rfl⟩
  have H1 := Lib.hid (show L1 = b1.length ∧ N1 = leN b1 ∧ N1 < WW ^ 4 ∧ b1.length ≤ 64 by rw [hL1, hN1]; exact ⟨rfl, rfl, w4_of by1 l1, by omega⟩)
  have hlz1 : ¬ (32 : Int) < (L1 : Int) := by omega
  have hd1 : decide (32 < L1) = false := decide_eq_false (by omega)
  rw [← hL1, ← hN1]
  have HR1 := Lib.hid r1
  have HY1 := Lib.hid by1
  clear r1 by1 l1 hL1 hN1
  obtain ⟨L2, hL2⟩ : ∃ L, L = b2.length := ⟨_, rfl⟩
  obtain ⟨N2, hN2⟩ : ∃ N, N = leN b2 := ⟨_, rfl⟩
  have H2 := Lib.hid (show L2 = b2.length ∧ N2 = leN b2 ∧ N2 < WW ^ 4 ∧ b2.length ≤ 64 by rw [hL2, hN2]; exact ⟨rfl, rfl, w4_of by2 l2, by omega⟩)
  have hlz2 : ¬ (32 : Int) < (L2 : Int) := by omega
  have hd2 : decide (32 < L2) = false := decide_eq_false (by omega)
  rw [← hL2, ← hN2]
  have HR2 := Lib.hid r2
  have HY2 := Lib.hid by2
  clear r2 by2 l2 hL2 hN2
  obtain ⟨P, hP⟩ : ∃ P, P = N0 * N1 := ⟨_, rfl⟩
  obtain ⟨M, hM⟩ : ∃ M, M = P + N2 := ⟨_, rfl⟩
  obtain ⟨R, hR⟩ : ∃ R, R = M % LO := ⟨_, rfl⟩
  have HP := Lib.hid (show P = N0 * N1 ∧ M = P + N2 ∧ R = M % LO ∧ M < LO * 2 ^ 321 by rw [hR, hM, hP]; exact ⟨rfl, rfl, rfl, times_lt H0.out.2.2.1 H1.out.2.2.1 H2.out.2.2.1⟩)
  rw [← hP, ← hM, ← hR]
  clear hP hM hR
  go_enter Tryd.func12, Tryd.ntmps12
  go_wp2_with fail
  refine (readZ A0 c0 L0 N0 b0 HY0.out H0.out.2.2.2 H0.out.1 H0.out.2.1 _ (HR0.out.mono (by (repeat (first | with_reducible exact (Below.refl _ _) | with_reducible refine below_pin ?_ ?_ | with_reducible refine Below.alloc ?_ ?_ _ | with_reducible refine Below.setCell ?_ ?_ _ | with_reducible refine Below.drew ?_)); all_goals (first | omega | (simp only [World.size_alloc, pin_size, World.size_drew, World.size_setCell] <;> omega))) (Nat.le_refl _))).mono ?_
  rintro e x1 ⟨rfl, hb1⟩
  have HB1 : Hid (Below w.heap.size w x1) := Below.trans (by (repeat (first | with_reducible exact (Below.refl _ _) | with_reducible refine below_pin ?_ ?_ | with_reducible refine Below.alloc ?_ ?_ _ | with_reducible refine Below.setCell ?_ ?_ _ | with_reducible refine Below.drew ?_)); all_goals (first | omega | (simp only [World.size_alloc, pin_size, World.size_drew, World.size_setCell] <;> omega))) (hb1.mono (by (first | omega | (simp only [World.size_alloc, pin_size, World.size_drew, World.size_setCell] <;> omega))))
  have hz1 := HB1.out.size
  clear hb1
  go_wp2_with fail
  refine (readZ A1 c1 L1 N1 b1 HY1.out H1.out.2.2.2 H1.out.1 H1.out.2.1 _ (HR1.out.mono (by (repeat (first | with_reducible exact HB1.out | with_reducible refine below_pin ?_ ?_ | with_reducible refine Below.alloc ?_ ?_ _ | with_reducible refine Below.setCell ?_ ?_ _ | with_reducible refine Below.drew ?_)); all_goals (first | omega | (simp only [World.size_alloc, pin_size, World.size_drew, World.size_setCell] <;> omega))) (Nat.le_refl _))).mono ?_
  rintro e x2 ⟨rfl, hb2⟩
  have HB2 : Hid (Below w.heap.size w x2) := Below.trans (by (repeat (first | with_reducible exact HB1.out | with_reducible refine below_pin ?_ ?_ | with_reducible refine Below.alloc ?_ ?_ _ | with_reducible refine Below.setCell ?_ ?_ _ | with_reducible refine Below.drew ?_)); all_goals (first | omega | (simp only [World.size_alloc, pin_size, World.size_drew, World.size_setCell] <;> omega))) (hb2.mono (by (first | omega | (simp only [World.size_alloc, pin_size, World.size_drew, World.size_setCell] <;> omega))))
  have hz2 := HB2.out.size
  clear hb2
  go_wp2_with fail
  refine (productZ N0 N1 P H0.out.2.2.1 H1.out.2.2.1 HP.out.1 _).mono ?_
  rintro e x3 ⟨rfl, hb3⟩
  have HB3 : Hid (Below w.heap.size w x3) := Below.trans (by (repeat (first | with_reducible exact HB2.out | with_reducible refine below_pin ?_ ?_ | with_reducible refine Below.alloc ?_ ?_ _ | with_reducible refine Below.setCell ?_ ?_ _ | with_reducible refine Below.drew ?_)); all_goals (first | omega | (simp only [World.size_alloc, pin_size, World.size_drew, World.size_setCell] <;> omega))) (hb3.mono (by (first | omega | (simp only [World.size_alloc, pin_size, World.size_drew, World.size_setCell] <;> omega))))
  have hz3 := HB3.out.size
  clear hb3
  go_wp2_with fail
  refine (readR A2 c2 L2 N2 b2 HY2.out H2.out.2.2.2 H2.out.1 H2.out.2.1 _ (HR2.out.mono (by (repeat (first | with_reducible exact HB3.out | with_reducible refine below_pin ?_ ?_ | with_reducible refine Below.alloc ?_ ?_ _ | with_reducible refine Below.setCell ?_ ?_ _ | with_reducible refine Below.drew ?_)); all_goals (first | omega | (simp only [World.size_alloc, pin_size, World.size_drew, World.size_setCell] <;> omega))) (Nat.le_refl _))).mono ?_
  rintro e y4 ⟨rfl, hb4⟩
  obtain ⟨x4, rfl, hc4, hz4, l40⟩ := keep1 (b := x3.heap.size) hb4 rfl (by (repeat (first | with_reducible exact pin_at (by assumption) | (with_reducible apply pin_at; (first | omega | (simp only [World.size_alloc, pin_size, World.size_drew, World.size_setCell] <;> omega))) | (with_reducible apply alloc_at; first | rfl | (simp only [World.size_alloc, pin_size, World.size_drew, World.size_setCell] <;> omega)) | with_reducible apply past_pin | with_reducible apply past_alloc | with_reducible apply past_drew)); all_goals (first | omega | (simp only [World.size_alloc, pin_size, World.size_drew, World.size_setCell] <;> omega)))
  have HB4 : Hid (Below w.heap.size w x4) := Below.trans (by (repeat (first | with_reducible exact HB3.out | with_reducible refine below_pin ?_ ?_ | with_reducible refine Below.alloc ?_ ?_ _ | with_reducible refine Below.setCell ?_ ?_ _ | with_reducible refine Below.drew ?_)); all_goals (first | omega | (simp only [World.size_alloc, pin_size, World.size_drew, World.size_setCell] <;> omega))) (hc4.mono (by (first | omega | (simp only [World.size_alloc, pin_size, World.size_drew, World.size_setCell] <;> omega))))
  clear hb4 hc4
  try simp only [World.size_alloc, pin_size, World.size_drew, World.size_setCell] at hz4
  go_wp2_with fail
  go_loopw [9, 32] (fun cv iv wr => ∃ (i cr : Nat) (fc : Nat → Nat) (z : World), cv = .int .u64 (cr : Int) ∧ iv = .int .i64 (i : Int) ∧ wr = (z.pin x3.heap.size (.cells (row 9 fc) 44)) ∧ x3.heap.size < z.heap.size ∧ Hid (Below w.heap.size w z ∧ i ≤ 9 ∧ AddI P N2 i fc cr)) (fun _ iv _ => (9 - intOf iv).toNat)
  case atStart => exact ⟨0, 0, lim P, _, rfl, rfl, pins1f (by (repeat (first | with_reducible exact pin_at (by assumption) | (with_reducible apply pin_at; (first | omega | (simp only [World.size_alloc, pin_size, World.size_drew, World.size_setCell] <;> omega))) | (with_reducible apply alloc_at; first | rfl | (simp only [World.size_alloc, pin_size, World.size_drew, World.size_setCell] <;> omega)) | with_reducible apply past_pin | with_reducible apply past_alloc | with_reducible apply past_drew)); all_goals (first | omega | (simp only [World.size_alloc, pin_size, World.size_drew, World.size_setCell] <;> omega))) (by rfl), (by (first | omega | (simp only [World.size_alloc, pin_size, World.size_drew, World.size_setCell] <;> omega))), (by (repeat (first | with_reducible exact HB4.out | with_reducible refine below_pin ?_ ?_ | with_reducible refine Below.alloc ?_ ?_ _ | with_reducible refine Below.setCell ?_ ?_ _ | with_reducible refine Below.drew ?_)); all_goals (first | omega | (simp only [World.size_alloc, pin_size, World.size_drew, World.size_setCell] <;> omega))), by omega, add_start P N2⟩
  case round =>
    obtain ⟨i, cr, fc, z, rfl, rfl, rfl, q0, H⟩ := hrel
    have HB1 : Hid (Below w.heap.size w z) := H.out.1
    by_cases hi : i < 9
    · have hiz : (i : Int) < 9 := by omega
      have HI := Lib.hid hi
      have hga := row9_get fc hi
      have hgb := index9 (lim N2) i hi
      rw [show fc i = lim P i from H.out.2.2.2.2.1 i (Nat.le_refl _)] at hga
      obtain ⟨x, hx⟩ : ∃ x, x = lim P i := ⟨_, rfl⟩
      obtain ⟨y, hy⟩ : ∃ y, y = lim N2 i := ⟨_, rfl⟩
      rw [← hx] at hga
      rw [← hy] at hgb
      obtain ⟨l, hl⟩ : ∃ l, l = (x + y + cr) % WW := ⟨_, rfl⟩
      obtain ⟨d, hd⟩ : ∃ d, d = (x + y + cr) / WW := ⟨_, rfl⟩
      have hS := AddC x y cr l d H.out.2.2.1 hl hd
      have HE := Lib.hid (show AddI P N2 (i + 1) (upd fc i l) d by rw [hl, hd, hx, hy]; exact add_step H.out.2.2)
      clear H hi hx hy hl hd
      go_wp2_with fail
      exact ⟨⟨i + 1, d, upd fc i l, z, rfl, vi0 i, by rw [row_set], q0, HB1.out, HI.out, HE.out⟩, meas_up0 9 i HI.out⟩
    · have hi9 : i = 9 := by have := H.out.2.1; omega
      subst hi9
      have hrow : row 9 fc = row 9 (lim M) := by rw [HP.out.2.1]; exact row_congr (fun j hj => H.out.2.2.2.1 j hj)
      rw [hrow, row9_lit M]
      clear H hrow
      go_wp2_with fail
      refine (restZ M R HP.out.2.2.2 HP.out.2.2.1 _ (HO.out.mono (by (repeat (first | with_reducible exact HB1.out | with_reducible refine below_pin ?_ ?_ | with_reducible refine Below.alloc ?_ ?_ _ | with_reducible refine Below.setCell ?_ ?_ _ | with_reducible refine Below.drew ?_)); all_goals (first | omega | (simp only [World.size_alloc, pin_size, World.size_drew, World.size_setCell] <;> omega))) (Nat.le_refl _))).mono ?_
      rintro e y2 ⟨rfl, hb2⟩
      obtain ⟨x2, rfl, hc2, hz2, l20⟩ := keep1 (b := x3.heap.size) hb2 rfl (by (repeat (first | with_reducible exact pin_at (by assumption) | (with_reducible apply pin_at; (first | omega | (simp only [World.size_alloc, pin_size, World.size_drew, World.size_setCell] <;> omega))) | (with_reducible apply alloc_at; first | rfl | (simp only [World.size_alloc, pin_size, World.size_drew, World.size_setCell] <;> omega)) | with_reducible apply past_pin | with_reducible apply past_alloc | with_reducible apply past_drew)); all_goals (first | omega | (simp only [World.size_alloc, pin_size, World.size_drew, World.size_setCell] <;> omega)))
      have HB2 : Hid (Below w.heap.size w x2) := Below.trans (by (repeat (first | with_reducible exact HB1.out | with_reducible refine below_pin ?_ ?_ | with_reducible refine Below.alloc ?_ ?_ _ | with_reducible refine Below.setCell ?_ ?_ _ | with_reducible refine Below.drew ?_)); all_goals (first | omega | (simp only [World.size_alloc, pin_size, World.size_drew, World.size_setCell] <;> omega))) (hc2.mono (by (first | omega | (simp only [World.size_alloc, pin_size, World.size_drew, World.size_setCell] <;> omega))))
      clear hb2 hc2
      try simp only [World.size_alloc, pin_size, World.size_drew, World.size_setCell] at hz2
      go_wp2_with fail
      refine (bytesOf_any R _).mono ?_
      rintro e x3 ⟨⟨b, rfl, hrd⟩, hb3⟩
      have HB3 : Hid (Below w.heap.size w x3) := Below.trans (by (repeat (first | with_reducible exact HB2.out | with_reducible refine below_pin ?_ ?_ | with_reducible refine Below.alloc ?_ ?_ _ | with_reducible refine Below.setCell ?_ ?_ _ | with_reducible refine Below.drew ?_)); all_goals (first | omega | (simp only [World.size_alloc, pin_size, World.size_drew, World.size_setCell] <;> omega))) (hb3.mono (by (first | omega | (simp only [World.size_alloc, pin_size, World.size_drew, World.size_setCell] <;> omega))))
      have hz3 := HB3.out.size
      clear hb3
      have HRD := Lib.hid hrd
      clear hrd
      go_wp2_with fail
      refine bodyPost_ret (v := .tuple #[.slice (some ⟨b, 0, none⟩) 32 32, .int .i64 0]) ?_ rfl ⟨⟨b, rfl, HRD.out⟩, (by (repeat (first | with_reducible exact HB3.out | with_reducible refine below_pin ?_ ?_ | with_reducible refine Below.alloc ?_ ?_ _ | with_reducible refine Below.setCell ?_ ?_ _ | with_reducible refine Below.drew ?_)); all_goals (first | omega | (simp only [World.size_alloc, pin_size, World.size_drew, World.size_setCell] <;> omega)))⟩
      · simp [results, Tryd.results12, go_sem]
set_option maxRecDepth 100000 in
set_option maxHeartbeats 1000000 in
theorem Times_bad (A0 A1 A2 : Option Addr) (c0 c1 c2 L0 L1 L2 : Nat) (hl : ¬ (L0 ≤ 32 ∧ L1 ≤ 32 ∧ L2 ≤ 32)) (w : World) :
    Calls Tryd.prog 12 #[.slice A0 L0 c0, .slice A1 L1 c1, .slice A2 L2 c2] w fun e w' => e = .returned (.tuple #[.slice none 0 0, .int .i64 1]) ∧ Below w.heap.size w w' := by
  have hz0 : ((32 : Int) < (L0 : Int)) ∨ ((32 : Int) < (L1 : Int)) ∨ ((32 : Int) < (L2 : Int)) := by omega
  clear hl
  by_cases h0 : (32 : Int) < (L0 : Int)
  · have k0 : decide (32 < L0) = true := decide_eq_true (by omega)
    clear hz0
    go_enter Tryd.func12, Tryd.ntmps12
    go_wp2_with fail
    refine bodyPost_ret (v := .tuple #[.slice none 0 0, .int .i64 1]) ?_ rfl ⟨rfl, (by (repeat (first | with_reducible exact (Below.refl _ _) | with_reducible refine below_pin ?_ ?_ | with_reducible refine Below.alloc ?_ ?_ _ | with_reducible refine Below.setCell ?_ ?_ _ | with_reducible refine Below.drew ?_)); all_goals (first | omega | (simp only [World.size_alloc, pin_size, World.size_drew, World.size_setCell] <;> omega)))⟩
    · simp [results, Tryd.results12, go_sem]
  have k0 : decide (32 < L0) = false := decide_eq_false (by omega)
  by_cases h1 : (32 : Int) < (L1 : Int)
  · have k1 : decide (32 < L1) = true := decide_eq_true (by omega)
    clear hz0
    go_enter Tryd.func12, Tryd.ntmps12
    go_wp2_with fail
    refine bodyPost_ret (v := .tuple #[.slice none 0 0, .int .i64 1]) ?_ rfl ⟨rfl, (by (repeat (first | with_reducible exact (Below.refl _ _) | with_reducible refine below_pin ?_ ?_ | with_reducible refine Below.alloc ?_ ?_ _ | with_reducible refine Below.setCell ?_ ?_ _ | with_reducible refine Below.drew ?_)); all_goals (first | omega | (simp only [World.size_alloc, pin_size, World.size_drew, World.size_setCell] <;> omega)))⟩
    · simp [results, Tryd.results12, go_sem]
  have k1 : decide (32 < L1) = false := decide_eq_false (by omega)
  by_cases h2 : (32 : Int) < (L2 : Int)
  · have k2 : decide (32 < L2) = true := decide_eq_true (by omega)
    clear hz0
    go_enter Tryd.func12, Tryd.ntmps12
    go_wp2_with fail
    refine bodyPost_ret (v := .tuple #[.slice none 0 0, .int .i64 1]) ?_ rfl ⟨rfl, (by (repeat (first | with_reducible exact (Below.refl _ _) | with_reducible refine below_pin ?_ ?_ | with_reducible refine Below.alloc ?_ ?_ _ | with_reducible refine Below.setCell ?_ ?_ _ | with_reducible refine Below.drew ?_)); all_goals (first | omega | (simp only [World.size_alloc, pin_size, World.size_drew, World.size_setCell] <;> omega)))⟩
    · simp [results, Tryd.results12, go_sem]
  have k2 : decide (32 < L2) = false := decide_eq_false (by omega)
  exfalso; omega

end Go.Proofs.YtljolpdpblohcaaDoor
