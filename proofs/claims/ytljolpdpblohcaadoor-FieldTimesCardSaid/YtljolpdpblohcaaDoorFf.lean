/-
  Walks: package field, inverses, powers, roots.
-/
import Derived.Test.YtljolpdpblohcaaDoorFd
import Derived.ChangeKeysEq
namespace Go.Proofs.YtljolpdpblohcaaDoor
open Go.RowKit Go.Proofs.YtljolpdpblohcaaDoorW.PrintLast
set_option linter.unusedSimpArgs false

@[go_sem] theorem eq_elem (x0 x1 x2 x3 x4 y0 y1 y2 y3 y4 : Int) (w : World) : (Op.equalIn 10000 35 (.agg #[.int .u64 x0, .int .u64 x1, .int .u64 x2, .int .u64 x3, .int .u64 x4]) (.agg #[.int .u64 y0, .int .u64 y1, .int .u64 y2, .int .u64 y3, .int .u64 y4])).run Tryd.prog w = .ok (x0 == y0 && (x1 == y1 && (x2 == y2 && (x3 == y3 && x4 == y4)))) w := by
  have hi : ∃ i, Tryd.prog.info? 33 = some i := Option.isSome_iff_exists.mp (by kernel_rfl)
  obtain ⟨i, hi⟩ := hi
  have hc : Tryd.prog.cellsOf 33 = 1 := by kernel_rfl
  rw [run_equalIn_array w 9999 _ _ Tryd.underlying35 hi, hc]
  have q : ∀ a b : Int, (Op.equalIn 9999 33 (.int .u64 a) (.int .u64 b)).run Tryd.prog w = .ok (a == b) w := fun a b => run_equalIn_int w 9998 33 .u64 .u64 a b Tryd.underlying33
  have p0 : ∀ z0 z1 z2 z3 z4 : Int, (part 33 #[.int .u64 z0, .int .u64 z1, .int .u64 z2, .int .u64 z3, .int .u64 z4] (0 * 1)).run Tryd.prog w = .ok (.int .u64 z0) w := fun _ _ _ _ _ => by kernel_rfl
  have p1 : ∀ z0 z1 z2 z3 z4 : Int, (part 33 #[.int .u64 z0, .int .u64 z1, .int .u64 z2, .int .u64 z3, .int .u64 z4] (1 * 1)).run Tryd.prog w = .ok (.int .u64 z1) w := fun _ _ _ _ _ => by kernel_rfl
  have p2 : ∀ z0 z1 z2 z3 z4 : Int, (part 33 #[.int .u64 z0, .int .u64 z1, .int .u64 z2, .int .u64 z3, .int .u64 z4] (2 * 1)).run Tryd.prog w = .ok (.int .u64 z2) w := fun _ _ _ _ _ => by kernel_rfl
  have p3 : ∀ z0 z1 z2 z3 z4 : Int, (part 33 #[.int .u64 z0, .int .u64 z1, .int .u64 z2, .int .u64 z3, .int .u64 z4] (3 * 1)).run Tryd.prog w = .ok (.int .u64 z3) w := fun _ _ _ _ _ => by kernel_rfl
  have p4 : ∀ z0 z1 z2 z3 z4 : Int, (part 33 #[.int .u64 z0, .int .u64 z1, .int .u64 z2, .int .u64 z3, .int .u64 z4] (4 * 1)).run Tryd.prog w = .ok (.int .u64 z4) w := fun _ _ _ _ _ => by kernel_rfl
  rw [show List.range 5 = [0, 1, 2, 3, 4] from rfl]
  simp only [Op.eqItems, Sem.run_bind, p0, q, Result.andThen_ok]
  cases (x0 == y0)
  · simp
  · simp only [Bool.not_true, Bool.false_eq_true, if_false, Sem.run_bind, p1, q, Result.andThen_ok, Bool.true_and]
    cases (x1 == y1)
    · simp
    · simp only [Bool.not_true, Bool.false_eq_true, if_false, Sem.run_bind, p2, q, Result.andThen_ok, Bool.true_and]
      cases (x2 == y2)
      · simp
      · simp only [Bool.not_true, Bool.false_eq_true, if_false, Sem.run_bind, p3, q, Result.andThen_ok, Bool.true_and]
        cases (x3 == y3)
        · simp
        · simp only [Bool.not_true, Bool.false_eq_true, if_false, Sem.run_bind, p4, q, Result.andThen_ok, Bool.true_and]
          cases (x4 == y4)
          · simp
          · simp
theorem same_eq (m n : Nat) : (((small m).a : Int) == ((small n).a : Int) && (((small m).b : Int) == ((small n).b : Int) && (((small m).c : Int) == ((small n).c : Int) && (((small m).d : Int) == ((small n).d : Int) && ((small m).e : Int) == ((small n).e : Int))))) = decide (m % Num.p = n % Num.p) := by
  rw [Bool.eq_iff_iff]
  simp only [Bool.and_eq_true, beq_iff_eq, decide_eq_true_eq, Int.natCast_inj]
  constructor
  · rintro ⟨h1, h2, h3, h4, h5⟩
    apply small_inj
    cases hm : small m
    cases hn : small n
    rw [hm, hn] at h1 h2 h3 h4 h5
    simp only at h1 h2 h3 h4 h5
    rw [h1, h2, h3, h4, h5]
  · intro h
    rw [small_congr h]
    exact ⟨rfl, rfl, rfl, rfl, rfl⟩

theorem zero_v : Value.agg #[.int .u64 0, .int .u64 0, .int .u64 0, .int .u64 0, .int .u64 0] = (⟨0, 0, 0, 0, 0⟩ : Fn).v := rfl
theorem zero_val : Fn.val ⟨0, 0, 0, 0, 0⟩ = 0 := rfl
theorem odd_eq (v : Nat) : (bits .and .u64 ((small v).a : Int) 1 == 1) = decide (v % Num.p % 2 = 1) := by
  have hlt := (small_u v).1
  have h := bits_and_u64_nat (small v).a 1 hlt (by omega)
  rw [Nat.and_one_is_mod] at h
  have e : (small v).a % 2 = v % Num.p % 2 := by unfold small cut51; simp only; omega
  have e2 : bits .and .u64 ((small v).a : Int) 1 = (((small v).a % 2 : Nat) : Int) := h
  rw [e2, e]
  by_cases hn : v % Num.p % 2 = 1
  · rw [hn]; rfl
  · have : v % Num.p % 2 = 0 := by omega
    rw [this]; rfl
theorem zero_lt (B : Nat) (h : 0 < B) : (⟨0, 0, 0, 0, 0⟩ : Fn).lt B := ⟨h, h, h, h, h⟩
theorem power_near (a : Fn) (ha : a.lt 4503599627370496) (lo hi : Nat) (h1 : lo < 256) (h2 : hi < 256) (A : Option Addr) (c : Nat) (w : World) (hr : Rd w .u8 A (nearL lo hi)) :
    Calls Tryd.prog 36 #[a.v, .slice A 32 c] w fun e w' => (∃ r : Fn, r.lt (2251799813685248 + 19) ∧ r.val % Num.p = a.val ^ leN (nearL lo hi) % Num.p ∧ e = .returned r.v) ∧ Below w.heap.size w w' :=
  power_any a ha A c (nearL lo hi) (by simp [nearL]) (by intro b hb; simp [nearL] at hb; omega) w hr

set_option maxRecDepth 100000 in
set_option maxHeartbeats 1000000 in
theorem Neg_any (a : Fn) (ha : a.lt 18446744073709551616) (w : World) :
    Calls Tryd.prog 15 #[a.v] w fun e w' => e = .returned (small (subM 0 a.val)).v ∧ Below w.heap.size w w' := by
  have CX := Lib.hid ha
  clear ha
  go_enter Tryd.func15, Tryd.ntmps15
  go_wp2_with fail
  refine (Sub_any ⟨0, 0, 0, 0, 0⟩ a (zero_lt _ (by decide)) CX.out _).mono ?_
  rintro e y1 ⟨rfl, hb1⟩
  obtain ⟨x1, rfl, hc1, hz1, l10, l11⟩ := keep2 (b0 := w.heap.size) (b1 := w.heap.size + 1) hb1 rfl (by (repeat (first | with_reducible exact pin_at (by assumption) | (with_reducible apply pin_at; (first | omega | (simp only [World.size_alloc, pin_size, World.size_drew, World.size_setCell] <;> omega))) | (with_reducible apply alloc_at; first | rfl | (simp only [World.size_alloc, pin_size, World.size_drew, World.size_setCell] <;> omega)) | with_reducible apply past_pin | with_reducible apply past_alloc | with_reducible apply past_drew)); all_goals (first | omega | (simp only [World.size_alloc, pin_size, World.size_drew, World.size_setCell] <;> omega))) (by (repeat (first | with_reducible exact pin_at (by assumption) | (with_reducible apply pin_at; (first | omega | (simp only [World.size_alloc, pin_size, World.size_drew, World.size_setCell] <;> omega))) | (with_reducible apply alloc_at; first | rfl | (simp only [World.size_alloc, pin_size, World.size_drew, World.size_setCell] <;> omega)) | with_reducible apply past_pin | with_reducible apply past_alloc | with_reducible apply past_drew)); all_goals (first | omega | (simp only [World.size_alloc, pin_size, World.size_drew, World.size_setCell] <;> omega)))
  have HB1 : Hid (Below w.heap.size w x1) := Below.trans (by (repeat (first | with_reducible exact (Below.refl _ _) | with_reducible refine below_pin ?_ ?_ | with_reducible refine Below.alloc ?_ ?_ _ | with_reducible refine Below.setCell ?_ ?_ _ | with_reducible refine Below.drew ?_)); all_goals (first | omega | (simp only [World.size_alloc, pin_size, World.size_drew, World.size_setCell] <;> omega))) (hc1.mono (by (first | omega | (simp only [World.size_alloc, pin_size, World.size_drew, World.size_setCell] <;> omega))))
  clear hb1 hc1
  try simp only [World.size_alloc, pin_size, World.size_drew, World.size_setCell] at hz1
  go_wp2_with fail
  refine bodyPost_ret (v := (small (subM 0 a.val)).v) ?_ rfl ⟨rfl, ?_⟩
  · simp [results, Tryd.results15, go_sem, l10, l11, zero_val]
  · exact (by (repeat (first | with_reducible exact HB1.out | with_reducible refine below_pin ?_ ?_ | with_reducible refine Below.alloc ?_ ?_ _ | with_reducible refine Below.setCell ?_ ?_ _ | with_reducible refine Below.drew ?_)); all_goals (first | omega | (simp only [World.size_alloc, pin_size, World.size_drew, World.size_setCell] <;> omega)))

set_option maxRecDepth 100000 in
set_option maxHeartbeats 1000000 in
theorem Odd_any (a : Fn) (ha : a.lt 18446744073709551616) (w : World) :
    Calls Tryd.prog 39 #[a.v] w fun e w' => e = .returned (.bool (decide (a.val % Num.p % 2 = 1))) ∧ Below w.heap.size w w' := by
  have CX := Lib.hid ha
  clear ha
  go_enter Tryd.func39, Tryd.ntmps39
  go_wp2_with fail
  refine (reduce_nat a CX.out _).mono ?_
  rintro e y1 ⟨rfl, hb1⟩
  obtain ⟨x1, rfl, hc1, hz1, l10⟩ := keep1 (b := w.heap.size) hb1 rfl (by (repeat (first | with_reducible exact pin_at (by assumption) | (with_reducible apply pin_at; (first | omega | (simp only [World.size_alloc, pin_size, World.size_drew, World.size_setCell] <;> omega))) | (with_reducible apply alloc_at; first | rfl | (simp only [World.size_alloc, pin_size, World.size_drew, World.size_setCell] <;> omega)) | with_reducible apply past_pin | with_reducible apply past_alloc | with_reducible apply past_drew)); all_goals (first | omega | (simp only [World.size_alloc, pin_size, World.size_drew, World.size_setCell] <;> omega)))
  have HB1 : Hid (Below w.heap.size w x1) := Below.trans (by (repeat (first | with_reducible exact (Below.refl _ _) | with_reducible refine below_pin ?_ ?_ | with_reducible refine Below.alloc ?_ ?_ _ | with_reducible refine Below.setCell ?_ ?_ _ | with_reducible refine Below.drew ?_)); all_goals (first | omega | (simp only [World.size_alloc, pin_size, World.size_drew, World.size_setCell] <;> omega))) (hc1.mono (by (first | omega | (simp only [World.size_alloc, pin_size, World.size_drew, World.size_setCell] <;> omega))))
  clear hb1 hc1
  try simp only [World.size_alloc, pin_size, World.size_drew, World.size_setCell] at hz1
  go_wp2_with fail
  go_ret
  exact ⟨congrArg (fun z => Ending.returned (.bool z)) (odd_eq a.val), (by (repeat (first | with_reducible exact HB1.out | with_reducible refine below_pin ?_ ?_ | with_reducible refine Below.alloc ?_ ?_ _ | with_reducible refine Below.setCell ?_ ?_ _ | with_reducible refine Below.drew ?_)); all_goals (first | omega | (simp only [World.size_alloc, pin_size, World.size_drew, World.size_setCell] <;> omega)))⟩

set_option maxRecDepth 100000 in
set_option maxHeartbeats 1000000 in
theorem Same_any (a b : Fn) (ha : a.lt 18446744073709551616) (hb : b.lt 18446744073709551616) (w : World) :
    Calls Tryd.prog 38 #[a.v, b.v] w fun e w' => e = .returned (.bool (decide (a.val % Num.p = b.val % Num.p))) ∧ Below w.heap.size w w' := by
  have CX := Lib.hid ha
  have CY := Lib.hid hb
  clear ha hb
  go_enter Tryd.func38, Tryd.ntmps38
  go_wp2_with fail
  refine start_ (S := Keeps w _) (ds := []) (n := 6) #[false, false, false, false, false, false] (by kernel_rfl) rfl rfl (keepsC (b := w.heap.size) (by (repeat (first | with_reducible exact pin_at (by assumption) | (with_reducible apply pin_at; (first | omega | (simp only [World.size_alloc, pin_size, World.size_drew, World.size_setCell] <;> omega))) | (with_reducible apply alloc_at; first | rfl | (simp only [World.size_alloc, pin_size, World.size_drew, World.size_setCell] <;> omega)) | with_reducible apply past_pin | with_reducible apply past_alloc | with_reducible apply past_drew)); all_goals (first | omega | (simp only [World.size_alloc, pin_size, World.size_drew, World.size_setCell] <;> omega))) (keepsC (b := w.heap.size + 1) (by (repeat (first | with_reducible exact pin_at (by assumption) | (with_reducible apply pin_at; (first | omega | (simp only [World.size_alloc, pin_size, World.size_drew, World.size_setCell] <;> omega))) | (with_reducible apply alloc_at; first | rfl | (simp only [World.size_alloc, pin_size, World.size_drew, World.size_setCell] <;> omega)) | with_reducible apply past_pin | with_reducible apply past_alloc | with_reducible apply past_drew)); all_goals (first | omega | (simp only [World.size_alloc, pin_size, World.size_drew, World.size_setCell] <;> omega))) (keeps0 (by (repeat (first | with_reducible exact (Below.refl _ _) | with_reducible refine below_pin ?_ ?_ | with_reducible refine Below.alloc ?_ ?_ _ | with_reducible refine Below.setCell ?_ ?_ _ | with_reducible refine Below.drew ?_)); all_goals (first | omega | (simp only [World.size_alloc, pin_size, World.size_drew, World.size_setCell] <;> omega)))))) (fun HS => ?_)
  refine take_ #[true, false, false, false, false, false] (i := 0) (N := some 5) (v := ?v1) rfl rfl (by kernel_rfl) (fun _ _ _ h => h) (Or.inl ⟨by rfl, ?hy1⟩) HS rfl ?_
  case hy1 => (intro v hv; obtain ⟨x, rfl, _, _, n0, n1⟩ := hv.pin2; go_simp; first | done | with_reducible rfl)
  simp only [Act.put, List.setIfInBounds_toArray, List.set_cons_zero, List.set_cons_succ]
  refine take_ #[true, false, true, false, false, false] (i := 2) (N := some 7) (v := ?v2) rfl rfl (by kernel_rfl) (fun _ _ _ h => h) (Or.inl ⟨by rfl, ?hy2⟩) HS rfl ?_
  case hy2 => (intro v hv; obtain ⟨x, rfl, _, _, n0, n1⟩ := hv.pin2; go_simp; first | done | with_reducible rfl)
  simp only [Act.put, List.setIfInBounds_toArray, List.set_cons_zero, List.set_cons_succ]
  refine one_ #[true, true, true, false, false, false] (i := 1) (N := some 6) rfl rfl (by kernel_rfl) (by decide) (fun K hK => ?_)
  go_simp
  refine (reduce_nat a CX.out _).mono ?_
  rintro e y ⟨rfl, hb⟩
  refine hK.out _ _ (HS.step hb rfl) ?_
  clear HS hb
  intro HS
  refine one_ #[true, true, true, true, false, false] (i := 3) (N := some 8) rfl rfl (by kernel_rfl) (by decide) (fun K hK => ?_)
  go_simp
  refine (reduce_nat b CY.out _).mono ?_
  rintro e y ⟨rfl, hb⟩
  refine hK.out _ _ (HS.step hb rfl) ?_
  clear HS hb
  intro HS
  refine take_ #[true, true, true, true, true, false] (i := 4) (N := some 9) (v := ?v3) rfl rfl (by kernel_rfl) (fun _ _ _ h => h) (Or.inl ⟨by rfl, ?hy3⟩) HS rfl ?_
  case hy3 => (intro v hv; obtain ⟨x, rfl, _, _, n0, n1⟩ := hv.pin2; go_simp; first | done | with_reducible rfl)
  simp only [Act.put, List.setIfInBounds_toArray, List.set_cons_zero, List.set_cons_succ]
  refine take_ #[true, true, true, true, true, true] (i := 5) (N := some 4) (v := ?v4) rfl rfl (by kernel_rfl) (fun _ _ _ h => h) (Or.inl ⟨by rfl, ?hy4⟩) HS rfl ?_
  case hy4 => (intro v hv; obtain ⟨x, rfl, _, _, n0, n1⟩ := hv.pin2; go_simp; first | done | with_reducible rfl)
  simp only [Act.put, List.setIfInBounds_toArray, List.set_cons_zero, List.set_cons_succ]
  obtain ⟨x1, rfl, hk1, hz1, l10, l11⟩ := HS.pin2
  have HB1 : Hid (Below w.heap.size w x1) := hk1.below
  clear HS hk1
  refine done_ (by kernel_rfl) ?_
  go_wp2_with fail
  go_ret
  exact ⟨congrArg (fun z => Ending.returned (.bool z)) (same_eq a.val b.val), (by (repeat (first | with_reducible exact HB1.out | with_reducible refine below_pin ?_ ?_ | with_reducible refine Below.alloc ?_ ?_ _ | with_reducible refine Below.setCell ?_ ?_ _ | with_reducible refine Below.drew ?_)); all_goals (first | omega | (simp only [World.size_alloc, pin_size, World.size_drew, World.size_setCell] <;> omega)))⟩


end Go.Proofs.YtljolpdpblohcaaDoor
