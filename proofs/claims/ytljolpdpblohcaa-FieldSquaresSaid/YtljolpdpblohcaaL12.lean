/-
  The statement FieldSquares.
-/
import Derived.Test.YtljolpdpblohcaaRows
import Derived.Test.YtljolpdpblohcaaTo
import Derived.Test.YtljolpdpblohcaaSr
import Derived.Test.YtljolpdpblohcaaFr
namespace Go.Proofs.Ytljolpdpblohcaa
open Go.RowKit Go.ChangeShapes Go.WideShapes Go.ChangeAt Go.Proofs.YtljolpdpblohcaaW.PrintLast
set_option linter.unusedSimpArgs false

set_option linter.unusedVariables false
theorem expo : Expo (leN (nearL 253 15)) (leN (nearL 251 31)) HP := by
  rw [rootE1_eq, rootE2_eq]
  exact ⟨by decide +kernel, by decide +kernel, HP2, two_HP⟩
set_option maxRecDepth 100000 in
set_option maxHeartbeats 8000000 in
theorem fieldSquares_walk (a0 : Fn) (w0 : a0.lt 18446744073709551616) (a1 : Fn) (w1 : a1.lt 18446744073709551616) (w : World)  :
    Calls Try.prog 12 #[a0.v, a1.v] w fun e w' => e = .returned (.bool true) ∧ Below w.heap.size w w' := by
  have A0 := Lib.hid w0
  have A1 := Lib.hid w1
  clear w0 w1
  obtain ⟨s, hs⟩ : ∃ s, s = small (a0.val * a0.val) := ⟨_, rfl⟩
  have LS := Lib.hid (show s.lt 18446744073709551616 by rw [hs]; exact small_u _)
  have CSq := Lib.hid (Square_to a0 s _ A0.out hs rfl)
  obtain ⟨n, hn⟩ : ∃ n, n = leN (nearL 253 15) := ⟨_, rfl⟩
  obtain ⟨m, hm⟩ : ∃ m, m = leN (nearL 251 31) := ⟨_, rfl⟩
  have EX : Hid (Expo n m HP) := Lib.hid (by rw [hn, hm]; exact expo)
  have hsv : s.val % Num.p = (a0.val * a0.val) % Num.p := by rw [hs]; exact sv _
  have h1v : (small 1).val % Num.p = 1 % Num.p := sv 1
  obtain ⟨r, hr⟩ : ∃ r, r = small (rootV n m (a0.val * a0.val) 1) := ⟨_, rfl⟩
  have LR := Lib.hid (show r.lt 18446744073709551616 by rw [hr]; exact small_u _)
  have hsq := root_square EX.out a0.val
  have CRt : ∀ w, Calls Try.prog 26 #[s.v, (small 1).v] w fun e w' => e = .returned (.tuple #[r.v, .bool true]) ∧ Below w.heap.size w w' := fun w => by
    have h := Root_any s (small 1) LS.out (small_u 1) w
    rw [← hn, ← hm, rootV_congr hsv h1v, ← hr, decide_eq_true ((root_congr (n := n) (m := m) hsv h1v).1.mpr hsq.1)] at h
    exact h
  have HRt := Lib.hid CRt
  have hrv : r.val % Num.p = rootV n m (a0.val * a0.val) 1 % Num.p := by rw [hr]; exact sv _
  obtain ⟨ng, hng⟩ : ∃ s, s = small (subM 0 a0.val) := ⟨_, rfl⟩
  have LN := Lib.hid (show ng.lt 18446744073709551616 by rw [hng]; exact small_u _)
  have CN := Lib.hid (Neg_to a0 ng _ A0.out hng rfl)
  have hnv : ng.val % Num.p = subM 0 a0.val := by rw [hng, sv, subM_mod]
  have COd := Lib.hid (Odd_to r false LR.out (by rw [hrv, rootV_even]; rfl))
  obtain ⟨same, hsame⟩ : ∃ b, b = decide (r.val % Num.p = a0.val % Num.p) := ⟨_, rfl⟩
  have CSm := Lib.hid (Same_to r a0 same LR.out A0.out hsame.symm)
  have HOr : Hid (same = false → ∀ w, Calls Try.prog 23 #[r.v, ng.v] w fun e w' => e = .returned (.bool true) ∧ Below w.heap.size w w') := Lib.hid (fun h => Same_to r ng true LR.out LN.out (decide_eq_true (by
    rw [h] at hsame
    have h2 := of_decide_eq_false hsame.symm
    rcases hsq.2 with h3 | h3
    · exact absurd (hrv.trans h3) h2
    · rw [hrv, h3, hnv])))
  clear CRt hsv h1v hr hsq hrv hng hnv hsame hs
  obtain ⟨zv, hzv⟩ : ∃ b, b = decide (a1.val % Num.p = 0) := ⟨_, rfl⟩
  obtain ⟨za, hza⟩ : ∃ b, b = decide (a0.val % Num.p = 0) := ⟨_, rfl⟩
  have CZ1 := Lib.hid (Same_to a1 ⟨0, 0, 0, 0, 0⟩ zv A1.out (zero_lt _ (by decide)) (by rw [zero_val, Nat.zero_mod, hzv]))
  have CZ0 := Lib.hid (Same_to a0 ⟨0, 0, 0, 0, 0⟩ za A0.out (zero_lt _ (by decide)) (by rw [zero_val, Nat.zero_mod, hza]))
  obtain ⟨r2, hr2⟩ : ∃ r, r = small (rootV n m a0.val a1.val) := ⟨_, rfl⟩
  obtain ⟨o2, ho2⟩ : ∃ b, b = decide (rootOk n m a0.val a1.val) := ⟨_, rfl⟩
  have CR2 : ∀ w, Calls Try.prog 26 #[a0.v, a1.v] w fun e w' => e = .returned (.tuple #[r2.v, .bool o2]) ∧ Below w.heap.size w w' := fun w => by
    have h := Root_any a0 a1 A0.out A1.out w
    rw [← hn, ← hm, ← hr2, ← ho2] at h
    exact h
  have HR2 := Lib.hid CR2
  obtain ⟨t, ht⟩ : ∃ s, s = small (a0.val + a0.val) := ⟨_, rfl⟩
  have LT := Lib.hid (show t.lt 18446744073709551616 by rw [ht]; exact small_u _)
  have CAd := Lib.hid (Add_to a0 a0 t _ A0.out A0.out ht rfl)
  have htv : t.val % Num.p = (a0.val + a0.val) % Num.p := by rw [ht]; exact sv _
  obtain ⟨r3, hr3⟩ : ∃ r, r = small (rootV n m t.val a1.val) := ⟨_, rfl⟩
  obtain ⟨o3, ho3⟩ : ∃ b, b = decide (rootOk n m t.val a1.val) := ⟨_, rfl⟩
  have CR3 : ∀ w, Calls Try.prog 26 #[t.v, a1.v] w fun e w' => e = .returned (.tuple #[r3.v, .bool o3]) ∧ Below w.heap.size w w' := fun w => by
    have h := Root_any t a1 LT.out A1.out w
    rw [← hn, ← hm, ← hr3, ← ho3] at h
    exact h
  have HR3 := Lib.hid CR3
  have HNE : Hid (zv = false → za = false → (o2 != o3) = true) := Lib.hid (fun h1 h2 => by
    rw [h1] at hzv
    rw [h2] at hza
    have k := root_one EX.out (of_decide_eq_false hza.symm) (of_decide_eq_false hzv.symm)
    have k2 := (root_congr (n := n) (m := m) (V := a1.val) (W := a1.val) htv rfl).1
    rw [ho2, ho3]
    by_cases hq : rootOk n m a0.val a1.val
    · rw [decide_eq_true hq, decide_eq_false (fun h => (k.mp (k2.mp h)) hq)]; rfl
    · rw [decide_eq_false hq, decide_eq_true (k2.mpr (k.mpr hq))]; rfl)
  clear CR2 CR3 hn hm hr2 ho2 hr3 ho3 ht htv hzv hza EX
  rcases same with _ | _ <;> rcases zv with _ | _ <;> rcases za with _ | _
  · go_enter Try.func12, Try.ntmps12
    go_wp2_with fail
    refine (CSq.out _).mono ?_
    rintro e y1 ⟨rfl, hb1⟩
    obtain ⟨x1, rfl, hc1, hz1, l10, l11⟩ := keep2 (b0 := w.heap.size) (b1 := w.heap.size + 1) hb1 rfl (by (repeat (first | with_reducible exact pin_at (by assumption) | (with_reducible apply pin_at; (first | omega | (simp only [World.size_alloc, pin_size, World.size_drew, World.size_setCell] <;> omega))) | (with_reducible apply alloc_at; first | rfl | (simp only [World.size_alloc, pin_size, World.size_drew, World.size_setCell] <;> omega)) | with_reducible apply past_pin | with_reducible apply past_alloc | with_reducible apply past_drew)); all_goals (first | omega | (simp only [World.size_alloc, pin_size, World.size_drew, World.size_setCell] <;> omega))) (by (repeat (first | with_reducible exact pin_at (by assumption) | (with_reducible apply pin_at; (first | omega | (simp only [World.size_alloc, pin_size, World.size_drew, World.size_setCell] <;> omega))) | (with_reducible apply alloc_at; first | rfl | (simp only [World.size_alloc, pin_size, World.size_drew, World.size_setCell] <;> omega)) | with_reducible apply past_pin | with_reducible apply past_alloc | with_reducible apply past_drew)); all_goals (first | omega | (simp only [World.size_alloc, pin_size, World.size_drew, World.size_setCell] <;> omega)))
    have HB1 : Hid (Below w.heap.size w x1) := Below.trans (by (repeat (first | with_reducible exact (Below.refl _ _) | with_reducible refine below_pin ?_ ?_ | with_reducible refine Below.alloc ?_ ?_ _ | with_reducible refine Below.setCell ?_ ?_ _ | with_reducible refine Below.drew ?_)); all_goals (first | omega | (simp only [World.size_alloc, pin_size, World.size_drew, World.size_setCell] <;> omega))) (hc1.mono (by (first | omega | (simp only [World.size_alloc, pin_size, World.size_drew, World.size_setCell] <;> omega))))
    clear hb1 hc1
    try simp only [World.size_alloc, pin_size, World.size_drew, World.size_setCell] at hz1
    go_wp2_with fail
    refine (Small_any 1 (by decide) _).mono ?_
    rintro e y2 ⟨rfl, hb2⟩
    obtain ⟨x2, rfl, hc2, hz2, l20, l21⟩ := keep2 (b0 := w.heap.size) (b1 := w.heap.size + 1) hb2 rfl (by (repeat (first | with_reducible exact pin_at (by assumption) | (with_reducible apply pin_at; (first | omega | (simp only [World.size_alloc, pin_size, World.size_drew, World.size_setCell] <;> omega))) | (with_reducible apply alloc_at; first | rfl | (simp only [World.size_alloc, pin_size, World.size_drew, World.size_setCell] <;> omega)) | with_reducible apply past_pin | with_reducible apply past_alloc | with_reducible apply past_drew)); all_goals (first | omega | (simp only [World.size_alloc, pin_size, World.size_drew, World.size_setCell] <;> omega))) (by (repeat (first | with_reducible exact pin_at (by assumption) | (with_reducible apply pin_at; (first | omega | (simp only [World.size_alloc, pin_size, World.size_drew, World.size_setCell] <;> omega))) | (with_reducible apply alloc_at; first | rfl | (simp only [World.size_alloc, pin_size, World.size_drew, World.size_setCell] <;> omega)) | with_reducible apply past_pin | with_reducible apply past_alloc | with_reducible apply past_drew)); all_goals (first | omega | (simp only [World.size_alloc, pin_size, World.size_drew, World.size_setCell] <;> omega)))
    have HB2 : Hid (Below w.heap.size w x2) := Below.trans (by (repeat (first | with_reducible exact HB1.out | with_reducible refine below_pin ?_ ?_ | with_reducible refine Below.alloc ?_ ?_ _ | with_reducible refine Below.setCell ?_ ?_ _ | with_reducible refine Below.drew ?_)); all_goals (first | omega | (simp only [World.size_alloc, pin_size, World.size_drew, World.size_setCell] <;> omega))) (hc2.mono (by (first | omega | (simp only [World.size_alloc, pin_size, World.size_drew, World.size_setCell] <;> omega))))
    clear hb2 hc2
    try simp only [World.size_alloc, pin_size, World.size_drew, World.size_setCell] at hz2
    go_wp2_with fail
    refine (HRt.out _).mono ?_
    rintro e y3 ⟨rfl, hb3⟩
    obtain ⟨x3, rfl, hc3, hz3, l30, l31⟩ := keep2 (b0 := w.heap.size) (b1 := w.heap.size + 1) hb3 rfl (by (repeat (first | with_reducible exact pin_at (by assumption) | (with_reducible apply pin_at; (first | omega | (simp only [World.size_alloc, pin_size, World.size_drew, World.size_setCell] <;> omega))) | (with_reducible apply alloc_at; first | rfl | (simp only [World.size_alloc, pin_size, World.size_drew, World.size_setCell] <;> omega)) | with_reducible apply past_pin | with_reducible apply past_alloc | with_reducible apply past_drew)); all_goals (first | omega | (simp only [World.size_alloc, pin_size, World.size_drew, World.size_setCell] <;> omega))) (by (repeat (first | with_reducible exact pin_at (by assumption) | (with_reducible apply pin_at; (first | omega | (simp only [World.size_alloc, pin_size, World.size_drew, World.size_setCell] <;> omega))) | (with_reducible apply alloc_at; first | rfl | (simp only [World.size_alloc, pin_size, World.size_drew, World.size_setCell] <;> omega)) | with_reducible apply past_pin | with_reducible apply past_alloc | with_reducible apply past_drew)); all_goals (first | omega | (simp only [World.size_alloc, pin_size, World.size_drew, World.size_setCell] <;> omega)))
    have HB3 : Hid (Below w.heap.size w x3) := Below.trans (by (repeat (first | with_reducible exact HB2.out | with_reducible refine below_pin ?_ ?_ | with_reducible refine Below.alloc ?_ ?_ _ | with_reducible refine Below.setCell ?_ ?_ _ | with_reducible refine Below.drew ?_)); all_goals (first | omega | (simp only [World.size_alloc, pin_size, World.size_drew, World.size_setCell] <;> omega))) (hc3.mono (by (first | omega | (simp only [World.size_alloc, pin_size, World.size_drew, World.size_setCell] <;> omega))))
    clear hb3 hc3
    try simp only [World.size_alloc, pin_size, World.size_drew, World.size_setCell] at hz3
    go_wp2_with fail
    refine start_ (S := Keeps w _) (ds := []) (n := 19) #[false, false, false, false, false, false, false, false, false, false, false, false, false, false, false, false, false, false, false] (by kernel_rfl) rfl rfl (keepsC (b := w.heap.size) (by (repeat (first | with_reducible exact pin_at (by assumption) | (with_reducible apply pin_at; (first | omega | (simp only [World.size_alloc, pin_size, World.size_drew, World.size_setCell] <;> omega))) | (with_reducible apply alloc_at; first | rfl | (simp only [World.size_alloc, pin_size, World.size_drew, World.size_setCell] <;> omega)) | with_reducible apply past_pin | with_reducible apply past_alloc | with_reducible apply past_drew)); all_goals (first | omega | (simp only [World.size_alloc, pin_size, World.size_drew, World.size_setCell] <;> omega))) (keepsC (b := w.heap.size + 1) (by (repeat (first | with_reducible exact pin_at (by assumption) | (with_reducible apply pin_at; (first | omega | (simp only [World.size_alloc, pin_size, World.size_drew, World.size_setCell] <;> omega))) | (with_reducible apply alloc_at; first | rfl | (simp only [World.size_alloc, pin_size, World.size_drew, World.size_setCell] <;> omega)) | with_reducible apply past_pin | with_reducible apply past_alloc | with_reducible apply past_drew)); all_goals (first | omega | (simp only [World.size_alloc, pin_size, World.size_drew, World.size_setCell] <;> omega))) (keepsC (b := x3.heap.size) (by (repeat (first | with_reducible exact pin_at (by assumption) | (with_reducible apply pin_at; (first | omega | (simp only [World.size_alloc, pin_size, World.size_drew, World.size_setCell] <;> omega))) | (with_reducible apply alloc_at; first | rfl | (simp only [World.size_alloc, pin_size, World.size_drew, World.size_setCell] <;> omega)) | with_reducible apply past_pin | with_reducible apply past_alloc | with_reducible apply past_drew)); all_goals (first | omega | (simp only [World.size_alloc, pin_size, World.size_drew, World.size_setCell] <;> omega))) (keeps0 (by (repeat (first | with_reducible exact HB3.out | with_reducible refine below_pin ?_ ?_ | with_reducible refine Below.alloc ?_ ?_ _ | with_reducible refine Below.setCell ?_ ?_ _ | with_reducible refine Below.drew ?_)); all_goals (first | omega | (simp only [World.size_alloc, pin_size, World.size_drew, World.size_setCell] <;> omega))))))) (fun HS => ?_)
    refine take_ #[true, false, false, false, false, false, false, false, false, false, false, false, false, false, false, false, false, false, false] (i := 0) (N := some 18) (v := ?v1) rfl rfl (by kernel_rfl) (fun _ _ _ h => h) (Or.inl ⟨by rfl, ?hy1⟩) HS rfl ?_
    case hy1 => (intro v hv; obtain ⟨x, rfl, _, _, n0, n1, n2⟩ := hv.pin3; go_simp; first | done | with_reducible rfl)
    simp only [Act.put, List.setIfInBounds_toArray, List.set_cons_zero, List.set_cons_succ]
    refine take_ #[true, true, false, false, false, false, false, false, false, false, false, false, false, false, false, false, false, false, false] (i := 1) (N := some 19) (v := ?v2) rfl rfl (by kernel_rfl) (fun _ _ _ h => h) (Or.inl ⟨by rfl, ?hy2⟩) HS rfl ?_
    case hy2 => (intro v hv; obtain ⟨x, rfl, _, _, n0, n1, n2⟩ := hv.pin3; go_simp; first | done | with_reducible rfl)
    simp only [Act.put, List.setIfInBounds_toArray, List.set_cons_zero, List.set_cons_succ]
    refine take_ #[true, true, true, false, false, false, false, false, false, false, false, false, false, false, false, false, false, false, false] (i := 2) (N := some 20) (v := ?v3) rfl rfl (by kernel_rfl) (fun _ _ _ h => h) (Or.inl ⟨by rfl, ?hy3⟩) HS rfl ?_
    case hy3 => (intro v hv; obtain ⟨x, rfl, _, _, n0, n1, n2⟩ := hv.pin3; go_simp; first | done | with_reducible rfl)
    simp only [Act.put, List.setIfInBounds_toArray, List.set_cons_zero, List.set_cons_succ]
    refine take_ #[true, true, true, true, false, false, false, false, false, false, false, false, false, false, false, false, false, false, false] (i := 3) (N := some 21) (v := ?v4) rfl rfl (by kernel_rfl) (fun _ _ _ h => h) (Or.inl ⟨by rfl, ?hy4⟩) HS rfl ?_
    case hy4 => (intro v hv; obtain ⟨x, rfl, _, _, n0, n1, n2⟩ := hv.pin3; go_simp; first | done | with_reducible rfl)
    simp only [Act.put, List.setIfInBounds_toArray, List.set_cons_zero, List.set_cons_succ]
    refine take_ #[true, true, true, true, true, false, false, false, false, false, false, false, false, false, false, false, false, false, false] (i := 4) (N := some 22) (v := ?v5) rfl rfl (by kernel_rfl) (fun _ _ _ h => h) (Or.inl ⟨by rfl, ?hy5⟩) HS rfl ?_
    case hy5 => (intro v hv; obtain ⟨x, rfl, _, _, n0, n1, n2⟩ := hv.pin3; go_simp; first | done | with_reducible rfl)
    simp only [Act.put, List.setIfInBounds_toArray, List.set_cons_zero, List.set_cons_succ]
    refine one_ #[true, true, true, true, true, true, false, false, false, false, false, false, false, false, false, false, false, false, false] (i := 5) (N := some 23) rfl rfl (by kernel_rfl) (by decide) (fun K hK => ?_)
    go_simp
    refine (CSm.out _).mono ?_
    rintro e y ⟨rfl, hb⟩
    refine hK.out _ _ (HS.step hb rfl) ?_
    clear HS hb
    intro HS
    refine take_ #[true, true, true, true, true, true, true, false, false, false, false, false, false, false, false, false, false, false, false] (i := 6) (N := some 24) (v := ?v6) rfl rfl (by kernel_rfl) (fun _ _ _ h => h) (Or.inl ⟨by rfl, ?hy6⟩) HS rfl ?_
    case hy6 => (intro v hv; obtain ⟨x, rfl, _, _, n0, n1, n2⟩ := hv.pin3; go_simp; first | done | with_reducible rfl)
    simp only [Act.put, List.setIfInBounds_toArray, List.set_cons_zero, List.set_cons_succ]
    refine take_ #[true, true, true, true, true, true, true, true, false, false, false, false, false, false, false, false, false, false, false] (i := 7) (N := some 25) (v := ?v7) rfl rfl (by kernel_rfl) (fun _ _ _ h => h) (Or.inl ⟨by rfl, ?hy7⟩) HS rfl ?_
    case hy7 => (intro v hv; obtain ⟨x, rfl, _, _, n0, n1, n2⟩ := hv.pin3; go_simp; first | done | with_reducible rfl)
    simp only [Act.put, List.setIfInBounds_toArray, List.set_cons_zero, List.set_cons_succ]
    refine take_ #[true, true, true, true, true, true, true, true, true, false, false, false, false, false, false, false, false, false, false] (i := 8) (N := some 26) (v := ?v8) rfl rfl (by kernel_rfl) (fun _ _ _ h => h) (Or.inl ⟨by rfl, ?hy8⟩) HS rfl ?_
    case hy8 => (intro v hv; obtain ⟨x, rfl, _, _, n0, n1, n2⟩ := hv.pin3; go_simp; first | done | with_reducible rfl)
    simp only [Act.put, List.setIfInBounds_toArray, List.set_cons_zero, List.set_cons_succ]
    refine take_ #[true, true, true, true, true, true, true, true, true, true, false, false, false, false, false, false, false, false, false] (i := 9) (N := some 27) (v := ?v9) rfl rfl (by kernel_rfl) (fun _ _ _ h => h) (Or.inl ⟨by rfl, ?hy9⟩) HS rfl ?_
    case hy9 => (intro v hv; obtain ⟨x, rfl, _, _, n0, n1, n2⟩ := hv.pin3; go_simp; first | done | with_reducible rfl)
    simp only [Act.put, List.setIfInBounds_toArray, List.set_cons_zero, List.set_cons_succ]
    refine one_ #[true, true, true, true, true, true, true, true, true, true, true, false, false, false, false, false, false, false, false] (i := 10) (N := some 28) rfl rfl (by kernel_rfl) (by decide) (fun K hK => ?_)
    go_simp
    refine (CN.out _).mono ?_
    rintro e y ⟨rfl, hb⟩
    refine hK.out _ _ (HS.step hb rfl) ?_
    clear HS hb
    intro HS
    refine one_ #[true, true, true, true, true, true, true, true, true, true, true, true, false, false, false, false, false, false, false] (i := 11) (N := some 29) rfl rfl (by kernel_rfl) (by decide) (fun K hK => ?_)
    go_simp
    refine (HOr.out (by first | rfl | trivial) _).mono ?_
    rintro e y ⟨rfl, hb⟩
    refine hK.out _ _ (HS.step hb rfl) ?_
    clear HS hb
    intro HS
    refine take_ #[true, true, true, true, true, true, true, true, true, true, true, true, true, false, false, false, false, false, false] (i := 12) (N := some 30) (v := ?v10) rfl rfl (by kernel_rfl) (fun _ _ _ h => h) (Or.inl ⟨by rfl, ?hy10⟩) HS rfl ?_
    case hy10 => (intro v hv; obtain ⟨x, rfl, _, _, n0, n1, n2⟩ := hv.pin3; go_simp; first | done | with_reducible rfl)
    simp only [Act.put, List.setIfInBounds_toArray, List.set_cons_zero, List.set_cons_succ]
    refine take_ #[true, true, true, true, true, true, true, true, true, true, true, true, true, true, false, false, false, false, false] (i := 13) (N := some 31) (v := ?v11) rfl rfl (by kernel_rfl) (fun _ _ _ h => h) (Or.inl ⟨by rfl, ?hy11⟩) HS rfl ?_
    case hy11 => (intro v hv; obtain ⟨x, rfl, _, _, n0, n1, n2⟩ := hv.pin3; go_simp; first | done | with_reducible rfl)
    simp only [Act.put, List.setIfInBounds_toArray, List.set_cons_zero, List.set_cons_succ]
    refine take_ #[true, true, true, true, true, true, true, true, true, true, true, true, true, true, true, false, false, false, false] (i := 14) (N := some 32) (v := ?v12) rfl rfl (by kernel_rfl) (fun _ _ _ h => h) (Or.inl ⟨by rfl, ?hy12⟩) HS rfl ?_
    case hy12 => (intro v hv; obtain ⟨x, rfl, _, _, n0, n1, n2⟩ := hv.pin3; go_simp; first | done | with_reducible rfl)
    simp only [Act.put, List.setIfInBounds_toArray, List.set_cons_zero, List.set_cons_succ]
    refine take_ #[true, true, true, true, true, true, true, true, true, true, true, true, true, true, true, true, false, false, false] (i := 15) (N := some 33) (v := ?v13) rfl rfl (by kernel_rfl) (fun _ _ _ h => h) (Or.inl ⟨by rfl, ?hy13⟩) HS rfl ?_
    case hy13 => (intro v hv; obtain ⟨x, rfl, _, _, n0, n1, n2⟩ := hv.pin3; go_simp; first | done | with_reducible rfl)
    simp only [Act.put, List.setIfInBounds_toArray, List.set_cons_zero, List.set_cons_succ]
    refine take_ #[true, true, true, true, true, true, true, true, true, true, true, true, true, true, true, true, true, false, false] (i := 16) (N := some 34) (v := ?v14) rfl rfl (by kernel_rfl) (fun _ _ _ h => h) (Or.inl ⟨by rfl, ?hy14⟩) HS rfl ?_
    case hy14 => (intro v hv; obtain ⟨x, rfl, _, _, n0, n1, n2⟩ := hv.pin3; go_simp; first | done | with_reducible rfl)
    simp only [Act.put, List.setIfInBounds_toArray, List.set_cons_zero, List.set_cons_succ]
    refine one_ #[true, true, true, true, true, true, true, true, true, true, true, true, true, true, true, true, true, true, false] (i := 17) (N := some 35) rfl rfl (by kernel_rfl) (by decide) (fun K hK => ?_)
    go_simp
    refine (COd.out _).mono ?_
    rintro e y ⟨rfl, hb⟩
    refine hK.out _ _ (HS.step hb rfl) ?_
    clear HS hb
    intro HS
    refine take_ #[true, true, true, true, true, true, true, true, true, true, true, true, true, true, true, true, true, true, true] (i := 18) (N := some 36) (v := ?v15) rfl rfl (by kernel_rfl) (fun _ _ _ h => h) (Or.inl ⟨by rfl, ?hy15⟩) HS rfl ?_
    case hy15 => (intro v hv; obtain ⟨x, rfl, _, _, n0, n1, n2⟩ := hv.pin3; go_simp; first | done | with_reducible rfl)
    simp only [Act.put, List.setIfInBounds_toArray, List.set_cons_zero, List.set_cons_succ]
    obtain ⟨x4, rfl, hk4, hz4, l40, l41, l42⟩ := HS.pin3
    have HB4 : Hid (Below w.heap.size w x4) := hk4.below
    clear HS hk4
    refine done_ (by kernel_rfl) ?_
    go_wp2_with fail
    refine (CZ1.out _).mono ?_
    rintro e y5 ⟨rfl, hb5⟩
    obtain ⟨x5, rfl, hc5, hz5, l50, l51, l52⟩ := keep3 (b0 := w.heap.size) (b1 := w.heap.size + 1) (b2 := x3.heap.size) hb5 rfl (by (repeat (first | with_reducible exact pin_at (by assumption) | (with_reducible apply pin_at; (first | omega | (simp only [World.size_alloc, pin_size, World.size_drew, World.size_setCell] <;> omega))) | (with_reducible apply alloc_at; first | rfl | (simp only [World.size_alloc, pin_size, World.size_drew, World.size_setCell] <;> omega)) | with_reducible apply past_pin | with_reducible apply past_alloc | with_reducible apply past_drew)); all_goals (first | omega | (simp only [World.size_alloc, pin_size, World.size_drew, World.size_setCell] <;> omega))) (by (repeat (first | with_reducible exact pin_at (by assumption) | (with_reducible apply pin_at; (first | omega | (simp only [World.size_alloc, pin_size, World.size_drew, World.size_setCell] <;> omega))) | (with_reducible apply alloc_at; first | rfl | (simp only [World.size_alloc, pin_size, World.size_drew, World.size_setCell] <;> omega)) | with_reducible apply past_pin | with_reducible apply past_alloc | with_reducible apply past_drew)); all_goals (first | omega | (simp only [World.size_alloc, pin_size, World.size_drew, World.size_setCell] <;> omega))) (by (repeat (first | with_reducible exact pin_at (by assumption) | (with_reducible apply pin_at; (first | omega | (simp only [World.size_alloc, pin_size, World.size_drew, World.size_setCell] <;> omega))) | (with_reducible apply alloc_at; first | rfl | (simp only [World.size_alloc, pin_size, World.size_drew, World.size_setCell] <;> omega)) | with_reducible apply past_pin | with_reducible apply past_alloc | with_reducible apply past_drew)); all_goals (first | omega | (simp only [World.size_alloc, pin_size, World.size_drew, World.size_setCell] <;> omega)))
    have HB5 : Hid (Below w.heap.size w x5) := Below.trans (by (repeat (first | with_reducible exact HB4.out | with_reducible refine below_pin ?_ ?_ | with_reducible refine Below.alloc ?_ ?_ _ | with_reducible refine Below.setCell ?_ ?_ _ | with_reducible refine Below.drew ?_)); all_goals (first | omega | (simp only [World.size_alloc, pin_size, World.size_drew, World.size_setCell] <;> omega))) (hc5.mono (by (first | omega | (simp only [World.size_alloc, pin_size, World.size_drew, World.size_setCell] <;> omega))))
    clear hb5 hc5
    try simp only [World.size_alloc, pin_size, World.size_drew, World.size_setCell] at hz5
    go_wp2_with fail
    refine (CZ0.out _).mono ?_
    rintro e y6 ⟨rfl, hb6⟩
    obtain ⟨x6, rfl, hc6, hz6, l60, l61, l62⟩ := keep3 (b0 := w.heap.size) (b1 := w.heap.size + 1) (b2 := x3.heap.size) hb6 rfl (by (repeat (first | with_reducible exact pin_at (by assumption) | (with_reducible apply pin_at; (first | omega | (simp only [World.size_alloc, pin_size, World.size_drew, World.size_setCell] <;> omega))) | (with_reducible apply alloc_at; first | rfl | (simp only [World.size_alloc, pin_size, World.size_drew, World.size_setCell] <;> omega)) | with_reducible apply past_pin | with_reducible apply past_alloc | with_reducible apply past_drew)); all_goals (first | omega | (simp only [World.size_alloc, pin_size, World.size_drew, World.size_setCell] <;> omega))) (by (repeat (first | with_reducible exact pin_at (by assumption) | (with_reducible apply pin_at; (first | omega | (simp only [World.size_alloc, pin_size, World.size_drew, World.size_setCell] <;> omega))) | (with_reducible apply alloc_at; first | rfl | (simp only [World.size_alloc, pin_size, World.size_drew, World.size_setCell] <;> omega)) | with_reducible apply past_pin | with_reducible apply past_alloc | with_reducible apply past_drew)); all_goals (first | omega | (simp only [World.size_alloc, pin_size, World.size_drew, World.size_setCell] <;> omega))) (by (repeat (first | with_reducible exact pin_at (by assumption) | (with_reducible apply pin_at; (first | omega | (simp only [World.size_alloc, pin_size, World.size_drew, World.size_setCell] <;> omega))) | (with_reducible apply alloc_at; first | rfl | (simp only [World.size_alloc, pin_size, World.size_drew, World.size_setCell] <;> omega)) | with_reducible apply past_pin | with_reducible apply past_alloc | with_reducible apply past_drew)); all_goals (first | omega | (simp only [World.size_alloc, pin_size, World.size_drew, World.size_setCell] <;> omega)))
    have HB6 : Hid (Below w.heap.size w x6) := Below.trans (by (repeat (first | with_reducible exact HB5.out | with_reducible refine below_pin ?_ ?_ | with_reducible refine Below.alloc ?_ ?_ _ | with_reducible refine Below.setCell ?_ ?_ _ | with_reducible refine Below.drew ?_)); all_goals (first | omega | (simp only [World.size_alloc, pin_size, World.size_drew, World.size_setCell] <;> omega))) (hc6.mono (by (first | omega | (simp only [World.size_alloc, pin_size, World.size_drew, World.size_setCell] <;> omega))))
    clear hb6 hc6
    try simp only [World.size_alloc, pin_size, World.size_drew, World.size_setCell] at hz6
    go_wp2_with fail
    refine (HR2.out _).mono ?_
    rintro e y7 ⟨rfl, hb7⟩
    obtain ⟨x7, rfl, hc7, hz7, l70, l71, l72⟩ := keep3 (b0 := w.heap.size) (b1 := w.heap.size + 1) (b2 := x3.heap.size) hb7 rfl (by (repeat (first | with_reducible exact pin_at (by assumption) | (with_reducible apply pin_at; (first | omega | (simp only [World.size_alloc, pin_size, World.size_drew, World.size_setCell] <;> omega))) | (with_reducible apply alloc_at; first | rfl | (simp only [World.size_alloc, pin_size, World.size_drew, World.size_setCell] <;> omega)) | with_reducible apply past_pin | with_reducible apply past_alloc | with_reducible apply past_drew)); all_goals (first | omega | (simp only [World.size_alloc, pin_size, World.size_drew, World.size_setCell] <;> omega))) (by (repeat (first | with_reducible exact pin_at (by assumption) | (with_reducible apply pin_at; (first | omega | (simp only [World.size_alloc, pin_size, World.size_drew, World.size_setCell] <;> omega))) | (with_reducible apply alloc_at; first | rfl | (simp only [World.size_alloc, pin_size, World.size_drew, World.size_setCell] <;> omega)) | with_reducible apply past_pin | with_reducible apply past_alloc | with_reducible apply past_drew)); all_goals (first | omega | (simp only [World.size_alloc, pin_size, World.size_drew, World.size_setCell] <;> omega))) (by (repeat (first | with_reducible exact pin_at (by assumption) | (with_reducible apply pin_at; (first | omega | (simp only [World.size_alloc, pin_size, World.size_drew, World.size_setCell] <;> omega))) | (with_reducible apply alloc_at; first | rfl | (simp only [World.size_alloc, pin_size, World.size_drew, World.size_setCell] <;> omega)) | with_reducible apply past_pin | with_reducible apply past_alloc | with_reducible apply past_drew)); all_goals (first | omega | (simp only [World.size_alloc, pin_size, World.size_drew, World.size_setCell] <;> omega)))
    have HB7 : Hid (Below w.heap.size w x7) := Below.trans (by (repeat (first | with_reducible exact HB6.out | with_reducible refine below_pin ?_ ?_ | with_reducible refine Below.alloc ?_ ?_ _ | with_reducible refine Below.setCell ?_ ?_ _ | with_reducible refine Below.drew ?_)); all_goals (first | omega | (simp only [World.size_alloc, pin_size, World.size_drew, World.size_setCell] <;> omega))) (hc7.mono (by (first | omega | (simp only [World.size_alloc, pin_size, World.size_drew, World.size_setCell] <;> omega))))
    clear hb7 hc7
    try simp only [World.size_alloc, pin_size, World.size_drew, World.size_setCell] at hz7
    go_wp2_with fail
    refine region_cut (σ := Fn × Nat) (fun s => match s with | (r3, b9) => [(53, a0.v), (54, a0.v), (55, t.v), (56, a1.v), (57, .tuple #[r3.v, .bool o3]), (52, .tuple #[r3.v, .bool o3]), (58, r3.v), (59, .bool o3), (9, .pointer (some ⟨b9, 0, none⟩)), (10, .bool o3)]) (fun s v => match s with | (r3, b9) => True ∧ w.heap.size < b9 ∧ w.heap.size + 1 < b9 ∧ x3.heap.size < b9 ∧ x7.heap.size < b9 ∧ Keeps w [(b9, .cells #[.int .u64 r3.a, .int .u64 r3.b, .int .u64 r3.c, .int .u64 r3.d, .int .u64 r3.e] 25), (w.heap.size, .cells #[.int .u64 a0.a, .int .u64 a0.b, .int .u64 a0.c, .int .u64 a0.d, .int .u64 a0.e] 25), (w.heap.size + 1, .cells #[.int .u64 a1.a, .int .u64 a1.b, .int .u64 a1.c, .int .u64 a1.d, .int .u64 a1.e] 25), (x3.heap.size, .cells #[.int .u64 r.a, .int .u64 r.b, .int .u64 r.c, .int .u64 r.d, .int .u64 r.e] 25), (x7.heap.size, .cells #[.int .u64 r2.a, .int .u64 r2.b, .int .u64 r2.c, .int .u64 r2.d, .int .u64 r2.e] 25)] v) ?_ ?_
    · refine startV (S := Keeps w _) (ds := [9, 10]) (n := 11) #[false, false, false, false, false, false, false, false, false, false, false] (by kernel_rfl) rfl rfl (keepsC (b := w.heap.size) (o := .cells #[.int .u64 a0.a, .int .u64 a0.b, .int .u64 a0.c, .int .u64 a0.d, .int .u64 a0.e] 25) (by (repeat (first | with_reducible exact pin_at (by assumption) | (with_reducible apply pin_at; (first | omega | (simp only [World.size_alloc, pin_size, World.size_drew, World.size_setCell] <;> omega))) | (with_reducible apply alloc_at; first | rfl | (simp only [World.size_alloc, pin_size, World.size_drew, World.size_setCell] <;> omega)) | with_reducible apply past_pin | with_reducible apply past_alloc | with_reducible apply past_drew)); all_goals (first | omega | (simp only [World.size_alloc, pin_size, World.size_drew, World.size_setCell] <;> omega))) (keepsC (b := w.heap.size + 1) (o := .cells #[.int .u64 a1.a, .int .u64 a1.b, .int .u64 a1.c, .int .u64 a1.d, .int .u64 a1.e] 25) (by (repeat (first | with_reducible exact pin_at (by assumption) | (with_reducible apply pin_at; (first | omega | (simp only [World.size_alloc, pin_size, World.size_drew, World.size_setCell] <;> omega))) | (with_reducible apply alloc_at; first | rfl | (simp only [World.size_alloc, pin_size, World.size_drew, World.size_setCell] <;> omega)) | with_reducible apply past_pin | with_reducible apply past_alloc | with_reducible apply past_drew)); all_goals (first | omega | (simp only [World.size_alloc, pin_size, World.size_drew, World.size_setCell] <;> omega))) (keepsC (b := x3.heap.size) (o := .cells #[.int .u64 r.a, .int .u64 r.b, .int .u64 r.c, .int .u64 r.d, .int .u64 r.e] 25) (by (repeat (first | with_reducible exact pin_at (by assumption) | (with_reducible apply pin_at; (first | omega | (simp only [World.size_alloc, pin_size, World.size_drew, World.size_setCell] <;> omega))) | (with_reducible apply alloc_at; first | rfl | (simp only [World.size_alloc, pin_size, World.size_drew, World.size_setCell] <;> omega)) | with_reducible apply past_pin | with_reducible apply past_alloc | with_reducible apply past_drew)); all_goals (first | omega | (simp only [World.size_alloc, pin_size, World.size_drew, World.size_setCell] <;> omega))) (keepsC (b := x7.heap.size) (o := .cells #[.int .u64 r2.a, .int .u64 r2.b, .int .u64 r2.c, .int .u64 r2.d, .int .u64 r2.e] 25) (by (repeat (first | with_reducible exact pin_at (by assumption) | (with_reducible apply pin_at; (first | omega | (simp only [World.size_alloc, pin_size, World.size_drew, World.size_setCell] <;> omega))) | (with_reducible apply alloc_at; first | rfl | (simp only [World.size_alloc, pin_size, World.size_drew, World.size_setCell] <;> omega)) | with_reducible apply past_pin | with_reducible apply past_alloc | with_reducible apply past_drew)); all_goals (first | omega | (simp only [World.size_alloc, pin_size, World.size_drew, World.size_setCell] <;> omega))) (keeps0 (by (repeat (first | with_reducible exact HB7.out | with_reducible refine below_pin ?_ ?_ | with_reducible refine Below.alloc ?_ ?_ _ | with_reducible refine Below.setCell ?_ ?_ _ | with_reducible refine Below.drew ?_)); all_goals (first | omega | (simp only [World.size_alloc, pin_size, World.size_drew, World.size_setCell] <;> omega)))))))) (fun y HS => ?_)
      refine take_ #[true, false, false, false, false, false, false, false, false, false, false] (i := 0) (N := some 53) (v := ?v16) rfl rfl (by kernel_rfl) (fun _ _ _ h => nomatch h.1) (Or.inl ⟨by rfl, ?hy16⟩) HS rfl ?_
      case hy16 => (intro v hv; obtain ⟨x, rfl, _, _, n0, n1, n2, n3⟩ := hv.pin4; go_simp; first | done | with_reducible rfl)
      simp only [Act.put, List.setIfInBounds_toArray, List.set_cons_zero, List.set_cons_succ]
      refine take_ #[true, true, false, false, false, false, false, false, false, false, false] (i := 1) (N := some 54) (v := ?v17) rfl rfl (by kernel_rfl) (fun _ _ _ h => nomatch h.1) (Or.inl ⟨by rfl, ?hy17⟩) HS rfl ?_
      case hy17 => (intro v hv; obtain ⟨x, rfl, _, _, n0, n1, n2, n3⟩ := hv.pin4; go_simp; first | done | with_reducible rfl)
      simp only [Act.put, List.setIfInBounds_toArray, List.set_cons_zero, List.set_cons_succ]
      refine take_ #[true, true, false, true, false, false, false, false, false, false, false] (i := 3) (N := some 56) (v := ?v18) rfl rfl (by kernel_rfl) (fun _ _ _ h => nomatch h.1) (Or.inl ⟨by rfl, ?hy18⟩) HS rfl ?_
      case hy18 => (intro v hv; obtain ⟨x, rfl, _, _, n0, n1, n2, n3⟩ := hv.pin4; go_simp; first | done | with_reducible rfl)
      simp only [Act.put, List.setIfInBounds_toArray, List.set_cons_zero, List.set_cons_succ]
      refine two_ #[true, true, true, true, false, false, false, false, false, false, false] #[true, true, false, true, false, false, false, false, true, false, false] (i := 2) (j := 8) (Ni := some 55) (Nj := some 9) rfl rfl rfl rfl (by kernel_rfl) (by decide) (by decide) (fun K hK => ?_) (fun K hK => ?_)
      · go_simp
        refine (CAd.out _).mono ?_
        rintro e y ⟨rfl, hb⟩
        refine hK.out _ _ (HS.step hb rfl) ?_
        clear HS
        intro HS
        clear hb
        refine two_ #[true, true, true, true, true, false, false, false, false, false, false] #[true, true, true, true, false, false, false, false, true, false, false] (i := 4) (j := 8) (Ni := some 57) (Nj := some 9) rfl rfl rfl rfl (by kernel_rfl) (by decide) (by decide) (fun K hK => ?_) (fun K hK => ?_)
        · go_simp
          refine (HR3.out _).mono ?_
          rintro e y ⟨rfl, hb⟩
          refine hK.out _ _ (HS.step hb rfl) ?_
          clear HS
          intro HS
          clear hb
          refine pure_ #[true, true, true, true, true, true, false, false, false, false, false] (i := 5) (N := some 52) (v := ?v19) rfl rfl (by kernel_rfl) (fun _ _ _ h => nomatch h.1) (Or.inl ⟨by rfl, ?hy19⟩) rfl ?_
          case hy19 => (intro v; go_simp; first | done | with_reducible rfl)
          simp only [Act.put, List.setIfInBounds_toArray, List.set_cons_zero, List.set_cons_succ]
          refine pure_ #[true, true, true, true, true, true, true, false, false, false, false] (i := 6) (N := some 58) (v := ?v20) rfl rfl (by kernel_rfl) (fun _ _ _ h => nomatch h.1) (Or.inl ⟨by rfl, ?hy20⟩) rfl ?_
          case hy20 => (intro v; go_simp; first | done | with_reducible rfl)
          simp only [Act.put, List.setIfInBounds_toArray, List.set_cons_zero, List.set_cons_succ]
          refine pure_ #[true, true, true, true, true, true, true, true, false, false, false] (i := 7) (N := some 59) (v := ?v21) rfl rfl (by kernel_rfl) (fun _ _ _ h => nomatch h.1) (Or.inl ⟨by rfl, ?hy21⟩) rfl ?_
          case hy21 => (intro v; go_simp; first | done | with_reducible rfl)
          simp only [Act.put, List.setIfInBounds_toArray, List.set_cons_zero, List.set_cons_succ]
          refine one_ #[true, true, true, true, true, true, true, true, true, false, false] (i := 8) (N := some 9) rfl rfl (by kernel_rfl) (by decide) (fun K hK => ?_)
          go_simp
          obtain ⟨b9, hbn⟩ : ∃ b, b = y.heap.size := ⟨_, rfl⟩
          have hl0 : w.heap.size < b9 := by rw [hbn]; exact HS.lt _ (by exact List.mem_cons_self)
          have hl1 : w.heap.size + 1 < b9 := by rw [hbn]; exact HS.lt _ (by exact List.mem_cons_of_mem _ (List.mem_cons_self))
          have hl2 : x3.heap.size < b9 := by rw [hbn]; exact HS.lt _ (by exact List.mem_cons_of_mem _ (List.mem_cons_of_mem _ (List.mem_cons_self)))
          have hl3 : x7.heap.size < b9 := by rw [hbn]; exact HS.lt _ (by exact List.mem_cons_of_mem _ (List.mem_cons_of_mem _ (List.mem_cons_of_mem _ (List.mem_cons_self))))
          obtain ⟨HS', HT⟩ := HS.new (o := .cells #[.int .u64 0, .int .u64 0, .int .u64 0, .int .u64 0, .int .u64 0] 25)
          refine hK.out _ _ HS' ?_
          clear HS HS'
          intro HS
          try replace HRD := Lib.hid (HRD.out.mono (Below.alloc (Below.refl y.heap.size y) (Nat.le_refl _) (.cells #[.int .u64 0, .int .u64 0, .int .u64 0, .int .u64 0, .int .u64 0] 25)) (Nat.le_refl _))
          rw [← hbn] at HT ⊢
          clear hbn
          obtain ⟨y2, hy2⟩ : ∃ z, z = y.alloc (.cells #[.int .u64 0, .int .u64 0, .int .u64 0, .int .u64 0, .int .u64 0] 25) := ⟨_, rfl⟩
          rw [← hy2] at HS HT ⊢
          try rw [← hy2] at HRD
          clear hy2
          obtain ⟨x, rfl, hk, hz, m0, m1, m2, m3, m4⟩ := HT.pin5
          clear HS
          refine last_ #[true, true, true, true, true, true, true, true, true, true, false] (i := 9) (N := none) rfl rfl (by kernel_rfl) (by decide) (fun K hK => ?_)
          go_simp
          refine hK.out _ _ ?_
          refine last_ #[true, true, true, true, true, true, true, true, true, true, true] (i := 10) (N := some 10) rfl rfl (by kernel_rfl) (by decide) (fun K hK => ?_)
          go_simp
          refine hK.out _ _ ?_
          refine done_ (by kernel_rfl) ?_
          refine ⟨rfl, (r3, b9), by simp only [puts, Act.put, List.setIfInBounds_toArray, List.set_cons_zero, List.set_cons_succ], trivial, hl0, hl1, hl2, hl3, ?_⟩
          exact keepsC (b := b9) (by (repeat (first | with_reducible exact pin_at (by assumption) | (with_reducible apply pin_at; (first | omega | (simp only [World.size_alloc, pin_size, World.size_drew, World.size_setCell] <;> omega))) | (with_reducible apply alloc_at; first | rfl | (simp only [World.size_alloc, pin_size, World.size_drew, World.size_setCell] <;> omega)) | with_reducible apply past_pin | with_reducible apply past_alloc | with_reducible apply past_drew)); all_goals (first | omega | (simp only [World.size_alloc, pin_size, World.size_drew, World.size_setCell] <;> omega))) (keepsC (b := w.heap.size) (by (repeat (first | with_reducible exact pin_at (by assumption) | (with_reducible apply pin_at; (first | omega | (simp only [World.size_alloc, pin_size, World.size_drew, World.size_setCell] <;> omega))) | (with_reducible apply alloc_at; first | rfl | (simp only [World.size_alloc, pin_size, World.size_drew, World.size_setCell] <;> omega)) | with_reducible apply past_pin | with_reducible apply past_alloc | with_reducible apply past_drew)); all_goals (first | omega | (simp only [World.size_alloc, pin_size, World.size_drew, World.size_setCell] <;> omega))) (keepsC (b := w.heap.size + 1) (by (repeat (first | with_reducible exact pin_at (by assumption) | (with_reducible apply pin_at; (first | omega | (simp only [World.size_alloc, pin_size, World.size_drew, World.size_setCell] <;> omega))) | (with_reducible apply alloc_at; first | rfl | (simp only [World.size_alloc, pin_size, World.size_drew, World.size_setCell] <;> omega)) | with_reducible apply past_pin | with_reducible apply past_alloc | with_reducible apply past_drew)); all_goals (first | omega | (simp only [World.size_alloc, pin_size, World.size_drew, World.size_setCell] <;> omega))) (keepsC (b := x3.heap.size) (by (repeat (first | with_reducible exact pin_at (by assumption) | (with_reducible apply pin_at; (first | omega | (simp only [World.size_alloc, pin_size, World.size_drew, World.size_setCell] <;> omega))) | (with_reducible apply alloc_at; first | rfl | (simp only [World.size_alloc, pin_size, World.size_drew, World.size_setCell] <;> omega)) | with_reducible apply past_pin | with_reducible apply past_alloc | with_reducible apply past_drew)); all_goals (first | omega | (simp only [World.size_alloc, pin_size, World.size_drew, World.size_setCell] <;> omega))) (keepsC (b := x7.heap.size) (by (repeat (first | with_reducible exact pin_at (by assumption) | (with_reducible apply pin_at; (first | omega | (simp only [World.size_alloc, pin_size, World.size_drew, World.size_setCell] <;> omega))) | (with_reducible apply alloc_at; first | rfl | (simp only [World.size_alloc, pin_size, World.size_drew, World.size_setCell] <;> omega)) | with_reducible apply past_pin | with_reducible apply past_alloc | with_reducible apply past_drew)); all_goals (first | omega | (simp only [World.size_alloc, pin_size, World.size_drew, World.size_setCell] <;> omega))) (keeps0 (by (repeat (first | with_reducible exact hk.below | with_reducible refine below_pin ?_ ?_ | with_reducible refine Below.alloc ?_ ?_ _ | with_reducible refine Below.setCell ?_ ?_ _ | with_reducible refine Below.drew ?_)); all_goals (first | omega | (simp only [World.size_alloc, pin_size, World.size_drew, World.size_setCell] <;> omega))))))))
        · go_simp
          obtain ⟨b9, hbn⟩ : ∃ b, b = y.heap.size := ⟨_, rfl⟩
          have hl0 : w.heap.size < b9 := by rw [hbn]; exact HS.lt _ (by exact List.mem_cons_self)
          have hl1 : w.heap.size + 1 < b9 := by rw [hbn]; exact HS.lt _ (by exact List.mem_cons_of_mem _ (List.mem_cons_self))
          have hl2 : x3.heap.size < b9 := by rw [hbn]; exact HS.lt _ (by exact List.mem_cons_of_mem _ (List.mem_cons_of_mem _ (List.mem_cons_self)))
          have hl3 : x7.heap.size < b9 := by rw [hbn]; exact HS.lt _ (by exact List.mem_cons_of_mem _ (List.mem_cons_of_mem _ (List.mem_cons_of_mem _ (List.mem_cons_self))))
          obtain ⟨HS', HT⟩ := HS.new (o := .cells #[.int .u64 0, .int .u64 0, .int .u64 0, .int .u64 0, .int .u64 0] 25)
          refine hK.out _ _ HS' ?_
          clear HS HS'
          intro HS
          try replace HRD := Lib.hid (HRD.out.mono (Below.alloc (Below.refl y.heap.size y) (Nat.le_refl _) (.cells #[.int .u64 0, .int .u64 0, .int .u64 0, .int .u64 0, .int .u64 0] 25)) (Nat.le_refl _))
          rw [← hbn] at HT ⊢
          clear hbn
          obtain ⟨y2, hy2⟩ : ∃ z, z = y.alloc (.cells #[.int .u64 0, .int .u64 0, .int .u64 0, .int .u64 0, .int .u64 0] 25) := ⟨_, rfl⟩
          rw [← hy2] at HS HT ⊢
          try rw [← hy2] at HRD
          clear hy2
          refine one_ #[true, true, true, true, true, false, false, false, true, false, false] (i := 4) (N := some 57) rfl rfl (by kernel_rfl) (by decide) (fun K hK => ?_)
          go_simp
          refine (HR3.out _).mono ?_
          rintro e y ⟨rfl, hb⟩
          refine hK.out _ _ (HS.step hb rfl) ?_
          clear HS
          intro HS
          replace HT := HT.step hb rfl
          clear hb
          refine pure_ #[true, true, true, true, true, true, false, false, true, false, false] (i := 5) (N := some 52) (v := ?v22) rfl rfl (by kernel_rfl) (fun _ _ _ h => nomatch h.1) (Or.inl ⟨by rfl, ?hy22⟩) rfl ?_
          case hy22 => (intro v; go_simp; first | done | with_reducible rfl)
          simp only [Act.put, List.setIfInBounds_toArray, List.set_cons_zero, List.set_cons_succ]
          refine pure_ #[true, true, true, true, true, true, true, false, true, false, false] (i := 6) (N := some 58) (v := ?v23) rfl rfl (by kernel_rfl) (fun _ _ _ h => nomatch h.1) (Or.inl ⟨by rfl, ?hy23⟩) rfl ?_
          case hy23 => (intro v; go_simp; first | done | with_reducible rfl)
          simp only [Act.put, List.setIfInBounds_toArray, List.set_cons_zero, List.set_cons_succ]
          refine pure_ #[true, true, true, true, true, true, true, true, true, false, false] (i := 7) (N := some 59) (v := ?v24) rfl rfl (by kernel_rfl) (fun _ _ _ h => nomatch h.1) (Or.inl ⟨by rfl, ?hy24⟩) rfl ?_
          case hy24 => (intro v; go_simp; first | done | with_reducible rfl)
          simp only [Act.put, List.setIfInBounds_toArray, List.set_cons_zero, List.set_cons_succ]
          obtain ⟨x, rfl, hk, hz, m0, m1, m2, m3, m4⟩ := HT.pin5
          clear HS
          refine last_ #[true, true, true, true, true, true, true, true, true, true, false] (i := 9) (N := none) rfl rfl (by kernel_rfl) (by decide) (fun K hK => ?_)
          go_simp
          refine hK.out _ _ ?_
          refine last_ #[true, true, true, true, true, true, true, true, true, true, true] (i := 10) (N := some 10) rfl rfl (by kernel_rfl) (by decide) (fun K hK => ?_)
          go_simp
          refine hK.out _ _ ?_
          refine done_ (by kernel_rfl) ?_
          refine ⟨rfl, (r3, b9), by simp only [puts, Act.put, List.setIfInBounds_toArray, List.set_cons_zero, List.set_cons_succ], trivial, hl0, hl1, hl2, hl3, ?_⟩
          exact keepsC (b := b9) (by (repeat (first | with_reducible exact pin_at (by assumption) | (with_reducible apply pin_at; (first | omega | (simp only [World.size_alloc, pin_size, World.size_drew, World.size_setCell] <;> omega))) | (with_reducible apply alloc_at; first | rfl | (simp only [World.size_alloc, pin_size, World.size_drew, World.size_setCell] <;> omega)) | with_reducible apply past_pin | with_reducible apply past_alloc | with_reducible apply past_drew)); all_goals (first | omega | (simp only [World.size_alloc, pin_size, World.size_drew, World.size_setCell] <;> omega))) (keepsC (b := w.heap.size) (by (repeat (first | with_reducible exact pin_at (by assumption) | (with_reducible apply pin_at; (first | omega | (simp only [World.size_alloc, pin_size, World.size_drew, World.size_setCell] <;> omega))) | (with_reducible apply alloc_at; first | rfl | (simp only [World.size_alloc, pin_size, World.size_drew, World.size_setCell] <;> omega)) | with_reducible apply past_pin | with_reducible apply past_alloc | with_reducible apply past_drew)); all_goals (first | omega | (simp only [World.size_alloc, pin_size, World.size_drew, World.size_setCell] <;> omega))) (keepsC (b := w.heap.size + 1) (by (repeat (first | with_reducible exact pin_at (by assumption) | (with_reducible apply pin_at; (first | omega | (simp only [World.size_alloc, pin_size, World.size_drew, World.size_setCell] <;> omega))) | (with_reducible apply alloc_at; first | rfl | (simp only [World.size_alloc, pin_size, World.size_drew, World.size_setCell] <;> omega)) | with_reducible apply past_pin | with_reducible apply past_alloc | with_reducible apply past_drew)); all_goals (first | omega | (simp only [World.size_alloc, pin_size, World.size_drew, World.size_setCell] <;> omega))) (keepsC (b := x3.heap.size) (by (repeat (first | with_reducible exact pin_at (by assumption) | (with_reducible apply pin_at; (first | omega | (simp only [World.size_alloc, pin_size, World.size_drew, World.size_setCell] <;> omega))) | (with_reducible apply alloc_at; first | rfl | (simp only [World.size_alloc, pin_size, World.size_drew, World.size_setCell] <;> omega)) | with_reducible apply past_pin | with_reducible apply past_alloc | with_reducible apply past_drew)); all_goals (first | omega | (simp only [World.size_alloc, pin_size, World.size_drew, World.size_setCell] <;> omega))) (keepsC (b := x7.heap.size) (by (repeat (first | with_reducible exact pin_at (by assumption) | (with_reducible apply pin_at; (first | omega | (simp only [World.size_alloc, pin_size, World.size_drew, World.size_setCell] <;> omega))) | (with_reducible apply alloc_at; first | rfl | (simp only [World.size_alloc, pin_size, World.size_drew, World.size_setCell] <;> omega)) | with_reducible apply past_pin | with_reducible apply past_alloc | with_reducible apply past_drew)); all_goals (first | omega | (simp only [World.size_alloc, pin_size, World.size_drew, World.size_setCell] <;> omega))) (keeps0 (by (repeat (first | with_reducible exact hk.below | with_reducible refine below_pin ?_ ?_ | with_reducible refine Below.alloc ?_ ?_ _ | with_reducible refine Below.setCell ?_ ?_ _ | with_reducible refine Below.drew ?_)); all_goals (first | omega | (simp only [World.size_alloc, pin_size, World.size_drew, World.size_setCell] <;> omega))))))))
      · go_simp
        obtain ⟨b9, hbn⟩ : ∃ b, b = y.heap.size := ⟨_, rfl⟩
        have hl0 : w.heap.size < b9 := by rw [hbn]; exact HS.lt _ (by exact List.mem_cons_self)
        have hl1 : w.heap.size + 1 < b9 := by rw [hbn]; exact HS.lt _ (by exact List.mem_cons_of_mem _ (List.mem_cons_self))
        have hl2 : x3.heap.size < b9 := by rw [hbn]; exact HS.lt _ (by exact List.mem_cons_of_mem _ (List.mem_cons_of_mem _ (List.mem_cons_self)))
        have hl3 : x7.heap.size < b9 := by rw [hbn]; exact HS.lt _ (by exact List.mem_cons_of_mem _ (List.mem_cons_of_mem _ (List.mem_cons_of_mem _ (List.mem_cons_self))))
        obtain ⟨HS', HT⟩ := HS.new (o := .cells #[.int .u64 0, .int .u64 0, .int .u64 0, .int .u64 0, .int .u64 0] 25)
        refine hK.out _ _ HS' ?_
        clear HS HS'
        intro HS
        try replace HRD := Lib.hid (HRD.out.mono (Below.alloc (Below.refl y.heap.size y) (Nat.le_refl _) (.cells #[.int .u64 0, .int .u64 0, .int .u64 0, .int .u64 0, .int .u64 0] 25)) (Nat.le_refl _))
        rw [← hbn] at HT ⊢
        clear hbn
        obtain ⟨y2, hy2⟩ : ∃ z, z = y.alloc (.cells #[.int .u64 0, .int .u64 0, .int .u64 0, .int .u64 0, .int .u64 0] 25) := ⟨_, rfl⟩
        rw [← hy2] at HS HT ⊢
        try rw [← hy2] at HRD
        clear hy2
        refine one_ #[true, true, true, true, false, false, false, false, true, false, false] (i := 2) (N := some 55) rfl rfl (by kernel_rfl) (by decide) (fun K hK => ?_)
        go_simp
        refine (CAd.out _).mono ?_
        rintro e y ⟨rfl, hb⟩
        refine hK.out _ _ (HS.step hb rfl) ?_
        clear HS
        intro HS
        replace HT := HT.step hb rfl
        clear hb
        refine one_ #[true, true, true, true, true, false, false, false, true, false, false] (i := 4) (N := some 57) rfl rfl (by kernel_rfl) (by decide) (fun K hK => ?_)
        go_simp
        refine (HR3.out _).mono ?_
        rintro e y ⟨rfl, hb⟩
        refine hK.out _ _ (HS.step hb rfl) ?_
        clear HS
        intro HS
        replace HT := HT.step hb rfl
        clear hb
        refine pure_ #[true, true, true, true, true, true, false, false, true, false, false] (i := 5) (N := some 52) (v := ?v25) rfl rfl (by kernel_rfl) (fun _ _ _ h => nomatch h.1) (Or.inl ⟨by rfl, ?hy25⟩) rfl ?_
        case hy25 => (intro v; go_simp; first | done | with_reducible rfl)
        simp only [Act.put, List.setIfInBounds_toArray, List.set_cons_zero, List.set_cons_succ]
        refine pure_ #[true, true, true, true, true, true, true, false, true, false, false] (i := 6) (N := some 58) (v := ?v26) rfl rfl (by kernel_rfl) (fun _ _ _ h => nomatch h.1) (Or.inl ⟨by rfl, ?hy26⟩) rfl ?_
        case hy26 => (intro v; go_simp; first | done | with_reducible rfl)
        simp only [Act.put, List.setIfInBounds_toArray, List.set_cons_zero, List.set_cons_succ]
        refine pure_ #[true, true, true, true, true, true, true, true, true, false, false] (i := 7) (N := some 59) (v := ?v27) rfl rfl (by kernel_rfl) (fun _ _ _ h => nomatch h.1) (Or.inl ⟨by rfl, ?hy27⟩) rfl ?_
        case hy27 => (intro v; go_simp; first | done | with_reducible rfl)
        simp only [Act.put, List.setIfInBounds_toArray, List.set_cons_zero, List.set_cons_succ]
        obtain ⟨x, rfl, hk, hz, m0, m1, m2, m3, m4⟩ := HT.pin5
        clear HS
        refine last_ #[true, true, true, true, true, true, true, true, true, true, false] (i := 9) (N := none) rfl rfl (by kernel_rfl) (by decide) (fun K hK => ?_)
        go_simp
        refine hK.out _ _ ?_
        refine last_ #[true, true, true, true, true, true, true, true, true, true, true] (i := 10) (N := some 10) rfl rfl (by kernel_rfl) (by decide) (fun K hK => ?_)
        go_simp
        refine hK.out _ _ ?_
        refine done_ (by kernel_rfl) ?_
        refine ⟨rfl, (r3, b9), by simp only [puts, Act.put, List.setIfInBounds_toArray, List.set_cons_zero, List.set_cons_succ], trivial, hl0, hl1, hl2, hl3, ?_⟩
        exact keepsC (b := b9) (by (repeat (first | with_reducible exact pin_at (by assumption) | (with_reducible apply pin_at; (first | omega | (simp only [World.size_alloc, pin_size, World.size_drew, World.size_setCell] <;> omega))) | (with_reducible apply alloc_at; first | rfl | (simp only [World.size_alloc, pin_size, World.size_drew, World.size_setCell] <;> omega)) | with_reducible apply past_pin | with_reducible apply past_alloc | with_reducible apply past_drew)); all_goals (first | omega | (simp only [World.size_alloc, pin_size, World.size_drew, World.size_setCell] <;> omega))) (keepsC (b := w.heap.size) (by (repeat (first | with_reducible exact pin_at (by assumption) | (with_reducible apply pin_at; (first | omega | (simp only [World.size_alloc, pin_size, World.size_drew, World.size_setCell] <;> omega))) | (with_reducible apply alloc_at; first | rfl | (simp only [World.size_alloc, pin_size, World.size_drew, World.size_setCell] <;> omega)) | with_reducible apply past_pin | with_reducible apply past_alloc | with_reducible apply past_drew)); all_goals (first | omega | (simp only [World.size_alloc, pin_size, World.size_drew, World.size_setCell] <;> omega))) (keepsC (b := w.heap.size + 1) (by (repeat (first | with_reducible exact pin_at (by assumption) | (with_reducible apply pin_at; (first | omega | (simp only [World.size_alloc, pin_size, World.size_drew, World.size_setCell] <;> omega))) | (with_reducible apply alloc_at; first | rfl | (simp only [World.size_alloc, pin_size, World.size_drew, World.size_setCell] <;> omega)) | with_reducible apply past_pin | with_reducible apply past_alloc | with_reducible apply past_drew)); all_goals (first | omega | (simp only [World.size_alloc, pin_size, World.size_drew, World.size_setCell] <;> omega))) (keepsC (b := x3.heap.size) (by (repeat (first | with_reducible exact pin_at (by assumption) | (with_reducible apply pin_at; (first | omega | (simp only [World.size_alloc, pin_size, World.size_drew, World.size_setCell] <;> omega))) | (with_reducible apply alloc_at; first | rfl | (simp only [World.size_alloc, pin_size, World.size_drew, World.size_setCell] <;> omega)) | with_reducible apply past_pin | with_reducible apply past_alloc | with_reducible apply past_drew)); all_goals (first | omega | (simp only [World.size_alloc, pin_size, World.size_drew, World.size_setCell] <;> omega))) (keepsC (b := x7.heap.size) (by (repeat (first | with_reducible exact pin_at (by assumption) | (with_reducible apply pin_at; (first | omega | (simp only [World.size_alloc, pin_size, World.size_drew, World.size_setCell] <;> omega))) | (with_reducible apply alloc_at; first | rfl | (simp only [World.size_alloc, pin_size, World.size_drew, World.size_setCell] <;> omega)) | with_reducible apply past_pin | with_reducible apply past_alloc | with_reducible apply past_drew)); all_goals (first | omega | (simp only [World.size_alloc, pin_size, World.size_drew, World.size_setCell] <;> omega))) (keeps0 (by (repeat (first | with_reducible exact hk.below | with_reducible refine below_pin ?_ ?_ | with_reducible refine Below.alloc ?_ ?_ _ | with_reducible refine Below.setCell ?_ ?_ _ | with_reducible refine Below.drew ?_)); all_goals (first | omega | (simp only [World.size_alloc, pin_size, World.size_drew, World.size_setCell] <;> omega))))))))
    rintro ⟨r3, b9⟩ v ⟨hpr, hl80, hl81, hl82, hl83, HK⟩
    simp only [puts, Act.put, List.setIfInBounds_toArray, List.set_cons_zero, List.set_cons_succ]
    obtain ⟨x8, rfl, hk, hz8, l80, l81, l82, l83, l84⟩ := HK.pin5
    have HB8 : Hid (Below w.heap.size w x8) := hk.below
    clear HK hk
    clear hpr
    have hne := HNE.out (by first | rfl | trivial) (by first | rfl | trivial)
    rcases o2 with _ | _ <;> rcases o3 with _ | _
    · exact absurd hne (by decide)
    · clear hne
      go_wp2_with fail
      refine (known_any _).mono ?_
      rintro e x9 ⟨rfl, hb9⟩
      have HB9 : Hid (Below w.heap.size w x9) := Below.trans (by (repeat (first | with_reducible exact HB8.out | with_reducible refine below_pin ?_ ?_ | with_reducible refine Below.alloc ?_ ?_ _ | with_reducible refine Below.setCell ?_ ?_ _ | with_reducible refine Below.drew ?_)); all_goals (first | omega | (simp only [World.size_alloc, pin_size, World.size_drew, World.size_setCell] <;> omega))) (hb9.mono (by (first | omega | (simp only [World.size_alloc, pin_size, World.size_drew, World.size_setCell] <;> omega))))
      have hz9 := HB9.out.size
      clear hb9
      go_wp2_with fail
      go_ret
      exact ⟨rfl, (by (repeat (first | with_reducible exact HB9.out | with_reducible refine below_pin ?_ ?_ | with_reducible refine Below.alloc ?_ ?_ _ | with_reducible refine Below.setCell ?_ ?_ _ | with_reducible refine Below.drew ?_)); all_goals (first | omega | (simp only [World.size_alloc, pin_size, World.size_drew, World.size_setCell] <;> omega)))⟩
    · clear hne
      go_wp2_with fail
      refine (known_any _).mono ?_
      rintro e x9 ⟨rfl, hb9⟩
      have HB9 : Hid (Below w.heap.size w x9) := Below.trans (by (repeat (first | with_reducible exact HB8.out | with_reducible refine below_pin ?_ ?_ | with_reducible refine Below.alloc ?_ ?_ _ | with_reducible refine Below.setCell ?_ ?_ _ | with_reducible refine Below.drew ?_)); all_goals (first | omega | (simp only [World.size_alloc, pin_size, World.size_drew, World.size_setCell] <;> omega))) (hb9.mono (by (first | omega | (simp only [World.size_alloc, pin_size, World.size_drew, World.size_setCell] <;> omega))))
      have hz9 := HB9.out.size
      clear hb9
      go_wp2_with fail
      go_ret
      exact ⟨rfl, (by (repeat (first | with_reducible exact HB9.out | with_reducible refine below_pin ?_ ?_ | with_reducible refine Below.alloc ?_ ?_ _ | with_reducible refine Below.setCell ?_ ?_ _ | with_reducible refine Below.drew ?_)); all_goals (first | omega | (simp only [World.size_alloc, pin_size, World.size_drew, World.size_setCell] <;> omega)))⟩
    · exact absurd hne (by decide)
  · go_enter Try.func12, Try.ntmps12
    go_wp2_with fail
    refine (CSq.out _).mono ?_
    rintro e y1 ⟨rfl, hb1⟩
    obtain ⟨x1, rfl, hc1, hz1, l10, l11⟩ := keep2 (b0 := w.heap.size) (b1 := w.heap.size + 1) hb1 rfl (by (repeat (first | with_reducible exact pin_at (by assumption) | (with_reducible apply pin_at; (first | omega | (simp only [World.size_alloc, pin_size, World.size_drew, World.size_setCell] <;> omega))) | (with_reducible apply alloc_at; first | rfl | (simp only [World.size_alloc, pin_size, World.size_drew, World.size_setCell] <;> omega)) | with_reducible apply past_pin | with_reducible apply past_alloc | with_reducible apply past_drew)); all_goals (first | omega | (simp only [World.size_alloc, pin_size, World.size_drew, World.size_setCell] <;> omega))) (by (repeat (first | with_reducible exact pin_at (by assumption) | (with_reducible apply pin_at; (first | omega | (simp only [World.size_alloc, pin_size, World.size_drew, World.size_setCell] <;> omega))) | (with_reducible apply alloc_at; first | rfl | (simp only [World.size_alloc, pin_size, World.size_drew, World.size_setCell] <;> omega)) | with_reducible apply past_pin | with_reducible apply past_alloc | with_reducible apply past_drew)); all_goals (first | omega | (simp only [World.size_alloc, pin_size, World.size_drew, World.size_setCell] <;> omega)))
    have HB1 : Hid (Below w.heap.size w x1) := Below.trans (by (repeat (first | with_reducible exact (Below.refl _ _) | with_reducible refine below_pin ?_ ?_ | with_reducible refine Below.alloc ?_ ?_ _ | with_reducible refine Below.setCell ?_ ?_ _ | with_reducible refine Below.drew ?_)); all_goals (first | omega | (simp only [World.size_alloc, pin_size, World.size_drew, World.size_setCell] <;> omega))) (hc1.mono (by (first | omega | (simp only [World.size_alloc, pin_size, World.size_drew, World.size_setCell] <;> omega))))
    clear hb1 hc1
    try simp only [World.size_alloc, pin_size, World.size_drew, World.size_setCell] at hz1
    go_wp2_with fail
    refine (Small_any 1 (by decide) _).mono ?_
    rintro e y2 ⟨rfl, hb2⟩
    obtain ⟨x2, rfl, hc2, hz2, l20, l21⟩ := keep2 (b0 := w.heap.size) (b1 := w.heap.size + 1) hb2 rfl (by (repeat (first | with_reducible exact pin_at (by assumption) | (with_reducible apply pin_at; (first | omega | (simp only [World.size_alloc, pin_size, World.size_drew, World.size_setCell] <;> omega))) | (with_reducible apply alloc_at; first | rfl | (simp only [World.size_alloc, pin_size, World.size_drew, World.size_setCell] <;> omega)) | with_reducible apply past_pin | with_reducible apply past_alloc | with_reducible apply past_drew)); all_goals (first | omega | (simp only [World.size_alloc, pin_size, World.size_drew, World.size_setCell] <;> omega))) (by (repeat (first | with_reducible exact pin_at (by assumption) | (with_reducible apply pin_at; (first | omega | (simp only [World.size_alloc, pin_size, World.size_drew, World.size_setCell] <;> omega))) | (with_reducible apply alloc_at; first | rfl | (simp only [World.size_alloc, pin_size, World.size_drew, World.size_setCell] <;> omega)) | with_reducible apply past_pin | with_reducible apply past_alloc | with_reducible apply past_drew)); all_goals (first | omega | (simp only [World.size_alloc, pin_size, World.size_drew, World.size_setCell] <;> omega)))
    have HB2 : Hid (Below w.heap.size w x2) := Below.trans (by (repeat (first | with_reducible exact HB1.out | with_reducible refine below_pin ?_ ?_ | with_reducible refine Below.alloc ?_ ?_ _ | with_reducible refine Below.setCell ?_ ?_ _ | with_reducible refine Below.drew ?_)); all_goals (first | omega | (simp only [World.size_alloc, pin_size, World.size_drew, World.size_setCell] <;> omega))) (hc2.mono (by (first | omega | (simp only [World.size_alloc, pin_size, World.size_drew, World.size_setCell] <;> omega))))
    clear hb2 hc2
    try simp only [World.size_alloc, pin_size, World.size_drew, World.size_setCell] at hz2
    go_wp2_with fail
    refine (HRt.out _).mono ?_
    rintro e y3 ⟨rfl, hb3⟩
    obtain ⟨x3, rfl, hc3, hz3, l30, l31⟩ := keep2 (b0 := w.heap.size) (b1 := w.heap.size + 1) hb3 rfl (by (repeat (first | with_reducible exact pin_at (by assumption) | (with_reducible apply pin_at; (first | omega | (simp only [World.size_alloc, pin_size, World.size_drew, World.size_setCell] <;> omega))) | (with_reducible apply alloc_at; first | rfl | (simp only [World.size_alloc, pin_size, World.size_drew, World.size_setCell] <;> omega)) | with_reducible apply past_pin | with_reducible apply past_alloc | with_reducible apply past_drew)); all_goals (first | omega | (simp only [World.size_alloc, pin_size, World.size_drew, World.size_setCell] <;> omega))) (by (repeat (first | with_reducible exact pin_at (by assumption) | (with_reducible apply pin_at; (first | omega | (simp only [World.size_alloc, pin_size, World.size_drew, World.size_setCell] <;> omega))) | (with_reducible apply alloc_at; first | rfl | (simp only [World.size_alloc, pin_size, World.size_drew, World.size_setCell] <;> omega)) | with_reducible apply past_pin | with_reducible apply past_alloc | with_reducible apply past_drew)); all_goals (first | omega | (simp only [World.size_alloc, pin_size, World.size_drew, World.size_setCell] <;> omega)))
    have HB3 : Hid (Below w.heap.size w x3) := Below.trans (by (repeat (first | with_reducible exact HB2.out | with_reducible refine below_pin ?_ ?_ | with_reducible refine Below.alloc ?_ ?_ _ | with_reducible refine Below.setCell ?_ ?_ _ | with_reducible refine Below.drew ?_)); all_goals (first | omega | (simp only [World.size_alloc, pin_size, World.size_drew, World.size_setCell] <;> omega))) (hc3.mono (by (first | omega | (simp only [World.size_alloc, pin_size, World.size_drew, World.size_setCell] <;> omega))))
    clear hb3 hc3
    try simp only [World.size_alloc, pin_size, World.size_drew, World.size_setCell] at hz3
    go_wp2_with fail
    refine start_ (S := Keeps w _) (ds := []) (n := 19) #[false, false, false, false, false, false, false, false, false, false, false, false, false, false, false, false, false, false, false] (by kernel_rfl) rfl rfl (keepsC (b := w.heap.size) (by (repeat (first | with_reducible exact pin_at (by assumption) | (with_reducible apply pin_at; (first | omega | (simp only [World.size_alloc, pin_size, World.size_drew, World.size_setCell] <;> omega))) | (with_reducible apply alloc_at; first | rfl | (simp only [World.size_alloc, pin_size, World.size_drew, World.size_setCell] <;> omega)) | with_reducible apply past_pin | with_reducible apply past_alloc | with_reducible apply past_drew)); all_goals (first | omega | (simp only [World.size_alloc, pin_size, World.size_drew, World.size_setCell] <;> omega))) (keepsC (b := w.heap.size + 1) (by (repeat (first | with_reducible exact pin_at (by assumption) | (with_reducible apply pin_at; (first | omega | (simp only [World.size_alloc, pin_size, World.size_drew, World.size_setCell] <;> omega))) | (with_reducible apply alloc_at; first | rfl | (simp only [World.size_alloc, pin_size, World.size_drew, World.size_setCell] <;> omega)) | with_reducible apply past_pin | with_reducible apply past_alloc | with_reducible apply past_drew)); all_goals (first | omega | (simp only [World.size_alloc, pin_size, World.size_drew, World.size_setCell] <;> omega))) (keepsC (b := x3.heap.size) (by (repeat (first | with_reducible exact pin_at (by assumption) | (with_reducible apply pin_at; (first | omega | (simp only [World.size_alloc, pin_size, World.size_drew, World.size_setCell] <;> omega))) | (with_reducible apply alloc_at; first | rfl | (simp only [World.size_alloc, pin_size, World.size_drew, World.size_setCell] <;> omega)) | with_reducible apply past_pin | with_reducible apply past_alloc | with_reducible apply past_drew)); all_goals (first | omega | (simp only [World.size_alloc, pin_size, World.size_drew, World.size_setCell] <;> omega))) (keeps0 (by (repeat (first | with_reducible exact HB3.out | with_reducible refine below_pin ?_ ?_ | with_reducible refine Below.alloc ?_ ?_ _ | with_reducible refine Below.setCell ?_ ?_ _ | with_reducible refine Below.drew ?_)); all_goals (first | omega | (simp only [World.size_alloc, pin_size, World.size_drew, World.size_setCell] <;> omega))))))) (fun HS => ?_)
    refine take_ #[true, false, false, false, false, false, false, false, false, false, false, false, false, false, false, false, false, false, false] (i := 0) (N := some 18) (v := ?v28) rfl rfl (by kernel_rfl) (fun _ _ _ h => h) (Or.inl ⟨by rfl, ?hy28⟩) HS rfl ?_
    case hy28 => (intro v hv; obtain ⟨x, rfl, _, _, n0, n1, n2⟩ := hv.pin3; go_simp; first | done | with_reducible rfl)
    simp only [Act.put, List.setIfInBounds_toArray, List.set_cons_zero, List.set_cons_succ]
    refine take_ #[true, true, false, false, false, false, false, false, false, false, false, false, false, false, false, false, false, false, false] (i := 1) (N := some 19) (v := ?v29) rfl rfl (by kernel_rfl) (fun _ _ _ h => h) (Or.inl ⟨by rfl, ?hy29⟩) HS rfl ?_
    case hy29 => (intro v hv; obtain ⟨x, rfl, _, _, n0, n1, n2⟩ := hv.pin3; go_simp; first | done | with_reducible rfl)
    simp only [Act.put, List.setIfInBounds_toArray, List.set_cons_zero, List.set_cons_succ]
    refine take_ #[true, true, true, false, false, false, false, false, false, false, false, false, false, false, false, false, false, false, false] (i := 2) (N := some 20) (v := ?v30) rfl rfl (by kernel_rfl) (fun _ _ _ h => h) (Or.inl ⟨by rfl, ?hy30⟩) HS rfl ?_
    case hy30 => (intro v hv; obtain ⟨x, rfl, _, _, n0, n1, n2⟩ := hv.pin3; go_simp; first | done | with_reducible rfl)
    simp only [Act.put, List.setIfInBounds_toArray, List.set_cons_zero, List.set_cons_succ]
    refine take_ #[true, true, true, true, false, false, false, false, false, false, false, false, false, false, false, false, false, false, false] (i := 3) (N := some 21) (v := ?v31) rfl rfl (by kernel_rfl) (fun _ _ _ h => h) (Or.inl ⟨by rfl, ?hy31⟩) HS rfl ?_
    case hy31 => (intro v hv; obtain ⟨x, rfl, _, _, n0, n1, n2⟩ := hv.pin3; go_simp; first | done | with_reducible rfl)
    simp only [Act.put, List.setIfInBounds_toArray, List.set_cons_zero, List.set_cons_succ]
    refine take_ #[true, true, true, true, true, false, false, false, false, false, false, false, false, false, false, false, false, false, false] (i := 4) (N := some 22) (v := ?v32) rfl rfl (by kernel_rfl) (fun _ _ _ h => h) (Or.inl ⟨by rfl, ?hy32⟩) HS rfl ?_
    case hy32 => (intro v hv; obtain ⟨x, rfl, _, _, n0, n1, n2⟩ := hv.pin3; go_simp; first | done | with_reducible rfl)
    simp only [Act.put, List.setIfInBounds_toArray, List.set_cons_zero, List.set_cons_succ]
    refine one_ #[true, true, true, true, true, true, false, false, false, false, false, false, false, false, false, false, false, false, false] (i := 5) (N := some 23) rfl rfl (by kernel_rfl) (by decide) (fun K hK => ?_)
    go_simp
    refine (CSm.out _).mono ?_
    rintro e y ⟨rfl, hb⟩
    refine hK.out _ _ (HS.step hb rfl) ?_
    clear HS hb
    intro HS
    refine take_ #[true, true, true, true, true, true, true, false, false, false, false, false, false, false, false, false, false, false, false] (i := 6) (N := some 24) (v := ?v33) rfl rfl (by kernel_rfl) (fun _ _ _ h => h) (Or.inl ⟨by rfl, ?hy33⟩) HS rfl ?_
    case hy33 => (intro v hv; obtain ⟨x, rfl, _, _, n0, n1, n2⟩ := hv.pin3; go_simp; first | done | with_reducible rfl)
    simp only [Act.put, List.setIfInBounds_toArray, List.set_cons_zero, List.set_cons_succ]
    refine take_ #[true, true, true, true, true, true, true, true, false, false, false, false, false, false, false, false, false, false, false] (i := 7) (N := some 25) (v := ?v34) rfl rfl (by kernel_rfl) (fun _ _ _ h => h) (Or.inl ⟨by rfl, ?hy34⟩) HS rfl ?_
    case hy34 => (intro v hv; obtain ⟨x, rfl, _, _, n0, n1, n2⟩ := hv.pin3; go_simp; first | done | with_reducible rfl)
    simp only [Act.put, List.setIfInBounds_toArray, List.set_cons_zero, List.set_cons_succ]
    refine take_ #[true, true, true, true, true, true, true, true, true, false, false, false, false, false, false, false, false, false, false] (i := 8) (N := some 26) (v := ?v35) rfl rfl (by kernel_rfl) (fun _ _ _ h => h) (Or.inl ⟨by rfl, ?hy35⟩) HS rfl ?_
    case hy35 => (intro v hv; obtain ⟨x, rfl, _, _, n0, n1, n2⟩ := hv.pin3; go_simp; first | done | with_reducible rfl)
    simp only [Act.put, List.setIfInBounds_toArray, List.set_cons_zero, List.set_cons_succ]
    refine take_ #[true, true, true, true, true, true, true, true, true, true, false, false, false, false, false, false, false, false, false] (i := 9) (N := some 27) (v := ?v36) rfl rfl (by kernel_rfl) (fun _ _ _ h => h) (Or.inl ⟨by rfl, ?hy36⟩) HS rfl ?_
    case hy36 => (intro v hv; obtain ⟨x, rfl, _, _, n0, n1, n2⟩ := hv.pin3; go_simp; first | done | with_reducible rfl)
    simp only [Act.put, List.setIfInBounds_toArray, List.set_cons_zero, List.set_cons_succ]
    refine one_ #[true, true, true, true, true, true, true, true, true, true, true, false, false, false, false, false, false, false, false] (i := 10) (N := some 28) rfl rfl (by kernel_rfl) (by decide) (fun K hK => ?_)
    go_simp
    refine (CN.out _).mono ?_
    rintro e y ⟨rfl, hb⟩
    refine hK.out _ _ (HS.step hb rfl) ?_
    clear HS hb
    intro HS
    refine one_ #[true, true, true, true, true, true, true, true, true, true, true, true, false, false, false, false, false, false, false] (i := 11) (N := some 29) rfl rfl (by kernel_rfl) (by decide) (fun K hK => ?_)
    go_simp
    refine (HOr.out (by first | rfl | trivial) _).mono ?_
    rintro e y ⟨rfl, hb⟩
    refine hK.out _ _ (HS.step hb rfl) ?_
    clear HS hb
    intro HS
    refine take_ #[true, true, true, true, true, true, true, true, true, true, true, true, true, false, false, false, false, false, false] (i := 12) (N := some 30) (v := ?v37) rfl rfl (by kernel_rfl) (fun _ _ _ h => h) (Or.inl ⟨by rfl, ?hy37⟩) HS rfl ?_
    case hy37 => (intro v hv; obtain ⟨x, rfl, _, _, n0, n1, n2⟩ := hv.pin3; go_simp; first | done | with_reducible rfl)
    simp only [Act.put, List.setIfInBounds_toArray, List.set_cons_zero, List.set_cons_succ]
    refine take_ #[true, true, true, true, true, true, true, true, true, true, true, true, true, true, false, false, false, false, false] (i := 13) (N := some 31) (v := ?v38) rfl rfl (by kernel_rfl) (fun _ _ _ h => h) (Or.inl ⟨by rfl, ?hy38⟩) HS rfl ?_
    case hy38 => (intro v hv; obtain ⟨x, rfl, _, _, n0, n1, n2⟩ := hv.pin3; go_simp; first | done | with_reducible rfl)
    simp only [Act.put, List.setIfInBounds_toArray, List.set_cons_zero, List.set_cons_succ]
    refine take_ #[true, true, true, true, true, true, true, true, true, true, true, true, true, true, true, false, false, false, false] (i := 14) (N := some 32) (v := ?v39) rfl rfl (by kernel_rfl) (fun _ _ _ h => h) (Or.inl ⟨by rfl, ?hy39⟩) HS rfl ?_
    case hy39 => (intro v hv; obtain ⟨x, rfl, _, _, n0, n1, n2⟩ := hv.pin3; go_simp; first | done | with_reducible rfl)
    simp only [Act.put, List.setIfInBounds_toArray, List.set_cons_zero, List.set_cons_succ]
    refine take_ #[true, true, true, true, true, true, true, true, true, true, true, true, true, true, true, true, false, false, false] (i := 15) (N := some 33) (v := ?v40) rfl rfl (by kernel_rfl) (fun _ _ _ h => h) (Or.inl ⟨by rfl, ?hy40⟩) HS rfl ?_
    case hy40 => (intro v hv; obtain ⟨x, rfl, _, _, n0, n1, n2⟩ := hv.pin3; go_simp; first | done | with_reducible rfl)
    simp only [Act.put, List.setIfInBounds_toArray, List.set_cons_zero, List.set_cons_succ]
    refine take_ #[true, true, true, true, true, true, true, true, true, true, true, true, true, true, true, true, true, false, false] (i := 16) (N := some 34) (v := ?v41) rfl rfl (by kernel_rfl) (fun _ _ _ h => h) (Or.inl ⟨by rfl, ?hy41⟩) HS rfl ?_
    case hy41 => (intro v hv; obtain ⟨x, rfl, _, _, n0, n1, n2⟩ := hv.pin3; go_simp; first | done | with_reducible rfl)
    simp only [Act.put, List.setIfInBounds_toArray, List.set_cons_zero, List.set_cons_succ]
    refine one_ #[true, true, true, true, true, true, true, true, true, true, true, true, true, true, true, true, true, true, false] (i := 17) (N := some 35) rfl rfl (by kernel_rfl) (by decide) (fun K hK => ?_)
    go_simp
    refine (COd.out _).mono ?_
    rintro e y ⟨rfl, hb⟩
    refine hK.out _ _ (HS.step hb rfl) ?_
    clear HS hb
    intro HS
    refine take_ #[true, true, true, true, true, true, true, true, true, true, true, true, true, true, true, true, true, true, true] (i := 18) (N := some 36) (v := ?v42) rfl rfl (by kernel_rfl) (fun _ _ _ h => h) (Or.inl ⟨by rfl, ?hy42⟩) HS rfl ?_
    case hy42 => (intro v hv; obtain ⟨x, rfl, _, _, n0, n1, n2⟩ := hv.pin3; go_simp; first | done | with_reducible rfl)
    simp only [Act.put, List.setIfInBounds_toArray, List.set_cons_zero, List.set_cons_succ]
    obtain ⟨x4, rfl, hk4, hz4, l40, l41, l42⟩ := HS.pin3
    have HB4 : Hid (Below w.heap.size w x4) := hk4.below
    clear HS hk4
    refine done_ (by kernel_rfl) ?_
    go_wp2_with fail
    refine (CZ1.out _).mono ?_
    rintro e y5 ⟨rfl, hb5⟩
    obtain ⟨x5, rfl, hc5, hz5, l50, l51, l52⟩ := keep3 (b0 := w.heap.size) (b1 := w.heap.size + 1) (b2 := x3.heap.size) hb5 rfl (by (repeat (first | with_reducible exact pin_at (by assumption) | (with_reducible apply pin_at; (first | omega | (simp only [World.size_alloc, pin_size, World.size_drew, World.size_setCell] <;> omega))) | (with_reducible apply alloc_at; first | rfl | (simp only [World.size_alloc, pin_size, World.size_drew, World.size_setCell] <;> omega)) | with_reducible apply past_pin | with_reducible apply past_alloc | with_reducible apply past_drew)); all_goals (first | omega | (simp only [World.size_alloc, pin_size, World.size_drew, World.size_setCell] <;> omega))) (by (repeat (first | with_reducible exact pin_at (by assumption) | (with_reducible apply pin_at; (first | omega | (simp only [World.size_alloc, pin_size, World.size_drew, World.size_setCell] <;> omega))) | (with_reducible apply alloc_at; first | rfl | (simp only [World.size_alloc, pin_size, World.size_drew, World.size_setCell] <;> omega)) | with_reducible apply past_pin | with_reducible apply past_alloc | with_reducible apply past_drew)); all_goals (first | omega | (simp only [World.size_alloc, pin_size, World.size_drew, World.size_setCell] <;> omega))) (by (repeat (first | with_reducible exact pin_at (by assumption) | (with_reducible apply pin_at; (first | omega | (simp only [World.size_alloc, pin_size, World.size_drew, World.size_setCell] <;> omega))) | (with_reducible apply alloc_at; first | rfl | (simp only [World.size_alloc, pin_size, World.size_drew, World.size_setCell] <;> omega)) | with_reducible apply past_pin | with_reducible apply past_alloc | with_reducible apply past_drew)); all_goals (first | omega | (simp only [World.size_alloc, pin_size, World.size_drew, World.size_setCell] <;> omega)))
    have HB5 : Hid (Below w.heap.size w x5) := Below.trans (by (repeat (first | with_reducible exact HB4.out | with_reducible refine below_pin ?_ ?_ | with_reducible refine Below.alloc ?_ ?_ _ | with_reducible refine Below.setCell ?_ ?_ _ | with_reducible refine Below.drew ?_)); all_goals (first | omega | (simp only [World.size_alloc, pin_size, World.size_drew, World.size_setCell] <;> omega))) (hc5.mono (by (first | omega | (simp only [World.size_alloc, pin_size, World.size_drew, World.size_setCell] <;> omega))))
    clear hb5 hc5
    try simp only [World.size_alloc, pin_size, World.size_drew, World.size_setCell] at hz5
    go_wp2_with fail
    refine (CZ0.out _).mono ?_
    rintro e y6 ⟨rfl, hb6⟩
    obtain ⟨x6, rfl, hc6, hz6, l60, l61, l62⟩ := keep3 (b0 := w.heap.size) (b1 := w.heap.size + 1) (b2 := x3.heap.size) hb6 rfl (by (repeat (first | with_reducible exact pin_at (by assumption) | (with_reducible apply pin_at; (first | omega | (simp only [World.size_alloc, pin_size, World.size_drew, World.size_setCell] <;> omega))) | (with_reducible apply alloc_at; first | rfl | (simp only [World.size_alloc, pin_size, World.size_drew, World.size_setCell] <;> omega)) | with_reducible apply past_pin | with_reducible apply past_alloc | with_reducible apply past_drew)); all_goals (first | omega | (simp only [World.size_alloc, pin_size, World.size_drew, World.size_setCell] <;> omega))) (by (repeat (first | with_reducible exact pin_at (by assumption) | (with_reducible apply pin_at; (first | omega | (simp only [World.size_alloc, pin_size, World.size_drew, World.size_setCell] <;> omega))) | (with_reducible apply alloc_at; first | rfl | (simp only [World.size_alloc, pin_size, World.size_drew, World.size_setCell] <;> omega)) | with_reducible apply past_pin | with_reducible apply past_alloc | with_reducible apply past_drew)); all_goals (first | omega | (simp only [World.size_alloc, pin_size, World.size_drew, World.size_setCell] <;> omega))) (by (repeat (first | with_reducible exact pin_at (by assumption) | (with_reducible apply pin_at; (first | omega | (simp only [World.size_alloc, pin_size, World.size_drew, World.size_setCell] <;> omega))) | (with_reducible apply alloc_at; first | rfl | (simp only [World.size_alloc, pin_size, World.size_drew, World.size_setCell] <;> omega)) | with_reducible apply past_pin | with_reducible apply past_alloc | with_reducible apply past_drew)); all_goals (first | omega | (simp only [World.size_alloc, pin_size, World.size_drew, World.size_setCell] <;> omega)))
    have HB6 : Hid (Below w.heap.size w x6) := Below.trans (by (repeat (first | with_reducible exact HB5.out | with_reducible refine below_pin ?_ ?_ | with_reducible refine Below.alloc ?_ ?_ _ | with_reducible refine Below.setCell ?_ ?_ _ | with_reducible refine Below.drew ?_)); all_goals (first | omega | (simp only [World.size_alloc, pin_size, World.size_drew, World.size_setCell] <;> omega))) (hc6.mono (by (first | omega | (simp only [World.size_alloc, pin_size, World.size_drew, World.size_setCell] <;> omega))))
    clear hb6 hc6
    try simp only [World.size_alloc, pin_size, World.size_drew, World.size_setCell] at hz6
    go_wp2_with fail
    refine (known_any _).mono ?_
    rintro e y7 ⟨rfl, hb7⟩
    obtain ⟨x7, rfl, hc7, hz7, l70, l71, l72⟩ := keep3 (b0 := w.heap.size) (b1 := w.heap.size + 1) (b2 := x3.heap.size) hb7 rfl (by (repeat (first | with_reducible exact pin_at (by assumption) | (with_reducible apply pin_at; (first | omega | (simp only [World.size_alloc, pin_size, World.size_drew, World.size_setCell] <;> omega))) | (with_reducible apply alloc_at; first | rfl | (simp only [World.size_alloc, pin_size, World.size_drew, World.size_setCell] <;> omega)) | with_reducible apply past_pin | with_reducible apply past_alloc | with_reducible apply past_drew)); all_goals (first | omega | (simp only [World.size_alloc, pin_size, World.size_drew, World.size_setCell] <;> omega))) (by (repeat (first | with_reducible exact pin_at (by assumption) | (with_reducible apply pin_at; (first | omega | (simp only [World.size_alloc, pin_size, World.size_drew, World.size_setCell] <;> omega))) | (with_reducible apply alloc_at; first | rfl | (simp only [World.size_alloc, pin_size, World.size_drew, World.size_setCell] <;> omega)) | with_reducible apply past_pin | with_reducible apply past_alloc | with_reducible apply past_drew)); all_goals (first | omega | (simp only [World.size_alloc, pin_size, World.size_drew, World.size_setCell] <;> omega))) (by (repeat (first | with_reducible exact pin_at (by assumption) | (with_reducible apply pin_at; (first | omega | (simp only [World.size_alloc, pin_size, World.size_drew, World.size_setCell] <;> omega))) | (with_reducible apply alloc_at; first | rfl | (simp only [World.size_alloc, pin_size, World.size_drew, World.size_setCell] <;> omega)) | with_reducible apply past_pin | with_reducible apply past_alloc | with_reducible apply past_drew)); all_goals (first | omega | (simp only [World.size_alloc, pin_size, World.size_drew, World.size_setCell] <;> omega)))
    have HB7 : Hid (Below w.heap.size w x7) := Below.trans (by (repeat (first | with_reducible exact HB6.out | with_reducible refine below_pin ?_ ?_ | with_reducible refine Below.alloc ?_ ?_ _ | with_reducible refine Below.setCell ?_ ?_ _ | with_reducible refine Below.drew ?_)); all_goals (first | omega | (simp only [World.size_alloc, pin_size, World.size_drew, World.size_setCell] <;> omega))) (hc7.mono (by (first | omega | (simp only [World.size_alloc, pin_size, World.size_drew, World.size_setCell] <;> omega))))
    clear hb7 hc7
    try simp only [World.size_alloc, pin_size, World.size_drew, World.size_setCell] at hz7
    go_wp2_with fail
    go_ret
    exact ⟨rfl, (by (repeat (first | with_reducible exact HB7.out | with_reducible refine below_pin ?_ ?_ | with_reducible refine Below.alloc ?_ ?_ _ | with_reducible refine Below.setCell ?_ ?_ _ | with_reducible refine Below.drew ?_)); all_goals (first | omega | (simp only [World.size_alloc, pin_size, World.size_drew, World.size_setCell] <;> omega)))⟩
  · go_enter Try.func12, Try.ntmps12
    go_wp2_with fail
    refine (CSq.out _).mono ?_
    rintro e y1 ⟨rfl, hb1⟩
    obtain ⟨x1, rfl, hc1, hz1, l10, l11⟩ := keep2 (b0 := w.heap.size) (b1 := w.heap.size + 1) hb1 rfl (by (repeat (first | with_reducible exact pin_at (by assumption) | (with_reducible apply pin_at; (first | omega | (simp only [World.size_alloc, pin_size, World.size_drew, World.size_setCell] <;> omega))) | (with_reducible apply alloc_at; first | rfl | (simp only [World.size_alloc, pin_size, World.size_drew, World.size_setCell] <;> omega)) | with_reducible apply past_pin | with_reducible apply past_alloc | with_reducible apply past_drew)); all_goals (first | omega | (simp only [World.size_alloc, pin_size, World.size_drew, World.size_setCell] <;> omega))) (by (repeat (first | with_reducible exact pin_at (by assumption) | (with_reducible apply pin_at; (first | omega | (simp only [World.size_alloc, pin_size, World.size_drew, World.size_setCell] <;> omega))) | (with_reducible apply alloc_at; first | rfl | (simp only [World.size_alloc, pin_size, World.size_drew, World.size_setCell] <;> omega)) | with_reducible apply past_pin | with_reducible apply past_alloc | with_reducible apply past_drew)); all_goals (first | omega | (simp only [World.size_alloc, pin_size, World.size_drew, World.size_setCell] <;> omega)))
    have HB1 : Hid (Below w.heap.size w x1) := Below.trans (by (repeat (first | with_reducible exact (Below.refl _ _) | with_reducible refine below_pin ?_ ?_ | with_reducible refine Below.alloc ?_ ?_ _ | with_reducible refine Below.setCell ?_ ?_ _ | with_reducible refine Below.drew ?_)); all_goals (first | omega | (simp only [World.size_alloc, pin_size, World.size_drew, World.size_setCell] <;> omega))) (hc1.mono (by (first | omega | (simp only [World.size_alloc, pin_size, World.size_drew, World.size_setCell] <;> omega))))
    clear hb1 hc1
    try simp only [World.size_alloc, pin_size, World.size_drew, World.size_setCell] at hz1
    go_wp2_with fail
    refine (Small_any 1 (by decide) _).mono ?_
    rintro e y2 ⟨rfl, hb2⟩
    obtain ⟨x2, rfl, hc2, hz2, l20, l21⟩ := keep2 (b0 := w.heap.size) (b1 := w.heap.size + 1) hb2 rfl (by (repeat (first | with_reducible exact pin_at (by assumption) | (with_reducible apply pin_at; (first | omega | (simp only [World.size_alloc, pin_size, World.size_drew, World.size_setCell] <;> omega))) | (with_reducible apply alloc_at; first | rfl | (simp only [World.size_alloc, pin_size, World.size_drew, World.size_setCell] <;> omega)) | with_reducible apply past_pin | with_reducible apply past_alloc | with_reducible apply past_drew)); all_goals (first | omega | (simp only [World.size_alloc, pin_size, World.size_drew, World.size_setCell] <;> omega))) (by (repeat (first | with_reducible exact pin_at (by assumption) | (with_reducible apply pin_at; (first | omega | (simp only [World.size_alloc, pin_size, World.size_drew, World.size_setCell] <;> omega))) | (with_reducible apply alloc_at; first | rfl | (simp only [World.size_alloc, pin_size, World.size_drew, World.size_setCell] <;> omega)) | with_reducible apply past_pin | with_reducible apply past_alloc | with_reducible apply past_drew)); all_goals (first | omega | (simp only [World.size_alloc, pin_size, World.size_drew, World.size_setCell] <;> omega)))
    have HB2 : Hid (Below w.heap.size w x2) := Below.trans (by (repeat (first | with_reducible exact HB1.out | with_reducible refine below_pin ?_ ?_ | with_reducible refine Below.alloc ?_ ?_ _ | with_reducible refine Below.setCell ?_ ?_ _ | with_reducible refine Below.drew ?_)); all_goals (first | omega | (simp only [World.size_alloc, pin_size, World.size_drew, World.size_setCell] <;> omega))) (hc2.mono (by (first | omega | (simp only [World.size_alloc, pin_size, World.size_drew, World.size_setCell] <;> omega))))
    clear hb2 hc2
    try simp only [World.size_alloc, pin_size, World.size_drew, World.size_setCell] at hz2
    go_wp2_with fail
    refine (HRt.out _).mono ?_
    rintro e y3 ⟨rfl, hb3⟩
    obtain ⟨x3, rfl, hc3, hz3, l30, l31⟩ := keep2 (b0 := w.heap.size) (b1 := w.heap.size + 1) hb3 rfl (by (repeat (first | with_reducible exact pin_at (by assumption) | (with_reducible apply pin_at; (first | omega | (simp only [World.size_alloc, pin_size, World.size_drew, World.size_setCell] <;> omega))) | (with_reducible apply alloc_at; first | rfl | (simp only [World.size_alloc, pin_size, World.size_drew, World.size_setCell] <;> omega)) | with_reducible apply past_pin | with_reducible apply past_alloc | with_reducible apply past_drew)); all_goals (first | omega | (simp only [World.size_alloc, pin_size, World.size_drew, World.size_setCell] <;> omega))) (by (repeat (first | with_reducible exact pin_at (by assumption) | (with_reducible apply pin_at; (first | omega | (simp only [World.size_alloc, pin_size, World.size_drew, World.size_setCell] <;> omega))) | (with_reducible apply alloc_at; first | rfl | (simp only [World.size_alloc, pin_size, World.size_drew, World.size_setCell] <;> omega)) | with_reducible apply past_pin | with_reducible apply past_alloc | with_reducible apply past_drew)); all_goals (first | omega | (simp only [World.size_alloc, pin_size, World.size_drew, World.size_setCell] <;> omega)))
    have HB3 : Hid (Below w.heap.size w x3) := Below.trans (by (repeat (first | with_reducible exact HB2.out | with_reducible refine below_pin ?_ ?_ | with_reducible refine Below.alloc ?_ ?_ _ | with_reducible refine Below.setCell ?_ ?_ _ | with_reducible refine Below.drew ?_)); all_goals (first | omega | (simp only [World.size_alloc, pin_size, World.size_drew, World.size_setCell] <;> omega))) (hc3.mono (by (first | omega | (simp only [World.size_alloc, pin_size, World.size_drew, World.size_setCell] <;> omega))))
    clear hb3 hc3
    try simp only [World.size_alloc, pin_size, World.size_drew, World.size_setCell] at hz3
    go_wp2_with fail
    refine start_ (S := Keeps w _) (ds := []) (n := 19) #[false, false, false, false, false, false, false, false, false, false, false, false, false, false, false, false, false, false, false] (by kernel_rfl) rfl rfl (keepsC (b := w.heap.size) (by (repeat (first | with_reducible exact pin_at (by assumption) | (with_reducible apply pin_at; (first | omega | (simp only [World.size_alloc, pin_size, World.size_drew, World.size_setCell] <;> omega))) | (with_reducible apply alloc_at; first | rfl | (simp only [World.size_alloc, pin_size, World.size_drew, World.size_setCell] <;> omega)) | with_reducible apply past_pin | with_reducible apply past_alloc | with_reducible apply past_drew)); all_goals (first | omega | (simp only [World.size_alloc, pin_size, World.size_drew, World.size_setCell] <;> omega))) (keepsC (b := w.heap.size + 1) (by (repeat (first | with_reducible exact pin_at (by assumption) | (with_reducible apply pin_at; (first | omega | (simp only [World.size_alloc, pin_size, World.size_drew, World.size_setCell] <;> omega))) | (with_reducible apply alloc_at; first | rfl | (simp only [World.size_alloc, pin_size, World.size_drew, World.size_setCell] <;> omega)) | with_reducible apply past_pin | with_reducible apply past_alloc | with_reducible apply past_drew)); all_goals (first | omega | (simp only [World.size_alloc, pin_size, World.size_drew, World.size_setCell] <;> omega))) (keepsC (b := x3.heap.size) (by (repeat (first | with_reducible exact pin_at (by assumption) | (with_reducible apply pin_at; (first | omega | (simp only [World.size_alloc, pin_size, World.size_drew, World.size_setCell] <;> omega))) | (with_reducible apply alloc_at; first | rfl | (simp only [World.size_alloc, pin_size, World.size_drew, World.size_setCell] <;> omega)) | with_reducible apply past_pin | with_reducible apply past_alloc | with_reducible apply past_drew)); all_goals (first | omega | (simp only [World.size_alloc, pin_size, World.size_drew, World.size_setCell] <;> omega))) (keeps0 (by (repeat (first | with_reducible exact HB3.out | with_reducible refine below_pin ?_ ?_ | with_reducible refine Below.alloc ?_ ?_ _ | with_reducible refine Below.setCell ?_ ?_ _ | with_reducible refine Below.drew ?_)); all_goals (first | omega | (simp only [World.size_alloc, pin_size, World.size_drew, World.size_setCell] <;> omega))))))) (fun HS => ?_)
    refine take_ #[true, false, false, false, false, false, false, false, false, false, false, false, false, false, false, false, false, false, false] (i := 0) (N := some 18) (v := ?v43) rfl rfl (by kernel_rfl) (fun _ _ _ h => h) (Or.inl ⟨by rfl, ?hy43⟩) HS rfl ?_
    case hy43 => (intro v hv; obtain ⟨x, rfl, _, _, n0, n1, n2⟩ := hv.pin3; go_simp; first | done | with_reducible rfl)
    simp only [Act.put, List.setIfInBounds_toArray, List.set_cons_zero, List.set_cons_succ]
    refine take_ #[true, true, false, false, false, false, false, false, false, false, false, false, false, false, false, false, false, false, false] (i := 1) (N := some 19) (v := ?v44) rfl rfl (by kernel_rfl) (fun _ _ _ h => h) (Or.inl ⟨by rfl, ?hy44⟩) HS rfl ?_
    case hy44 => (intro v hv; obtain ⟨x, rfl, _, _, n0, n1, n2⟩ := hv.pin3; go_simp; first | done | with_reducible rfl)
    simp only [Act.put, List.setIfInBounds_toArray, List.set_cons_zero, List.set_cons_succ]
    refine take_ #[true, true, true, false, false, false, false, false, false, false, false, false, false, false, false, false, false, false, false] (i := 2) (N := some 20) (v := ?v45) rfl rfl (by kernel_rfl) (fun _ _ _ h => h) (Or.inl ⟨by rfl, ?hy45⟩) HS rfl ?_
    case hy45 => (intro v hv; obtain ⟨x, rfl, _, _, n0, n1, n2⟩ := hv.pin3; go_simp; first | done | with_reducible rfl)
    simp only [Act.put, List.setIfInBounds_toArray, List.set_cons_zero, List.set_cons_succ]
    refine take_ #[true, true, true, true, false, false, false, false, false, false, false, false, false, false, false, false, false, false, false] (i := 3) (N := some 21) (v := ?v46) rfl rfl (by kernel_rfl) (fun _ _ _ h => h) (Or.inl ⟨by rfl, ?hy46⟩) HS rfl ?_
    case hy46 => (intro v hv; obtain ⟨x, rfl, _, _, n0, n1, n2⟩ := hv.pin3; go_simp; first | done | with_reducible rfl)
    simp only [Act.put, List.setIfInBounds_toArray, List.set_cons_zero, List.set_cons_succ]
    refine take_ #[true, true, true, true, true, false, false, false, false, false, false, false, false, false, false, false, false, false, false] (i := 4) (N := some 22) (v := ?v47) rfl rfl (by kernel_rfl) (fun _ _ _ h => h) (Or.inl ⟨by rfl, ?hy47⟩) HS rfl ?_
    case hy47 => (intro v hv; obtain ⟨x, rfl, _, _, n0, n1, n2⟩ := hv.pin3; go_simp; first | done | with_reducible rfl)
    simp only [Act.put, List.setIfInBounds_toArray, List.set_cons_zero, List.set_cons_succ]
    refine one_ #[true, true, true, true, true, true, false, false, false, false, false, false, false, false, false, false, false, false, false] (i := 5) (N := some 23) rfl rfl (by kernel_rfl) (by decide) (fun K hK => ?_)
    go_simp
    refine (CSm.out _).mono ?_
    rintro e y ⟨rfl, hb⟩
    refine hK.out _ _ (HS.step hb rfl) ?_
    clear HS hb
    intro HS
    refine take_ #[true, true, true, true, true, true, true, false, false, false, false, false, false, false, false, false, false, false, false] (i := 6) (N := some 24) (v := ?v48) rfl rfl (by kernel_rfl) (fun _ _ _ h => h) (Or.inl ⟨by rfl, ?hy48⟩) HS rfl ?_
    case hy48 => (intro v hv; obtain ⟨x, rfl, _, _, n0, n1, n2⟩ := hv.pin3; go_simp; first | done | with_reducible rfl)
    simp only [Act.put, List.setIfInBounds_toArray, List.set_cons_zero, List.set_cons_succ]
    refine take_ #[true, true, true, true, true, true, true, true, false, false, false, false, false, false, false, false, false, false, false] (i := 7) (N := some 25) (v := ?v49) rfl rfl (by kernel_rfl) (fun _ _ _ h => h) (Or.inl ⟨by rfl, ?hy49⟩) HS rfl ?_
    case hy49 => (intro v hv; obtain ⟨x, rfl, _, _, n0, n1, n2⟩ := hv.pin3; go_simp; first | done | with_reducible rfl)
    simp only [Act.put, List.setIfInBounds_toArray, List.set_cons_zero, List.set_cons_succ]
    refine take_ #[true, true, true, true, true, true, true, true, true, false, false, false, false, false, false, false, false, false, false] (i := 8) (N := some 26) (v := ?v50) rfl rfl (by kernel_rfl) (fun _ _ _ h => h) (Or.inl ⟨by rfl, ?hy50⟩) HS rfl ?_
    case hy50 => (intro v hv; obtain ⟨x, rfl, _, _, n0, n1, n2⟩ := hv.pin3; go_simp; first | done | with_reducible rfl)
    simp only [Act.put, List.setIfInBounds_toArray, List.set_cons_zero, List.set_cons_succ]
    refine take_ #[true, true, true, true, true, true, true, true, true, true, false, false, false, false, false, false, false, false, false] (i := 9) (N := some 27) (v := ?v51) rfl rfl (by kernel_rfl) (fun _ _ _ h => h) (Or.inl ⟨by rfl, ?hy51⟩) HS rfl ?_
    case hy51 => (intro v hv; obtain ⟨x, rfl, _, _, n0, n1, n2⟩ := hv.pin3; go_simp; first | done | with_reducible rfl)
    simp only [Act.put, List.setIfInBounds_toArray, List.set_cons_zero, List.set_cons_succ]
    refine one_ #[true, true, true, true, true, true, true, true, true, true, true, false, false, false, false, false, false, false, false] (i := 10) (N := some 28) rfl rfl (by kernel_rfl) (by decide) (fun K hK => ?_)
    go_simp
    refine (CN.out _).mono ?_
    rintro e y ⟨rfl, hb⟩
    refine hK.out _ _ (HS.step hb rfl) ?_
    clear HS hb
    intro HS
    refine one_ #[true, true, true, true, true, true, true, true, true, true, true, true, false, false, false, false, false, false, false] (i := 11) (N := some 29) rfl rfl (by kernel_rfl) (by decide) (fun K hK => ?_)
    go_simp
    refine (HOr.out (by first | rfl | trivial) _).mono ?_
    rintro e y ⟨rfl, hb⟩
    refine hK.out _ _ (HS.step hb rfl) ?_
    clear HS hb
    intro HS
    refine take_ #[true, true, true, true, true, true, true, true, true, true, true, true, true, false, false, false, false, false, false] (i := 12) (N := some 30) (v := ?v52) rfl rfl (by kernel_rfl) (fun _ _ _ h => h) (Or.inl ⟨by rfl, ?hy52⟩) HS rfl ?_
    case hy52 => (intro v hv; obtain ⟨x, rfl, _, _, n0, n1, n2⟩ := hv.pin3; go_simp; first | done | with_reducible rfl)
    simp only [Act.put, List.setIfInBounds_toArray, List.set_cons_zero, List.set_cons_succ]
    refine take_ #[true, true, true, true, true, true, true, true, true, true, true, true, true, true, false, false, false, false, false] (i := 13) (N := some 31) (v := ?v53) rfl rfl (by kernel_rfl) (fun _ _ _ h => h) (Or.inl ⟨by rfl, ?hy53⟩) HS rfl ?_
    case hy53 => (intro v hv; obtain ⟨x, rfl, _, _, n0, n1, n2⟩ := hv.pin3; go_simp; first | done | with_reducible rfl)
    simp only [Act.put, List.setIfInBounds_toArray, List.set_cons_zero, List.set_cons_succ]
    refine take_ #[true, true, true, true, true, true, true, true, true, true, true, true, true, true, true, false, false, false, false] (i := 14) (N := some 32) (v := ?v54) rfl rfl (by kernel_rfl) (fun _ _ _ h => h) (Or.inl ⟨by rfl, ?hy54⟩) HS rfl ?_
    case hy54 => (intro v hv; obtain ⟨x, rfl, _, _, n0, n1, n2⟩ := hv.pin3; go_simp; first | done | with_reducible rfl)
    simp only [Act.put, List.setIfInBounds_toArray, List.set_cons_zero, List.set_cons_succ]
    refine take_ #[true, true, true, true, true, true, true, true, true, true, true, true, true, true, true, true, false, false, false] (i := 15) (N := some 33) (v := ?v55) rfl rfl (by kernel_rfl) (fun _ _ _ h => h) (Or.inl ⟨by rfl, ?hy55⟩) HS rfl ?_
    case hy55 => (intro v hv; obtain ⟨x, rfl, _, _, n0, n1, n2⟩ := hv.pin3; go_simp; first | done | with_reducible rfl)
    simp only [Act.put, List.setIfInBounds_toArray, List.set_cons_zero, List.set_cons_succ]
    refine take_ #[true, true, true, true, true, true, true, true, true, true, true, true, true, true, true, true, true, false, false] (i := 16) (N := some 34) (v := ?v56) rfl rfl (by kernel_rfl) (fun _ _ _ h => h) (Or.inl ⟨by rfl, ?hy56⟩) HS rfl ?_
    case hy56 => (intro v hv; obtain ⟨x, rfl, _, _, n0, n1, n2⟩ := hv.pin3; go_simp; first | done | with_reducible rfl)
    simp only [Act.put, List.setIfInBounds_toArray, List.set_cons_zero, List.set_cons_succ]
    refine one_ #[true, true, true, true, true, true, true, true, true, true, true, true, true, true, true, true, true, true, false] (i := 17) (N := some 35) rfl rfl (by kernel_rfl) (by decide) (fun K hK => ?_)
    go_simp
    refine (COd.out _).mono ?_
    rintro e y ⟨rfl, hb⟩
    refine hK.out _ _ (HS.step hb rfl) ?_
    clear HS hb
    intro HS
    refine take_ #[true, true, true, true, true, true, true, true, true, true, true, true, true, true, true, true, true, true, true] (i := 18) (N := some 36) (v := ?v57) rfl rfl (by kernel_rfl) (fun _ _ _ h => h) (Or.inl ⟨by rfl, ?hy57⟩) HS rfl ?_
    case hy57 => (intro v hv; obtain ⟨x, rfl, _, _, n0, n1, n2⟩ := hv.pin3; go_simp; first | done | with_reducible rfl)
    simp only [Act.put, List.setIfInBounds_toArray, List.set_cons_zero, List.set_cons_succ]
    obtain ⟨x4, rfl, hk4, hz4, l40, l41, l42⟩ := HS.pin3
    have HB4 : Hid (Below w.heap.size w x4) := hk4.below
    clear HS hk4
    refine done_ (by kernel_rfl) ?_
    go_wp2_with fail
    refine (CZ1.out _).mono ?_
    rintro e y5 ⟨rfl, hb5⟩
    obtain ⟨x5, rfl, hc5, hz5, l50, l51, l52⟩ := keep3 (b0 := w.heap.size) (b1 := w.heap.size + 1) (b2 := x3.heap.size) hb5 rfl (by (repeat (first | with_reducible exact pin_at (by assumption) | (with_reducible apply pin_at; (first | omega | (simp only [World.size_alloc, pin_size, World.size_drew, World.size_setCell] <;> omega))) | (with_reducible apply alloc_at; first | rfl | (simp only [World.size_alloc, pin_size, World.size_drew, World.size_setCell] <;> omega)) | with_reducible apply past_pin | with_reducible apply past_alloc | with_reducible apply past_drew)); all_goals (first | omega | (simp only [World.size_alloc, pin_size, World.size_drew, World.size_setCell] <;> omega))) (by (repeat (first | with_reducible exact pin_at (by assumption) | (with_reducible apply pin_at; (first | omega | (simp only [World.size_alloc, pin_size, World.size_drew, World.size_setCell] <;> omega))) | (with_reducible apply alloc_at; first | rfl | (simp only [World.size_alloc, pin_size, World.size_drew, World.size_setCell] <;> omega)) | with_reducible apply past_pin | with_reducible apply past_alloc | with_reducible apply past_drew)); all_goals (first | omega | (simp only [World.size_alloc, pin_size, World.size_drew, World.size_setCell] <;> omega))) (by (repeat (first | with_reducible exact pin_at (by assumption) | (with_reducible apply pin_at; (first | omega | (simp only [World.size_alloc, pin_size, World.size_drew, World.size_setCell] <;> omega))) | (with_reducible apply alloc_at; first | rfl | (simp only [World.size_alloc, pin_size, World.size_drew, World.size_setCell] <;> omega)) | with_reducible apply past_pin | with_reducible apply past_alloc | with_reducible apply past_drew)); all_goals (first | omega | (simp only [World.size_alloc, pin_size, World.size_drew, World.size_setCell] <;> omega)))
    have HB5 : Hid (Below w.heap.size w x5) := Below.trans (by (repeat (first | with_reducible exact HB4.out | with_reducible refine below_pin ?_ ?_ | with_reducible refine Below.alloc ?_ ?_ _ | with_reducible refine Below.setCell ?_ ?_ _ | with_reducible refine Below.drew ?_)); all_goals (first | omega | (simp only [World.size_alloc, pin_size, World.size_drew, World.size_setCell] <;> omega))) (hc5.mono (by (first | omega | (simp only [World.size_alloc, pin_size, World.size_drew, World.size_setCell] <;> omega))))
    clear hb5 hc5
    try simp only [World.size_alloc, pin_size, World.size_drew, World.size_setCell] at hz5
    go_wp2_with fail
    refine (known_any _).mono ?_
    rintro e y6 ⟨rfl, hb6⟩
    obtain ⟨x6, rfl, hc6, hz6, l60, l61, l62⟩ := keep3 (b0 := w.heap.size) (b1 := w.heap.size + 1) (b2 := x3.heap.size) hb6 rfl (by (repeat (first | with_reducible exact pin_at (by assumption) | (with_reducible apply pin_at; (first | omega | (simp only [World.size_alloc, pin_size, World.size_drew, World.size_setCell] <;> omega))) | (with_reducible apply alloc_at; first | rfl | (simp only [World.size_alloc, pin_size, World.size_drew, World.size_setCell] <;> omega)) | with_reducible apply past_pin | with_reducible apply past_alloc | with_reducible apply past_drew)); all_goals (first | omega | (simp only [World.size_alloc, pin_size, World.size_drew, World.size_setCell] <;> omega))) (by (repeat (first | with_reducible exact pin_at (by assumption) | (with_reducible apply pin_at; (first | omega | (simp only [World.size_alloc, pin_size, World.size_drew, World.size_setCell] <;> omega))) | (with_reducible apply alloc_at; first | rfl | (simp only [World.size_alloc, pin_size, World.size_drew, World.size_setCell] <;> omega)) | with_reducible apply past_pin | with_reducible apply past_alloc | with_reducible apply past_drew)); all_goals (first | omega | (simp only [World.size_alloc, pin_size, World.size_drew, World.size_setCell] <;> omega))) (by (repeat (first | with_reducible exact pin_at (by assumption) | (with_reducible apply pin_at; (first | omega | (simp only [World.size_alloc, pin_size, World.size_drew, World.size_setCell] <;> omega))) | (with_reducible apply alloc_at; first | rfl | (simp only [World.size_alloc, pin_size, World.size_drew, World.size_setCell] <;> omega)) | with_reducible apply past_pin | with_reducible apply past_alloc | with_reducible apply past_drew)); all_goals (first | omega | (simp only [World.size_alloc, pin_size, World.size_drew, World.size_setCell] <;> omega)))
    have HB6 : Hid (Below w.heap.size w x6) := Below.trans (by (repeat (first | with_reducible exact HB5.out | with_reducible refine below_pin ?_ ?_ | with_reducible refine Below.alloc ?_ ?_ _ | with_reducible refine Below.setCell ?_ ?_ _ | with_reducible refine Below.drew ?_)); all_goals (first | omega | (simp only [World.size_alloc, pin_size, World.size_drew, World.size_setCell] <;> omega))) (hc6.mono (by (first | omega | (simp only [World.size_alloc, pin_size, World.size_drew, World.size_setCell] <;> omega))))
    clear hb6 hc6
    try simp only [World.size_alloc, pin_size, World.size_drew, World.size_setCell] at hz6
    go_wp2_with fail
    go_ret
    exact ⟨rfl, (by (repeat (first | with_reducible exact HB6.out | with_reducible refine below_pin ?_ ?_ | with_reducible refine Below.alloc ?_ ?_ _ | with_reducible refine Below.setCell ?_ ?_ _ | with_reducible refine Below.drew ?_)); all_goals (first | omega | (simp only [World.size_alloc, pin_size, World.size_drew, World.size_setCell] <;> omega)))⟩
  · go_enter Try.func12, Try.ntmps12
    go_wp2_with fail
    refine (CSq.out _).mono ?_
    rintro e y1 ⟨rfl, hb1⟩
    obtain ⟨x1, rfl, hc1, hz1, l10, l11⟩ := keep2 (b0 := w.heap.size) (b1 := w.heap.size + 1) hb1 rfl (by (repeat (first | with_reducible exact pin_at (by assumption) | (with_reducible apply pin_at; (first | omega | (simp only [World.size_alloc, pin_size, World.size_drew, World.size_setCell] <;> omega))) | (with_reducible apply alloc_at; first | rfl | (simp only [World.size_alloc, pin_size, World.size_drew, World.size_setCell] <;> omega)) | with_reducible apply past_pin | with_reducible apply past_alloc | with_reducible apply past_drew)); all_goals (first | omega | (simp only [World.size_alloc, pin_size, World.size_drew, World.size_setCell] <;> omega))) (by (repeat (first | with_reducible exact pin_at (by assumption) | (with_reducible apply pin_at; (first | omega | (simp only [World.size_alloc, pin_size, World.size_drew, World.size_setCell] <;> omega))) | (with_reducible apply alloc_at; first | rfl | (simp only [World.size_alloc, pin_size, World.size_drew, World.size_setCell] <;> omega)) | with_reducible apply past_pin | with_reducible apply past_alloc | with_reducible apply past_drew)); all_goals (first | omega | (simp only [World.size_alloc, pin_size, World.size_drew, World.size_setCell] <;> omega)))
    have HB1 : Hid (Below w.heap.size w x1) := Below.trans (by (repeat (first | with_reducible exact (Below.refl _ _) | with_reducible refine below_pin ?_ ?_ | with_reducible refine Below.alloc ?_ ?_ _ | with_reducible refine Below.setCell ?_ ?_ _ | with_reducible refine Below.drew ?_)); all_goals (first | omega | (simp only [World.size_alloc, pin_size, World.size_drew, World.size_setCell] <;> omega))) (hc1.mono (by (first | omega | (simp only [World.size_alloc, pin_size, World.size_drew, World.size_setCell] <;> omega))))
    clear hb1 hc1
    try simp only [World.size_alloc, pin_size, World.size_drew, World.size_setCell] at hz1
    go_wp2_with fail
    refine (Small_any 1 (by decide) _).mono ?_
    rintro e y2 ⟨rfl, hb2⟩
    obtain ⟨x2, rfl, hc2, hz2, l20, l21⟩ := keep2 (b0 := w.heap.size) (b1 := w.heap.size + 1) hb2 rfl (by (repeat (first | with_reducible exact pin_at (by assumption) | (with_reducible apply pin_at; (first | omega | (simp only [World.size_alloc, pin_size, World.size_drew, World.size_setCell] <;> omega))) | (with_reducible apply alloc_at; first | rfl | (simp only [World.size_alloc, pin_size, World.size_drew, World.size_setCell] <;> omega)) | with_reducible apply past_pin | with_reducible apply past_alloc | with_reducible apply past_drew)); all_goals (first | omega | (simp only [World.size_alloc, pin_size, World.size_drew, World.size_setCell] <;> omega))) (by (repeat (first | with_reducible exact pin_at (by assumption) | (with_reducible apply pin_at; (first | omega | (simp only [World.size_alloc, pin_size, World.size_drew, World.size_setCell] <;> omega))) | (with_reducible apply alloc_at; first | rfl | (simp only [World.size_alloc, pin_size, World.size_drew, World.size_setCell] <;> omega)) | with_reducible apply past_pin | with_reducible apply past_alloc | with_reducible apply past_drew)); all_goals (first | omega | (simp only [World.size_alloc, pin_size, World.size_drew, World.size_setCell] <;> omega)))
    have HB2 : Hid (Below w.heap.size w x2) := Below.trans (by (repeat (first | with_reducible exact HB1.out | with_reducible refine below_pin ?_ ?_ | with_reducible refine Below.alloc ?_ ?_ _ | with_reducible refine Below.setCell ?_ ?_ _ | with_reducible refine Below.drew ?_)); all_goals (first | omega | (simp only [World.size_alloc, pin_size, World.size_drew, World.size_setCell] <;> omega))) (hc2.mono (by (first | omega | (simp only [World.size_alloc, pin_size, World.size_drew, World.size_setCell] <;> omega))))
    clear hb2 hc2
    try simp only [World.size_alloc, pin_size, World.size_drew, World.size_setCell] at hz2
    go_wp2_with fail
    refine (HRt.out _).mono ?_
    rintro e y3 ⟨rfl, hb3⟩
    obtain ⟨x3, rfl, hc3, hz3, l30, l31⟩ := keep2 (b0 := w.heap.size) (b1 := w.heap.size + 1) hb3 rfl (by (repeat (first | with_reducible exact pin_at (by assumption) | (with_reducible apply pin_at; (first | omega | (simp only [World.size_alloc, pin_size, World.size_drew, World.size_setCell] <;> omega))) | (with_reducible apply alloc_at; first | rfl | (simp only [World.size_alloc, pin_size, World.size_drew, World.size_setCell] <;> omega)) | with_reducible apply past_pin | with_reducible apply past_alloc | with_reducible apply past_drew)); all_goals (first | omega | (simp only [World.size_alloc, pin_size, World.size_drew, World.size_setCell] <;> omega))) (by (repeat (first | with_reducible exact pin_at (by assumption) | (with_reducible apply pin_at; (first | omega | (simp only [World.size_alloc, pin_size, World.size_drew, World.size_setCell] <;> omega))) | (with_reducible apply alloc_at; first | rfl | (simp only [World.size_alloc, pin_size, World.size_drew, World.size_setCell] <;> omega)) | with_reducible apply past_pin | with_reducible apply past_alloc | with_reducible apply past_drew)); all_goals (first | omega | (simp only [World.size_alloc, pin_size, World.size_drew, World.size_setCell] <;> omega)))
    have HB3 : Hid (Below w.heap.size w x3) := Below.trans (by (repeat (first | with_reducible exact HB2.out | with_reducible refine below_pin ?_ ?_ | with_reducible refine Below.alloc ?_ ?_ _ | with_reducible refine Below.setCell ?_ ?_ _ | with_reducible refine Below.drew ?_)); all_goals (first | omega | (simp only [World.size_alloc, pin_size, World.size_drew, World.size_setCell] <;> omega))) (hc3.mono (by (first | omega | (simp only [World.size_alloc, pin_size, World.size_drew, World.size_setCell] <;> omega))))
    clear hb3 hc3
    try simp only [World.size_alloc, pin_size, World.size_drew, World.size_setCell] at hz3
    go_wp2_with fail
    refine start_ (S := Keeps w _) (ds := []) (n := 19) #[false, false, false, false, false, false, false, false, false, false, false, false, false, false, false, false, false, false, false] (by kernel_rfl) rfl rfl (keepsC (b := w.heap.size) (by (repeat (first | with_reducible exact pin_at (by assumption) | (with_reducible apply pin_at; (first | omega | (simp only [World.size_alloc, pin_size, World.size_drew, World.size_setCell] <;> omega))) | (with_reducible apply alloc_at; first | rfl | (simp only [World.size_alloc, pin_size, World.size_drew, World.size_setCell] <;> omega)) | with_reducible apply past_pin | with_reducible apply past_alloc | with_reducible apply past_drew)); all_goals (first | omega | (simp only [World.size_alloc, pin_size, World.size_drew, World.size_setCell] <;> omega))) (keepsC (b := w.heap.size + 1) (by (repeat (first | with_reducible exact pin_at (by assumption) | (with_reducible apply pin_at; (first | omega | (simp only [World.size_alloc, pin_size, World.size_drew, World.size_setCell] <;> omega))) | (with_reducible apply alloc_at; first | rfl | (simp only [World.size_alloc, pin_size, World.size_drew, World.size_setCell] <;> omega)) | with_reducible apply past_pin | with_reducible apply past_alloc | with_reducible apply past_drew)); all_goals (first | omega | (simp only [World.size_alloc, pin_size, World.size_drew, World.size_setCell] <;> omega))) (keepsC (b := x3.heap.size) (by (repeat (first | with_reducible exact pin_at (by assumption) | (with_reducible apply pin_at; (first | omega | (simp only [World.size_alloc, pin_size, World.size_drew, World.size_setCell] <;> omega))) | (with_reducible apply alloc_at; first | rfl | (simp only [World.size_alloc, pin_size, World.size_drew, World.size_setCell] <;> omega)) | with_reducible apply past_pin | with_reducible apply past_alloc | with_reducible apply past_drew)); all_goals (first | omega | (simp only [World.size_alloc, pin_size, World.size_drew, World.size_setCell] <;> omega))) (keeps0 (by (repeat (first | with_reducible exact HB3.out | with_reducible refine below_pin ?_ ?_ | with_reducible refine Below.alloc ?_ ?_ _ | with_reducible refine Below.setCell ?_ ?_ _ | with_reducible refine Below.drew ?_)); all_goals (first | omega | (simp only [World.size_alloc, pin_size, World.size_drew, World.size_setCell] <;> omega))))))) (fun HS => ?_)
    refine take_ #[true, false, false, false, false, false, false, false, false, false, false, false, false, false, false, false, false, false, false] (i := 0) (N := some 18) (v := ?v58) rfl rfl (by kernel_rfl) (fun _ _ _ h => h) (Or.inl ⟨by rfl, ?hy58⟩) HS rfl ?_
    case hy58 => (intro v hv; obtain ⟨x, rfl, _, _, n0, n1, n2⟩ := hv.pin3; go_simp; first | done | with_reducible rfl)
    simp only [Act.put, List.setIfInBounds_toArray, List.set_cons_zero, List.set_cons_succ]
    refine take_ #[true, true, false, false, false, false, false, false, false, false, false, false, false, false, false, false, false, false, false] (i := 1) (N := some 19) (v := ?v59) rfl rfl (by kernel_rfl) (fun _ _ _ h => h) (Or.inl ⟨by rfl, ?hy59⟩) HS rfl ?_
    case hy59 => (intro v hv; obtain ⟨x, rfl, _, _, n0, n1, n2⟩ := hv.pin3; go_simp; first | done | with_reducible rfl)
    simp only [Act.put, List.setIfInBounds_toArray, List.set_cons_zero, List.set_cons_succ]
    refine take_ #[true, true, true, false, false, false, false, false, false, false, false, false, false, false, false, false, false, false, false] (i := 2) (N := some 20) (v := ?v60) rfl rfl (by kernel_rfl) (fun _ _ _ h => h) (Or.inl ⟨by rfl, ?hy60⟩) HS rfl ?_
    case hy60 => (intro v hv; obtain ⟨x, rfl, _, _, n0, n1, n2⟩ := hv.pin3; go_simp; first | done | with_reducible rfl)
    simp only [Act.put, List.setIfInBounds_toArray, List.set_cons_zero, List.set_cons_succ]
    refine take_ #[true, true, true, true, false, false, false, false, false, false, false, false, false, false, false, false, false, false, false] (i := 3) (N := some 21) (v := ?v61) rfl rfl (by kernel_rfl) (fun _ _ _ h => h) (Or.inl ⟨by rfl, ?hy61⟩) HS rfl ?_
    case hy61 => (intro v hv; obtain ⟨x, rfl, _, _, n0, n1, n2⟩ := hv.pin3; go_simp; first | done | with_reducible rfl)
    simp only [Act.put, List.setIfInBounds_toArray, List.set_cons_zero, List.set_cons_succ]
    refine take_ #[true, true, true, true, true, false, false, false, false, false, false, false, false, false, false, false, false, false, false] (i := 4) (N := some 22) (v := ?v62) rfl rfl (by kernel_rfl) (fun _ _ _ h => h) (Or.inl ⟨by rfl, ?hy62⟩) HS rfl ?_
    case hy62 => (intro v hv; obtain ⟨x, rfl, _, _, n0, n1, n2⟩ := hv.pin3; go_simp; first | done | with_reducible rfl)
    simp only [Act.put, List.setIfInBounds_toArray, List.set_cons_zero, List.set_cons_succ]
    refine one_ #[true, true, true, true, true, true, false, false, false, false, false, false, false, false, false, false, false, false, false] (i := 5) (N := some 23) rfl rfl (by kernel_rfl) (by decide) (fun K hK => ?_)
    go_simp
    refine (CSm.out _).mono ?_
    rintro e y ⟨rfl, hb⟩
    refine hK.out _ _ (HS.step hb rfl) ?_
    clear HS hb
    intro HS
    refine take_ #[true, true, true, true, true, true, true, false, false, false, false, false, false, false, false, false, false, false, false] (i := 6) (N := some 24) (v := ?v63) rfl rfl (by kernel_rfl) (fun _ _ _ h => h) (Or.inl ⟨by rfl, ?hy63⟩) HS rfl ?_
    case hy63 => (intro v hv; obtain ⟨x, rfl, _, _, n0, n1, n2⟩ := hv.pin3; go_simp; first | done | with_reducible rfl)
    simp only [Act.put, List.setIfInBounds_toArray, List.set_cons_zero, List.set_cons_succ]
    refine take_ #[true, true, true, true, true, true, true, true, false, false, false, false, false, false, false, false, false, false, false] (i := 7) (N := some 25) (v := ?v64) rfl rfl (by kernel_rfl) (fun _ _ _ h => h) (Or.inl ⟨by rfl, ?hy64⟩) HS rfl ?_
    case hy64 => (intro v hv; obtain ⟨x, rfl, _, _, n0, n1, n2⟩ := hv.pin3; go_simp; first | done | with_reducible rfl)
    simp only [Act.put, List.setIfInBounds_toArray, List.set_cons_zero, List.set_cons_succ]
    refine take_ #[true, true, true, true, true, true, true, true, true, false, false, false, false, false, false, false, false, false, false] (i := 8) (N := some 26) (v := ?v65) rfl rfl (by kernel_rfl) (fun _ _ _ h => h) (Or.inl ⟨by rfl, ?hy65⟩) HS rfl ?_
    case hy65 => (intro v hv; obtain ⟨x, rfl, _, _, n0, n1, n2⟩ := hv.pin3; go_simp; first | done | with_reducible rfl)
    simp only [Act.put, List.setIfInBounds_toArray, List.set_cons_zero, List.set_cons_succ]
    refine take_ #[true, true, true, true, true, true, true, true, true, true, false, false, false, false, false, false, false, false, false] (i := 9) (N := some 27) (v := ?v66) rfl rfl (by kernel_rfl) (fun _ _ _ h => h) (Or.inl ⟨by rfl, ?hy66⟩) HS rfl ?_
    case hy66 => (intro v hv; obtain ⟨x, rfl, _, _, n0, n1, n2⟩ := hv.pin3; go_simp; first | done | with_reducible rfl)
    simp only [Act.put, List.setIfInBounds_toArray, List.set_cons_zero, List.set_cons_succ]
    refine one_ #[true, true, true, true, true, true, true, true, true, true, true, false, false, false, false, false, false, false, false] (i := 10) (N := some 28) rfl rfl (by kernel_rfl) (by decide) (fun K hK => ?_)
    go_simp
    refine (CN.out _).mono ?_
    rintro e y ⟨rfl, hb⟩
    refine hK.out _ _ (HS.step hb rfl) ?_
    clear HS hb
    intro HS
    refine one_ #[true, true, true, true, true, true, true, true, true, true, true, true, false, false, false, false, false, false, false] (i := 11) (N := some 29) rfl rfl (by kernel_rfl) (by decide) (fun K hK => ?_)
    go_simp
    refine (HOr.out (by first | rfl | trivial) _).mono ?_
    rintro e y ⟨rfl, hb⟩
    refine hK.out _ _ (HS.step hb rfl) ?_
    clear HS hb
    intro HS
    refine take_ #[true, true, true, true, true, true, true, true, true, true, true, true, true, false, false, false, false, false, false] (i := 12) (N := some 30) (v := ?v67) rfl rfl (by kernel_rfl) (fun _ _ _ h => h) (Or.inl ⟨by rfl, ?hy67⟩) HS rfl ?_
    case hy67 => (intro v hv; obtain ⟨x, rfl, _, _, n0, n1, n2⟩ := hv.pin3; go_simp; first | done | with_reducible rfl)
    simp only [Act.put, List.setIfInBounds_toArray, List.set_cons_zero, List.set_cons_succ]
    refine take_ #[true, true, true, true, true, true, true, true, true, true, true, true, true, true, false, false, false, false, false] (i := 13) (N := some 31) (v := ?v68) rfl rfl (by kernel_rfl) (fun _ _ _ h => h) (Or.inl ⟨by rfl, ?hy68⟩) HS rfl ?_
    case hy68 => (intro v hv; obtain ⟨x, rfl, _, _, n0, n1, n2⟩ := hv.pin3; go_simp; first | done | with_reducible rfl)
    simp only [Act.put, List.setIfInBounds_toArray, List.set_cons_zero, List.set_cons_succ]
    refine take_ #[true, true, true, true, true, true, true, true, true, true, true, true, true, true, true, false, false, false, false] (i := 14) (N := some 32) (v := ?v69) rfl rfl (by kernel_rfl) (fun _ _ _ h => h) (Or.inl ⟨by rfl, ?hy69⟩) HS rfl ?_
    case hy69 => (intro v hv; obtain ⟨x, rfl, _, _, n0, n1, n2⟩ := hv.pin3; go_simp; first | done | with_reducible rfl)
    simp only [Act.put, List.setIfInBounds_toArray, List.set_cons_zero, List.set_cons_succ]
    refine take_ #[true, true, true, true, true, true, true, true, true, true, true, true, true, true, true, true, false, false, false] (i := 15) (N := some 33) (v := ?v70) rfl rfl (by kernel_rfl) (fun _ _ _ h => h) (Or.inl ⟨by rfl, ?hy70⟩) HS rfl ?_
    case hy70 => (intro v hv; obtain ⟨x, rfl, _, _, n0, n1, n2⟩ := hv.pin3; go_simp; first | done | with_reducible rfl)
    simp only [Act.put, List.setIfInBounds_toArray, List.set_cons_zero, List.set_cons_succ]
    refine take_ #[true, true, true, true, true, true, true, true, true, true, true, true, true, true, true, true, true, false, false] (i := 16) (N := some 34) (v := ?v71) rfl rfl (by kernel_rfl) (fun _ _ _ h => h) (Or.inl ⟨by rfl, ?hy71⟩) HS rfl ?_
    case hy71 => (intro v hv; obtain ⟨x, rfl, _, _, n0, n1, n2⟩ := hv.pin3; go_simp; first | done | with_reducible rfl)
    simp only [Act.put, List.setIfInBounds_toArray, List.set_cons_zero, List.set_cons_succ]
    refine one_ #[true, true, true, true, true, true, true, true, true, true, true, true, true, true, true, true, true, true, false] (i := 17) (N := some 35) rfl rfl (by kernel_rfl) (by decide) (fun K hK => ?_)
    go_simp
    refine (COd.out _).mono ?_
    rintro e y ⟨rfl, hb⟩
    refine hK.out _ _ (HS.step hb rfl) ?_
    clear HS hb
    intro HS
    refine take_ #[true, true, true, true, true, true, true, true, true, true, true, true, true, true, true, true, true, true, true] (i := 18) (N := some 36) (v := ?v72) rfl rfl (by kernel_rfl) (fun _ _ _ h => h) (Or.inl ⟨by rfl, ?hy72⟩) HS rfl ?_
    case hy72 => (intro v hv; obtain ⟨x, rfl, _, _, n0, n1, n2⟩ := hv.pin3; go_simp; first | done | with_reducible rfl)
    simp only [Act.put, List.setIfInBounds_toArray, List.set_cons_zero, List.set_cons_succ]
    obtain ⟨x4, rfl, hk4, hz4, l40, l41, l42⟩ := HS.pin3
    have HB4 : Hid (Below w.heap.size w x4) := hk4.below
    clear HS hk4
    refine done_ (by kernel_rfl) ?_
    go_wp2_with fail
    refine (CZ1.out _).mono ?_
    rintro e y5 ⟨rfl, hb5⟩
    obtain ⟨x5, rfl, hc5, hz5, l50, l51, l52⟩ := keep3 (b0 := w.heap.size) (b1 := w.heap.size + 1) (b2 := x3.heap.size) hb5 rfl (by (repeat (first | with_reducible exact pin_at (by assumption) | (with_reducible apply pin_at; (first | omega | (simp only [World.size_alloc, pin_size, World.size_drew, World.size_setCell] <;> omega))) | (with_reducible apply alloc_at; first | rfl | (simp only [World.size_alloc, pin_size, World.size_drew, World.size_setCell] <;> omega)) | with_reducible apply past_pin | with_reducible apply past_alloc | with_reducible apply past_drew)); all_goals (first | omega | (simp only [World.size_alloc, pin_size, World.size_drew, World.size_setCell] <;> omega))) (by (repeat (first | with_reducible exact pin_at (by assumption) | (with_reducible apply pin_at; (first | omega | (simp only [World.size_alloc, pin_size, World.size_drew, World.size_setCell] <;> omega))) | (with_reducible apply alloc_at; first | rfl | (simp only [World.size_alloc, pin_size, World.size_drew, World.size_setCell] <;> omega)) | with_reducible apply past_pin | with_reducible apply past_alloc | with_reducible apply past_drew)); all_goals (first | omega | (simp only [World.size_alloc, pin_size, World.size_drew, World.size_setCell] <;> omega))) (by (repeat (first | with_reducible exact pin_at (by assumption) | (with_reducible apply pin_at; (first | omega | (simp only [World.size_alloc, pin_size, World.size_drew, World.size_setCell] <;> omega))) | (with_reducible apply alloc_at; first | rfl | (simp only [World.size_alloc, pin_size, World.size_drew, World.size_setCell] <;> omega)) | with_reducible apply past_pin | with_reducible apply past_alloc | with_reducible apply past_drew)); all_goals (first | omega | (simp only [World.size_alloc, pin_size, World.size_drew, World.size_setCell] <;> omega)))
    have HB5 : Hid (Below w.heap.size w x5) := Below.trans (by (repeat (first | with_reducible exact HB4.out | with_reducible refine below_pin ?_ ?_ | with_reducible refine Below.alloc ?_ ?_ _ | with_reducible refine Below.setCell ?_ ?_ _ | with_reducible refine Below.drew ?_)); all_goals (first | omega | (simp only [World.size_alloc, pin_size, World.size_drew, World.size_setCell] <;> omega))) (hc5.mono (by (first | omega | (simp only [World.size_alloc, pin_size, World.size_drew, World.size_setCell] <;> omega))))
    clear hb5 hc5
    try simp only [World.size_alloc, pin_size, World.size_drew, World.size_setCell] at hz5
    go_wp2_with fail
    refine (known_any _).mono ?_
    rintro e y6 ⟨rfl, hb6⟩
    obtain ⟨x6, rfl, hc6, hz6, l60, l61, l62⟩ := keep3 (b0 := w.heap.size) (b1 := w.heap.size + 1) (b2 := x3.heap.size) hb6 rfl (by (repeat (first | with_reducible exact pin_at (by assumption) | (with_reducible apply pin_at; (first | omega | (simp only [World.size_alloc, pin_size, World.size_drew, World.size_setCell] <;> omega))) | (with_reducible apply alloc_at; first | rfl | (simp only [World.size_alloc, pin_size, World.size_drew, World.size_setCell] <;> omega)) | with_reducible apply past_pin | with_reducible apply past_alloc | with_reducible apply past_drew)); all_goals (first | omega | (simp only [World.size_alloc, pin_size, World.size_drew, World.size_setCell] <;> omega))) (by (repeat (first | with_reducible exact pin_at (by assumption) | (with_reducible apply pin_at; (first | omega | (simp only [World.size_alloc, pin_size, World.size_drew, World.size_setCell] <;> omega))) | (with_reducible apply alloc_at; first | rfl | (simp only [World.size_alloc, pin_size, World.size_drew, World.size_setCell] <;> omega)) | with_reducible apply past_pin | with_reducible apply past_alloc | with_reducible apply past_drew)); all_goals (first | omega | (simp only [World.size_alloc, pin_size, World.size_drew, World.size_setCell] <;> omega))) (by (repeat (first | with_reducible exact pin_at (by assumption) | (with_reducible apply pin_at; (first | omega | (simp only [World.size_alloc, pin_size, World.size_drew, World.size_setCell] <;> omega))) | (with_reducible apply alloc_at; first | rfl | (simp only [World.size_alloc, pin_size, World.size_drew, World.size_setCell] <;> omega)) | with_reducible apply past_pin | with_reducible apply past_alloc | with_reducible apply past_drew)); all_goals (first | omega | (simp only [World.size_alloc, pin_size, World.size_drew, World.size_setCell] <;> omega)))
    have HB6 : Hid (Below w.heap.size w x6) := Below.trans (by (repeat (first | with_reducible exact HB5.out | with_reducible refine below_pin ?_ ?_ | with_reducible refine Below.alloc ?_ ?_ _ | with_reducible refine Below.setCell ?_ ?_ _ | with_reducible refine Below.drew ?_)); all_goals (first | omega | (simp only [World.size_alloc, pin_size, World.size_drew, World.size_setCell] <;> omega))) (hc6.mono (by (first | omega | (simp only [World.size_alloc, pin_size, World.size_drew, World.size_setCell] <;> omega))))
    clear hb6 hc6
    try simp only [World.size_alloc, pin_size, World.size_drew, World.size_setCell] at hz6
    go_wp2_with fail
    go_ret
    exact ⟨rfl, (by (repeat (first | with_reducible exact HB6.out | with_reducible refine below_pin ?_ ?_ | with_reducible refine Below.alloc ?_ ?_ _ | with_reducible refine Below.setCell ?_ ?_ _ | with_reducible refine Below.drew ?_)); all_goals (first | omega | (simp only [World.size_alloc, pin_size, World.size_drew, World.size_setCell] <;> omega)))⟩
  · go_enter Try.func12, Try.ntmps12
    go_wp2_with fail
    refine (CSq.out _).mono ?_
    rintro e y1 ⟨rfl, hb1⟩
    obtain ⟨x1, rfl, hc1, hz1, l10, l11⟩ := keep2 (b0 := w.heap.size) (b1 := w.heap.size + 1) hb1 rfl (by (repeat (first | with_reducible exact pin_at (by assumption) | (with_reducible apply pin_at; (first | omega | (simp only [World.size_alloc, pin_size, World.size_drew, World.size_setCell] <;> omega))) | (with_reducible apply alloc_at; first | rfl | (simp only [World.size_alloc, pin_size, World.size_drew, World.size_setCell] <;> omega)) | with_reducible apply past_pin | with_reducible apply past_alloc | with_reducible apply past_drew)); all_goals (first | omega | (simp only [World.size_alloc, pin_size, World.size_drew, World.size_setCell] <;> omega))) (by (repeat (first | with_reducible exact pin_at (by assumption) | (with_reducible apply pin_at; (first | omega | (simp only [World.size_alloc, pin_size, World.size_drew, World.size_setCell] <;> omega))) | (with_reducible apply alloc_at; first | rfl | (simp only [World.size_alloc, pin_size, World.size_drew, World.size_setCell] <;> omega)) | with_reducible apply past_pin | with_reducible apply past_alloc | with_reducible apply past_drew)); all_goals (first | omega | (simp only [World.size_alloc, pin_size, World.size_drew, World.size_setCell] <;> omega)))
    have HB1 : Hid (Below w.heap.size w x1) := Below.trans (by (repeat (first | with_reducible exact (Below.refl _ _) | with_reducible refine below_pin ?_ ?_ | with_reducible refine Below.alloc ?_ ?_ _ | with_reducible refine Below.setCell ?_ ?_ _ | with_reducible refine Below.drew ?_)); all_goals (first | omega | (simp only [World.size_alloc, pin_size, World.size_drew, World.size_setCell] <;> omega))) (hc1.mono (by (first | omega | (simp only [World.size_alloc, pin_size, World.size_drew, World.size_setCell] <;> omega))))
    clear hb1 hc1
    try simp only [World.size_alloc, pin_size, World.size_drew, World.size_setCell] at hz1
    go_wp2_with fail
    refine (Small_any 1 (by decide) _).mono ?_
    rintro e y2 ⟨rfl, hb2⟩
    obtain ⟨x2, rfl, hc2, hz2, l20, l21⟩ := keep2 (b0 := w.heap.size) (b1 := w.heap.size + 1) hb2 rfl (by (repeat (first | with_reducible exact pin_at (by assumption) | (with_reducible apply pin_at; (first | omega | (simp only [World.size_alloc, pin_size, World.size_drew, World.size_setCell] <;> omega))) | (with_reducible apply alloc_at; first | rfl | (simp only [World.size_alloc, pin_size, World.size_drew, World.size_setCell] <;> omega)) | with_reducible apply past_pin | with_reducible apply past_alloc | with_reducible apply past_drew)); all_goals (first | omega | (simp only [World.size_alloc, pin_size, World.size_drew, World.size_setCell] <;> omega))) (by (repeat (first | with_reducible exact pin_at (by assumption) | (with_reducible apply pin_at; (first | omega | (simp only [World.size_alloc, pin_size, World.size_drew, World.size_setCell] <;> omega))) | (with_reducible apply alloc_at; first | rfl | (simp only [World.size_alloc, pin_size, World.size_drew, World.size_setCell] <;> omega)) | with_reducible apply past_pin | with_reducible apply past_alloc | with_reducible apply past_drew)); all_goals (first | omega | (simp only [World.size_alloc, pin_size, World.size_drew, World.size_setCell] <;> omega)))
    have HB2 : Hid (Below w.heap.size w x2) := Below.trans (by (repeat (first | with_reducible exact HB1.out | with_reducible refine below_pin ?_ ?_ | with_reducible refine Below.alloc ?_ ?_ _ | with_reducible refine Below.setCell ?_ ?_ _ | with_reducible refine Below.drew ?_)); all_goals (first | omega | (simp only [World.size_alloc, pin_size, World.size_drew, World.size_setCell] <;> omega))) (hc2.mono (by (first | omega | (simp only [World.size_alloc, pin_size, World.size_drew, World.size_setCell] <;> omega))))
    clear hb2 hc2
    try simp only [World.size_alloc, pin_size, World.size_drew, World.size_setCell] at hz2
    go_wp2_with fail
    refine (HRt.out _).mono ?_
    rintro e y3 ⟨rfl, hb3⟩
    obtain ⟨x3, rfl, hc3, hz3, l30, l31⟩ := keep2 (b0 := w.heap.size) (b1 := w.heap.size + 1) hb3 rfl (by (repeat (first | with_reducible exact pin_at (by assumption) | (with_reducible apply pin_at; (first | omega | (simp only [World.size_alloc, pin_size, World.size_drew, World.size_setCell] <;> omega))) | (with_reducible apply alloc_at; first | rfl | (simp only [World.size_alloc, pin_size, World.size_drew, World.size_setCell] <;> omega)) | with_reducible apply past_pin | with_reducible apply past_alloc | with_reducible apply past_drew)); all_goals (first | omega | (simp only [World.size_alloc, pin_size, World.size_drew, World.size_setCell] <;> omega))) (by (repeat (first | with_reducible exact pin_at (by assumption) | (with_reducible apply pin_at; (first | omega | (simp only [World.size_alloc, pin_size, World.size_drew, World.size_setCell] <;> omega))) | (with_reducible apply alloc_at; first | rfl | (simp only [World.size_alloc, pin_size, World.size_drew, World.size_setCell] <;> omega)) | with_reducible apply past_pin | with_reducible apply past_alloc | with_reducible apply past_drew)); all_goals (first | omega | (simp only [World.size_alloc, pin_size, World.size_drew, World.size_setCell] <;> omega)))
    have HB3 : Hid (Below w.heap.size w x3) := Below.trans (by (repeat (first | with_reducible exact HB2.out | with_reducible refine below_pin ?_ ?_ | with_reducible refine Below.alloc ?_ ?_ _ | with_reducible refine Below.setCell ?_ ?_ _ | with_reducible refine Below.drew ?_)); all_goals (first | omega | (simp only [World.size_alloc, pin_size, World.size_drew, World.size_setCell] <;> omega))) (hc3.mono (by (first | omega | (simp only [World.size_alloc, pin_size, World.size_drew, World.size_setCell] <;> omega))))
    clear hb3 hc3
    try simp only [World.size_alloc, pin_size, World.size_drew, World.size_setCell] at hz3
    go_wp2_with fail
    refine start_ (S := Keeps w _) (ds := []) (n := 19) #[false, false, false, false, false, false, false, false, false, false, false, false, false, false, false, false, false, false, false] (by kernel_rfl) rfl rfl (keepsC (b := w.heap.size) (by (repeat (first | with_reducible exact pin_at (by assumption) | (with_reducible apply pin_at; (first | omega | (simp only [World.size_alloc, pin_size, World.size_drew, World.size_setCell] <;> omega))) | (with_reducible apply alloc_at; first | rfl | (simp only [World.size_alloc, pin_size, World.size_drew, World.size_setCell] <;> omega)) | with_reducible apply past_pin | with_reducible apply past_alloc | with_reducible apply past_drew)); all_goals (first | omega | (simp only [World.size_alloc, pin_size, World.size_drew, World.size_setCell] <;> omega))) (keepsC (b := w.heap.size + 1) (by (repeat (first | with_reducible exact pin_at (by assumption) | (with_reducible apply pin_at; (first | omega | (simp only [World.size_alloc, pin_size, World.size_drew, World.size_setCell] <;> omega))) | (with_reducible apply alloc_at; first | rfl | (simp only [World.size_alloc, pin_size, World.size_drew, World.size_setCell] <;> omega)) | with_reducible apply past_pin | with_reducible apply past_alloc | with_reducible apply past_drew)); all_goals (first | omega | (simp only [World.size_alloc, pin_size, World.size_drew, World.size_setCell] <;> omega))) (keepsC (b := x3.heap.size) (by (repeat (first | with_reducible exact pin_at (by assumption) | (with_reducible apply pin_at; (first | omega | (simp only [World.size_alloc, pin_size, World.size_drew, World.size_setCell] <;> omega))) | (with_reducible apply alloc_at; first | rfl | (simp only [World.size_alloc, pin_size, World.size_drew, World.size_setCell] <;> omega)) | with_reducible apply past_pin | with_reducible apply past_alloc | with_reducible apply past_drew)); all_goals (first | omega | (simp only [World.size_alloc, pin_size, World.size_drew, World.size_setCell] <;> omega))) (keeps0 (by (repeat (first | with_reducible exact HB3.out | with_reducible refine below_pin ?_ ?_ | with_reducible refine Below.alloc ?_ ?_ _ | with_reducible refine Below.setCell ?_ ?_ _ | with_reducible refine Below.drew ?_)); all_goals (first | omega | (simp only [World.size_alloc, pin_size, World.size_drew, World.size_setCell] <;> omega))))))) (fun HS => ?_)
    refine take_ #[true, false, false, false, false, false, false, false, false, false, false, false, false, false, false, false, false, false, false] (i := 0) (N := some 18) (v := ?v73) rfl rfl (by kernel_rfl) (fun _ _ _ h => h) (Or.inl ⟨by rfl, ?hy73⟩) HS rfl ?_
    case hy73 => (intro v hv; obtain ⟨x, rfl, _, _, n0, n1, n2⟩ := hv.pin3; go_simp; first | done | with_reducible rfl)
    simp only [Act.put, List.setIfInBounds_toArray, List.set_cons_zero, List.set_cons_succ]
    refine take_ #[true, true, false, false, false, false, false, false, false, false, false, false, false, false, false, false, false, false, false] (i := 1) (N := some 19) (v := ?v74) rfl rfl (by kernel_rfl) (fun _ _ _ h => h) (Or.inl ⟨by rfl, ?hy74⟩) HS rfl ?_
    case hy74 => (intro v hv; obtain ⟨x, rfl, _, _, n0, n1, n2⟩ := hv.pin3; go_simp; first | done | with_reducible rfl)
    simp only [Act.put, List.setIfInBounds_toArray, List.set_cons_zero, List.set_cons_succ]
    refine take_ #[true, true, true, false, false, false, false, false, false, false, false, false, false, false, false, false, false, false, false] (i := 2) (N := some 20) (v := ?v75) rfl rfl (by kernel_rfl) (fun _ _ _ h => h) (Or.inl ⟨by rfl, ?hy75⟩) HS rfl ?_
    case hy75 => (intro v hv; obtain ⟨x, rfl, _, _, n0, n1, n2⟩ := hv.pin3; go_simp; first | done | with_reducible rfl)
    simp only [Act.put, List.setIfInBounds_toArray, List.set_cons_zero, List.set_cons_succ]
    refine take_ #[true, true, true, true, false, false, false, false, false, false, false, false, false, false, false, false, false, false, false] (i := 3) (N := some 21) (v := ?v76) rfl rfl (by kernel_rfl) (fun _ _ _ h => h) (Or.inl ⟨by rfl, ?hy76⟩) HS rfl ?_
    case hy76 => (intro v hv; obtain ⟨x, rfl, _, _, n0, n1, n2⟩ := hv.pin3; go_simp; first | done | with_reducible rfl)
    simp only [Act.put, List.setIfInBounds_toArray, List.set_cons_zero, List.set_cons_succ]
    refine take_ #[true, true, true, true, true, false, false, false, false, false, false, false, false, false, false, false, false, false, false] (i := 4) (N := some 22) (v := ?v77) rfl rfl (by kernel_rfl) (fun _ _ _ h => h) (Or.inl ⟨by rfl, ?hy77⟩) HS rfl ?_
    case hy77 => (intro v hv; obtain ⟨x, rfl, _, _, n0, n1, n2⟩ := hv.pin3; go_simp; first | done | with_reducible rfl)
    simp only [Act.put, List.setIfInBounds_toArray, List.set_cons_zero, List.set_cons_succ]
    refine one_ #[true, true, true, true, true, true, false, false, false, false, false, false, false, false, false, false, false, false, false] (i := 5) (N := some 23) rfl rfl (by kernel_rfl) (by decide) (fun K hK => ?_)
    go_simp
    refine (CSm.out _).mono ?_
    rintro e y ⟨rfl, hb⟩
    refine hK.out _ _ (HS.step hb rfl) ?_
    clear HS hb
    intro HS
    refine take_ #[true, true, true, true, true, true, true, false, false, false, false, false, false, false, false, false, false, false, false] (i := 6) (N := some 24) (v := ?v78) rfl rfl (by kernel_rfl) (fun _ _ _ h => h) (Or.inl ⟨by rfl, ?hy78⟩) HS rfl ?_
    case hy78 => (intro v hv; obtain ⟨x, rfl, _, _, n0, n1, n2⟩ := hv.pin3; go_simp; first | done | with_reducible rfl)
    simp only [Act.put, List.setIfInBounds_toArray, List.set_cons_zero, List.set_cons_succ]
    refine take_ #[true, true, true, true, true, true, true, true, false, false, false, false, false, false, false, false, false, false, false] (i := 7) (N := some 25) (v := ?v79) rfl rfl (by kernel_rfl) (fun _ _ _ h => h) (Or.inl ⟨by rfl, ?hy79⟩) HS rfl ?_
    case hy79 => (intro v hv; obtain ⟨x, rfl, _, _, n0, n1, n2⟩ := hv.pin3; go_simp; first | done | with_reducible rfl)
    simp only [Act.put, List.setIfInBounds_toArray, List.set_cons_zero, List.set_cons_succ]
    refine take_ #[true, true, true, true, true, true, true, true, true, false, false, false, false, false, false, false, false, false, false] (i := 8) (N := some 26) (v := undef) rfl rfl (by kernel_rfl) (fun _ _ _ h => h) (Or.inr ⟨by rfl, rfl⟩) HS rfl ?_
    simp only [Act.put, List.setIfInBounds_toArray, List.set_cons_zero, List.set_cons_succ]
    refine take_ #[true, true, true, true, true, true, true, true, true, true, false, false, false, false, false, false, false, false, false] (i := 9) (N := some 27) (v := undef) rfl rfl (by kernel_rfl) (fun _ _ _ h => h) (Or.inr ⟨by rfl, rfl⟩) HS rfl ?_
    simp only [Act.put, List.setIfInBounds_toArray, List.set_cons_zero, List.set_cons_succ]
    refine take_ #[true, true, true, true, true, true, true, true, true, true, true, false, false, false, false, false, false, false, false] (i := 10) (N := some 28) (v := undef) rfl rfl (by kernel_rfl) (fun _ _ _ h => h) (Or.inr ⟨by rfl, rfl⟩) HS rfl ?_
    simp only [Act.put, List.setIfInBounds_toArray, List.set_cons_zero, List.set_cons_succ]
    refine take_ #[true, true, true, true, true, true, true, true, true, true, true, true, false, false, false, false, false, false, false] (i := 11) (N := some 29) (v := undef) rfl rfl (by kernel_rfl) (fun _ _ _ h => h) (Or.inr ⟨by rfl, rfl⟩) HS rfl ?_
    simp only [Act.put, List.setIfInBounds_toArray, List.set_cons_zero, List.set_cons_succ]
    refine take_ #[true, true, true, true, true, true, true, true, true, true, true, true, true, false, false, false, false, false, false] (i := 12) (N := some 30) (v := undef) rfl rfl (by kernel_rfl) (fun _ _ _ h => h) (Or.inr ⟨by rfl, rfl⟩) HS rfl ?_
    simp only [Act.put, List.setIfInBounds_toArray, List.set_cons_zero, List.set_cons_succ]
    refine take_ #[true, true, true, true, true, true, true, true, true, true, true, true, true, true, false, false, false, false, false] (i := 13) (N := some 31) (v := ?v80) rfl rfl (by kernel_rfl) (fun _ _ _ h => h) (Or.inl ⟨by rfl, ?hy80⟩) HS rfl ?_
    case hy80 => (intro v hv; obtain ⟨x, rfl, _, _, n0, n1, n2⟩ := hv.pin3; go_simp; first | done | with_reducible rfl)
    simp only [Act.put, List.setIfInBounds_toArray, List.set_cons_zero, List.set_cons_succ]
    refine take_ #[true, true, true, true, true, true, true, true, true, true, true, true, true, true, true, false, false, false, false] (i := 14) (N := some 32) (v := ?v81) rfl rfl (by kernel_rfl) (fun _ _ _ h => h) (Or.inl ⟨by rfl, ?hy81⟩) HS rfl ?_
    case hy81 => (intro v hv; obtain ⟨x, rfl, _, _, n0, n1, n2⟩ := hv.pin3; go_simp; first | done | with_reducible rfl)
    simp only [Act.put, List.setIfInBounds_toArray, List.set_cons_zero, List.set_cons_succ]
    refine take_ #[true, true, true, true, true, true, true, true, true, true, true, true, true, true, true, true, false, false, false] (i := 15) (N := some 33) (v := ?v82) rfl rfl (by kernel_rfl) (fun _ _ _ h => h) (Or.inl ⟨by rfl, ?hy82⟩) HS rfl ?_
    case hy82 => (intro v hv; obtain ⟨x, rfl, _, _, n0, n1, n2⟩ := hv.pin3; go_simp; first | done | with_reducible rfl)
    simp only [Act.put, List.setIfInBounds_toArray, List.set_cons_zero, List.set_cons_succ]
    refine take_ #[true, true, true, true, true, true, true, true, true, true, true, true, true, true, true, true, true, false, false] (i := 16) (N := some 34) (v := ?v83) rfl rfl (by kernel_rfl) (fun _ _ _ h => h) (Or.inl ⟨by rfl, ?hy83⟩) HS rfl ?_
    case hy83 => (intro v hv; obtain ⟨x, rfl, _, _, n0, n1, n2⟩ := hv.pin3; go_simp; first | done | with_reducible rfl)
    simp only [Act.put, List.setIfInBounds_toArray, List.set_cons_zero, List.set_cons_succ]
    refine one_ #[true, true, true, true, true, true, true, true, true, true, true, true, true, true, true, true, true, true, false] (i := 17) (N := some 35) rfl rfl (by kernel_rfl) (by decide) (fun K hK => ?_)
    go_simp
    refine (COd.out _).mono ?_
    rintro e y ⟨rfl, hb⟩
    refine hK.out _ _ (HS.step hb rfl) ?_
    clear HS hb
    intro HS
    refine take_ #[true, true, true, true, true, true, true, true, true, true, true, true, true, true, true, true, true, true, true] (i := 18) (N := some 36) (v := ?v84) rfl rfl (by kernel_rfl) (fun _ _ _ h => h) (Or.inl ⟨by rfl, ?hy84⟩) HS rfl ?_
    case hy84 => (intro v hv; obtain ⟨x, rfl, _, _, n0, n1, n2⟩ := hv.pin3; go_simp; first | done | with_reducible rfl)
    simp only [Act.put, List.setIfInBounds_toArray, List.set_cons_zero, List.set_cons_succ]
    obtain ⟨x4, rfl, hk4, hz4, l40, l41, l42⟩ := HS.pin3
    have HB4 : Hid (Below w.heap.size w x4) := hk4.below
    clear HS hk4
    refine done_ (by kernel_rfl) ?_
    go_wp2_with fail
    refine (CZ1.out _).mono ?_
    rintro e y5 ⟨rfl, hb5⟩
    obtain ⟨x5, rfl, hc5, hz5, l50, l51, l52⟩ := keep3 (b0 := w.heap.size) (b1 := w.heap.size + 1) (b2 := x3.heap.size) hb5 rfl (by (repeat (first | with_reducible exact pin_at (by assumption) | (with_reducible apply pin_at; (first | omega | (simp only [World.size_alloc, pin_size, World.size_drew, World.size_setCell] <;> omega))) | (with_reducible apply alloc_at; first | rfl | (simp only [World.size_alloc, pin_size, World.size_drew, World.size_setCell] <;> omega)) | with_reducible apply past_pin | with_reducible apply past_alloc | with_reducible apply past_drew)); all_goals (first | omega | (simp only [World.size_alloc, pin_size, World.size_drew, World.size_setCell] <;> omega))) (by (repeat (first | with_reducible exact pin_at (by assumption) | (with_reducible apply pin_at; (first | omega | (simp only [World.size_alloc, pin_size, World.size_drew, World.size_setCell] <;> omega))) | (with_reducible apply alloc_at; first | rfl | (simp only [World.size_alloc, pin_size, World.size_drew, World.size_setCell] <;> omega)) | with_reducible apply past_pin | with_reducible apply past_alloc | with_reducible apply past_drew)); all_goals (first | omega | (simp only [World.size_alloc, pin_size, World.size_drew, World.size_setCell] <;> omega))) (by (repeat (first | with_reducible exact pin_at (by assumption) | (with_reducible apply pin_at; (first | omega | (simp only [World.size_alloc, pin_size, World.size_drew, World.size_setCell] <;> omega))) | (with_reducible apply alloc_at; first | rfl | (simp only [World.size_alloc, pin_size, World.size_drew, World.size_setCell] <;> omega)) | with_reducible apply past_pin | with_reducible apply past_alloc | with_reducible apply past_drew)); all_goals (first | omega | (simp only [World.size_alloc, pin_size, World.size_drew, World.size_setCell] <;> omega)))
    have HB5 : Hid (Below w.heap.size w x5) := Below.trans (by (repeat (first | with_reducible exact HB4.out | with_reducible refine below_pin ?_ ?_ | with_reducible refine Below.alloc ?_ ?_ _ | with_reducible refine Below.setCell ?_ ?_ _ | with_reducible refine Below.drew ?_)); all_goals (first | omega | (simp only [World.size_alloc, pin_size, World.size_drew, World.size_setCell] <;> omega))) (hc5.mono (by (first | omega | (simp only [World.size_alloc, pin_size, World.size_drew, World.size_setCell] <;> omega))))
    clear hb5 hc5
    try simp only [World.size_alloc, pin_size, World.size_drew, World.size_setCell] at hz5
    go_wp2_with fail
    refine (CZ0.out _).mono ?_
    rintro e y6 ⟨rfl, hb6⟩
    obtain ⟨x6, rfl, hc6, hz6, l60, l61, l62⟩ := keep3 (b0 := w.heap.size) (b1 := w.heap.size + 1) (b2 := x3.heap.size) hb6 rfl (by (repeat (first | with_reducible exact pin_at (by assumption) | (with_reducible apply pin_at; (first | omega | (simp only [World.size_alloc, pin_size, World.size_drew, World.size_setCell] <;> omega))) | (with_reducible apply alloc_at; first | rfl | (simp only [World.size_alloc, pin_size, World.size_drew, World.size_setCell] <;> omega)) | with_reducible apply past_pin | with_reducible apply past_alloc | with_reducible apply past_drew)); all_goals (first | omega | (simp only [World.size_alloc, pin_size, World.size_drew, World.size_setCell] <;> omega))) (by (repeat (first | with_reducible exact pin_at (by assumption) | (with_reducible apply pin_at; (first | omega | (simp only [World.size_alloc, pin_size, World.size_drew, World.size_setCell] <;> omega))) | (with_reducible apply alloc_at; first | rfl | (simp only [World.size_alloc, pin_size, World.size_drew, World.size_setCell] <;> omega)) | with_reducible apply past_pin | with_reducible apply past_alloc | with_reducible apply past_drew)); all_goals (first | omega | (simp only [World.size_alloc, pin_size, World.size_drew, World.size_setCell] <;> omega))) (by (repeat (first | with_reducible exact pin_at (by assumption) | (with_reducible apply pin_at; (first | omega | (simp only [World.size_alloc, pin_size, World.size_drew, World.size_setCell] <;> omega))) | (with_reducible apply alloc_at; first | rfl | (simp only [World.size_alloc, pin_size, World.size_drew, World.size_setCell] <;> omega)) | with_reducible apply past_pin | with_reducible apply past_alloc | with_reducible apply past_drew)); all_goals (first | omega | (simp only [World.size_alloc, pin_size, World.size_drew, World.size_setCell] <;> omega)))
    have HB6 : Hid (Below w.heap.size w x6) := Below.trans (by (repeat (first | with_reducible exact HB5.out | with_reducible refine below_pin ?_ ?_ | with_reducible refine Below.alloc ?_ ?_ _ | with_reducible refine Below.setCell ?_ ?_ _ | with_reducible refine Below.drew ?_)); all_goals (first | omega | (simp only [World.size_alloc, pin_size, World.size_drew, World.size_setCell] <;> omega))) (hc6.mono (by (first | omega | (simp only [World.size_alloc, pin_size, World.size_drew, World.size_setCell] <;> omega))))
    clear hb6 hc6
    try simp only [World.size_alloc, pin_size, World.size_drew, World.size_setCell] at hz6
    go_wp2_with fail
    refine (HR2.out _).mono ?_
    rintro e y7 ⟨rfl, hb7⟩
    obtain ⟨x7, rfl, hc7, hz7, l70, l71, l72⟩ := keep3 (b0 := w.heap.size) (b1 := w.heap.size + 1) (b2 := x3.heap.size) hb7 rfl (by (repeat (first | with_reducible exact pin_at (by assumption) | (with_reducible apply pin_at; (first | omega | (simp only [World.size_alloc, pin_size, World.size_drew, World.size_setCell] <;> omega))) | (with_reducible apply alloc_at; first | rfl | (simp only [World.size_alloc, pin_size, World.size_drew, World.size_setCell] <;> omega)) | with_reducible apply past_pin | with_reducible apply past_alloc | with_reducible apply past_drew)); all_goals (first | omega | (simp only [World.size_alloc, pin_size, World.size_drew, World.size_setCell] <;> omega))) (by (repeat (first | with_reducible exact pin_at (by assumption) | (with_reducible apply pin_at; (first | omega | (simp only [World.size_alloc, pin_size, World.size_drew, World.size_setCell] <;> omega))) | (with_reducible apply alloc_at; first | rfl | (simp only [World.size_alloc, pin_size, World.size_drew, World.size_setCell] <;> omega)) | with_reducible apply past_pin | with_reducible apply past_alloc | with_reducible apply past_drew)); all_goals (first | omega | (simp only [World.size_alloc, pin_size, World.size_drew, World.size_setCell] <;> omega))) (by (repeat (first | with_reducible exact pin_at (by assumption) | (with_reducible apply pin_at; (first | omega | (simp only [World.size_alloc, pin_size, World.size_drew, World.size_setCell] <;> omega))) | (with_reducible apply alloc_at; first | rfl | (simp only [World.size_alloc, pin_size, World.size_drew, World.size_setCell] <;> omega)) | with_reducible apply past_pin | with_reducible apply past_alloc | with_reducible apply past_drew)); all_goals (first | omega | (simp only [World.size_alloc, pin_size, World.size_drew, World.size_setCell] <;> omega)))
    have HB7 : Hid (Below w.heap.size w x7) := Below.trans (by (repeat (first | with_reducible exact HB6.out | with_reducible refine below_pin ?_ ?_ | with_reducible refine Below.alloc ?_ ?_ _ | with_reducible refine Below.setCell ?_ ?_ _ | with_reducible refine Below.drew ?_)); all_goals (first | omega | (simp only [World.size_alloc, pin_size, World.size_drew, World.size_setCell] <;> omega))) (hc7.mono (by (first | omega | (simp only [World.size_alloc, pin_size, World.size_drew, World.size_setCell] <;> omega))))
    clear hb7 hc7
    try simp only [World.size_alloc, pin_size, World.size_drew, World.size_setCell] at hz7
    go_wp2_with fail
    refine region_cut (σ := Fn × Nat) (fun s => match s with | (r3, b9) => [(53, a0.v), (54, a0.v), (55, t.v), (56, a1.v), (57, .tuple #[r3.v, .bool o3]), (52, .tuple #[r3.v, .bool o3]), (58, r3.v), (59, .bool o3), (9, .pointer (some ⟨b9, 0, none⟩)), (10, .bool o3)]) (fun s v => match s with | (r3, b9) => True ∧ w.heap.size < b9 ∧ w.heap.size + 1 < b9 ∧ x3.heap.size < b9 ∧ x7.heap.size < b9 ∧ Keeps w [(b9, .cells #[.int .u64 r3.a, .int .u64 r3.b, .int .u64 r3.c, .int .u64 r3.d, .int .u64 r3.e] 25), (w.heap.size, .cells #[.int .u64 a0.a, .int .u64 a0.b, .int .u64 a0.c, .int .u64 a0.d, .int .u64 a0.e] 25), (w.heap.size + 1, .cells #[.int .u64 a1.a, .int .u64 a1.b, .int .u64 a1.c, .int .u64 a1.d, .int .u64 a1.e] 25), (x3.heap.size, .cells #[.int .u64 r.a, .int .u64 r.b, .int .u64 r.c, .int .u64 r.d, .int .u64 r.e] 25), (x7.heap.size, .cells #[.int .u64 r2.a, .int .u64 r2.b, .int .u64 r2.c, .int .u64 r2.d, .int .u64 r2.e] 25)] v) ?_ ?_
    · refine startV (S := Keeps w _) (ds := [9, 10]) (n := 11) #[false, false, false, false, false, false, false, false, false, false, false] (by kernel_rfl) rfl rfl (keepsC (b := w.heap.size) (o := .cells #[.int .u64 a0.a, .int .u64 a0.b, .int .u64 a0.c, .int .u64 a0.d, .int .u64 a0.e] 25) (by (repeat (first | with_reducible exact pin_at (by assumption) | (with_reducible apply pin_at; (first | omega | (simp only [World.size_alloc, pin_size, World.size_drew, World.size_setCell] <;> omega))) | (with_reducible apply alloc_at; first | rfl | (simp only [World.size_alloc, pin_size, World.size_drew, World.size_setCell] <;> omega)) | with_reducible apply past_pin | with_reducible apply past_alloc | with_reducible apply past_drew)); all_goals (first | omega | (simp only [World.size_alloc, pin_size, World.size_drew, World.size_setCell] <;> omega))) (keepsC (b := w.heap.size + 1) (o := .cells #[.int .u64 a1.a, .int .u64 a1.b, .int .u64 a1.c, .int .u64 a1.d, .int .u64 a1.e] 25) (by (repeat (first | with_reducible exact pin_at (by assumption) | (with_reducible apply pin_at; (first | omega | (simp only [World.size_alloc, pin_size, World.size_drew, World.size_setCell] <;> omega))) | (with_reducible apply alloc_at; first | rfl | (simp only [World.size_alloc, pin_size, World.size_drew, World.size_setCell] <;> omega)) | with_reducible apply past_pin | with_reducible apply past_alloc | with_reducible apply past_drew)); all_goals (first | omega | (simp only [World.size_alloc, pin_size, World.size_drew, World.size_setCell] <;> omega))) (keepsC (b := x3.heap.size) (o := .cells #[.int .u64 r.a, .int .u64 r.b, .int .u64 r.c, .int .u64 r.d, .int .u64 r.e] 25) (by (repeat (first | with_reducible exact pin_at (by assumption) | (with_reducible apply pin_at; (first | omega | (simp only [World.size_alloc, pin_size, World.size_drew, World.size_setCell] <;> omega))) | (with_reducible apply alloc_at; first | rfl | (simp only [World.size_alloc, pin_size, World.size_drew, World.size_setCell] <;> omega)) | with_reducible apply past_pin | with_reducible apply past_alloc | with_reducible apply past_drew)); all_goals (first | omega | (simp only [World.size_alloc, pin_size, World.size_drew, World.size_setCell] <;> omega))) (keepsC (b := x7.heap.size) (o := .cells #[.int .u64 r2.a, .int .u64 r2.b, .int .u64 r2.c, .int .u64 r2.d, .int .u64 r2.e] 25) (by (repeat (first | with_reducible exact pin_at (by assumption) | (with_reducible apply pin_at; (first | omega | (simp only [World.size_alloc, pin_size, World.size_drew, World.size_setCell] <;> omega))) | (with_reducible apply alloc_at; first | rfl | (simp only [World.size_alloc, pin_size, World.size_drew, World.size_setCell] <;> omega)) | with_reducible apply past_pin | with_reducible apply past_alloc | with_reducible apply past_drew)); all_goals (first | omega | (simp only [World.size_alloc, pin_size, World.size_drew, World.size_setCell] <;> omega))) (keeps0 (by (repeat (first | with_reducible exact HB7.out | with_reducible refine below_pin ?_ ?_ | with_reducible refine Below.alloc ?_ ?_ _ | with_reducible refine Below.setCell ?_ ?_ _ | with_reducible refine Below.drew ?_)); all_goals (first | omega | (simp only [World.size_alloc, pin_size, World.size_drew, World.size_setCell] <;> omega)))))))) (fun y HS => ?_)
      refine take_ #[true, false, false, false, false, false, false, false, false, false, false] (i := 0) (N := some 53) (v := ?v85) rfl rfl (by kernel_rfl) (fun _ _ _ h => nomatch h.1) (Or.inl ⟨by rfl, ?hy85⟩) HS rfl ?_
      case hy85 => (intro v hv; obtain ⟨x, rfl, _, _, n0, n1, n2, n3⟩ := hv.pin4; go_simp; first | done | with_reducible rfl)
      simp only [Act.put, List.setIfInBounds_toArray, List.set_cons_zero, List.set_cons_succ]
      refine take_ #[true, true, false, false, false, false, false, false, false, false, false] (i := 1) (N := some 54) (v := ?v86) rfl rfl (by kernel_rfl) (fun _ _ _ h => nomatch h.1) (Or.inl ⟨by rfl, ?hy86⟩) HS rfl ?_
      case hy86 => (intro v hv; obtain ⟨x, rfl, _, _, n0, n1, n2, n3⟩ := hv.pin4; go_simp; first | done | with_reducible rfl)
      simp only [Act.put, List.setIfInBounds_toArray, List.set_cons_zero, List.set_cons_succ]
      refine take_ #[true, true, false, true, false, false, false, false, false, false, false] (i := 3) (N := some 56) (v := ?v87) rfl rfl (by kernel_rfl) (fun _ _ _ h => nomatch h.1) (Or.inl ⟨by rfl, ?hy87⟩) HS rfl ?_
      case hy87 => (intro v hv; obtain ⟨x, rfl, _, _, n0, n1, n2, n3⟩ := hv.pin4; go_simp; first | done | with_reducible rfl)
      simp only [Act.put, List.setIfInBounds_toArray, List.set_cons_zero, List.set_cons_succ]
      refine two_ #[true, true, true, true, false, false, false, false, false, false, false] #[true, true, false, true, false, false, false, false, true, false, false] (i := 2) (j := 8) (Ni := some 55) (Nj := some 9) rfl rfl rfl rfl (by kernel_rfl) (by decide) (by decide) (fun K hK => ?_) (fun K hK => ?_)
      · go_simp
        refine (CAd.out _).mono ?_
        rintro e y ⟨rfl, hb⟩
        refine hK.out _ _ (HS.step hb rfl) ?_
        clear HS
        intro HS
        clear hb
        refine two_ #[true, true, true, true, true, false, false, false, false, false, false] #[true, true, true, true, false, false, false, false, true, false, false] (i := 4) (j := 8) (Ni := some 57) (Nj := some 9) rfl rfl rfl rfl (by kernel_rfl) (by decide) (by decide) (fun K hK => ?_) (fun K hK => ?_)
        · go_simp
          refine (HR3.out _).mono ?_
          rintro e y ⟨rfl, hb⟩
          refine hK.out _ _ (HS.step hb rfl) ?_
          clear HS
          intro HS
          clear hb
          refine pure_ #[true, true, true, true, true, true, false, false, false, false, false] (i := 5) (N := some 52) (v := ?v88) rfl rfl (by kernel_rfl) (fun _ _ _ h => nomatch h.1) (Or.inl ⟨by rfl, ?hy88⟩) rfl ?_
          case hy88 => (intro v; go_simp; first | done | with_reducible rfl)
          simp only [Act.put, List.setIfInBounds_toArray, List.set_cons_zero, List.set_cons_succ]
          refine pure_ #[true, true, true, true, true, true, true, false, false, false, false] (i := 6) (N := some 58) (v := ?v89) rfl rfl (by kernel_rfl) (fun _ _ _ h => nomatch h.1) (Or.inl ⟨by rfl, ?hy89⟩) rfl ?_
          case hy89 => (intro v; go_simp; first | done | with_reducible rfl)
          simp only [Act.put, List.setIfInBounds_toArray, List.set_cons_zero, List.set_cons_succ]
          refine pure_ #[true, true, true, true, true, true, true, true, false, false, false] (i := 7) (N := some 59) (v := ?v90) rfl rfl (by kernel_rfl) (fun _ _ _ h => nomatch h.1) (Or.inl ⟨by rfl, ?hy90⟩) rfl ?_
          case hy90 => (intro v; go_simp; first | done | with_reducible rfl)
          simp only [Act.put, List.setIfInBounds_toArray, List.set_cons_zero, List.set_cons_succ]
          refine one_ #[true, true, true, true, true, true, true, true, true, false, false] (i := 8) (N := some 9) rfl rfl (by kernel_rfl) (by decide) (fun K hK => ?_)
          go_simp
          obtain ⟨b9, hbn⟩ : ∃ b, b = y.heap.size := ⟨_, rfl⟩
          have hl0 : w.heap.size < b9 := by rw [hbn]; exact HS.lt _ (by exact List.mem_cons_self)
          have hl1 : w.heap.size + 1 < b9 := by rw [hbn]; exact HS.lt _ (by exact List.mem_cons_of_mem _ (List.mem_cons_self))
          have hl2 : x3.heap.size < b9 := by rw [hbn]; exact HS.lt _ (by exact List.mem_cons_of_mem _ (List.mem_cons_of_mem _ (List.mem_cons_self)))
          have hl3 : x7.heap.size < b9 := by rw [hbn]; exact HS.lt _ (by exact List.mem_cons_of_mem _ (List.mem_cons_of_mem _ (List.mem_cons_of_mem _ (List.mem_cons_self))))
          obtain ⟨HS', HT⟩ := HS.new (o := .cells #[.int .u64 0, .int .u64 0, .int .u64 0, .int .u64 0, .int .u64 0] 25)
          refine hK.out _ _ HS' ?_
          clear HS HS'
          intro HS
          try replace HRD := Lib.hid (HRD.out.mono (Below.alloc (Below.refl y.heap.size y) (Nat.le_refl _) (.cells #[.int .u64 0, .int .u64 0, .int .u64 0, .int .u64 0, .int .u64 0] 25)) (Nat.le_refl _))
          rw [← hbn] at HT ⊢
          clear hbn
          obtain ⟨y2, hy2⟩ : ∃ z, z = y.alloc (.cells #[.int .u64 0, .int .u64 0, .int .u64 0, .int .u64 0, .int .u64 0] 25) := ⟨_, rfl⟩
          rw [← hy2] at HS HT ⊢
          try rw [← hy2] at HRD
          clear hy2
          obtain ⟨x, rfl, hk, hz, m0, m1, m2, m3, m4⟩ := HT.pin5
          clear HS
          refine last_ #[true, true, true, true, true, true, true, true, true, true, false] (i := 9) (N := none) rfl rfl (by kernel_rfl) (by decide) (fun K hK => ?_)
          go_simp
          refine hK.out _ _ ?_
          refine last_ #[true, true, true, true, true, true, true, true, true, true, true] (i := 10) (N := some 10) rfl rfl (by kernel_rfl) (by decide) (fun K hK => ?_)
          go_simp
          refine hK.out _ _ ?_
          refine done_ (by kernel_rfl) ?_
          refine ⟨rfl, (r3, b9), by simp only [puts, Act.put, List.setIfInBounds_toArray, List.set_cons_zero, List.set_cons_succ], trivial, hl0, hl1, hl2, hl3, ?_⟩
          exact keepsC (b := b9) (by (repeat (first | with_reducible exact pin_at (by assumption) | (with_reducible apply pin_at; (first | omega | (simp only [World.size_alloc, pin_size, World.size_drew, World.size_setCell] <;> omega))) | (with_reducible apply alloc_at; first | rfl | (simp only [World.size_alloc, pin_size, World.size_drew, World.size_setCell] <;> omega)) | with_reducible apply past_pin | with_reducible apply past_alloc | with_reducible apply past_drew)); all_goals (first | omega | (simp only [World.size_alloc, pin_size, World.size_drew, World.size_setCell] <;> omega))) (keepsC (b := w.heap.size) (by (repeat (first | with_reducible exact pin_at (by assumption) | (with_reducible apply pin_at; (first | omega | (simp only [World.size_alloc, pin_size, World.size_drew, World.size_setCell] <;> omega))) | (with_reducible apply alloc_at; first | rfl | (simp only [World.size_alloc, pin_size, World.size_drew, World.size_setCell] <;> omega)) | with_reducible apply past_pin | with_reducible apply past_alloc | with_reducible apply past_drew)); all_goals (first | omega | (simp only [World.size_alloc, pin_size, World.size_drew, World.size_setCell] <;> omega))) (keepsC (b := w.heap.size + 1) (by (repeat (first | with_reducible exact pin_at (by assumption) | (with_reducible apply pin_at; (first | omega | (simp only [World.size_alloc, pin_size, World.size_drew, World.size_setCell] <;> omega))) | (with_reducible apply alloc_at; first | rfl | (simp only [World.size_alloc, pin_size, World.size_drew, World.size_setCell] <;> omega)) | with_reducible apply past_pin | with_reducible apply past_alloc | with_reducible apply past_drew)); all_goals (first | omega | (simp only [World.size_alloc, pin_size, World.size_drew, World.size_setCell] <;> omega))) (keepsC (b := x3.heap.size) (by (repeat (first | with_reducible exact pin_at (by assumption) | (with_reducible apply pin_at; (first | omega | (simp only [World.size_alloc, pin_size, World.size_drew, World.size_setCell] <;> omega))) | (with_reducible apply alloc_at; first | rfl | (simp only [World.size_alloc, pin_size, World.size_drew, World.size_setCell] <;> omega)) | with_reducible apply past_pin | with_reducible apply past_alloc | with_reducible apply past_drew)); all_goals (first | omega | (simp only [World.size_alloc, pin_size, World.size_drew, World.size_setCell] <;> omega))) (keepsC (b := x7.heap.size) (by (repeat (first | with_reducible exact pin_at (by assumption) | (with_reducible apply pin_at; (first | omega | (simp only [World.size_alloc, pin_size, World.size_drew, World.size_setCell] <;> omega))) | (with_reducible apply alloc_at; first | rfl | (simp only [World.size_alloc, pin_size, World.size_drew, World.size_setCell] <;> omega)) | with_reducible apply past_pin | with_reducible apply past_alloc | with_reducible apply past_drew)); all_goals (first | omega | (simp only [World.size_alloc, pin_size, World.size_drew, World.size_setCell] <;> omega))) (keeps0 (by (repeat (first | with_reducible exact hk.below | with_reducible refine below_pin ?_ ?_ | with_reducible refine Below.alloc ?_ ?_ _ | with_reducible refine Below.setCell ?_ ?_ _ | with_reducible refine Below.drew ?_)); all_goals (first | omega | (simp only [World.size_alloc, pin_size, World.size_drew, World.size_setCell] <;> omega))))))))
        · go_simp
          obtain ⟨b9, hbn⟩ : ∃ b, b = y.heap.size := ⟨_, rfl⟩
          have hl0 : w.heap.size < b9 := by rw [hbn]; exact HS.lt _ (by exact List.mem_cons_self)
          have hl1 : w.heap.size + 1 < b9 := by rw [hbn]; exact HS.lt _ (by exact List.mem_cons_of_mem _ (List.mem_cons_self))
          have hl2 : x3.heap.size < b9 := by rw [hbn]; exact HS.lt _ (by exact List.mem_cons_of_mem _ (List.mem_cons_of_mem _ (List.mem_cons_self)))
          have hl3 : x7.heap.size < b9 := by rw [hbn]; exact HS.lt _ (by exact List.mem_cons_of_mem _ (List.mem_cons_of_mem _ (List.mem_cons_of_mem _ (List.mem_cons_self))))
          obtain ⟨HS', HT⟩ := HS.new (o := .cells #[.int .u64 0, .int .u64 0, .int .u64 0, .int .u64 0, .int .u64 0] 25)
          refine hK.out _ _ HS' ?_
          clear HS HS'
          intro HS
          try replace HRD := Lib.hid (HRD.out.mono (Below.alloc (Below.refl y.heap.size y) (Nat.le_refl _) (.cells #[.int .u64 0, .int .u64 0, .int .u64 0, .int .u64 0, .int .u64 0] 25)) (Nat.le_refl _))
          rw [← hbn] at HT ⊢
          clear hbn
          obtain ⟨y2, hy2⟩ : ∃ z, z = y.alloc (.cells #[.int .u64 0, .int .u64 0, .int .u64 0, .int .u64 0, .int .u64 0] 25) := ⟨_, rfl⟩
          rw [← hy2] at HS HT ⊢
          try rw [← hy2] at HRD
          clear hy2
          refine one_ #[true, true, true, true, true, false, false, false, true, false, false] (i := 4) (N := some 57) rfl rfl (by kernel_rfl) (by decide) (fun K hK => ?_)
          go_simp
          refine (HR3.out _).mono ?_
          rintro e y ⟨rfl, hb⟩
          refine hK.out _ _ (HS.step hb rfl) ?_
          clear HS
          intro HS
          replace HT := HT.step hb rfl
          clear hb
          refine pure_ #[true, true, true, true, true, true, false, false, true, false, false] (i := 5) (N := some 52) (v := ?v91) rfl rfl (by kernel_rfl) (fun _ _ _ h => nomatch h.1) (Or.inl ⟨by rfl, ?hy91⟩) rfl ?_
          case hy91 => (intro v; go_simp; first | done | with_reducible rfl)
          simp only [Act.put, List.setIfInBounds_toArray, List.set_cons_zero, List.set_cons_succ]
          refine pure_ #[true, true, true, true, true, true, true, false, true, false, false] (i := 6) (N := some 58) (v := ?v92) rfl rfl (by kernel_rfl) (fun _ _ _ h => nomatch h.1) (Or.inl ⟨by rfl, ?hy92⟩) rfl ?_
          case hy92 => (intro v; go_simp; first | done | with_reducible rfl)
          simp only [Act.put, List.setIfInBounds_toArray, List.set_cons_zero, List.set_cons_succ]
          refine pure_ #[true, true, true, true, true, true, true, true, true, false, false] (i := 7) (N := some 59) (v := ?v93) rfl rfl (by kernel_rfl) (fun _ _ _ h => nomatch h.1) (Or.inl ⟨by rfl, ?hy93⟩) rfl ?_
          case hy93 => (intro v; go_simp; first | done | with_reducible rfl)
          simp only [Act.put, List.setIfInBounds_toArray, List.set_cons_zero, List.set_cons_succ]
          obtain ⟨x, rfl, hk, hz, m0, m1, m2, m3, m4⟩ := HT.pin5
          clear HS
          refine last_ #[true, true, true, true, true, true, true, true, true, true, false] (i := 9) (N := none) rfl rfl (by kernel_rfl) (by decide) (fun K hK => ?_)
          go_simp
          refine hK.out _ _ ?_
          refine last_ #[true, true, true, true, true, true, true, true, true, true, true] (i := 10) (N := some 10) rfl rfl (by kernel_rfl) (by decide) (fun K hK => ?_)
          go_simp
          refine hK.out _ _ ?_
          refine done_ (by kernel_rfl) ?_
          refine ⟨rfl, (r3, b9), by simp only [puts, Act.put, List.setIfInBounds_toArray, List.set_cons_zero, List.set_cons_succ], trivial, hl0, hl1, hl2, hl3, ?_⟩
          exact keepsC (b := b9) (by (repeat (first | with_reducible exact pin_at (by assumption) | (with_reducible apply pin_at; (first | omega | (simp only [World.size_alloc, pin_size, World.size_drew, World.size_setCell] <;> omega))) | (with_reducible apply alloc_at; first | rfl | (simp only [World.size_alloc, pin_size, World.size_drew, World.size_setCell] <;> omega)) | with_reducible apply past_pin | with_reducible apply past_alloc | with_reducible apply past_drew)); all_goals (first | omega | (simp only [World.size_alloc, pin_size, World.size_drew, World.size_setCell] <;> omega))) (keepsC (b := w.heap.size) (by (repeat (first | with_reducible exact pin_at (by assumption) | (with_reducible apply pin_at; (first | omega | (simp only [World.size_alloc, pin_size, World.size_drew, World.size_setCell] <;> omega))) | (with_reducible apply alloc_at; first | rfl | (simp only [World.size_alloc, pin_size, World.size_drew, World.size_setCell] <;> omega)) | with_reducible apply past_pin | with_reducible apply past_alloc | with_reducible apply past_drew)); all_goals (first | omega | (simp only [World.size_alloc, pin_size, World.size_drew, World.size_setCell] <;> omega))) (keepsC (b := w.heap.size + 1) (by (repeat (first | with_reducible exact pin_at (by assumption) | (with_reducible apply pin_at; (first | omega | (simp only [World.size_alloc, pin_size, World.size_drew, World.size_setCell] <;> omega))) | (with_reducible apply alloc_at; first | rfl | (simp only [World.size_alloc, pin_size, World.size_drew, World.size_setCell] <;> omega)) | with_reducible apply past_pin | with_reducible apply past_alloc | with_reducible apply past_drew)); all_goals (first | omega | (simp only [World.size_alloc, pin_size, World.size_drew, World.size_setCell] <;> omega))) (keepsC (b := x3.heap.size) (by (repeat (first | with_reducible exact pin_at (by assumption) | (with_reducible apply pin_at; (first | omega | (simp only [World.size_alloc, pin_size, World.size_drew, World.size_setCell] <;> omega))) | (with_reducible apply alloc_at; first | rfl | (simp only [World.size_alloc, pin_size, World.size_drew, World.size_setCell] <;> omega)) | with_reducible apply past_pin | with_reducible apply past_alloc | with_reducible apply past_drew)); all_goals (first | omega | (simp only [World.size_alloc, pin_size, World.size_drew, World.size_setCell] <;> omega))) (keepsC (b := x7.heap.size) (by (repeat (first | with_reducible exact pin_at (by assumption) | (with_reducible apply pin_at; (first | omega | (simp only [World.size_alloc, pin_size, World.size_drew, World.size_setCell] <;> omega))) | (with_reducible apply alloc_at; first | rfl | (simp only [World.size_alloc, pin_size, World.size_drew, World.size_setCell] <;> omega)) | with_reducible apply past_pin | with_reducible apply past_alloc | with_reducible apply past_drew)); all_goals (first | omega | (simp only [World.size_alloc, pin_size, World.size_drew, World.size_setCell] <;> omega))) (keeps0 (by (repeat (first | with_reducible exact hk.below | with_reducible refine below_pin ?_ ?_ | with_reducible refine Below.alloc ?_ ?_ _ | with_reducible refine Below.setCell ?_ ?_ _ | with_reducible refine Below.drew ?_)); all_goals (first | omega | (simp only [World.size_alloc, pin_size, World.size_drew, World.size_setCell] <;> omega))))))))
      · go_simp
        obtain ⟨b9, hbn⟩ : ∃ b, b = y.heap.size := ⟨_, rfl⟩
        have hl0 : w.heap.size < b9 := by rw [hbn]; exact HS.lt _ (by exact List.mem_cons_self)
        have hl1 : w.heap.size + 1 < b9 := by rw [hbn]; exact HS.lt _ (by exact List.mem_cons_of_mem _ (List.mem_cons_self))
        have hl2 : x3.heap.size < b9 := by rw [hbn]; exact HS.lt _ (by exact List.mem_cons_of_mem _ (List.mem_cons_of_mem _ (List.mem_cons_self)))
        have hl3 : x7.heap.size < b9 := by rw [hbn]; exact HS.lt _ (by exact List.mem_cons_of_mem _ (List.mem_cons_of_mem _ (List.mem_cons_of_mem _ (List.mem_cons_self))))
        obtain ⟨HS', HT⟩ := HS.new (o := .cells #[.int .u64 0, .int .u64 0, .int .u64 0, .int .u64 0, .int .u64 0] 25)
        refine hK.out _ _ HS' ?_
        clear HS HS'
        intro HS
        try replace HRD := Lib.hid (HRD.out.mono (Below.alloc (Below.refl y.heap.size y) (Nat.le_refl _) (.cells #[.int .u64 0, .int .u64 0, .int .u64 0, .int .u64 0, .int .u64 0] 25)) (Nat.le_refl _))
        rw [← hbn] at HT ⊢
        clear hbn
        obtain ⟨y2, hy2⟩ : ∃ z, z = y.alloc (.cells #[.int .u64 0, .int .u64 0, .int .u64 0, .int .u64 0, .int .u64 0] 25) := ⟨_, rfl⟩
        rw [← hy2] at HS HT ⊢
        try rw [← hy2] at HRD
        clear hy2
        refine one_ #[true, true, true, true, false, false, false, false, true, false, false] (i := 2) (N := some 55) rfl rfl (by kernel_rfl) (by decide) (fun K hK => ?_)
        go_simp
        refine (CAd.out _).mono ?_
        rintro e y ⟨rfl, hb⟩
        refine hK.out _ _ (HS.step hb rfl) ?_
        clear HS
        intro HS
        replace HT := HT.step hb rfl
        clear hb
        refine one_ #[true, true, true, true, true, false, false, false, true, false, false] (i := 4) (N := some 57) rfl rfl (by kernel_rfl) (by decide) (fun K hK => ?_)
        go_simp
        refine (HR3.out _).mono ?_
        rintro e y ⟨rfl, hb⟩
        refine hK.out _ _ (HS.step hb rfl) ?_
        clear HS
        intro HS
        replace HT := HT.step hb rfl
        clear hb
        refine pure_ #[true, true, true, true, true, true, false, false, true, false, false] (i := 5) (N := some 52) (v := ?v94) rfl rfl (by kernel_rfl) (fun _ _ _ h => nomatch h.1) (Or.inl ⟨by rfl, ?hy94⟩) rfl ?_
        case hy94 => (intro v; go_simp; first | done | with_reducible rfl)
        simp only [Act.put, List.setIfInBounds_toArray, List.set_cons_zero, List.set_cons_succ]
        refine pure_ #[true, true, true, true, true, true, true, false, true, false, false] (i := 6) (N := some 58) (v := ?v95) rfl rfl (by kernel_rfl) (fun _ _ _ h => nomatch h.1) (Or.inl ⟨by rfl, ?hy95⟩) rfl ?_
        case hy95 => (intro v; go_simp; first | done | with_reducible rfl)
        simp only [Act.put, List.setIfInBounds_toArray, List.set_cons_zero, List.set_cons_succ]
        refine pure_ #[true, true, true, true, true, true, true, true, true, false, false] (i := 7) (N := some 59) (v := ?v96) rfl rfl (by kernel_rfl) (fun _ _ _ h => nomatch h.1) (Or.inl ⟨by rfl, ?hy96⟩) rfl ?_
        case hy96 => (intro v; go_simp; first | done | with_reducible rfl)
        simp only [Act.put, List.setIfInBounds_toArray, List.set_cons_zero, List.set_cons_succ]
        obtain ⟨x, rfl, hk, hz, m0, m1, m2, m3, m4⟩ := HT.pin5
        clear HS
        refine last_ #[true, true, true, true, true, true, true, true, true, true, false] (i := 9) (N := none) rfl rfl (by kernel_rfl) (by decide) (fun K hK => ?_)
        go_simp
        refine hK.out _ _ ?_
        refine last_ #[true, true, true, true, true, true, true, true, true, true, true] (i := 10) (N := some 10) rfl rfl (by kernel_rfl) (by decide) (fun K hK => ?_)
        go_simp
        refine hK.out _ _ ?_
        refine done_ (by kernel_rfl) ?_
        refine ⟨rfl, (r3, b9), by simp only [puts, Act.put, List.setIfInBounds_toArray, List.set_cons_zero, List.set_cons_succ], trivial, hl0, hl1, hl2, hl3, ?_⟩
        exact keepsC (b := b9) (by (repeat (first | with_reducible exact pin_at (by assumption) | (with_reducible apply pin_at; (first | omega | (simp only [World.size_alloc, pin_size, World.size_drew, World.size_setCell] <;> omega))) | (with_reducible apply alloc_at; first | rfl | (simp only [World.size_alloc, pin_size, World.size_drew, World.size_setCell] <;> omega)) | with_reducible apply past_pin | with_reducible apply past_alloc | with_reducible apply past_drew)); all_goals (first | omega | (simp only [World.size_alloc, pin_size, World.size_drew, World.size_setCell] <;> omega))) (keepsC (b := w.heap.size) (by (repeat (first | with_reducible exact pin_at (by assumption) | (with_reducible apply pin_at; (first | omega | (simp only [World.size_alloc, pin_size, World.size_drew, World.size_setCell] <;> omega))) | (with_reducible apply alloc_at; first | rfl | (simp only [World.size_alloc, pin_size, World.size_drew, World.size_setCell] <;> omega)) | with_reducible apply past_pin | with_reducible apply past_alloc | with_reducible apply past_drew)); all_goals (first | omega | (simp only [World.size_alloc, pin_size, World.size_drew, World.size_setCell] <;> omega))) (keepsC (b := w.heap.size + 1) (by (repeat (first | with_reducible exact pin_at (by assumption) | (with_reducible apply pin_at; (first | omega | (simp only [World.size_alloc, pin_size, World.size_drew, World.size_setCell] <;> omega))) | (with_reducible apply alloc_at; first | rfl | (simp only [World.size_alloc, pin_size, World.size_drew, World.size_setCell] <;> omega)) | with_reducible apply past_pin | with_reducible apply past_alloc | with_reducible apply past_drew)); all_goals (first | omega | (simp only [World.size_alloc, pin_size, World.size_drew, World.size_setCell] <;> omega))) (keepsC (b := x3.heap.size) (by (repeat (first | with_reducible exact pin_at (by assumption) | (with_reducible apply pin_at; (first | omega | (simp only [World.size_alloc, pin_size, World.size_drew, World.size_setCell] <;> omega))) | (with_reducible apply alloc_at; first | rfl | (simp only [World.size_alloc, pin_size, World.size_drew, World.size_setCell] <;> omega)) | with_reducible apply past_pin | with_reducible apply past_alloc | with_reducible apply past_drew)); all_goals (first | omega | (simp only [World.size_alloc, pin_size, World.size_drew, World.size_setCell] <;> omega))) (keepsC (b := x7.heap.size) (by (repeat (first | with_reducible exact pin_at (by assumption) | (with_reducible apply pin_at; (first | omega | (simp only [World.size_alloc, pin_size, World.size_drew, World.size_setCell] <;> omega))) | (with_reducible apply alloc_at; first | rfl | (simp only [World.size_alloc, pin_size, World.size_drew, World.size_setCell] <;> omega)) | with_reducible apply past_pin | with_reducible apply past_alloc | with_reducible apply past_drew)); all_goals (first | omega | (simp only [World.size_alloc, pin_size, World.size_drew, World.size_setCell] <;> omega))) (keeps0 (by (repeat (first | with_reducible exact hk.below | with_reducible refine below_pin ?_ ?_ | with_reducible refine Below.alloc ?_ ?_ _ | with_reducible refine Below.setCell ?_ ?_ _ | with_reducible refine Below.drew ?_)); all_goals (first | omega | (simp only [World.size_alloc, pin_size, World.size_drew, World.size_setCell] <;> omega))))))))
    rintro ⟨r3, b9⟩ v ⟨hpr, hl80, hl81, hl82, hl83, HK⟩
    simp only [puts, Act.put, List.setIfInBounds_toArray, List.set_cons_zero, List.set_cons_succ]
    obtain ⟨x8, rfl, hk, hz8, l80, l81, l82, l83, l84⟩ := HK.pin5
    have HB8 : Hid (Below w.heap.size w x8) := hk.below
    clear HK hk
    clear hpr
    have hne := HNE.out (by first | rfl | trivial) (by first | rfl | trivial)
    rcases o2 with _ | _ <;> rcases o3 with _ | _
    · exact absurd hne (by decide)
    · clear hne
      go_wp2_with fail
      refine (known_any _).mono ?_
      rintro e x9 ⟨rfl, hb9⟩
      have HB9 : Hid (Below w.heap.size w x9) := Below.trans (by (repeat (first | with_reducible exact HB8.out | with_reducible refine below_pin ?_ ?_ | with_reducible refine Below.alloc ?_ ?_ _ | with_reducible refine Below.setCell ?_ ?_ _ | with_reducible refine Below.drew ?_)); all_goals (first | omega | (simp only [World.size_alloc, pin_size, World.size_drew, World.size_setCell] <;> omega))) (hb9.mono (by (first | omega | (simp only [World.size_alloc, pin_size, World.size_drew, World.size_setCell] <;> omega))))
      have hz9 := HB9.out.size
      clear hb9
      go_wp2_with fail
      go_ret
      exact ⟨rfl, (by (repeat (first | with_reducible exact HB9.out | with_reducible refine below_pin ?_ ?_ | with_reducible refine Below.alloc ?_ ?_ _ | with_reducible refine Below.setCell ?_ ?_ _ | with_reducible refine Below.drew ?_)); all_goals (first | omega | (simp only [World.size_alloc, pin_size, World.size_drew, World.size_setCell] <;> omega)))⟩
    · clear hne
      go_wp2_with fail
      refine (known_any _).mono ?_
      rintro e x9 ⟨rfl, hb9⟩
      have HB9 : Hid (Below w.heap.size w x9) := Below.trans (by (repeat (first | with_reducible exact HB8.out | with_reducible refine below_pin ?_ ?_ | with_reducible refine Below.alloc ?_ ?_ _ | with_reducible refine Below.setCell ?_ ?_ _ | with_reducible refine Below.drew ?_)); all_goals (first | omega | (simp only [World.size_alloc, pin_size, World.size_drew, World.size_setCell] <;> omega))) (hb9.mono (by (first | omega | (simp only [World.size_alloc, pin_size, World.size_drew, World.size_setCell] <;> omega))))
      have hz9 := HB9.out.size
      clear hb9
      go_wp2_with fail
      go_ret
      exact ⟨rfl, (by (repeat (first | with_reducible exact HB9.out | with_reducible refine below_pin ?_ ?_ | with_reducible refine Below.alloc ?_ ?_ _ | with_reducible refine Below.setCell ?_ ?_ _ | with_reducible refine Below.drew ?_)); all_goals (first | omega | (simp only [World.size_alloc, pin_size, World.size_drew, World.size_setCell] <;> omega)))⟩
    · exact absurd hne (by decide)
  · go_enter Try.func12, Try.ntmps12
    go_wp2_with fail
    refine (CSq.out _).mono ?_
    rintro e y1 ⟨rfl, hb1⟩
    obtain ⟨x1, rfl, hc1, hz1, l10, l11⟩ := keep2 (b0 := w.heap.size) (b1 := w.heap.size + 1) hb1 rfl (by (repeat (first | with_reducible exact pin_at (by assumption) | (with_reducible apply pin_at; (first | omega | (simp only [World.size_alloc, pin_size, World.size_drew, World.size_setCell] <;> omega))) | (with_reducible apply alloc_at; first | rfl | (simp only [World.size_alloc, pin_size, World.size_drew, World.size_setCell] <;> omega)) | with_reducible apply past_pin | with_reducible apply past_alloc | with_reducible apply past_drew)); all_goals (first | omega | (simp only [World.size_alloc, pin_size, World.size_drew, World.size_setCell] <;> omega))) (by (repeat (first | with_reducible exact pin_at (by assumption) | (with_reducible apply pin_at; (first | omega | (simp only [World.size_alloc, pin_size, World.size_drew, World.size_setCell] <;> omega))) | (with_reducible apply alloc_at; first | rfl | (simp only [World.size_alloc, pin_size, World.size_drew, World.size_setCell] <;> omega)) | with_reducible apply past_pin | with_reducible apply past_alloc | with_reducible apply past_drew)); all_goals (first | omega | (simp only [World.size_alloc, pin_size, World.size_drew, World.size_setCell] <;> omega)))
    have HB1 : Hid (Below w.heap.size w x1) := Below.trans (by (repeat (first | with_reducible exact (Below.refl _ _) | with_reducible refine below_pin ?_ ?_ | with_reducible refine Below.alloc ?_ ?_ _ | with_reducible refine Below.setCell ?_ ?_ _ | with_reducible refine Below.drew ?_)); all_goals (first | omega | (simp only [World.size_alloc, pin_size, World.size_drew, World.size_setCell] <;> omega))) (hc1.mono (by (first | omega | (simp only [World.size_alloc, pin_size, World.size_drew, World.size_setCell] <;> omega))))
    clear hb1 hc1
    try simp only [World.size_alloc, pin_size, World.size_drew, World.size_setCell] at hz1
    go_wp2_with fail
    refine (Small_any 1 (by decide) _).mono ?_
    rintro e y2 ⟨rfl, hb2⟩
    obtain ⟨x2, rfl, hc2, hz2, l20, l21⟩ := keep2 (b0 := w.heap.size) (b1 := w.heap.size + 1) hb2 rfl (by (repeat (first | with_reducible exact pin_at (by assumption) | (with_reducible apply pin_at; (first | omega | (simp only [World.size_alloc, pin_size, World.size_drew, World.size_setCell] <;> omega))) | (with_reducible apply alloc_at; first | rfl | (simp only [World.size_alloc, pin_size, World.size_drew, World.size_setCell] <;> omega)) | with_reducible apply past_pin | with_reducible apply past_alloc | with_reducible apply past_drew)); all_goals (first | omega | (simp only [World.size_alloc, pin_size, World.size_drew, World.size_setCell] <;> omega))) (by (repeat (first | with_reducible exact pin_at (by assumption) | (with_reducible apply pin_at; (first | omega | (simp only [World.size_alloc, pin_size, World.size_drew, World.size_setCell] <;> omega))) | (with_reducible apply alloc_at; first | rfl | (simp only [World.size_alloc, pin_size, World.size_drew, World.size_setCell] <;> omega)) | with_reducible apply past_pin | with_reducible apply past_alloc | with_reducible apply past_drew)); all_goals (first | omega | (simp only [World.size_alloc, pin_size, World.size_drew, World.size_setCell] <;> omega)))
    have HB2 : Hid (Below w.heap.size w x2) := Below.trans (by (repeat (first | with_reducible exact HB1.out | with_reducible refine below_pin ?_ ?_ | with_reducible refine Below.alloc ?_ ?_ _ | with_reducible refine Below.setCell ?_ ?_ _ | with_reducible refine Below.drew ?_)); all_goals (first | omega | (simp only [World.size_alloc, pin_size, World.size_drew, World.size_setCell] <;> omega))) (hc2.mono (by (first | omega | (simp only [World.size_alloc, pin_size, World.size_drew, World.size_setCell] <;> omega))))
    clear hb2 hc2
    try simp only [World.size_alloc, pin_size, World.size_drew, World.size_setCell] at hz2
    go_wp2_with fail
    refine (HRt.out _).mono ?_
    rintro e y3 ⟨rfl, hb3⟩
    obtain ⟨x3, rfl, hc3, hz3, l30, l31⟩ := keep2 (b0 := w.heap.size) (b1 := w.heap.size + 1) hb3 rfl (by (repeat (first | with_reducible exact pin_at (by assumption) | (with_reducible apply pin_at; (first | omega | (simp only [World.size_alloc, pin_size, World.size_drew, World.size_setCell] <;> omega))) | (with_reducible apply alloc_at; first | rfl | (simp only [World.size_alloc, pin_size, World.size_drew, World.size_setCell] <;> omega)) | with_reducible apply past_pin | with_reducible apply past_alloc | with_reducible apply past_drew)); all_goals (first | omega | (simp only [World.size_alloc, pin_size, World.size_drew, World.size_setCell] <;> omega))) (by (repeat (first | with_reducible exact pin_at (by assumption) | (with_reducible apply pin_at; (first | omega | (simp only [World.size_alloc, pin_size, World.size_drew, World.size_setCell] <;> omega))) | (with_reducible apply alloc_at; first | rfl | (simp only [World.size_alloc, pin_size, World.size_drew, World.size_setCell] <;> omega)) | with_reducible apply past_pin | with_reducible apply past_alloc | with_reducible apply past_drew)); all_goals (first | omega | (simp only [World.size_alloc, pin_size, World.size_drew, World.size_setCell] <;> omega)))
    have HB3 : Hid (Below w.heap.size w x3) := Below.trans (by (repeat (first | with_reducible exact HB2.out | with_reducible refine below_pin ?_ ?_ | with_reducible refine Below.alloc ?_ ?_ _ | with_reducible refine Below.setCell ?_ ?_ _ | with_reducible refine Below.drew ?_)); all_goals (first | omega | (simp only [World.size_alloc, pin_size, World.size_drew, World.size_setCell] <;> omega))) (hc3.mono (by (first | omega | (simp only [World.size_alloc, pin_size, World.size_drew, World.size_setCell] <;> omega))))
    clear hb3 hc3
    try simp only [World.size_alloc, pin_size, World.size_drew, World.size_setCell] at hz3
    go_wp2_with fail
    refine start_ (S := Keeps w _) (ds := []) (n := 19) #[false, false, false, false, false, false, false, false, false, false, false, false, false, false, false, false, false, false, false] (by kernel_rfl) rfl rfl (keepsC (b := w.heap.size) (by (repeat (first | with_reducible exact pin_at (by assumption) | (with_reducible apply pin_at; (first | omega | (simp only [World.size_alloc, pin_size, World.size_drew, World.size_setCell] <;> omega))) | (with_reducible apply alloc_at; first | rfl | (simp only [World.size_alloc, pin_size, World.size_drew, World.size_setCell] <;> omega)) | with_reducible apply past_pin | with_reducible apply past_alloc | with_reducible apply past_drew)); all_goals (first | omega | (simp only [World.size_alloc, pin_size, World.size_drew, World.size_setCell] <;> omega))) (keepsC (b := w.heap.size + 1) (by (repeat (first | with_reducible exact pin_at (by assumption) | (with_reducible apply pin_at; (first | omega | (simp only [World.size_alloc, pin_size, World.size_drew, World.size_setCell] <;> omega))) | (with_reducible apply alloc_at; first | rfl | (simp only [World.size_alloc, pin_size, World.size_drew, World.size_setCell] <;> omega)) | with_reducible apply past_pin | with_reducible apply past_alloc | with_reducible apply past_drew)); all_goals (first | omega | (simp only [World.size_alloc, pin_size, World.size_drew, World.size_setCell] <;> omega))) (keepsC (b := x3.heap.size) (by (repeat (first | with_reducible exact pin_at (by assumption) | (with_reducible apply pin_at; (first | omega | (simp only [World.size_alloc, pin_size, World.size_drew, World.size_setCell] <;> omega))) | (with_reducible apply alloc_at; first | rfl | (simp only [World.size_alloc, pin_size, World.size_drew, World.size_setCell] <;> omega)) | with_reducible apply past_pin | with_reducible apply past_alloc | with_reducible apply past_drew)); all_goals (first | omega | (simp only [World.size_alloc, pin_size, World.size_drew, World.size_setCell] <;> omega))) (keeps0 (by (repeat (first | with_reducible exact HB3.out | with_reducible refine below_pin ?_ ?_ | with_reducible refine Below.alloc ?_ ?_ _ | with_reducible refine Below.setCell ?_ ?_ _ | with_reducible refine Below.drew ?_)); all_goals (first | omega | (simp only [World.size_alloc, pin_size, World.size_drew, World.size_setCell] <;> omega))))))) (fun HS => ?_)
    refine take_ #[true, false, false, false, false, false, false, false, false, false, false, false, false, false, false, false, false, false, false] (i := 0) (N := some 18) (v := ?v97) rfl rfl (by kernel_rfl) (fun _ _ _ h => h) (Or.inl ⟨by rfl, ?hy97⟩) HS rfl ?_
    case hy97 => (intro v hv; obtain ⟨x, rfl, _, _, n0, n1, n2⟩ := hv.pin3; go_simp; first | done | with_reducible rfl)
    simp only [Act.put, List.setIfInBounds_toArray, List.set_cons_zero, List.set_cons_succ]
    refine take_ #[true, true, false, false, false, false, false, false, false, false, false, false, false, false, false, false, false, false, false] (i := 1) (N := some 19) (v := ?v98) rfl rfl (by kernel_rfl) (fun _ _ _ h => h) (Or.inl ⟨by rfl, ?hy98⟩) HS rfl ?_
    case hy98 => (intro v hv; obtain ⟨x, rfl, _, _, n0, n1, n2⟩ := hv.pin3; go_simp; first | done | with_reducible rfl)
    simp only [Act.put, List.setIfInBounds_toArray, List.set_cons_zero, List.set_cons_succ]
    refine take_ #[true, true, true, false, false, false, false, false, false, false, false, false, false, false, false, false, false, false, false] (i := 2) (N := some 20) (v := ?v99) rfl rfl (by kernel_rfl) (fun _ _ _ h => h) (Or.inl ⟨by rfl, ?hy99⟩) HS rfl ?_
    case hy99 => (intro v hv; obtain ⟨x, rfl, _, _, n0, n1, n2⟩ := hv.pin3; go_simp; first | done | with_reducible rfl)
    simp only [Act.put, List.setIfInBounds_toArray, List.set_cons_zero, List.set_cons_succ]
    refine take_ #[true, true, true, true, false, false, false, false, false, false, false, false, false, false, false, false, false, false, false] (i := 3) (N := some 21) (v := ?v100) rfl rfl (by kernel_rfl) (fun _ _ _ h => h) (Or.inl ⟨by rfl, ?hy100⟩) HS rfl ?_
    case hy100 => (intro v hv; obtain ⟨x, rfl, _, _, n0, n1, n2⟩ := hv.pin3; go_simp; first | done | with_reducible rfl)
    simp only [Act.put, List.setIfInBounds_toArray, List.set_cons_zero, List.set_cons_succ]
    refine take_ #[true, true, true, true, true, false, false, false, false, false, false, false, false, false, false, false, false, false, false] (i := 4) (N := some 22) (v := ?v101) rfl rfl (by kernel_rfl) (fun _ _ _ h => h) (Or.inl ⟨by rfl, ?hy101⟩) HS rfl ?_
    case hy101 => (intro v hv; obtain ⟨x, rfl, _, _, n0, n1, n2⟩ := hv.pin3; go_simp; first | done | with_reducible rfl)
    simp only [Act.put, List.setIfInBounds_toArray, List.set_cons_zero, List.set_cons_succ]
    refine one_ #[true, true, true, true, true, true, false, false, false, false, false, false, false, false, false, false, false, false, false] (i := 5) (N := some 23) rfl rfl (by kernel_rfl) (by decide) (fun K hK => ?_)
    go_simp
    refine (CSm.out _).mono ?_
    rintro e y ⟨rfl, hb⟩
    refine hK.out _ _ (HS.step hb rfl) ?_
    clear HS hb
    intro HS
    refine take_ #[true, true, true, true, true, true, true, false, false, false, false, false, false, false, false, false, false, false, false] (i := 6) (N := some 24) (v := ?v102) rfl rfl (by kernel_rfl) (fun _ _ _ h => h) (Or.inl ⟨by rfl, ?hy102⟩) HS rfl ?_
    case hy102 => (intro v hv; obtain ⟨x, rfl, _, _, n0, n1, n2⟩ := hv.pin3; go_simp; first | done | with_reducible rfl)
    simp only [Act.put, List.setIfInBounds_toArray, List.set_cons_zero, List.set_cons_succ]
    refine take_ #[true, true, true, true, true, true, true, true, false, false, false, false, false, false, false, false, false, false, false] (i := 7) (N := some 25) (v := ?v103) rfl rfl (by kernel_rfl) (fun _ _ _ h => h) (Or.inl ⟨by rfl, ?hy103⟩) HS rfl ?_
    case hy103 => (intro v hv; obtain ⟨x, rfl, _, _, n0, n1, n2⟩ := hv.pin3; go_simp; first | done | with_reducible rfl)
    simp only [Act.put, List.setIfInBounds_toArray, List.set_cons_zero, List.set_cons_succ]
    refine take_ #[true, true, true, true, true, true, true, true, true, false, false, false, false, false, false, false, false, false, false] (i := 8) (N := some 26) (v := undef) rfl rfl (by kernel_rfl) (fun _ _ _ h => h) (Or.inr ⟨by rfl, rfl⟩) HS rfl ?_
    simp only [Act.put, List.setIfInBounds_toArray, List.set_cons_zero, List.set_cons_succ]
    refine take_ #[true, true, true, true, true, true, true, true, true, true, false, false, false, false, false, false, false, false, false] (i := 9) (N := some 27) (v := undef) rfl rfl (by kernel_rfl) (fun _ _ _ h => h) (Or.inr ⟨by rfl, rfl⟩) HS rfl ?_
    simp only [Act.put, List.setIfInBounds_toArray, List.set_cons_zero, List.set_cons_succ]
    refine take_ #[true, true, true, true, true, true, true, true, true, true, true, false, false, false, false, false, false, false, false] (i := 10) (N := some 28) (v := undef) rfl rfl (by kernel_rfl) (fun _ _ _ h => h) (Or.inr ⟨by rfl, rfl⟩) HS rfl ?_
    simp only [Act.put, List.setIfInBounds_toArray, List.set_cons_zero, List.set_cons_succ]
    refine take_ #[true, true, true, true, true, true, true, true, true, true, true, true, false, false, false, false, false, false, false] (i := 11) (N := some 29) (v := undef) rfl rfl (by kernel_rfl) (fun _ _ _ h => h) (Or.inr ⟨by rfl, rfl⟩) HS rfl ?_
    simp only [Act.put, List.setIfInBounds_toArray, List.set_cons_zero, List.set_cons_succ]
    refine take_ #[true, true, true, true, true, true, true, true, true, true, true, true, true, false, false, false, false, false, false] (i := 12) (N := some 30) (v := undef) rfl rfl (by kernel_rfl) (fun _ _ _ h => h) (Or.inr ⟨by rfl, rfl⟩) HS rfl ?_
    simp only [Act.put, List.setIfInBounds_toArray, List.set_cons_zero, List.set_cons_succ]
    refine take_ #[true, true, true, true, true, true, true, true, true, true, true, true, true, true, false, false, false, false, false] (i := 13) (N := some 31) (v := ?v104) rfl rfl (by kernel_rfl) (fun _ _ _ h => h) (Or.inl ⟨by rfl, ?hy104⟩) HS rfl ?_
    case hy104 => (intro v hv; obtain ⟨x, rfl, _, _, n0, n1, n2⟩ := hv.pin3; go_simp; first | done | with_reducible rfl)
    simp only [Act.put, List.setIfInBounds_toArray, List.set_cons_zero, List.set_cons_succ]
    refine take_ #[true, true, true, true, true, true, true, true, true, true, true, true, true, true, true, false, false, false, false] (i := 14) (N := some 32) (v := ?v105) rfl rfl (by kernel_rfl) (fun _ _ _ h => h) (Or.inl ⟨by rfl, ?hy105⟩) HS rfl ?_
    case hy105 => (intro v hv; obtain ⟨x, rfl, _, _, n0, n1, n2⟩ := hv.pin3; go_simp; first | done | with_reducible rfl)
    simp only [Act.put, List.setIfInBounds_toArray, List.set_cons_zero, List.set_cons_succ]
    refine take_ #[true, true, true, true, true, true, true, true, true, true, true, true, true, true, true, true, false, false, false] (i := 15) (N := some 33) (v := ?v106) rfl rfl (by kernel_rfl) (fun _ _ _ h => h) (Or.inl ⟨by rfl, ?hy106⟩) HS rfl ?_
    case hy106 => (intro v hv; obtain ⟨x, rfl, _, _, n0, n1, n2⟩ := hv.pin3; go_simp; first | done | with_reducible rfl)
    simp only [Act.put, List.setIfInBounds_toArray, List.set_cons_zero, List.set_cons_succ]
    refine take_ #[true, true, true, true, true, true, true, true, true, true, true, true, true, true, true, true, true, false, false] (i := 16) (N := some 34) (v := ?v107) rfl rfl (by kernel_rfl) (fun _ _ _ h => h) (Or.inl ⟨by rfl, ?hy107⟩) HS rfl ?_
    case hy107 => (intro v hv; obtain ⟨x, rfl, _, _, n0, n1, n2⟩ := hv.pin3; go_simp; first | done | with_reducible rfl)
    simp only [Act.put, List.setIfInBounds_toArray, List.set_cons_zero, List.set_cons_succ]
    refine one_ #[true, true, true, true, true, true, true, true, true, true, true, true, true, true, true, true, true, true, false] (i := 17) (N := some 35) rfl rfl (by kernel_rfl) (by decide) (fun K hK => ?_)
    go_simp
    refine (COd.out _).mono ?_
    rintro e y ⟨rfl, hb⟩
    refine hK.out _ _ (HS.step hb rfl) ?_
    clear HS hb
    intro HS
    refine take_ #[true, true, true, true, true, true, true, true, true, true, true, true, true, true, true, true, true, true, true] (i := 18) (N := some 36) (v := ?v108) rfl rfl (by kernel_rfl) (fun _ _ _ h => h) (Or.inl ⟨by rfl, ?hy108⟩) HS rfl ?_
    case hy108 => (intro v hv; obtain ⟨x, rfl, _, _, n0, n1, n2⟩ := hv.pin3; go_simp; first | done | with_reducible rfl)
    simp only [Act.put, List.setIfInBounds_toArray, List.set_cons_zero, List.set_cons_succ]
    obtain ⟨x4, rfl, hk4, hz4, l40, l41, l42⟩ := HS.pin3
    have HB4 : Hid (Below w.heap.size w x4) := hk4.below
    clear HS hk4
    refine done_ (by kernel_rfl) ?_
    go_wp2_with fail
    refine (CZ1.out _).mono ?_
    rintro e y5 ⟨rfl, hb5⟩
    obtain ⟨x5, rfl, hc5, hz5, l50, l51, l52⟩ := keep3 (b0 := w.heap.size) (b1 := w.heap.size + 1) (b2 := x3.heap.size) hb5 rfl (by (repeat (first | with_reducible exact pin_at (by assumption) | (with_reducible apply pin_at; (first | omega | (simp only [World.size_alloc, pin_size, World.size_drew, World.size_setCell] <;> omega))) | (with_reducible apply alloc_at; first | rfl | (simp only [World.size_alloc, pin_size, World.size_drew, World.size_setCell] <;> omega)) | with_reducible apply past_pin | with_reducible apply past_alloc | with_reducible apply past_drew)); all_goals (first | omega | (simp only [World.size_alloc, pin_size, World.size_drew, World.size_setCell] <;> omega))) (by (repeat (first | with_reducible exact pin_at (by assumption) | (with_reducible apply pin_at; (first | omega | (simp only [World.size_alloc, pin_size, World.size_drew, World.size_setCell] <;> omega))) | (with_reducible apply alloc_at; first | rfl | (simp only [World.size_alloc, pin_size, World.size_drew, World.size_setCell] <;> omega)) | with_reducible apply past_pin | with_reducible apply past_alloc | with_reducible apply past_drew)); all_goals (first | omega | (simp only [World.size_alloc, pin_size, World.size_drew, World.size_setCell] <;> omega))) (by (repeat (first | with_reducible exact pin_at (by assumption) | (with_reducible apply pin_at; (first | omega | (simp only [World.size_alloc, pin_size, World.size_drew, World.size_setCell] <;> omega))) | (with_reducible apply alloc_at; first | rfl | (simp only [World.size_alloc, pin_size, World.size_drew, World.size_setCell] <;> omega)) | with_reducible apply past_pin | with_reducible apply past_alloc | with_reducible apply past_drew)); all_goals (first | omega | (simp only [World.size_alloc, pin_size, World.size_drew, World.size_setCell] <;> omega)))
    have HB5 : Hid (Below w.heap.size w x5) := Below.trans (by (repeat (first | with_reducible exact HB4.out | with_reducible refine below_pin ?_ ?_ | with_reducible refine Below.alloc ?_ ?_ _ | with_reducible refine Below.setCell ?_ ?_ _ | with_reducible refine Below.drew ?_)); all_goals (first | omega | (simp only [World.size_alloc, pin_size, World.size_drew, World.size_setCell] <;> omega))) (hc5.mono (by (first | omega | (simp only [World.size_alloc, pin_size, World.size_drew, World.size_setCell] <;> omega))))
    clear hb5 hc5
    try simp only [World.size_alloc, pin_size, World.size_drew, World.size_setCell] at hz5
    go_wp2_with fail
    refine (CZ0.out _).mono ?_
    rintro e y6 ⟨rfl, hb6⟩
    obtain ⟨x6, rfl, hc6, hz6, l60, l61, l62⟩ := keep3 (b0 := w.heap.size) (b1 := w.heap.size + 1) (b2 := x3.heap.size) hb6 rfl (by (repeat (first | with_reducible exact pin_at (by assumption) | (with_reducible apply pin_at; (first | omega | (simp only [World.size_alloc, pin_size, World.size_drew, World.size_setCell] <;> omega))) | (with_reducible apply alloc_at; first | rfl | (simp only [World.size_alloc, pin_size, World.size_drew, World.size_setCell] <;> omega)) | with_reducible apply past_pin | with_reducible apply past_alloc | with_reducible apply past_drew)); all_goals (first | omega | (simp only [World.size_alloc, pin_size, World.size_drew, World.size_setCell] <;> omega))) (by (repeat (first | with_reducible exact pin_at (by assumption) | (with_reducible apply pin_at; (first | omega | (simp only [World.size_alloc, pin_size, World.size_drew, World.size_setCell] <;> omega))) | (with_reducible apply alloc_at; first | rfl | (simp only [World.size_alloc, pin_size, World.size_drew, World.size_setCell] <;> omega)) | with_reducible apply past_pin | with_reducible apply past_alloc | with_reducible apply past_drew)); all_goals (first | omega | (simp only [World.size_alloc, pin_size, World.size_drew, World.size_setCell] <;> omega))) (by (repeat (first | with_reducible exact pin_at (by assumption) | (with_reducible apply pin_at; (first | omega | (simp only [World.size_alloc, pin_size, World.size_drew, World.size_setCell] <;> omega))) | (with_reducible apply alloc_at; first | rfl | (simp only [World.size_alloc, pin_size, World.size_drew, World.size_setCell] <;> omega)) | with_reducible apply past_pin | with_reducible apply past_alloc | with_reducible apply past_drew)); all_goals (first | omega | (simp only [World.size_alloc, pin_size, World.size_drew, World.size_setCell] <;> omega)))
    have HB6 : Hid (Below w.heap.size w x6) := Below.trans (by (repeat (first | with_reducible exact HB5.out | with_reducible refine below_pin ?_ ?_ | with_reducible refine Below.alloc ?_ ?_ _ | with_reducible refine Below.setCell ?_ ?_ _ | with_reducible refine Below.drew ?_)); all_goals (first | omega | (simp only [World.size_alloc, pin_size, World.size_drew, World.size_setCell] <;> omega))) (hc6.mono (by (first | omega | (simp only [World.size_alloc, pin_size, World.size_drew, World.size_setCell] <;> omega))))
    clear hb6 hc6
    try simp only [World.size_alloc, pin_size, World.size_drew, World.size_setCell] at hz6
    go_wp2_with fail
    refine (known_any _).mono ?_
    rintro e y7 ⟨rfl, hb7⟩
    obtain ⟨x7, rfl, hc7, hz7, l70, l71, l72⟩ := keep3 (b0 := w.heap.size) (b1 := w.heap.size + 1) (b2 := x3.heap.size) hb7 rfl (by (repeat (first | with_reducible exact pin_at (by assumption) | (with_reducible apply pin_at; (first | omega | (simp only [World.size_alloc, pin_size, World.size_drew, World.size_setCell] <;> omega))) | (with_reducible apply alloc_at; first | rfl | (simp only [World.size_alloc, pin_size, World.size_drew, World.size_setCell] <;> omega)) | with_reducible apply past_pin | with_reducible apply past_alloc | with_reducible apply past_drew)); all_goals (first | omega | (simp only [World.size_alloc, pin_size, World.size_drew, World.size_setCell] <;> omega))) (by (repeat (first | with_reducible exact pin_at (by assumption) | (with_reducible apply pin_at; (first | omega | (simp only [World.size_alloc, pin_size, World.size_drew, World.size_setCell] <;> omega))) | (with_reducible apply alloc_at; first | rfl | (simp only [World.size_alloc, pin_size, World.size_drew, World.size_setCell] <;> omega)) | with_reducible apply past_pin | with_reducible apply past_alloc | with_reducible apply past_drew)); all_goals (first | omega | (simp only [World.size_alloc, pin_size, World.size_drew, World.size_setCell] <;> omega))) (by (repeat (first | with_reducible exact pin_at (by assumption) | (with_reducible apply pin_at; (first | omega | (simp only [World.size_alloc, pin_size, World.size_drew, World.size_setCell] <;> omega))) | (with_reducible apply alloc_at; first | rfl | (simp only [World.size_alloc, pin_size, World.size_drew, World.size_setCell] <;> omega)) | with_reducible apply past_pin | with_reducible apply past_alloc | with_reducible apply past_drew)); all_goals (first | omega | (simp only [World.size_alloc, pin_size, World.size_drew, World.size_setCell] <;> omega)))
    have HB7 : Hid (Below w.heap.size w x7) := Below.trans (by (repeat (first | with_reducible exact HB6.out | with_reducible refine below_pin ?_ ?_ | with_reducible refine Below.alloc ?_ ?_ _ | with_reducible refine Below.setCell ?_ ?_ _ | with_reducible refine Below.drew ?_)); all_goals (first | omega | (simp only [World.size_alloc, pin_size, World.size_drew, World.size_setCell] <;> omega))) (hc7.mono (by (first | omega | (simp only [World.size_alloc, pin_size, World.size_drew, World.size_setCell] <;> omega))))
    clear hb7 hc7
    try simp only [World.size_alloc, pin_size, World.size_drew, World.size_setCell] at hz7
    go_wp2_with fail
    go_ret
    exact ⟨rfl, (by (repeat (first | with_reducible exact HB7.out | with_reducible refine below_pin ?_ ?_ | with_reducible refine Below.alloc ?_ ?_ _ | with_reducible refine Below.setCell ?_ ?_ _ | with_reducible refine Below.drew ?_)); all_goals (first | omega | (simp only [World.size_alloc, pin_size, World.size_drew, World.size_setCell] <;> omega)))⟩
  · go_enter Try.func12, Try.ntmps12
    go_wp2_with fail
    refine (CSq.out _).mono ?_
    rintro e y1 ⟨rfl, hb1⟩
    obtain ⟨x1, rfl, hc1, hz1, l10, l11⟩ := keep2 (b0 := w.heap.size) (b1 := w.heap.size + 1) hb1 rfl (by (repeat (first | with_reducible exact pin_at (by assumption) | (with_reducible apply pin_at; (first | omega | (simp only [World.size_alloc, pin_size, World.size_drew, World.size_setCell] <;> omega))) | (with_reducible apply alloc_at; first | rfl | (simp only [World.size_alloc, pin_size, World.size_drew, World.size_setCell] <;> omega)) | with_reducible apply past_pin | with_reducible apply past_alloc | with_reducible apply past_drew)); all_goals (first | omega | (simp only [World.size_alloc, pin_size, World.size_drew, World.size_setCell] <;> omega))) (by (repeat (first | with_reducible exact pin_at (by assumption) | (with_reducible apply pin_at; (first | omega | (simp only [World.size_alloc, pin_size, World.size_drew, World.size_setCell] <;> omega))) | (with_reducible apply alloc_at; first | rfl | (simp only [World.size_alloc, pin_size, World.size_drew, World.size_setCell] <;> omega)) | with_reducible apply past_pin | with_reducible apply past_alloc | with_reducible apply past_drew)); all_goals (first | omega | (simp only [World.size_alloc, pin_size, World.size_drew, World.size_setCell] <;> omega)))
    have HB1 : Hid (Below w.heap.size w x1) := Below.trans (by (repeat (first | with_reducible exact (Below.refl _ _) | with_reducible refine below_pin ?_ ?_ | with_reducible refine Below.alloc ?_ ?_ _ | with_reducible refine Below.setCell ?_ ?_ _ | with_reducible refine Below.drew ?_)); all_goals (first | omega | (simp only [World.size_alloc, pin_size, World.size_drew, World.size_setCell] <;> omega))) (hc1.mono (by (first | omega | (simp only [World.size_alloc, pin_size, World.size_drew, World.size_setCell] <;> omega))))
    clear hb1 hc1
    try simp only [World.size_alloc, pin_size, World.size_drew, World.size_setCell] at hz1
    go_wp2_with fail
    refine (Small_any 1 (by decide) _).mono ?_
    rintro e y2 ⟨rfl, hb2⟩
    obtain ⟨x2, rfl, hc2, hz2, l20, l21⟩ := keep2 (b0 := w.heap.size) (b1 := w.heap.size + 1) hb2 rfl (by (repeat (first | with_reducible exact pin_at (by assumption) | (with_reducible apply pin_at; (first | omega | (simp only [World.size_alloc, pin_size, World.size_drew, World.size_setCell] <;> omega))) | (with_reducible apply alloc_at; first | rfl | (simp only [World.size_alloc, pin_size, World.size_drew, World.size_setCell] <;> omega)) | with_reducible apply past_pin | with_reducible apply past_alloc | with_reducible apply past_drew)); all_goals (first | omega | (simp only [World.size_alloc, pin_size, World.size_drew, World.size_setCell] <;> omega))) (by (repeat (first | with_reducible exact pin_at (by assumption) | (with_reducible apply pin_at; (first | omega | (simp only [World.size_alloc, pin_size, World.size_drew, World.size_setCell] <;> omega))) | (with_reducible apply alloc_at; first | rfl | (simp only [World.size_alloc, pin_size, World.size_drew, World.size_setCell] <;> omega)) | with_reducible apply past_pin | with_reducible apply past_alloc | with_reducible apply past_drew)); all_goals (first | omega | (simp only [World.size_alloc, pin_size, World.size_drew, World.size_setCell] <;> omega)))
    have HB2 : Hid (Below w.heap.size w x2) := Below.trans (by (repeat (first | with_reducible exact HB1.out | with_reducible refine below_pin ?_ ?_ | with_reducible refine Below.alloc ?_ ?_ _ | with_reducible refine Below.setCell ?_ ?_ _ | with_reducible refine Below.drew ?_)); all_goals (first | omega | (simp only [World.size_alloc, pin_size, World.size_drew, World.size_setCell] <;> omega))) (hc2.mono (by (first | omega | (simp only [World.size_alloc, pin_size, World.size_drew, World.size_setCell] <;> omega))))
    clear hb2 hc2
    try simp only [World.size_alloc, pin_size, World.size_drew, World.size_setCell] at hz2
    go_wp2_with fail
    refine (HRt.out _).mono ?_
    rintro e y3 ⟨rfl, hb3⟩
    obtain ⟨x3, rfl, hc3, hz3, l30, l31⟩ := keep2 (b0 := w.heap.size) (b1 := w.heap.size + 1) hb3 rfl (by (repeat (first | with_reducible exact pin_at (by assumption) | (with_reducible apply pin_at; (first | omega | (simp only [World.size_alloc, pin_size, World.size_drew, World.size_setCell] <;> omega))) | (with_reducible apply alloc_at; first | rfl | (simp only [World.size_alloc, pin_size, World.size_drew, World.size_setCell] <;> omega)) | with_reducible apply past_pin | with_reducible apply past_alloc | with_reducible apply past_drew)); all_goals (first | omega | (simp only [World.size_alloc, pin_size, World.size_drew, World.size_setCell] <;> omega))) (by (repeat (first | with_reducible exact pin_at (by assumption) | (with_reducible apply pin_at; (first | omega | (simp only [World.size_alloc, pin_size, World.size_drew, World.size_setCell] <;> omega))) | (with_reducible apply alloc_at; first | rfl | (simp only [World.size_alloc, pin_size, World.size_drew, World.size_setCell] <;> omega)) | with_reducible apply past_pin | with_reducible apply past_alloc | with_reducible apply past_drew)); all_goals (first | omega | (simp only [World.size_alloc, pin_size, World.size_drew, World.size_setCell] <;> omega)))
    have HB3 : Hid (Below w.heap.size w x3) := Below.trans (by (repeat (first | with_reducible exact HB2.out | with_reducible refine below_pin ?_ ?_ | with_reducible refine Below.alloc ?_ ?_ _ | with_reducible refine Below.setCell ?_ ?_ _ | with_reducible refine Below.drew ?_)); all_goals (first | omega | (simp only [World.size_alloc, pin_size, World.size_drew, World.size_setCell] <;> omega))) (hc3.mono (by (first | omega | (simp only [World.size_alloc, pin_size, World.size_drew, World.size_setCell] <;> omega))))
    clear hb3 hc3
    try simp only [World.size_alloc, pin_size, World.size_drew, World.size_setCell] at hz3
    go_wp2_with fail
    refine start_ (S := Keeps w _) (ds := []) (n := 19) #[false, false, false, false, false, false, false, false, false, false, false, false, false, false, false, false, false, false, false] (by kernel_rfl) rfl rfl (keepsC (b := w.heap.size) (by (repeat (first | with_reducible exact pin_at (by assumption) | (with_reducible apply pin_at; (first | omega | (simp only [World.size_alloc, pin_size, World.size_drew, World.size_setCell] <;> omega))) | (with_reducible apply alloc_at; first | rfl | (simp only [World.size_alloc, pin_size, World.size_drew, World.size_setCell] <;> omega)) | with_reducible apply past_pin | with_reducible apply past_alloc | with_reducible apply past_drew)); all_goals (first | omega | (simp only [World.size_alloc, pin_size, World.size_drew, World.size_setCell] <;> omega))) (keepsC (b := w.heap.size + 1) (by (repeat (first | with_reducible exact pin_at (by assumption) | (with_reducible apply pin_at; (first | omega | (simp only [World.size_alloc, pin_size, World.size_drew, World.size_setCell] <;> omega))) | (with_reducible apply alloc_at; first | rfl | (simp only [World.size_alloc, pin_size, World.size_drew, World.size_setCell] <;> omega)) | with_reducible apply past_pin | with_reducible apply past_alloc | with_reducible apply past_drew)); all_goals (first | omega | (simp only [World.size_alloc, pin_size, World.size_drew, World.size_setCell] <;> omega))) (keepsC (b := x3.heap.size) (by (repeat (first | with_reducible exact pin_at (by assumption) | (with_reducible apply pin_at; (first | omega | (simp only [World.size_alloc, pin_size, World.size_drew, World.size_setCell] <;> omega))) | (with_reducible apply alloc_at; first | rfl | (simp only [World.size_alloc, pin_size, World.size_drew, World.size_setCell] <;> omega)) | with_reducible apply past_pin | with_reducible apply past_alloc | with_reducible apply past_drew)); all_goals (first | omega | (simp only [World.size_alloc, pin_size, World.size_drew, World.size_setCell] <;> omega))) (keeps0 (by (repeat (first | with_reducible exact HB3.out | with_reducible refine below_pin ?_ ?_ | with_reducible refine Below.alloc ?_ ?_ _ | with_reducible refine Below.setCell ?_ ?_ _ | with_reducible refine Below.drew ?_)); all_goals (first | omega | (simp only [World.size_alloc, pin_size, World.size_drew, World.size_setCell] <;> omega))))))) (fun HS => ?_)
    refine take_ #[true, false, false, false, false, false, false, false, false, false, false, false, false, false, false, false, false, false, false] (i := 0) (N := some 18) (v := ?v109) rfl rfl (by kernel_rfl) (fun _ _ _ h => h) (Or.inl ⟨by rfl, ?hy109⟩) HS rfl ?_
    case hy109 => (intro v hv; obtain ⟨x, rfl, _, _, n0, n1, n2⟩ := hv.pin3; go_simp; first | done | with_reducible rfl)
    simp only [Act.put, List.setIfInBounds_toArray, List.set_cons_zero, List.set_cons_succ]
    refine take_ #[true, true, false, false, false, false, false, false, false, false, false, false, false, false, false, false, false, false, false] (i := 1) (N := some 19) (v := ?v110) rfl rfl (by kernel_rfl) (fun _ _ _ h => h) (Or.inl ⟨by rfl, ?hy110⟩) HS rfl ?_
    case hy110 => (intro v hv; obtain ⟨x, rfl, _, _, n0, n1, n2⟩ := hv.pin3; go_simp; first | done | with_reducible rfl)
    simp only [Act.put, List.setIfInBounds_toArray, List.set_cons_zero, List.set_cons_succ]
    refine take_ #[true, true, true, false, false, false, false, false, false, false, false, false, false, false, false, false, false, false, false] (i := 2) (N := some 20) (v := ?v111) rfl rfl (by kernel_rfl) (fun _ _ _ h => h) (Or.inl ⟨by rfl, ?hy111⟩) HS rfl ?_
    case hy111 => (intro v hv; obtain ⟨x, rfl, _, _, n0, n1, n2⟩ := hv.pin3; go_simp; first | done | with_reducible rfl)
    simp only [Act.put, List.setIfInBounds_toArray, List.set_cons_zero, List.set_cons_succ]
    refine take_ #[true, true, true, true, false, false, false, false, false, false, false, false, false, false, false, false, false, false, false] (i := 3) (N := some 21) (v := ?v112) rfl rfl (by kernel_rfl) (fun _ _ _ h => h) (Or.inl ⟨by rfl, ?hy112⟩) HS rfl ?_
    case hy112 => (intro v hv; obtain ⟨x, rfl, _, _, n0, n1, n2⟩ := hv.pin3; go_simp; first | done | with_reducible rfl)
    simp only [Act.put, List.setIfInBounds_toArray, List.set_cons_zero, List.set_cons_succ]
    refine take_ #[true, true, true, true, true, false, false, false, false, false, false, false, false, false, false, false, false, false, false] (i := 4) (N := some 22) (v := ?v113) rfl rfl (by kernel_rfl) (fun _ _ _ h => h) (Or.inl ⟨by rfl, ?hy113⟩) HS rfl ?_
    case hy113 => (intro v hv; obtain ⟨x, rfl, _, _, n0, n1, n2⟩ := hv.pin3; go_simp; first | done | with_reducible rfl)
    simp only [Act.put, List.setIfInBounds_toArray, List.set_cons_zero, List.set_cons_succ]
    refine one_ #[true, true, true, true, true, true, false, false, false, false, false, false, false, false, false, false, false, false, false] (i := 5) (N := some 23) rfl rfl (by kernel_rfl) (by decide) (fun K hK => ?_)
    go_simp
    refine (CSm.out _).mono ?_
    rintro e y ⟨rfl, hb⟩
    refine hK.out _ _ (HS.step hb rfl) ?_
    clear HS hb
    intro HS
    refine take_ #[true, true, true, true, true, true, true, false, false, false, false, false, false, false, false, false, false, false, false] (i := 6) (N := some 24) (v := ?v114) rfl rfl (by kernel_rfl) (fun _ _ _ h => h) (Or.inl ⟨by rfl, ?hy114⟩) HS rfl ?_
    case hy114 => (intro v hv; obtain ⟨x, rfl, _, _, n0, n1, n2⟩ := hv.pin3; go_simp; first | done | with_reducible rfl)
    simp only [Act.put, List.setIfInBounds_toArray, List.set_cons_zero, List.set_cons_succ]
    refine take_ #[true, true, true, true, true, true, true, true, false, false, false, false, false, false, false, false, false, false, false] (i := 7) (N := some 25) (v := ?v115) rfl rfl (by kernel_rfl) (fun _ _ _ h => h) (Or.inl ⟨by rfl, ?hy115⟩) HS rfl ?_
    case hy115 => (intro v hv; obtain ⟨x, rfl, _, _, n0, n1, n2⟩ := hv.pin3; go_simp; first | done | with_reducible rfl)
    simp only [Act.put, List.setIfInBounds_toArray, List.set_cons_zero, List.set_cons_succ]
    refine take_ #[true, true, true, true, true, true, true, true, true, false, false, false, false, false, false, false, false, false, false] (i := 8) (N := some 26) (v := undef) rfl rfl (by kernel_rfl) (fun _ _ _ h => h) (Or.inr ⟨by rfl, rfl⟩) HS rfl ?_
    simp only [Act.put, List.setIfInBounds_toArray, List.set_cons_zero, List.set_cons_succ]
    refine take_ #[true, true, true, true, true, true, true, true, true, true, false, false, false, false, false, false, false, false, false] (i := 9) (N := some 27) (v := undef) rfl rfl (by kernel_rfl) (fun _ _ _ h => h) (Or.inr ⟨by rfl, rfl⟩) HS rfl ?_
    simp only [Act.put, List.setIfInBounds_toArray, List.set_cons_zero, List.set_cons_succ]
    refine take_ #[true, true, true, true, true, true, true, true, true, true, true, false, false, false, false, false, false, false, false] (i := 10) (N := some 28) (v := undef) rfl rfl (by kernel_rfl) (fun _ _ _ h => h) (Or.inr ⟨by rfl, rfl⟩) HS rfl ?_
    simp only [Act.put, List.setIfInBounds_toArray, List.set_cons_zero, List.set_cons_succ]
    refine take_ #[true, true, true, true, true, true, true, true, true, true, true, true, false, false, false, false, false, false, false] (i := 11) (N := some 29) (v := undef) rfl rfl (by kernel_rfl) (fun _ _ _ h => h) (Or.inr ⟨by rfl, rfl⟩) HS rfl ?_
    simp only [Act.put, List.setIfInBounds_toArray, List.set_cons_zero, List.set_cons_succ]
    refine take_ #[true, true, true, true, true, true, true, true, true, true, true, true, true, false, false, false, false, false, false] (i := 12) (N := some 30) (v := undef) rfl rfl (by kernel_rfl) (fun _ _ _ h => h) (Or.inr ⟨by rfl, rfl⟩) HS rfl ?_
    simp only [Act.put, List.setIfInBounds_toArray, List.set_cons_zero, List.set_cons_succ]
    refine take_ #[true, true, true, true, true, true, true, true, true, true, true, true, true, true, false, false, false, false, false] (i := 13) (N := some 31) (v := ?v116) rfl rfl (by kernel_rfl) (fun _ _ _ h => h) (Or.inl ⟨by rfl, ?hy116⟩) HS rfl ?_
    case hy116 => (intro v hv; obtain ⟨x, rfl, _, _, n0, n1, n2⟩ := hv.pin3; go_simp; first | done | with_reducible rfl)
    simp only [Act.put, List.setIfInBounds_toArray, List.set_cons_zero, List.set_cons_succ]
    refine take_ #[true, true, true, true, true, true, true, true, true, true, true, true, true, true, true, false, false, false, false] (i := 14) (N := some 32) (v := ?v117) rfl rfl (by kernel_rfl) (fun _ _ _ h => h) (Or.inl ⟨by rfl, ?hy117⟩) HS rfl ?_
    case hy117 => (intro v hv; obtain ⟨x, rfl, _, _, n0, n1, n2⟩ := hv.pin3; go_simp; first | done | with_reducible rfl)
    simp only [Act.put, List.setIfInBounds_toArray, List.set_cons_zero, List.set_cons_succ]
    refine take_ #[true, true, true, true, true, true, true, true, true, true, true, true, true, true, true, true, false, false, false] (i := 15) (N := some 33) (v := ?v118) rfl rfl (by kernel_rfl) (fun _ _ _ h => h) (Or.inl ⟨by rfl, ?hy118⟩) HS rfl ?_
    case hy118 => (intro v hv; obtain ⟨x, rfl, _, _, n0, n1, n2⟩ := hv.pin3; go_simp; first | done | with_reducible rfl)
    simp only [Act.put, List.setIfInBounds_toArray, List.set_cons_zero, List.set_cons_succ]
    refine take_ #[true, true, true, true, true, true, true, true, true, true, true, true, true, true, true, true, true, false, false] (i := 16) (N := some 34) (v := ?v119) rfl rfl (by kernel_rfl) (fun _ _ _ h => h) (Or.inl ⟨by rfl, ?hy119⟩) HS rfl ?_
    case hy119 => (intro v hv; obtain ⟨x, rfl, _, _, n0, n1, n2⟩ := hv.pin3; go_simp; first | done | with_reducible rfl)
    simp only [Act.put, List.setIfInBounds_toArray, List.set_cons_zero, List.set_cons_succ]
    refine one_ #[true, true, true, true, true, true, true, true, true, true, true, true, true, true, true, true, true, true, false] (i := 17) (N := some 35) rfl rfl (by kernel_rfl) (by decide) (fun K hK => ?_)
    go_simp
    refine (COd.out _).mono ?_
    rintro e y ⟨rfl, hb⟩
    refine hK.out _ _ (HS.step hb rfl) ?_
    clear HS hb
    intro HS
    refine take_ #[true, true, true, true, true, true, true, true, true, true, true, true, true, true, true, true, true, true, true] (i := 18) (N := some 36) (v := ?v120) rfl rfl (by kernel_rfl) (fun _ _ _ h => h) (Or.inl ⟨by rfl, ?hy120⟩) HS rfl ?_
    case hy120 => (intro v hv; obtain ⟨x, rfl, _, _, n0, n1, n2⟩ := hv.pin3; go_simp; first | done | with_reducible rfl)
    simp only [Act.put, List.setIfInBounds_toArray, List.set_cons_zero, List.set_cons_succ]
    obtain ⟨x4, rfl, hk4, hz4, l40, l41, l42⟩ := HS.pin3
    have HB4 : Hid (Below w.heap.size w x4) := hk4.below
    clear HS hk4
    refine done_ (by kernel_rfl) ?_
    go_wp2_with fail
    refine (CZ1.out _).mono ?_
    rintro e y5 ⟨rfl, hb5⟩
    obtain ⟨x5, rfl, hc5, hz5, l50, l51, l52⟩ := keep3 (b0 := w.heap.size) (b1 := w.heap.size + 1) (b2 := x3.heap.size) hb5 rfl (by (repeat (first | with_reducible exact pin_at (by assumption) | (with_reducible apply pin_at; (first | omega | (simp only [World.size_alloc, pin_size, World.size_drew, World.size_setCell] <;> omega))) | (with_reducible apply alloc_at; first | rfl | (simp only [World.size_alloc, pin_size, World.size_drew, World.size_setCell] <;> omega)) | with_reducible apply past_pin | with_reducible apply past_alloc | with_reducible apply past_drew)); all_goals (first | omega | (simp only [World.size_alloc, pin_size, World.size_drew, World.size_setCell] <;> omega))) (by (repeat (first | with_reducible exact pin_at (by assumption) | (with_reducible apply pin_at; (first | omega | (simp only [World.size_alloc, pin_size, World.size_drew, World.size_setCell] <;> omega))) | (with_reducible apply alloc_at; first | rfl | (simp only [World.size_alloc, pin_size, World.size_drew, World.size_setCell] <;> omega)) | with_reducible apply past_pin | with_reducible apply past_alloc | with_reducible apply past_drew)); all_goals (first | omega | (simp only [World.size_alloc, pin_size, World.size_drew, World.size_setCell] <;> omega))) (by (repeat (first | with_reducible exact pin_at (by assumption) | (with_reducible apply pin_at; (first | omega | (simp only [World.size_alloc, pin_size, World.size_drew, World.size_setCell] <;> omega))) | (with_reducible apply alloc_at; first | rfl | (simp only [World.size_alloc, pin_size, World.size_drew, World.size_setCell] <;> omega)) | with_reducible apply past_pin | with_reducible apply past_alloc | with_reducible apply past_drew)); all_goals (first | omega | (simp only [World.size_alloc, pin_size, World.size_drew, World.size_setCell] <;> omega)))
    have HB5 : Hid (Below w.heap.size w x5) := Below.trans (by (repeat (first | with_reducible exact HB4.out | with_reducible refine below_pin ?_ ?_ | with_reducible refine Below.alloc ?_ ?_ _ | with_reducible refine Below.setCell ?_ ?_ _ | with_reducible refine Below.drew ?_)); all_goals (first | omega | (simp only [World.size_alloc, pin_size, World.size_drew, World.size_setCell] <;> omega))) (hc5.mono (by (first | omega | (simp only [World.size_alloc, pin_size, World.size_drew, World.size_setCell] <;> omega))))
    clear hb5 hc5
    try simp only [World.size_alloc, pin_size, World.size_drew, World.size_setCell] at hz5
    go_wp2_with fail
    refine (known_any _).mono ?_
    rintro e y6 ⟨rfl, hb6⟩
    obtain ⟨x6, rfl, hc6, hz6, l60, l61, l62⟩ := keep3 (b0 := w.heap.size) (b1 := w.heap.size + 1) (b2 := x3.heap.size) hb6 rfl (by (repeat (first | with_reducible exact pin_at (by assumption) | (with_reducible apply pin_at; (first | omega | (simp only [World.size_alloc, pin_size, World.size_drew, World.size_setCell] <;> omega))) | (with_reducible apply alloc_at; first | rfl | (simp only [World.size_alloc, pin_size, World.size_drew, World.size_setCell] <;> omega)) | with_reducible apply past_pin | with_reducible apply past_alloc | with_reducible apply past_drew)); all_goals (first | omega | (simp only [World.size_alloc, pin_size, World.size_drew, World.size_setCell] <;> omega))) (by (repeat (first | with_reducible exact pin_at (by assumption) | (with_reducible apply pin_at; (first | omega | (simp only [World.size_alloc, pin_size, World.size_drew, World.size_setCell] <;> omega))) | (with_reducible apply alloc_at; first | rfl | (simp only [World.size_alloc, pin_size, World.size_drew, World.size_setCell] <;> omega)) | with_reducible apply past_pin | with_reducible apply past_alloc | with_reducible apply past_drew)); all_goals (first | omega | (simp only [World.size_alloc, pin_size, World.size_drew, World.size_setCell] <;> omega))) (by (repeat (first | with_reducible exact pin_at (by assumption) | (with_reducible apply pin_at; (first | omega | (simp only [World.size_alloc, pin_size, World.size_drew, World.size_setCell] <;> omega))) | (with_reducible apply alloc_at; first | rfl | (simp only [World.size_alloc, pin_size, World.size_drew, World.size_setCell] <;> omega)) | with_reducible apply past_pin | with_reducible apply past_alloc | with_reducible apply past_drew)); all_goals (first | omega | (simp only [World.size_alloc, pin_size, World.size_drew, World.size_setCell] <;> omega)))
    have HB6 : Hid (Below w.heap.size w x6) := Below.trans (by (repeat (first | with_reducible exact HB5.out | with_reducible refine below_pin ?_ ?_ | with_reducible refine Below.alloc ?_ ?_ _ | with_reducible refine Below.setCell ?_ ?_ _ | with_reducible refine Below.drew ?_)); all_goals (first | omega | (simp only [World.size_alloc, pin_size, World.size_drew, World.size_setCell] <;> omega))) (hc6.mono (by (first | omega | (simp only [World.size_alloc, pin_size, World.size_drew, World.size_setCell] <;> omega))))
    clear hb6 hc6
    try simp only [World.size_alloc, pin_size, World.size_drew, World.size_setCell] at hz6
    go_wp2_with fail
    go_ret
    exact ⟨rfl, (by (repeat (first | with_reducible exact HB6.out | with_reducible refine below_pin ?_ ?_ | with_reducible refine Below.alloc ?_ ?_ _ | with_reducible refine Below.setCell ?_ ?_ _ | with_reducible refine Below.drew ?_)); all_goals (first | omega | (simp only [World.size_alloc, pin_size, World.size_drew, World.size_setCell] <;> omega)))⟩
  · go_enter Try.func12, Try.ntmps12
    go_wp2_with fail
    refine (CSq.out _).mono ?_
    rintro e y1 ⟨rfl, hb1⟩
    obtain ⟨x1, rfl, hc1, hz1, l10, l11⟩ := keep2 (b0 := w.heap.size) (b1 := w.heap.size + 1) hb1 rfl (by (repeat (first | with_reducible exact pin_at (by assumption) | (with_reducible apply pin_at; (first | omega | (simp only [World.size_alloc, pin_size, World.size_drew, World.size_setCell] <;> omega))) | (with_reducible apply alloc_at; first | rfl | (simp only [World.size_alloc, pin_size, World.size_drew, World.size_setCell] <;> omega)) | with_reducible apply past_pin | with_reducible apply past_alloc | with_reducible apply past_drew)); all_goals (first | omega | (simp only [World.size_alloc, pin_size, World.size_drew, World.size_setCell] <;> omega))) (by (repeat (first | with_reducible exact pin_at (by assumption) | (with_reducible apply pin_at; (first | omega | (simp only [World.size_alloc, pin_size, World.size_drew, World.size_setCell] <;> omega))) | (with_reducible apply alloc_at; first | rfl | (simp only [World.size_alloc, pin_size, World.size_drew, World.size_setCell] <;> omega)) | with_reducible apply past_pin | with_reducible apply past_alloc | with_reducible apply past_drew)); all_goals (first | omega | (simp only [World.size_alloc, pin_size, World.size_drew, World.size_setCell] <;> omega)))
    have HB1 : Hid (Below w.heap.size w x1) := Below.trans (by (repeat (first | with_reducible exact (Below.refl _ _) | with_reducible refine below_pin ?_ ?_ | with_reducible refine Below.alloc ?_ ?_ _ | with_reducible refine Below.setCell ?_ ?_ _ | with_reducible refine Below.drew ?_)); all_goals (first | omega | (simp only [World.size_alloc, pin_size, World.size_drew, World.size_setCell] <;> omega))) (hc1.mono (by (first | omega | (simp only [World.size_alloc, pin_size, World.size_drew, World.size_setCell] <;> omega))))
    clear hb1 hc1
    try simp only [World.size_alloc, pin_size, World.size_drew, World.size_setCell] at hz1
    go_wp2_with fail
    refine (Small_any 1 (by decide) _).mono ?_
    rintro e y2 ⟨rfl, hb2⟩
    obtain ⟨x2, rfl, hc2, hz2, l20, l21⟩ := keep2 (b0 := w.heap.size) (b1 := w.heap.size + 1) hb2 rfl (by (repeat (first | with_reducible exact pin_at (by assumption) | (with_reducible apply pin_at; (first | omega | (simp only [World.size_alloc, pin_size, World.size_drew, World.size_setCell] <;> omega))) | (with_reducible apply alloc_at; first | rfl | (simp only [World.size_alloc, pin_size, World.size_drew, World.size_setCell] <;> omega)) | with_reducible apply past_pin | with_reducible apply past_alloc | with_reducible apply past_drew)); all_goals (first | omega | (simp only [World.size_alloc, pin_size, World.size_drew, World.size_setCell] <;> omega))) (by (repeat (first | with_reducible exact pin_at (by assumption) | (with_reducible apply pin_at; (first | omega | (simp only [World.size_alloc, pin_size, World.size_drew, World.size_setCell] <;> omega))) | (with_reducible apply alloc_at; first | rfl | (simp only [World.size_alloc, pin_size, World.size_drew, World.size_setCell] <;> omega)) | with_reducible apply past_pin | with_reducible apply past_alloc | with_reducible apply past_drew)); all_goals (first | omega | (simp only [World.size_alloc, pin_size, World.size_drew, World.size_setCell] <;> omega)))
    have HB2 : Hid (Below w.heap.size w x2) := Below.trans (by (repeat (first | with_reducible exact HB1.out | with_reducible refine below_pin ?_ ?_ | with_reducible refine Below.alloc ?_ ?_ _ | with_reducible refine Below.setCell ?_ ?_ _ | with_reducible refine Below.drew ?_)); all_goals (first | omega | (simp only [World.size_alloc, pin_size, World.size_drew, World.size_setCell] <;> omega))) (hc2.mono (by (first | omega | (simp only [World.size_alloc, pin_size, World.size_drew, World.size_setCell] <;> omega))))
    clear hb2 hc2
    try simp only [World.size_alloc, pin_size, World.size_drew, World.size_setCell] at hz2
    go_wp2_with fail
    refine (HRt.out _).mono ?_
    rintro e y3 ⟨rfl, hb3⟩
    obtain ⟨x3, rfl, hc3, hz3, l30, l31⟩ := keep2 (b0 := w.heap.size) (b1 := w.heap.size + 1) hb3 rfl (by (repeat (first | with_reducible exact pin_at (by assumption) | (with_reducible apply pin_at; (first | omega | (simp only [World.size_alloc, pin_size, World.size_drew, World.size_setCell] <;> omega))) | (with_reducible apply alloc_at; first | rfl | (simp only [World.size_alloc, pin_size, World.size_drew, World.size_setCell] <;> omega)) | with_reducible apply past_pin | with_reducible apply past_alloc | with_reducible apply past_drew)); all_goals (first | omega | (simp only [World.size_alloc, pin_size, World.size_drew, World.size_setCell] <;> omega))) (by (repeat (first | with_reducible exact pin_at (by assumption) | (with_reducible apply pin_at; (first | omega | (simp only [World.size_alloc, pin_size, World.size_drew, World.size_setCell] <;> omega))) | (with_reducible apply alloc_at; first | rfl | (simp only [World.size_alloc, pin_size, World.size_drew, World.size_setCell] <;> omega)) | with_reducible apply past_pin | with_reducible apply past_alloc | with_reducible apply past_drew)); all_goals (first | omega | (simp only [World.size_alloc, pin_size, World.size_drew, World.size_setCell] <;> omega)))
    have HB3 : Hid (Below w.heap.size w x3) := Below.trans (by (repeat (first | with_reducible exact HB2.out | with_reducible refine below_pin ?_ ?_ | with_reducible refine Below.alloc ?_ ?_ _ | with_reducible refine Below.setCell ?_ ?_ _ | with_reducible refine Below.drew ?_)); all_goals (first | omega | (simp only [World.size_alloc, pin_size, World.size_drew, World.size_setCell] <;> omega))) (hc3.mono (by (first | omega | (simp only [World.size_alloc, pin_size, World.size_drew, World.size_setCell] <;> omega))))
    clear hb3 hc3
    try simp only [World.size_alloc, pin_size, World.size_drew, World.size_setCell] at hz3
    go_wp2_with fail
    refine start_ (S := Keeps w _) (ds := []) (n := 19) #[false, false, false, false, false, false, false, false, false, false, false, false, false, false, false, false, false, false, false] (by kernel_rfl) rfl rfl (keepsC (b := w.heap.size) (by (repeat (first | with_reducible exact pin_at (by assumption) | (with_reducible apply pin_at; (first | omega | (simp only [World.size_alloc, pin_size, World.size_drew, World.size_setCell] <;> omega))) | (with_reducible apply alloc_at; first | rfl | (simp only [World.size_alloc, pin_size, World.size_drew, World.size_setCell] <;> omega)) | with_reducible apply past_pin | with_reducible apply past_alloc | with_reducible apply past_drew)); all_goals (first | omega | (simp only [World.size_alloc, pin_size, World.size_drew, World.size_setCell] <;> omega))) (keepsC (b := w.heap.size + 1) (by (repeat (first | with_reducible exact pin_at (by assumption) | (with_reducible apply pin_at; (first | omega | (simp only [World.size_alloc, pin_size, World.size_drew, World.size_setCell] <;> omega))) | (with_reducible apply alloc_at; first | rfl | (simp only [World.size_alloc, pin_size, World.size_drew, World.size_setCell] <;> omega)) | with_reducible apply past_pin | with_reducible apply past_alloc | with_reducible apply past_drew)); all_goals (first | omega | (simp only [World.size_alloc, pin_size, World.size_drew, World.size_setCell] <;> omega))) (keepsC (b := x3.heap.size) (by (repeat (first | with_reducible exact pin_at (by assumption) | (with_reducible apply pin_at; (first | omega | (simp only [World.size_alloc, pin_size, World.size_drew, World.size_setCell] <;> omega))) | (with_reducible apply alloc_at; first | rfl | (simp only [World.size_alloc, pin_size, World.size_drew, World.size_setCell] <;> omega)) | with_reducible apply past_pin | with_reducible apply past_alloc | with_reducible apply past_drew)); all_goals (first | omega | (simp only [World.size_alloc, pin_size, World.size_drew, World.size_setCell] <;> omega))) (keeps0 (by (repeat (first | with_reducible exact HB3.out | with_reducible refine below_pin ?_ ?_ | with_reducible refine Below.alloc ?_ ?_ _ | with_reducible refine Below.setCell ?_ ?_ _ | with_reducible refine Below.drew ?_)); all_goals (first | omega | (simp only [World.size_alloc, pin_size, World.size_drew, World.size_setCell] <;> omega))))))) (fun HS => ?_)
    refine take_ #[true, false, false, false, false, false, false, false, false, false, false, false, false, false, false, false, false, false, false] (i := 0) (N := some 18) (v := ?v121) rfl rfl (by kernel_rfl) (fun _ _ _ h => h) (Or.inl ⟨by rfl, ?hy121⟩) HS rfl ?_
    case hy121 => (intro v hv; obtain ⟨x, rfl, _, _, n0, n1, n2⟩ := hv.pin3; go_simp; first | done | with_reducible rfl)
    simp only [Act.put, List.setIfInBounds_toArray, List.set_cons_zero, List.set_cons_succ]
    refine take_ #[true, true, false, false, false, false, false, false, false, false, false, false, false, false, false, false, false, false, false] (i := 1) (N := some 19) (v := ?v122) rfl rfl (by kernel_rfl) (fun _ _ _ h => h) (Or.inl ⟨by rfl, ?hy122⟩) HS rfl ?_
    case hy122 => (intro v hv; obtain ⟨x, rfl, _, _, n0, n1, n2⟩ := hv.pin3; go_simp; first | done | with_reducible rfl)
    simp only [Act.put, List.setIfInBounds_toArray, List.set_cons_zero, List.set_cons_succ]
    refine take_ #[true, true, true, false, false, false, false, false, false, false, false, false, false, false, false, false, false, false, false] (i := 2) (N := some 20) (v := ?v123) rfl rfl (by kernel_rfl) (fun _ _ _ h => h) (Or.inl ⟨by rfl, ?hy123⟩) HS rfl ?_
    case hy123 => (intro v hv; obtain ⟨x, rfl, _, _, n0, n1, n2⟩ := hv.pin3; go_simp; first | done | with_reducible rfl)
    simp only [Act.put, List.setIfInBounds_toArray, List.set_cons_zero, List.set_cons_succ]
    refine take_ #[true, true, true, true, false, false, false, false, false, false, false, false, false, false, false, false, false, false, false] (i := 3) (N := some 21) (v := ?v124) rfl rfl (by kernel_rfl) (fun _ _ _ h => h) (Or.inl ⟨by rfl, ?hy124⟩) HS rfl ?_
    case hy124 => (intro v hv; obtain ⟨x, rfl, _, _, n0, n1, n2⟩ := hv.pin3; go_simp; first | done | with_reducible rfl)
    simp only [Act.put, List.setIfInBounds_toArray, List.set_cons_zero, List.set_cons_succ]
    refine take_ #[true, true, true, true, true, false, false, false, false, false, false, false, false, false, false, false, false, false, false] (i := 4) (N := some 22) (v := ?v125) rfl rfl (by kernel_rfl) (fun _ _ _ h => h) (Or.inl ⟨by rfl, ?hy125⟩) HS rfl ?_
    case hy125 => (intro v hv; obtain ⟨x, rfl, _, _, n0, n1, n2⟩ := hv.pin3; go_simp; first | done | with_reducible rfl)
    simp only [Act.put, List.setIfInBounds_toArray, List.set_cons_zero, List.set_cons_succ]
    refine one_ #[true, true, true, true, true, true, false, false, false, false, false, false, false, false, false, false, false, false, false] (i := 5) (N := some 23) rfl rfl (by kernel_rfl) (by decide) (fun K hK => ?_)
    go_simp
    refine (CSm.out _).mono ?_
    rintro e y ⟨rfl, hb⟩
    refine hK.out _ _ (HS.step hb rfl) ?_
    clear HS hb
    intro HS
    refine take_ #[true, true, true, true, true, true, true, false, false, false, false, false, false, false, false, false, false, false, false] (i := 6) (N := some 24) (v := ?v126) rfl rfl (by kernel_rfl) (fun _ _ _ h => h) (Or.inl ⟨by rfl, ?hy126⟩) HS rfl ?_
    case hy126 => (intro v hv; obtain ⟨x, rfl, _, _, n0, n1, n2⟩ := hv.pin3; go_simp; first | done | with_reducible rfl)
    simp only [Act.put, List.setIfInBounds_toArray, List.set_cons_zero, List.set_cons_succ]
    refine take_ #[true, true, true, true, true, true, true, true, false, false, false, false, false, false, false, false, false, false, false] (i := 7) (N := some 25) (v := ?v127) rfl rfl (by kernel_rfl) (fun _ _ _ h => h) (Or.inl ⟨by rfl, ?hy127⟩) HS rfl ?_
    case hy127 => (intro v hv; obtain ⟨x, rfl, _, _, n0, n1, n2⟩ := hv.pin3; go_simp; first | done | with_reducible rfl)
    simp only [Act.put, List.setIfInBounds_toArray, List.set_cons_zero, List.set_cons_succ]
    refine take_ #[true, true, true, true, true, true, true, true, true, false, false, false, false, false, false, false, false, false, false] (i := 8) (N := some 26) (v := undef) rfl rfl (by kernel_rfl) (fun _ _ _ h => h) (Or.inr ⟨by rfl, rfl⟩) HS rfl ?_
    simp only [Act.put, List.setIfInBounds_toArray, List.set_cons_zero, List.set_cons_succ]
    refine take_ #[true, true, true, true, true, true, true, true, true, true, false, false, false, false, false, false, false, false, false] (i := 9) (N := some 27) (v := undef) rfl rfl (by kernel_rfl) (fun _ _ _ h => h) (Or.inr ⟨by rfl, rfl⟩) HS rfl ?_
    simp only [Act.put, List.setIfInBounds_toArray, List.set_cons_zero, List.set_cons_succ]
    refine take_ #[true, true, true, true, true, true, true, true, true, true, true, false, false, false, false, false, false, false, false] (i := 10) (N := some 28) (v := undef) rfl rfl (by kernel_rfl) (fun _ _ _ h => h) (Or.inr ⟨by rfl, rfl⟩) HS rfl ?_
    simp only [Act.put, List.setIfInBounds_toArray, List.set_cons_zero, List.set_cons_succ]
    refine take_ #[true, true, true, true, true, true, true, true, true, true, true, true, false, false, false, false, false, false, false] (i := 11) (N := some 29) (v := undef) rfl rfl (by kernel_rfl) (fun _ _ _ h => h) (Or.inr ⟨by rfl, rfl⟩) HS rfl ?_
    simp only [Act.put, List.setIfInBounds_toArray, List.set_cons_zero, List.set_cons_succ]
    refine take_ #[true, true, true, true, true, true, true, true, true, true, true, true, true, false, false, false, false, false, false] (i := 12) (N := some 30) (v := undef) rfl rfl (by kernel_rfl) (fun _ _ _ h => h) (Or.inr ⟨by rfl, rfl⟩) HS rfl ?_
    simp only [Act.put, List.setIfInBounds_toArray, List.set_cons_zero, List.set_cons_succ]
    refine take_ #[true, true, true, true, true, true, true, true, true, true, true, true, true, true, false, false, false, false, false] (i := 13) (N := some 31) (v := ?v128) rfl rfl (by kernel_rfl) (fun _ _ _ h => h) (Or.inl ⟨by rfl, ?hy128⟩) HS rfl ?_
    case hy128 => (intro v hv; obtain ⟨x, rfl, _, _, n0, n1, n2⟩ := hv.pin3; go_simp; first | done | with_reducible rfl)
    simp only [Act.put, List.setIfInBounds_toArray, List.set_cons_zero, List.set_cons_succ]
    refine take_ #[true, true, true, true, true, true, true, true, true, true, true, true, true, true, true, false, false, false, false] (i := 14) (N := some 32) (v := ?v129) rfl rfl (by kernel_rfl) (fun _ _ _ h => h) (Or.inl ⟨by rfl, ?hy129⟩) HS rfl ?_
    case hy129 => (intro v hv; obtain ⟨x, rfl, _, _, n0, n1, n2⟩ := hv.pin3; go_simp; first | done | with_reducible rfl)
    simp only [Act.put, List.setIfInBounds_toArray, List.set_cons_zero, List.set_cons_succ]
    refine take_ #[true, true, true, true, true, true, true, true, true, true, true, true, true, true, true, true, false, false, false] (i := 15) (N := some 33) (v := ?v130) rfl rfl (by kernel_rfl) (fun _ _ _ h => h) (Or.inl ⟨by rfl, ?hy130⟩) HS rfl ?_
    case hy130 => (intro v hv; obtain ⟨x, rfl, _, _, n0, n1, n2⟩ := hv.pin3; go_simp; first | done | with_reducible rfl)
    simp only [Act.put, List.setIfInBounds_toArray, List.set_cons_zero, List.set_cons_succ]
    refine take_ #[true, true, true, true, true, true, true, true, true, true, true, true, true, true, true, true, true, false, false] (i := 16) (N := some 34) (v := ?v131) rfl rfl (by kernel_rfl) (fun _ _ _ h => h) (Or.inl ⟨by rfl, ?hy131⟩) HS rfl ?_
    case hy131 => (intro v hv; obtain ⟨x, rfl, _, _, n0, n1, n2⟩ := hv.pin3; go_simp; first | done | with_reducible rfl)
    simp only [Act.put, List.setIfInBounds_toArray, List.set_cons_zero, List.set_cons_succ]
    refine one_ #[true, true, true, true, true, true, true, true, true, true, true, true, true, true, true, true, true, true, false] (i := 17) (N := some 35) rfl rfl (by kernel_rfl) (by decide) (fun K hK => ?_)
    go_simp
    refine (COd.out _).mono ?_
    rintro e y ⟨rfl, hb⟩
    refine hK.out _ _ (HS.step hb rfl) ?_
    clear HS hb
    intro HS
    refine take_ #[true, true, true, true, true, true, true, true, true, true, true, true, true, true, true, true, true, true, true] (i := 18) (N := some 36) (v := ?v132) rfl rfl (by kernel_rfl) (fun _ _ _ h => h) (Or.inl ⟨by rfl, ?hy132⟩) HS rfl ?_
    case hy132 => (intro v hv; obtain ⟨x, rfl, _, _, n0, n1, n2⟩ := hv.pin3; go_simp; first | done | with_reducible rfl)
    simp only [Act.put, List.setIfInBounds_toArray, List.set_cons_zero, List.set_cons_succ]
    obtain ⟨x4, rfl, hk4, hz4, l40, l41, l42⟩ := HS.pin3
    have HB4 : Hid (Below w.heap.size w x4) := hk4.below
    clear HS hk4
    refine done_ (by kernel_rfl) ?_
    go_wp2_with fail
    refine (CZ1.out _).mono ?_
    rintro e y5 ⟨rfl, hb5⟩
    obtain ⟨x5, rfl, hc5, hz5, l50, l51, l52⟩ := keep3 (b0 := w.heap.size) (b1 := w.heap.size + 1) (b2 := x3.heap.size) hb5 rfl (by (repeat (first | with_reducible exact pin_at (by assumption) | (with_reducible apply pin_at; (first | omega | (simp only [World.size_alloc, pin_size, World.size_drew, World.size_setCell] <;> omega))) | (with_reducible apply alloc_at; first | rfl | (simp only [World.size_alloc, pin_size, World.size_drew, World.size_setCell] <;> omega)) | with_reducible apply past_pin | with_reducible apply past_alloc | with_reducible apply past_drew)); all_goals (first | omega | (simp only [World.size_alloc, pin_size, World.size_drew, World.size_setCell] <;> omega))) (by (repeat (first | with_reducible exact pin_at (by assumption) | (with_reducible apply pin_at; (first | omega | (simp only [World.size_alloc, pin_size, World.size_drew, World.size_setCell] <;> omega))) | (with_reducible apply alloc_at; first | rfl | (simp only [World.size_alloc, pin_size, World.size_drew, World.size_setCell] <;> omega)) | with_reducible apply past_pin | with_reducible apply past_alloc | with_reducible apply past_drew)); all_goals (first | omega | (simp only [World.size_alloc, pin_size, World.size_drew, World.size_setCell] <;> omega))) (by (repeat (first | with_reducible exact pin_at (by assumption) | (with_reducible apply pin_at; (first | omega | (simp only [World.size_alloc, pin_size, World.size_drew, World.size_setCell] <;> omega))) | (with_reducible apply alloc_at; first | rfl | (simp only [World.size_alloc, pin_size, World.size_drew, World.size_setCell] <;> omega)) | with_reducible apply past_pin | with_reducible apply past_alloc | with_reducible apply past_drew)); all_goals (first | omega | (simp only [World.size_alloc, pin_size, World.size_drew, World.size_setCell] <;> omega)))
    have HB5 : Hid (Below w.heap.size w x5) := Below.trans (by (repeat (first | with_reducible exact HB4.out | with_reducible refine below_pin ?_ ?_ | with_reducible refine Below.alloc ?_ ?_ _ | with_reducible refine Below.setCell ?_ ?_ _ | with_reducible refine Below.drew ?_)); all_goals (first | omega | (simp only [World.size_alloc, pin_size, World.size_drew, World.size_setCell] <;> omega))) (hc5.mono (by (first | omega | (simp only [World.size_alloc, pin_size, World.size_drew, World.size_setCell] <;> omega))))
    clear hb5 hc5
    try simp only [World.size_alloc, pin_size, World.size_drew, World.size_setCell] at hz5
    go_wp2_with fail
    refine (known_any _).mono ?_
    rintro e y6 ⟨rfl, hb6⟩
    obtain ⟨x6, rfl, hc6, hz6, l60, l61, l62⟩ := keep3 (b0 := w.heap.size) (b1 := w.heap.size + 1) (b2 := x3.heap.size) hb6 rfl (by (repeat (first | with_reducible exact pin_at (by assumption) | (with_reducible apply pin_at; (first | omega | (simp only [World.size_alloc, pin_size, World.size_drew, World.size_setCell] <;> omega))) | (with_reducible apply alloc_at; first | rfl | (simp only [World.size_alloc, pin_size, World.size_drew, World.size_setCell] <;> omega)) | with_reducible apply past_pin | with_reducible apply past_alloc | with_reducible apply past_drew)); all_goals (first | omega | (simp only [World.size_alloc, pin_size, World.size_drew, World.size_setCell] <;> omega))) (by (repeat (first | with_reducible exact pin_at (by assumption) | (with_reducible apply pin_at; (first | omega | (simp only [World.size_alloc, pin_size, World.size_drew, World.size_setCell] <;> omega))) | (with_reducible apply alloc_at; first | rfl | (simp only [World.size_alloc, pin_size, World.size_drew, World.size_setCell] <;> omega)) | with_reducible apply past_pin | with_reducible apply past_alloc | with_reducible apply past_drew)); all_goals (first | omega | (simp only [World.size_alloc, pin_size, World.size_drew, World.size_setCell] <;> omega))) (by (repeat (first | with_reducible exact pin_at (by assumption) | (with_reducible apply pin_at; (first | omega | (simp only [World.size_alloc, pin_size, World.size_drew, World.size_setCell] <;> omega))) | (with_reducible apply alloc_at; first | rfl | (simp only [World.size_alloc, pin_size, World.size_drew, World.size_setCell] <;> omega)) | with_reducible apply past_pin | with_reducible apply past_alloc | with_reducible apply past_drew)); all_goals (first | omega | (simp only [World.size_alloc, pin_size, World.size_drew, World.size_setCell] <;> omega)))
    have HB6 : Hid (Below w.heap.size w x6) := Below.trans (by (repeat (first | with_reducible exact HB5.out | with_reducible refine below_pin ?_ ?_ | with_reducible refine Below.alloc ?_ ?_ _ | with_reducible refine Below.setCell ?_ ?_ _ | with_reducible refine Below.drew ?_)); all_goals (first | omega | (simp only [World.size_alloc, pin_size, World.size_drew, World.size_setCell] <;> omega))) (hc6.mono (by (first | omega | (simp only [World.size_alloc, pin_size, World.size_drew, World.size_setCell] <;> omega))))
    clear hb6 hc6
    try simp only [World.size_alloc, pin_size, World.size_drew, World.size_setCell] at hz6
    go_wp2_with fail
    go_ret
    exact ⟨rfl, (by (repeat (first | with_reducible exact HB6.out | with_reducible refine below_pin ?_ ?_ | with_reducible refine Below.alloc ?_ ?_ _ | with_reducible refine Below.setCell ?_ ?_ _ | with_reducible refine Below.drew ?_)); all_goals (first | omega | (simp only [World.size_alloc, pin_size, World.size_drew, World.size_setCell] <;> omega)))⟩

set_option maxRecDepth 100000 in
theorem fieldSquares_lifted (os : Os) (started : os.Started) (H : Type) (enc : TypeId × Value → H) :
    ReturnsInHanded {} Try.checked os 12 .any (Rows.fieldSquaresSpec.pre6 enc Try.prog Try.f12 Rows.fieldSquaresRow.domain false) (Rows.fieldSquaresSpec.post enc Try.prog Try.f12 false true false false) := by
  refine returnsInHanded_of_change (C := Try.checked) own started (by kernel_rfl) Try.func12
    (ChangeSpec.witness6 (enc := enc) (C := Try.checked) false ⟨#[], #[.agg #[.int .u64 0, .int .u64 0, .int .u64 0, .int .u64 0, .int .u64 0], .agg #[.int .u64 0, .int .u64 0, .int .u64 0, .int .u64 0, .int .u64 0]], []⟩ 8 (by kernel_rfl) (by kernel_rfl) (by kernel_rfl) (by kernel_rfl)) ?_
  intro W base args ds gs before hval0 hW hcnd _
  have hval : ∀ (j : Nat) t v, Try.f12.params[j]? = some t → args[j]? = some v → Value.okWide Try.prog W .any base t v := hval0
  have hW' := hW
  obtain ⟨p, q, hA0, hV, rfl, hfz, hnd⟩ := hW
  have hA : DataW.TrodAll enc Try.prog W 0 (fun _ => true) true Try.f12.params.toList args.toList ds p := hA0
  rw [Try.params12] at hA hval
  obtain ⟨v0, vs0, d0, ds0, p0, q0, hargs, rfl, rfl, h0, r0⟩ := trodAll_cons hA
  obtain ⟨v1, vs1, d1, ds1, p1, q1, rfl, rfl, rfl, h1, r1⟩ := trodAll_cons r0
  obtain ⟨rfl, rfl, rfl⟩ := trodAll_nil r1
  obtain rfl : args = #[v0, v1] := by cases args; simp_all
  obtain ⟨rfl, rfl⟩ := trodVars_none hV
  have k0 := h0
  have lt0 : ∀ x ∈ p0, x.block < W.heap.size := by obtain ⟨m, hm⟩ := k0; exact DataW.trod_lt m _ _ _ hm
  obtain ⟨a0, rfl, w0⟩ := open_elem (hval 0 25 v0 rfl rfl) h0
  have k1 := h1
  have lt1 : ∀ x ∈ p1, x.block < W.heap.size := by obtain ⟨m, hm⟩ := k1; exact DataW.trod_lt m _ _ _ hm
  obtain ⟨a1, rfl, w1⟩ := open_elem (hval 1 25 v1 rfl rfl) h1
  clear hA0 hval0
  refine (fieldSquares_walk a0 w0 a1 w1 W ).mono fun e W' ⟨he, bel⟩ => ?_
  subst he
  exact ⟨_, rfl, _, _, _, [], _, [], hW', trodAll_mk1 (shut_bool Try.underlying4 _), (trodAll_cons_mk (Below.trod laidOut (by kernel_rfl) (of_decide_eq_true (by kernel_rfl)) k0 bel lt0) (trodAll_cons_mk (Below.trod laidOut (by kernel_rfl) (of_decide_eq_true (by kernel_rfl)) k1 bel lt1) trodAll_mk0)), rfl, bel.frame _, fun h => by cases h⟩

theorem fieldSquares_holds : Rows.FieldSquaresSaid :=
  OpenClaim.holds_of_wide 12 Try.f12 rfl rfl rfl rfl rfl rfl rfl ⟨rfl, rfl, rfl, rfl, rfl⟩ rfl rfl rfl rfl rfl (by kernel_rfl) Try.func12 (by kernel_rfl)
    (of_decide_eq_true (by kernel_rfl)) (by unfold Func.isWrapper; first | (rw [if_pos (by decide +kernel)]; kernel_rfl) | (rw [if_neg (by decide +kernel)]; exact ⟨rfl, rfl⟩))
    (fun os started H enc _ => fieldSquares_lifted os started H enc)

end Go.Proofs.Ytljolpdpblohcaa
