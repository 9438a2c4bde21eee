/-
  Walks: package field, numbers of nine words.
-/
import Derived.Test.YtljolpdpblohcaaDoorLg
import Derived.Test.YtljolpdpblohcaaDoorBits
import Derived.Test.YtljolpdpblohcaaDoorFn
import Derived.Test.YtljolpdpblohcaaDoorReg
import Derived.Test.YtljolpdpblohcaaDoorMu
import Derived.Test.YtljolpdpblohcaaDoorMo
import Derived.StillTailTactics
import Derived.Lib.Hide
namespace Go.Proofs.YtljolpdpblohcaaDoor
open Go.RowKit Go.Proofs.YtljolpdpblohcaaDoorW.PrintLast
set_option linter.unusedSimpArgs false

set_option linter.unusedVariables false
theorem pins2f {w : World} {b0 b1 : Nat} {o0 o1 p0 p1 : Obj} (h0 : w.heap[b0]? = some o0) (h1 : w.heap[b1]? = some o1) (e0 : o0 = p0) (e1 : o1 = p1) : w = (w.pin b0 p0).pin b1 p1 := by
  subst e0 e1; exact pins2 h0 h1
theorem pins3e {w : World} {b0 b1 b2 : Nat} {o0 o1 o2 p0 p1 p2 : Obj} (h0 : w.heap[b0]? = some o0) (h1 : w.heap[b1]? = some o1) (h2 : w.heap[b2]? = some o2) (e0 : o0 = p0) (e1 : o1 = p1) (e2 : o2 = p2) : w = ((w.pin b0 p0).pin b1 p1).pin b2 p2 := by
  subst e0 e1 e2; exact pins3 h0 h1 h2
theorem row9_get (f : Nat → Nat) {j : Nat} (h : j < 9) : (row 9 f)[j]? = some (.int .u64 ((f j : Nat) : Int)) := row_get f h
set_option maxRecDepth 100000 in
set_option maxHeartbeats 1000000 in
theorem below_any (x y : Nat) (hx : x < WW ^ 9) (hy : y < WW ^ 9) (w : World) :
    Calls Tryd.prog 25 #[Lv x, Lv y] w fun e w' => e = .returned (.bool (decide (x < y))) ∧ Below w.heap.size w w' := by
  have HX := Lib.hid hx
  have HY := Lib.hid hy
  clear hx hy
  go_enter Tryd.func25, Tryd.ntmps25
  go_wp2_with fail
  go_loopw [5, 7] (fun bv iv wr => ∃ (i : Nat) (z : World), bv = .int .u64 ((bor x y i : Nat) : Int) ∧ iv = .int .i64 (i : Int) ∧ wr = ((z.pin (w.heap.size) (.cells (row 9 (lim x)) 44)).pin (w.heap.size + 1) (.cells (row 9 (lim y)) 44)) ∧ w.heap.size < z.heap.size ∧ w.heap.size + 1 < z.heap.size ∧ Hid (Below w.heap.size w z ∧ i ≤ 9)) (fun _ iv _ => (9 - intOf iv).toNat)
  case atStart => exact ⟨0, _, by rw [bor_zero]; rfl, rfl, pins2f (by (repeat (first | with_reducible exact pin_at (by assumption) | (with_reducible apply pin_at; (first | omega | (simp only [World.size_alloc, pin_size, World.size_drew, World.size_setCell] <;> omega))) | (with_reducible apply alloc_at; first | rfl | (simp only [World.size_alloc, pin_size, World.size_drew, World.size_setCell] <;> omega)) | with_reducible apply past_pin | with_reducible apply past_alloc | with_reducible apply past_drew)); all_goals (first | omega | (simp only [World.size_alloc, pin_size, World.size_drew, World.size_setCell] <;> omega))) (by (repeat (first | with_reducible exact pin_at (by assumption) | (with_reducible apply pin_at; (first | omega | (simp only [World.size_alloc, pin_size, World.size_drew, World.size_setCell] <;> omega))) | (with_reducible apply alloc_at; first | rfl | (simp only [World.size_alloc, pin_size, World.size_drew, World.size_setCell] <;> omega)) | with_reducible apply past_pin | with_reducible apply past_alloc | with_reducible apply past_drew)); all_goals (first | omega | (simp only [World.size_alloc, pin_size, World.size_drew, World.size_setCell] <;> omega))) (by rfl) (by rfl), (by (first | omega | (simp only [World.size_alloc, pin_size, World.size_drew, World.size_setCell] <;> omega))), (by (first | omega | (simp only [World.size_alloc, pin_size, World.size_drew, World.size_setCell] <;> omega))), (by (repeat (first | with_reducible exact (Below.refl _ _) | with_reducible refine below_pin ?_ ?_ | with_reducible refine Below.alloc ?_ ?_ _ | with_reducible refine Below.setCell ?_ ?_ _ | with_reducible refine Below.drew ?_)); all_goals (first | omega | (simp only [World.size_alloc, pin_size, World.size_drew, World.size_setCell] <;> omega))), by omega⟩
  case round =>
    obtain ⟨i, z, rfl, rfl, rfl, q0, q1, H⟩ := hrel
    by_cases hi : i < 9
    · have hgx := row9_get (lim x) hi
      have hgy := row9_get (lim y) hi
      have hiz : (i : Int) < 9 := by omega
      obtain ⟨a, ha⟩ : ∃ a, a = lim x i := ⟨_, rfl⟩
      obtain ⟨b, hb⟩ : ∃ b, b = lim y i := ⟨_, rfl⟩
      obtain ⟨c, hc⟩ : ∃ c, c = bor x y i := ⟨_, rfl⟩
      rw [← ha] at hgx
      rw [← hb] at hgy
      have hS := sub64_law a b c (by rw [hc]; exact bor_le _ _ _)
      have HC := Lib.hid (show bor x y (i + 1) = if a < b + c then 1 else 0 by rw [ha, hb, hc]; exact bor_step x y i)
      rw [← hc]
      clear ha hb hc
      go_wp2_with fail
      refine wp_region_still_tail 11 (by kernel_rfl) (by kernel_rfl) ?_
      simp only [List.take_succ_cons, List.take_zero, List.drop_succ_cons, List.drop_zero, World.drew_eq]
      (repeat still_step)
      refine wpStill_nil ?_
      go_wp2_with fail
      exact ⟨⟨i + 1, z.drew, by rw [HC.out], vi0 i, rfl, q0, q1, H.out.1.drew, hi⟩, meas_up0 9 i hi⟩
    · have hi : i = 9 := by have := H.out.2; omega
      subst hi
      have hbe := bor_end HX.out HY.out
      by_cases hlt : x < y
      · rw [if_pos hlt] at hbe
        rw [hbe]
        go_wp2_with fail
        go_ret
        exact ⟨by rw [decide_eq_true hlt]; rfl, (by (repeat (first | with_reducible exact H.out.1 | with_reducible refine below_pin ?_ ?_ | with_reducible refine Below.alloc ?_ ?_ _ | with_reducible refine Below.setCell ?_ ?_ _ | with_reducible refine Below.drew ?_)); all_goals (first | omega | (simp only [World.size_alloc, pin_size, World.size_drew, World.size_setCell] <;> omega)))⟩
      · rw [if_neg hlt] at hbe
        rw [hbe]
        go_wp2_with fail
        go_ret
        exact ⟨by rw [decide_eq_false hlt]; rfl, (by (repeat (first | with_reducible exact H.out.1 | with_reducible refine below_pin ?_ ?_ | with_reducible refine Below.alloc ?_ ?_ _ | with_reducible refine Below.setCell ?_ ?_ _ | with_reducible refine Below.drew ?_)); all_goals (first | omega | (simp only [World.size_alloc, pin_size, World.size_drew, World.size_setCell] <;> omega)))⟩

/-- What stands behind i words of a difference. -/
def difW (x y i : Nat) : Nat → Nat := fun j => if j < i then lim (x - y) j else lim x j
theorem difW_zero (x y : Nat) : difW x y 0 = lim x := by funext j; simp [difW]
theorem difW_at (x y i : Nat) : difW x y i i = lim x i := by simp [difW]
theorem difW_step {x y i v : Nat} (hv : v = lim (x - y) i) : upd (difW x y i) i v = difW x y (i + 1) := by
  funext j
  by_cases h : j = i
  · subst h; rw [upd_self, hv]; simp [difW]
  · rw [upd_ne _ _ h]
    unfold difW
    by_cases h2 : j < i
    · rw [if_pos h2, if_pos (by omega)]
    · rw [if_neg h2, if_neg (by omega)]
theorem difW_end (x y : Nat) : row 9 (difW x y 9) = row 9 (lim (x - y)) := row_congr (fun j hj => by simp [difW, hj])
theorem zeros9 : (#[.int .u64 0, .int .u64 0, .int .u64 0, .int .u64 0, .int .u64 0, .int .u64 0, .int .u64 0, .int .u64 0, .int .u64 0] : Array Value) = row 9 (lim 0) := by
  rw [row_congr (g := fun _ => 0) (fun j _ => lim_zero j)]
  rfl

set_option maxRecDepth 100000 in
set_option maxHeartbeats 1000000 in
theorem less_any (x y : Nat) (hxy : y ≤ x) (w : World) :
    Calls Tryd.prog 40 #[Lv x, Lv y] w fun e w' => e = .returned (Lv (x - y)) ∧ Below w.heap.size w w' := by
  have HXY := Lib.hid hxy
  clear hxy
  go_enter Tryd.func40, Tryd.ntmps40
  go_wp2_with fail
  go_loopw [5, 7] (fun bv iv wr => ∃ (i : Nat) (z : World), bv = .int .u64 ((bor x y i : Nat) : Int) ∧ iv = .int .i64 (i : Int) ∧ wr = (((z.pin (w.heap.size) (.cells (row 9 (difW x y i)) 44)).pin (w.heap.size + 1) (.cells (row 9 (lim y)) 44)).pin (w.heap.size + 2) (.cells #[.int .u64 0, .int .u64 0, .int .u64 0, .int .u64 0, .int .u64 0, .int .u64 0, .int .u64 0, .int .u64 0, .int .u64 0] 44)) ∧ w.heap.size < z.heap.size ∧ w.heap.size + 1 < z.heap.size ∧ w.heap.size + 2 < z.heap.size ∧ Hid (Below w.heap.size w z ∧ i ≤ 9)) (fun _ iv _ => (9 - intOf iv).toNat)
  case atStart => exact ⟨0, _, by rw [bor_zero]; rfl, rfl, pins3e (by (repeat (first | with_reducible exact pin_at (by assumption) | (with_reducible apply pin_at; (first | omega | (simp only [World.size_alloc, pin_size, World.size_drew, World.size_setCell] <;> omega))) | (with_reducible apply alloc_at; first | rfl | (simp only [World.size_alloc, pin_size, World.size_drew, World.size_setCell] <;> omega)) | with_reducible apply past_pin | with_reducible apply past_alloc | with_reducible apply past_drew)); all_goals (first | omega | (simp only [World.size_alloc, pin_size, World.size_drew, World.size_setCell] <;> omega))) (by (repeat (first | with_reducible exact pin_at (by assumption) | (with_reducible apply pin_at; (first | omega | (simp only [World.size_alloc, pin_size, World.size_drew, World.size_setCell] <;> omega))) | (with_reducible apply alloc_at; first | rfl | (simp only [World.size_alloc, pin_size, World.size_drew, World.size_setCell] <;> omega)) | with_reducible apply past_pin | with_reducible apply past_alloc | with_reducible apply past_drew)); all_goals (first | omega | (simp only [World.size_alloc, pin_size, World.size_drew, World.size_setCell] <;> omega))) (by (repeat (first | with_reducible exact pin_at (by assumption) | (with_reducible apply pin_at; (first | omega | (simp only [World.size_alloc, pin_size, World.size_drew, World.size_setCell] <;> omega))) | (with_reducible apply alloc_at; first | rfl | (simp only [World.size_alloc, pin_size, World.size_drew, World.size_setCell] <;> omega)) | with_reducible apply past_pin | with_reducible apply past_alloc | with_reducible apply past_drew)); all_goals (first | omega | (simp only [World.size_alloc, pin_size, World.size_drew, World.size_setCell] <;> omega))) (by rw [difW_zero]; rfl) (by rfl) (by rfl), (by (first | omega | (simp only [World.size_alloc, pin_size, World.size_drew, World.size_setCell] <;> omega))), (by (first | omega | (simp only [World.size_alloc, pin_size, World.size_drew, World.size_setCell] <;> omega))), (by (first | omega | (simp only [World.size_alloc, pin_size, World.size_drew, World.size_setCell] <;> omega))), (by (repeat (first | with_reducible exact (Below.refl _ _) | with_reducible refine below_pin ?_ ?_ | with_reducible refine Below.alloc ?_ ?_ _ | with_reducible refine Below.setCell ?_ ?_ _ | with_reducible refine Below.drew ?_)); all_goals (first | omega | (simp only [World.size_alloc, pin_size, World.size_drew, World.size_setCell] <;> omega))), by omega⟩
  case round =>
    obtain ⟨i, z, rfl, rfl, rfl, q0, q1, q2, H⟩ := hrel
    by_cases hi : i < 9
    · have hgx := row9_get (difW x y i) hi
      rw [difW_at] at hgx
      have hgy := row9_get (lim y) hi
      have hiz : (i : Int) < 9 := by omega
      obtain ⟨a, ha⟩ : ∃ a, a = lim x i := ⟨_, rfl⟩
      obtain ⟨b, hb⟩ : ∃ b, b = lim y i := ⟨_, rfl⟩
      obtain ⟨c, hc⟩ : ∃ c, c = bor x y i := ⟨_, rfl⟩
      rw [← ha] at hgx
      rw [← hb] at hgy
      have hS := sub64_law a b c (by rw [hc]; exact bor_le _ _ _)
      have HC := Lib.hid (show bor x y (i + 1) = if a < b + c then 1 else 0 by rw [ha, hb, hc]; exact bor_step x y i)
      obtain ⟨v, hv⟩ : ∃ v, v = (a + 18446744073709551616 - b - c) % 18446744073709551616 := ⟨_, rfl⟩
      have HV := Lib.hid (show v = lim (x - y) i by rw [hv, ha, hb, hc]; exact lim_sub HXY.out i)
      rw [← hv] at hS
      rw [← hc]
      clear ha hb hc hv
      have HB1 : Hid (Below w.heap.size w z) := H.out.1
      have HI := Lib.hid hi
      clear H hi
      go_wp2_with fail
      refine start_ (S := Keeps w _) (ds := [13, 14]) (n := 15) #[false, false, false, false, false, false, false, false, false, false, false, false, false, false, false] (by kernel_rfl) rfl rfl (keepsC (b := w.heap.size) (by (repeat (first | with_reducible exact pin_at (by assumption) | (with_reducible apply pin_at; (first | omega | (simp only [World.size_alloc, pin_size, World.size_drew, World.size_setCell] <;> omega))) | (with_reducible apply alloc_at; first | rfl | (simp only [World.size_alloc, pin_size, World.size_drew, World.size_setCell] <;> omega)) | with_reducible apply past_pin | with_reducible apply past_alloc | with_reducible apply past_drew)); all_goals (first | omega | (simp only [World.size_alloc, pin_size, World.size_drew, World.size_setCell] <;> omega))) (keepsC (b := w.heap.size + 1) (by (repeat (first | with_reducible exact pin_at (by assumption) | (with_reducible apply pin_at; (first | omega | (simp only [World.size_alloc, pin_size, World.size_drew, World.size_setCell] <;> omega))) | (with_reducible apply alloc_at; first | rfl | (simp only [World.size_alloc, pin_size, World.size_drew, World.size_setCell] <;> omega)) | with_reducible apply past_pin | with_reducible apply past_alloc | with_reducible apply past_drew)); all_goals (first | omega | (simp only [World.size_alloc, pin_size, World.size_drew, World.size_setCell] <;> omega))) (keepsC (b := w.heap.size + 2) (by (repeat (first | with_reducible exact pin_at (by assumption) | (with_reducible apply pin_at; (first | omega | (simp only [World.size_alloc, pin_size, World.size_drew, World.size_setCell] <;> omega))) | (with_reducible apply alloc_at; first | rfl | (simp only [World.size_alloc, pin_size, World.size_drew, World.size_setCell] <;> omega)) | with_reducible apply past_pin | with_reducible apply past_alloc | with_reducible apply past_drew)); all_goals (first | omega | (simp only [World.size_alloc, pin_size, World.size_drew, World.size_setCell] <;> omega))) (keeps0 (by (repeat (first | with_reducible exact HB1.out | with_reducible refine below_pin ?_ ?_ | with_reducible refine Below.alloc ?_ ?_ _ | with_reducible refine Below.setCell ?_ ?_ _ | with_reducible refine Below.drew ?_)); all_goals (first | omega | (simp only [World.size_alloc, pin_size, World.size_drew, World.size_setCell] <;> omega))))))) (fun HS => ?_)
      refine pure_ #[true, false, false, false, false, false, false, false, false, false, false, false, false, false, false] (i := 0) (N := some 11) (v := ?v1) rfl rfl (by kernel_rfl) (fun _ _ _ h => h) (Or.inl ⟨by rfl, ?hy1⟩) rfl ?_
      case hy1 => (intro v; go_simp; first | done | with_reducible rfl)
      simp only [Act.put, List.setIfInBounds_toArray, List.set_cons_zero, List.set_cons_succ]
      refine pure_ #[true, true, false, false, false, false, false, false, false, false, false, false, false, false, false] (i := 1) (N := some 12) (v := ?v2) rfl rfl (by kernel_rfl) (fun _ _ _ h => h) (Or.inl ⟨by rfl, ?hy2⟩) rfl ?_
      case hy2 => (intro v; go_simp; first | done | with_reducible rfl)
      simp only [Act.put, List.setIfInBounds_toArray, List.set_cons_zero, List.set_cons_succ]
      refine take_ #[true, true, true, false, false, false, false, false, false, false, false, false, false, false, false] (i := 2) (N := some 13) (v := ?v3) rfl rfl (by kernel_rfl) (fun _ _ _ h => h) (Or.inl ⟨by rfl, ?hy3⟩) HS rfl ?_
      case hy3 => (intro v hv; obtain ⟨x, rfl, _, _, n0, n1, n2⟩ := hv.pin3; go_simp; first | done | with_reducible rfl)
      simp only [Act.put, List.setIfInBounds_toArray, List.set_cons_zero, List.set_cons_succ]
      refine take_ #[true, true, true, true, false, false, false, false, false, false, false, false, false, false, false] (i := 3) (N := some 14) (v := ?v4) rfl rfl (by kernel_rfl) (fun _ _ _ h => h) (Or.inl ⟨by rfl, ?hy4⟩) HS rfl ?_
      case hy4 => (intro v hv; obtain ⟨x, rfl, _, _, n0, n1, n2⟩ := hv.pin3; go_simp; first | done | with_reducible rfl)
      simp only [Act.put, List.setIfInBounds_toArray, List.set_cons_zero, List.set_cons_succ]
      refine pure_ #[true, true, true, true, true, false, false, false, false, false, false, false, false, false, false] (i := 4) (N := some 15) (v := ?v5) rfl rfl (by kernel_rfl) (fun _ _ _ h => h) (Or.inl ⟨by rfl, ?hy5⟩) rfl ?_
      case hy5 => (intro v; go_simp; first | done | with_reducible rfl)
      simp only [Act.put, List.setIfInBounds_toArray, List.set_cons_zero, List.set_cons_succ]
      refine take_ #[true, true, true, true, true, true, false, false, false, false, false, false, false, false, false] (i := 5) (N := some 16) (v := ?v6) rfl rfl (by kernel_rfl) (fun _ _ _ h => h) (Or.inl ⟨by rfl, ?hy6⟩) HS rfl ?_
      case hy6 => (intro v hv; obtain ⟨x, rfl, _, _, n0, n1, n2⟩ := hv.pin3; go_simp; first | done | with_reducible rfl)
      simp only [Act.put, List.setIfInBounds_toArray, List.set_cons_zero, List.set_cons_succ]
      refine take_ #[true, true, true, true, true, true, true, false, false, false, false, false, false, false, false] (i := 6) (N := some 17) (v := ?v7) rfl rfl (by kernel_rfl) (fun _ _ _ h => h) (Or.inl ⟨by rfl, ?hy7⟩) HS rfl ?_
      case hy7 => (intro v hv; obtain ⟨x, rfl, _, _, n0, n1, n2⟩ := hv.pin3; go_simp; first | done | with_reducible rfl)
      simp only [Act.put, List.setIfInBounds_toArray, List.set_cons_zero, List.set_cons_succ]
      refine pure_ #[true, true, true, true, true, true, true, true, false, false, false, false, false, false, false] (i := 7) (N := some 18) (v := ?v8) rfl rfl (by kernel_rfl) (fun _ _ _ h => h) (Or.inl ⟨by rfl, ?hy8⟩) rfl ?_
      case hy8 => (intro v; go_simp; first | done | with_reducible rfl)
      simp only [Act.put, List.setIfInBounds_toArray, List.set_cons_zero, List.set_cons_succ]
      refine pure_ #[true, true, true, true, true, true, true, true, true, false, false, false, false, false, false] (i := 8) (N := some 19) (v := ?v9) rfl rfl (by kernel_rfl) (fun _ _ _ h => h) (Or.inl ⟨by rfl, ?hy9⟩) rfl ?_
      case hy9 => (intro v; go_simp; first | done | with_reducible rfl)
      simp only [Act.put, List.setIfInBounds_toArray, List.set_cons_zero, List.set_cons_succ]
      refine pure_ #[true, true, true, true, true, true, true, true, true, true, false, false, false, false, false] (i := 9) (N := some 10) (v := ?v10) rfl rfl (by kernel_rfl) (fun _ _ _ h => h) (Or.inl ⟨by rfl, ?hy10⟩) rfl ?_
      case hy10 => (intro v; go_simp; first | done | with_reducible rfl)
      simp only [Act.put, List.setIfInBounds_toArray, List.set_cons_zero, List.set_cons_succ]
      refine pure_ #[true, true, true, true, true, true, true, true, true, true, true, false, false, false, false] (i := 10) (N := some 20) (v := ?v11) rfl rfl (by kernel_rfl) (fun _ _ _ h => h) (Or.inl ⟨by rfl, ?hy11⟩) rfl ?_
      case hy11 => (intro v; go_simp; first | done | with_reducible rfl)
      simp only [Act.put, List.setIfInBounds_toArray, List.set_cons_zero, List.set_cons_succ]
      refine pure_ #[true, true, true, true, true, true, true, true, true, true, true, true, false, false, false] (i := 11) (N := some 21) (v := ?v12) rfl rfl (by kernel_rfl) (fun _ _ _ h => h) (Or.inl ⟨by rfl, ?hy12⟩) rfl ?_
      case hy12 => (intro v; go_simp; first | done | with_reducible rfl)
      simp only [Act.put, List.setIfInBounds_toArray, List.set_cons_zero, List.set_cons_succ]
      refine take_ #[true, true, true, true, true, true, true, true, true, true, true, true, true, false, false] (i := 12) (N := some 22) (v := ?v13) rfl rfl (by kernel_rfl) (fun _ _ _ h => h) (Or.inl ⟨by rfl, ?hy13⟩) HS rfl ?_
      case hy13 => (intro v hv; obtain ⟨x, rfl, _, _, n0, n1, n2⟩ := hv.pin3; go_simp; first | done | with_reducible rfl)
      simp only [Act.put, List.setIfInBounds_toArray, List.set_cons_zero, List.set_cons_succ]
      clear HS
      refine last_ #[true, true, true, true, true, true, true, true, true, true, true, true, true, true, false] (i := 13) (N := none) rfl rfl (by kernel_rfl) (by decide) (fun K hK => ?_)
      go_simp
      refine hK.out _ _ ?_
      refine last_ #[true, true, true, true, true, true, true, true, true, true, true, true, true, true, true] (i := 14) (N := some 5) rfl rfl (by kernel_rfl) (by decide) (fun K hK => ?_)
      go_simp
      refine hK.out _ _ ?_
      refine done_ (by kernel_rfl) ?_
      go_wp2_with fail
      exact ⟨⟨i + 1, z.drew, by rw [HC.out], vi0 i, by rw [row_set, difW_step HV.out]; rfl, q0, q1, q2, HB1.out.drew, HI.out⟩, meas_up0 9 i HI.out⟩
    · have hi : i = 9 := by have := H.out.2; omega
      subst hi
      rw [difW_end, row9_lit (x - y)]
      go_wp2_with fail
      refine bodyPost_ret (v := Lv (x - y)) ?_ rfl ⟨rfl, ?_⟩
      · simp [results, Tryd.results40, go_sem, q0, q1, q2]
      · exact (by (repeat (first | with_reducible exact H.out.1 | with_reducible refine below_pin ?_ ?_ | with_reducible refine Below.alloc ?_ ?_ _ | with_reducible refine Below.setCell ?_ ?_ _ | with_reducible refine Below.drew ?_)); all_goals (first | omega | (simp only [World.size_alloc, pin_size, World.size_drew, World.size_setCell] <;> omega)))

/-- What stands behind i words of a half. -/
def halfW (x i : Nat) : Nat → Nat := fun j => if j < i then lim (x / 2) j else lim x j
theorem halfW_zero (x : Nat) : halfW x 0 = lim x := by funext j; simp [halfW]
theorem halfW_at (x i : Nat) : halfW x i i = lim x i := by simp [halfW]
theorem halfW_next (x i : Nat) : halfW x i (i + 1) = lim x (i + 1) := by
  unfold halfW
  rw [if_neg (by omega)]
theorem halfW_step {x i v : Nat} (hv : v = lim (x / 2) i) : upd (halfW x i) i v = halfW x (i + 1) := by
  funext j
  by_cases h : j = i
  · subst h; rw [upd_self, hv]; simp [halfW]
  · rw [upd_ne _ _ h]
    unfold halfW
    by_cases h2 : j < i
    · rw [if_pos h2, if_pos (by omega)]
    · rw [if_neg h2, if_neg (by omega)]
theorem upd_upd (f : Nat → Nat) (i u v : Nat) : upd (upd f i u) i v = upd f i v := by
  funext j
  by_cases h : j = i
  · subst h; rw [upd_self, upd_self]
  · rw [upd_ne _ _ h, upd_ne _ _ h, upd_ne _ _ h]
theorem half_cast (a : Nat) : ((a : Int) / 2) = ((a / 2 : Nat) : Int) := by omega
theorem halfW_end (x : Nat) : row 9 (halfW x 9) = row 9 (lim (x / 2)) := row_congr (fun j hj => by simp [halfW, hj])
theorem half_or (a b : Nat) (ha : a < WW) (hb : b < WW) : bits .or .u64 ((a : Int) / 2) (w64 ((b : Int) * 9223372036854775808)) = ((a / 2 + b % 2 * 9223372036854775808 : Nat) : Int) := by
  have e1 : (a : Int) / 2 = ((a / 2 : Nat) : Int) := by omega
  have e2 : w64 ((b : Int) * 9223372036854775808) = ((b % 2 * 9223372036854775808 : Nat) : Int) := by unfold w64; simp only [IntKind.wrap_u64]; omega
  simp only [WW] at ha hb
  have hor := bits_nat .u64 64 (by decide) (fun n h0 h1 => by
    simp only [IntKind.wrap, IntKind.bits, IntKind.signed] at *
    simp at *
    omega) (a / 2) (b % 2 * 9223372036854775808) (by omega) (by omega)
  rw [e1, e2, hor.2]
  have := Nat.shiftLeft_add_eq_or_of_lt (show a / 2 < 2 ^ 63 by omega) (b % 2)
  rw [Nat.shiftLeft_eq, show (2 : Nat) ^ 63 = 9223372036854775808 from rfl, Nat.or_comm] at this
  omega

set_option maxRecDepth 100000 in
set_option maxHeartbeats 1000000 in
theorem halfL_any (x : Nat) (hx : x < WW ^ 9) (w : World) :
    Calls Tryd.prog 41 #[Lv x] w fun e w' => e = .returned (Lv (x / 2)) ∧ Below w.heap.size w w' := by
  have HX := Lib.hid hx
  clear hx
  go_enter Tryd.func41, Tryd.ntmps41
  go_wp2_with fail
  go_loopw [4] (fun iv wr => ∃ (i : Nat) (z : World), iv = .int .i64 (i : Int) ∧ wr = ((z.pin (w.heap.size) (.cells (row 9 (halfW x i)) 44)).pin (w.heap.size + 1) (.cells #[.int .u64 0, .int .u64 0, .int .u64 0, .int .u64 0, .int .u64 0, .int .u64 0, .int .u64 0, .int .u64 0, .int .u64 0] 44)) ∧ w.heap.size < z.heap.size ∧ w.heap.size + 1 < z.heap.size ∧ Hid (Below w.heap.size w z ∧ i ≤ 9)) (fun iv _ => (9 - intOf iv).toNat)
  case atStart => exact ⟨0, _, rfl, pins2f (by (repeat (first | with_reducible exact pin_at (by assumption) | (with_reducible apply pin_at; (first | omega | (simp only [World.size_alloc, pin_size, World.size_drew, World.size_setCell] <;> omega))) | (with_reducible apply alloc_at; first | rfl | (simp only [World.size_alloc, pin_size, World.size_drew, World.size_setCell] <;> omega)) | with_reducible apply past_pin | with_reducible apply past_alloc | with_reducible apply past_drew)); all_goals (first | omega | (simp only [World.size_alloc, pin_size, World.size_drew, World.size_setCell] <;> omega))) (by (repeat (first | with_reducible exact pin_at (by assumption) | (with_reducible apply pin_at; (first | omega | (simp only [World.size_alloc, pin_size, World.size_drew, World.size_setCell] <;> omega))) | (with_reducible apply alloc_at; first | rfl | (simp only [World.size_alloc, pin_size, World.size_drew, World.size_setCell] <;> omega)) | with_reducible apply past_pin | with_reducible apply past_alloc | with_reducible apply past_drew)); all_goals (first | omega | (simp only [World.size_alloc, pin_size, World.size_drew, World.size_setCell] <;> omega))) (by rw [halfW_zero]; rfl) (by rfl), (by (first | omega | (simp only [World.size_alloc, pin_size, World.size_drew, World.size_setCell] <;> omega))), (by (first | omega | (simp only [World.size_alloc, pin_size, World.size_drew, World.size_setCell] <;> omega))), (by (repeat (first | with_reducible exact (Below.refl _ _) | with_reducible refine below_pin ?_ ?_ | with_reducible refine Below.alloc ?_ ?_ _ | with_reducible refine Below.setCell ?_ ?_ _ | with_reducible refine Below.drew ?_)); all_goals (first | omega | (simp only [World.size_alloc, pin_size, World.size_drew, World.size_setCell] <;> omega))), by omega⟩
  case round =>
    obtain ⟨i, z, rfl, rfl, q0, q1, H⟩ := hrel
    by_cases hi : i < 9
    · have hgx := row9_get (halfW x i) hi
      rw [halfW_at] at hgx
      have hiz : (i : Int) < 9 := by omega
      obtain ⟨a, ha⟩ : ∃ a, a = lim x i := ⟨_, rfl⟩
      rw [← ha] at hgx
      have HB1 : Hid (Below w.heap.size w z) := H.out.1
      have HI := Lib.hid hi
      have hs1 : ((row 9 (halfW x i)).setIfInBounds i (.int .u64 ((a : Int) / 2)))[i]? = some (.int .u64 ((a : Int) / 2)) := by rw [Array.getElem?_setIfInBounds_self_of_lt (by rw [row_size]; exact hi)]
      by_cases hj : i + 1 < 9
      · have hgy := row9_get (halfW x i) hj
        rw [halfW_next] at hgy
        obtain ⟨b, hb⟩ : ∃ b, b = lim x (i + 1) := ⟨_, rfl⟩
        rw [← hb] at hgy
        have HV := Lib.hid (show a / 2 + b % 2 * 9223372036854775808 = lim (x / 2) i by rw [ha, hb]; exact lim_half x i)
        have HAB := Lib.hid (And.intro (show a < WW by rw [ha]; exact lim_lt _ _) (show b < WW by rw [hb]; exact lim_lt _ _))
        have hjz : (i : Int) + 1 < 9 := by omega
        have hs2 : ((row 9 (halfW x i)).setIfInBounds i (.int .u64 ((a : Int) / 2)))[i + 1]? = some (.int .u64 (b : Int)) := by rw [Array.getElem?_setIfInBounds_ne (by omega)]; exact hgy
        have HJ := Lib.hid hj
        have hp0 : (0 : Int) ≤ (i : Int) + 1 := by omega
        have e6 : IntKind.i64.wrap ((i : Int) + 1) = (i : Int) + 1 := (wrap_w64 _).trans (wr64 _ (by omega))
        clear H hi hj ha hb
        go_wp2_with fail
        refine start_ (S := Keeps w _) (ds := [10]) (n := 11) #[false, false, false, false, false, false, false, false, false, false, false] (by kernel_rfl) rfl rfl (keepsC (b := w.heap.size) (by (repeat (first | with_reducible exact pin_at (by assumption) | (with_reducible apply pin_at; (first | omega | (simp only [World.size_alloc, pin_size, World.size_drew, World.size_setCell] <;> omega))) | (with_reducible apply alloc_at; first | rfl | (simp only [World.size_alloc, pin_size, World.size_drew, World.size_setCell] <;> omega)) | with_reducible apply past_pin | with_reducible apply past_alloc | with_reducible apply past_drew)); all_goals (first | omega | (simp only [World.size_alloc, pin_size, World.size_drew, World.size_setCell] <;> omega))) (keepsC (b := w.heap.size + 1) (by (repeat (first | with_reducible exact pin_at (by assumption) | (with_reducible apply pin_at; (first | omega | (simp only [World.size_alloc, pin_size, World.size_drew, World.size_setCell] <;> omega))) | (with_reducible apply alloc_at; first | rfl | (simp only [World.size_alloc, pin_size, World.size_drew, World.size_setCell] <;> omega)) | with_reducible apply past_pin | with_reducible apply past_alloc | with_reducible apply past_drew)); all_goals (first | omega | (simp only [World.size_alloc, pin_size, World.size_drew, World.size_setCell] <;> omega))) (keeps0 (by (repeat (first | with_reducible exact HB1.out | with_reducible refine below_pin ?_ ?_ | with_reducible refine Below.alloc ?_ ?_ _ | with_reducible refine Below.setCell ?_ ?_ _ | with_reducible refine Below.drew ?_)); all_goals (first | omega | (simp only [World.size_alloc, pin_size, World.size_drew, World.size_setCell] <;> omega)))))) (fun HS => ?_)
        refine pure_ #[true, false, false, false, false, false, false, false, false, false, false] (i := 0) (N := some 15) (v := ?v1) rfl rfl (by kernel_rfl) (fun _ _ _ h => h) (Or.inl ⟨by rfl, ?hy1⟩) rfl ?_
        case hy1 => (intro v; go_simp; first | done | with_reducible rfl)
        simp only [Act.put, List.setIfInBounds_toArray, List.set_cons_zero, List.set_cons_succ]
        refine take_ #[true, true, false, false, false, false, false, false, false, false, false] (i := 1) (N := some 16) (v := ?v2) rfl rfl (by kernel_rfl) (fun _ _ _ h => h) (Or.inl ⟨by rfl, ?hy2⟩) HS rfl ?_
        case hy2 => (intro v hv; obtain ⟨x, rfl, _, _, n0, n1⟩ := hv.pin2; go_simp; first | done | with_reducible rfl)
        simp only [Act.put, List.setIfInBounds_toArray, List.set_cons_zero, List.set_cons_succ]
        refine take_ #[true, true, true, false, false, false, false, false, false, false, false] (i := 2) (N := some 17) (v := ?v3) rfl rfl (by kernel_rfl) (fun _ _ _ h => h) (Or.inl ⟨by rfl, ?hy3⟩) HS rfl ?_
        case hy3 => (intro v hv; obtain ⟨x, rfl, _, _, n0, n1⟩ := hv.pin2; go_simp; first | done | with_reducible rfl)
        simp only [Act.put, List.setIfInBounds_toArray, List.set_cons_zero, List.set_cons_succ]
        refine pure_ #[true, true, true, true, false, false, false, false, false, false, false] (i := 3) (N := some 18) (v := ?v4) rfl rfl (by kernel_rfl) (fun _ _ _ h => h) (Or.inl ⟨by rfl, ?hy4⟩) rfl ?_
        case hy4 => (intro v; go_simp; first | done | with_reducible rfl)
        simp only [Act.put, List.setIfInBounds_toArray, List.set_cons_zero, List.set_cons_succ]
        refine pure_ #[true, true, true, true, true, false, false, false, false, false, false] (i := 4) (N := some 19) (v := ?v5) rfl rfl (by kernel_rfl) (fun _ _ _ h => h) (Or.inl ⟨by rfl, ?hy5⟩) rfl ?_
        case hy5 => (intro v; go_simp; first | done | with_reducible rfl)
        simp only [Act.put, List.setIfInBounds_toArray, List.set_cons_zero, List.set_cons_succ]
        refine take_ #[true, true, true, true, true, true, false, false, false, false, false] (i := 5) (N := some 20) (v := ?v6) rfl rfl (by kernel_rfl) (fun _ _ _ h => h) (Or.inl ⟨by rfl, ?hy6⟩) HS rfl ?_
        case hy6 => (intro v hv; obtain ⟨x, rfl, _, _, n0, n1⟩ := hv.pin2; go_simp; first | done | with_reducible rfl)
        simp only [Act.put, List.setIfInBounds_toArray, List.set_cons_zero, List.set_cons_succ]
        refine take_ #[true, true, true, true, true, true, true, false, false, false, false] (i := 6) (N := some 21) (v := ?v7) rfl rfl (by kernel_rfl) (fun _ _ _ h => h) (Or.inl ⟨by rfl, ?hy7⟩) HS rfl ?_
        case hy7 => (intro v hv; obtain ⟨x, rfl, _, _, n0, n1⟩ := hv.pin2; go_simp; first | done | with_reducible rfl)
        simp only [Act.put, List.setIfInBounds_toArray, List.set_cons_zero, List.set_cons_succ]
        refine pure_ #[true, true, true, true, true, true, true, true, false, false, false] (i := 7) (N := some 22) (v := ?v8) rfl rfl (by kernel_rfl) (fun _ _ _ h => h) (Or.inl ⟨by rfl, ?hy8⟩) rfl ?_
        case hy8 => (intro v; go_simp; first | done | with_reducible rfl)
        simp only [Act.put, List.setIfInBounds_toArray, List.set_cons_zero, List.set_cons_succ]
        refine pure_ #[true, true, true, true, true, true, true, true, true, false, false] (i := 8) (N := some 23) (v := ?v9) rfl rfl (by kernel_rfl) (fun _ _ _ h => h) (Or.inl ⟨by rfl, ?hy9⟩) rfl ?_
        case hy9 => (intro v; go_simp; first | done | with_reducible rfl)
        simp only [Act.put, List.setIfInBounds_toArray, List.set_cons_zero, List.set_cons_succ]
        refine take_ #[true, true, true, true, true, true, true, true, true, true, false] (i := 9) (N := some 24) (v := ?v10) rfl rfl (by kernel_rfl) (fun _ _ _ h => h) (Or.inl ⟨by rfl, ?hy10⟩) HS rfl ?_
        case hy10 => (intro v hv; obtain ⟨x, rfl, _, _, n0, n1⟩ := hv.pin2; go_simp; first | done | with_reducible rfl)
        simp only [Act.put, List.setIfInBounds_toArray, List.set_cons_zero, List.set_cons_succ]
        clear HS
        refine last_ #[true, true, true, true, true, true, true, true, true, true, true] (i := 10) (N := none) rfl rfl (by kernel_rfl) (by decide) (fun K hK => ?_)
        go_simp
        refine hK.out _ _ ?_
        refine done_ (by kernel_rfl) ?_
        go_wp2_with fail
        exact ⟨⟨i + 1, z.drew, vi0 i, by rw [half_or a b HAB.out.1 HAB.out.2, row_set, halfW_step HV.out]; rfl, q0, q1, HB1.out.drew, HI.out⟩, meas_up0 9 i HI.out⟩
      · have HV := Lib.hid (show a / 2 = lim (x / 2) i by rw [← lim_half x i, ha, show lim x (i + 1) = 0 from by rw [show i + 1 = 9 by omega]; exact lim_high HX.out]; omega)
        have hjz : ¬ (i : Int) + 1 < 9 := by omega
        clear H hi hj ha
        go_wp2_with fail
        exact ⟨⟨i + 1, z, vi0 i, by rw [half_cast, row_set, halfW_step HV.out], q0, q1, HB1.out, HI.out⟩, meas_up0 9 i HI.out⟩
    · have hi : i = 9 := by have := H.out.2; omega
      subst hi
      rw [halfW_end, row9_lit (x / 2)]
      go_wp2_with fail
      refine bodyPost_ret (v := Lv (x / 2)) ?_ rfl ⟨rfl, ?_⟩
      · simp [results, Tryd.results41, go_sem, q0, q1]
      · exact (by (repeat (first | with_reducible exact H.out.1 | with_reducible refine below_pin ?_ ?_ | with_reducible refine Below.alloc ?_ ?_ _ | with_reducible refine Below.setCell ?_ ?_ _ | with_reducible refine Below.drew ?_)); all_goals (first | omega | (simp only [World.size_alloc, pin_size, World.size_drew, World.size_setCell] <;> omega)))

theorem wr8 (q : Nat) (h : q < 8) : wrap64 (8 * (q : Int)) = ((8 * q : Nat) : Int) := by rw [wr64 _ (by omega)]; omega
theorem read_or (o b q v : Nat) (ho : o < 256 ^ q) (hb : b < 256) (hq : q < 8) (hv : v = o + b * 256 ^ q) : bits .or .u64 (o : Int) (w64 ((b : Int) * 2 ^ (8 * q))) = (v : Int) := by
  have hp : 256 ^ q ≤ 256 ^ 7 := Nat.pow_le_pow_right (by decide) (by omega)
  have e8 : (2 : Nat) ^ (8 * q) = 256 ^ q := by rw [show (256 : Nat) = 2 ^ 8 by decide, ← Nat.pow_mul]
  have hbq : b * 256 ^ q ≤ 255 * 256 ^ 7 := Nat.mul_le_mul (by omega) hp
  have e2 : w64 ((b : Int) * 2 ^ (8 * q)) = ((b * 256 ^ q : Nat) : Int) := by
    have e4 : ((2 : Int) ^ (8 * q)) = ((256 ^ q : Nat) : Int) := by rw [← e8, Int.natCast_pow]; rfl
    rw [e4, ← Int.natCast_mul]
    exact w64_of _ (by omega)
  have hor := bits_nat .u64 64 (by decide) (fun n h0 h1 => by
    simp only [IntKind.wrap, IntKind.bits, IntKind.signed] at *
    simp at *
    omega) o (b * 256 ^ q) (by omega) (by omega)
  rw [e2, hor.2]
  have := Nat.shiftLeft_add_eq_or_of_lt (show o < 2 ^ (8 * q) by rw [e8]; exact ho) b
  rw [Nat.shiftLeft_eq, e8, Nat.or_comm] at this
  omega

set_option maxRecDepth 100000 in
set_option maxHeartbeats 1000000 in
theorem read_any (A : Option Addr) (c : Nat) (bs : List Nat) (hby : ∀ b ∈ bs, b < 256) (hl : bs.length ≤ 64) (w : World) (hr : Rd w .u8 A bs) :
    Calls Tryd.prog 21 #[.slice A bs.length c] w fun e w' => e = .returned (Lv (leN bs)) ∧ Below w.heap.size w w' := by
  have HR := Lib.hid hr
  have HBy := Lib.hid hby
  obtain ⟨n, hn⟩ : ∃ n, n = bs.length := ⟨_, rfl⟩
  have HN := Lib.hid hn
  have HL := Lib.hid hl
  rw [← hn]
  clear hr hby hn hl
  go_enter Tryd.func21, Tryd.ntmps21
  go_wp2_with fail
  go_loopw [8] (fun iv wr => ∃ (i : Nat) (z : World), iv = .int .i64 (i : Int) ∧ wr = ((z.pin (w.heap.size) (.cells #[.int .u64 0, .int .u64 0, .int .u64 0, .int .u64 0, .int .u64 0, .int .u64 0, .int .u64 0, .int .u64 0, .int .u64 0] 44)).pin (w.heap.size + 1) (.cells (row 9 (lim (leN (bs.take i)))) 44)) ∧ w.heap.size < z.heap.size ∧ w.heap.size + 1 < z.heap.size ∧ Hid (Below w.heap.size w z ∧ i ≤ n)) (fun iv _ => (n - intOf iv).toNat)
  case atStart => exact ⟨0, _, rfl, pins2f (by (repeat (first | with_reducible exact pin_at (by assumption) | (with_reducible apply pin_at; (first | omega | (simp only [World.size_alloc, pin_size, World.size_drew, World.size_setCell] <;> omega))) | (with_reducible apply alloc_at; first | rfl | (simp only [World.size_alloc, pin_size, World.size_drew, World.size_setCell] <;> omega)) | with_reducible apply past_pin | with_reducible apply past_alloc | with_reducible apply past_drew)); all_goals (first | omega | (simp only [World.size_alloc, pin_size, World.size_drew, World.size_setCell] <;> omega))) (by (repeat (first | with_reducible exact pin_at (by assumption) | (with_reducible apply pin_at; (first | omega | (simp only [World.size_alloc, pin_size, World.size_drew, World.size_setCell] <;> omega))) | (with_reducible apply alloc_at; first | rfl | (simp only [World.size_alloc, pin_size, World.size_drew, World.size_setCell] <;> omega)) | with_reducible apply past_pin | with_reducible apply past_alloc | with_reducible apply past_drew)); all_goals (first | omega | (simp only [World.size_alloc, pin_size, World.size_drew, World.size_setCell] <;> omega))) (by rfl) (by rw [List.take_zero]; rfl), (by (first | omega | (simp only [World.size_alloc, pin_size, World.size_drew, World.size_setCell] <;> omega))), (by (first | omega | (simp only [World.size_alloc, pin_size, World.size_drew, World.size_setCell] <;> omega))), (by (repeat (first | with_reducible exact (Below.refl _ _) | with_reducible refine below_pin ?_ ?_ | with_reducible refine Below.alloc ?_ ?_ _ | with_reducible refine Below.setCell ?_ ?_ _ | with_reducible refine Below.drew ?_)); all_goals (first | omega | (simp only [World.size_alloc, pin_size, World.size_drew, World.size_setCell] <;> omega))), Nat.zero_le _⟩
  case round =>
    obtain ⟨i, z, rfl, rfl, q0, q1, H⟩ := hrel
    by_cases hi : i < n
    · have hi' : i < bs.length := by rw [← HN.out]; exact hi
      obtain ⟨b, off, rfl, hbw, hcell⟩ := HR.out.place (by omega)
      obtain ⟨v, hv⟩ : ∃ v, v = bs[i] := ⟨_, rfl⟩
      have hc : z.cell? ⟨b, off + i, none⟩ = some (.int .u8 (v : Int)) := by rw [hv]; exact (H.out.1.cell (p := ⟨b, off + i, none⟩) hbw).trans (hcell i hi')
      have HB1 : Hid (Below w.heap.size w z) := H.out.1
      have HI := Lib.hid hi
      have HLL := HL.out
      obtain ⟨j, hj⟩ : ∃ j, j = i / 8 := ⟨_, rfl⟩
      obtain ⟨q, hq⟩ : ∃ q, q = i % 8 := ⟨_, rfl⟩
      have hj9 : j < 9 := by have := HN.out; omega
      have hgx := row9_get (lim (leN (bs.take i))) hj9
      obtain ⟨o, ho⟩ : ∃ o, o = lim (leN (bs.take i)) j := ⟨_, rfl⟩
      rw [← ho] at hgx
      have hv256 : v < 256 := by rw [hv]; exact HBy.out _ (List.getElem_mem _)
      have hNt := leN_take_lt bs HBy.out i (by omega)
      have hra := read_at (b := v) hNt hv256
      rw [← hj, ← hq, ← ho] at hra
      obtain ⟨nv, hnv⟩ : ∃ nv, nv = o + v * 256 ^ q := ⟨_, rfl⟩
      have HOR := Lib.hid (read_or o v q nv hra.1 hv256 (by omega) hnv)
      have HROW := Lib.hid (show row 9 (upd (lim (leN (bs.take i))) j nv) = row 9 (lim (leN (bs.take (i + 1)))) by
        rw [leN_take_next bs i hi', ← hv, hj]
        exact read_row hNt hv256 (by rw [hnv, ← hj, ← ho, ← hq]))
      have e1 : ((i : Int)).tdiv 8 = (j : Int) := by rw [Int.tdiv_eq_ediv_of_nonneg (by omega)]; omega
      have e2 : ((i : Int)) / 8 = (j : Int) := by omega
      have e3 : ((i : Int)).tmod 8 = (q : Int) := by rw [Int.tmod_eq_emod_of_nonneg (by omega)]; omega
      have e4 : ((i : Int)) % 8 = (q : Int) := by omega
      have hjz : (j : Int) < 9 := by omega
      have s1 : w64 (v : Int) = (v : Int) := w64_of v (by omega)
      have e5 : wrap64 (8 * (q : Int)) = ((8 * q : Nat) : Int) := wr8 q (by omega)
      have e6 : IntKind.i64.wrap (j : Int) = (j : Int) := (wrap_w64 _).trans (wr64 _ (by omega))
      have e7 : IntKind.i64.wrap (q : Int) = (q : Int) := (wrap_w64 _).trans (wr64 _ (by omega))
      have e8 : IntKind.i64.wrap (8 * (q : Int)) = ((8 * q : Nat) : Int) := (wrap_w64 _).trans e5
      clear H hi hi' hcell hv hv256 hNt hra hnv hj hq ho hj9 HLL
      go_wp2_with fail
      refine start_ (S := Keeps w _) (ds := [12]) (n := 13) #[false, false, false, false, false, false, false, false, false, false, false, false, false] (by kernel_rfl) rfl rfl (keepsC (b := w.heap.size) (by (repeat (first | with_reducible exact pin_at (by assumption) | (with_reducible apply pin_at; (first | omega | (simp only [World.size_alloc, pin_size, World.size_drew, World.size_setCell] <;> omega))) | (with_reducible apply alloc_at; first | rfl | (simp only [World.size_alloc, pin_size, World.size_drew, World.size_setCell] <;> omega)) | with_reducible apply past_pin | with_reducible apply past_alloc | with_reducible apply past_drew)); all_goals (first | omega | (simp only [World.size_alloc, pin_size, World.size_drew, World.size_setCell] <;> omega))) (keepsC (b := w.heap.size + 1) (by (repeat (first | with_reducible exact pin_at (by assumption) | (with_reducible apply pin_at; (first | omega | (simp only [World.size_alloc, pin_size, World.size_drew, World.size_setCell] <;> omega))) | (with_reducible apply alloc_at; first | rfl | (simp only [World.size_alloc, pin_size, World.size_drew, World.size_setCell] <;> omega)) | with_reducible apply past_pin | with_reducible apply past_alloc | with_reducible apply past_drew)); all_goals (first | omega | (simp only [World.size_alloc, pin_size, World.size_drew, World.size_setCell] <;> omega))) (keeps0 (by (repeat (first | with_reducible exact HB1.out | with_reducible refine below_pin ?_ ?_ | with_reducible refine Below.alloc ?_ ?_ _ | with_reducible refine Below.setCell ?_ ?_ _ | with_reducible refine Below.drew ?_)); all_goals (first | omega | (simp only [World.size_alloc, pin_size, World.size_drew, World.size_setCell] <;> omega)))))) (fun HS => ?_)
      refine pure_ #[true, false, false, false, false, false, false, false, false, false, false, false, false] (i := 0) (N := some 13) (v := ?v1) rfl rfl (by kernel_rfl) (fun _ _ _ h => h) (Or.inl ⟨by rfl, ?hy1⟩) rfl ?_
      case hy1 => (intro v; go_simp; first | done | with_reducible rfl)
      simp only [Act.put, List.setIfInBounds_toArray, List.set_cons_zero, List.set_cons_succ]
      refine pure_ #[true, true, false, false, false, false, false, false, false, false, false, false, false] (i := 1) (N := some 14) (v := ?v2) rfl rfl (by kernel_rfl) (fun _ _ _ h => h) (Or.inl ⟨by rfl, ?hy2⟩) rfl ?_
      case hy2 => (intro v; go_simp; first | done | with_reducible rfl)
      simp only [Act.put, List.setIfInBounds_toArray, List.set_cons_zero, List.set_cons_succ]
      refine take_ #[true, true, true, false, false, false, false, false, false, false, false, false, false] (i := 2) (N := some 15) (v := ?v3) rfl rfl (by kernel_rfl) (fun _ _ _ h => h) (Or.inl ⟨by rfl, ?hy3⟩) HS rfl ?_
      case hy3 => (intro v hv; obtain ⟨x, rfl, _, _, n0, n1⟩ := hv.pin2; go_simp; first | done | with_reducible rfl)
      simp only [Act.put, List.setIfInBounds_toArray, List.set_cons_zero, List.set_cons_succ]
      refine take_ #[true, true, true, true, false, false, false, false, false, false, false, false, false] (i := 3) (N := some 16) (v := ?v4) rfl rfl (by kernel_rfl) (fun _ _ _ h => h) (Or.inl ⟨by rfl, ?hy4⟩) HS rfl ?_
      case hy4 => (intro v hv; obtain ⟨x, rfl, _, _, n0, n1⟩ := hv.pin2; go_simp; first | done | with_reducible rfl)
      simp only [Act.put, List.setIfInBounds_toArray, List.set_cons_zero, List.set_cons_succ]
      refine pure_ #[true, true, true, true, true, false, false, false, false, false, false, false, false] (i := 4) (N := some 17) (v := ?v5) rfl rfl (by kernel_rfl) (fun _ _ _ h => h) (Or.inl ⟨by rfl, ?hy5⟩) rfl ?_
      case hy5 => (intro v; go_simp; first | done | with_reducible rfl)
      simp only [Act.put, List.setIfInBounds_toArray, List.set_cons_zero, List.set_cons_succ]
      refine pure_ #[true, true, true, true, true, true, false, false, false, false, false, false, false] (i := 5) (N := some 18) (v := ?v6) rfl rfl (by kernel_rfl) (fun _ _ _ h => h) (Or.inl ⟨by rfl, ?hy6⟩) rfl ?_
      case hy6 => (intro v; go_simp; first | done | with_reducible rfl)
      simp only [Act.put, List.setIfInBounds_toArray, List.set_cons_zero, List.set_cons_succ]
      refine pure_ #[true, true, true, true, true, true, true, false, false, false, false, false, false] (i := 6) (N := some 19) (v := ?v7) rfl rfl (by kernel_rfl) (fun _ _ _ h => h) (Or.inl ⟨by rfl, ?hy7⟩) rfl ?_
      case hy7 => (intro v; go_simp; first | done | with_reducible rfl)
      simp only [Act.put, List.setIfInBounds_toArray, List.set_cons_zero, List.set_cons_succ]
      refine pure_ #[true, true, true, true, true, true, true, true, false, false, false, false, false] (i := 7) (N := some 20) (v := ?v8) rfl rfl (by kernel_rfl) (fun _ _ _ h => h) (Or.inl ⟨by rfl, ?hy8⟩) rfl ?_
      case hy8 => (intro v; go_simp; first | done | with_reducible rfl)
      simp only [Act.put, List.setIfInBounds_toArray, List.set_cons_zero, List.set_cons_succ]
      refine pure_ #[true, true, true, true, true, true, true, true, true, false, false, false, false] (i := 8) (N := some 21) (v := ?v9) rfl rfl (by kernel_rfl) (fun _ _ _ h => h) (Or.inl ⟨by rfl, ?hy9⟩) rfl ?_
      case hy9 => (intro v; go_simp; first | done | with_reducible rfl)
      simp only [Act.put, List.setIfInBounds_toArray, List.set_cons_zero, List.set_cons_succ]
      refine pure_ #[true, true, true, true, true, true, true, true, true, true, false, false, false] (i := 9) (N := some 22) (v := ?v10) rfl rfl (by kernel_rfl) (fun _ _ _ h => h) (Or.inl ⟨by rfl, ?hy10⟩) rfl ?_
      case hy10 => (intro v; go_simp; first | done | with_reducible rfl)
      simp only [Act.put, List.setIfInBounds_toArray, List.set_cons_zero, List.set_cons_succ]
      refine pure_ #[true, true, true, true, true, true, true, true, true, true, true, false, false] (i := 10) (N := some 23) (v := ?v11) rfl rfl (by kernel_rfl) (fun _ _ _ h => h) (Or.inl ⟨by rfl, ?hy11⟩) rfl ?_
      case hy11 => (intro v; go_simp; first | done | with_reducible rfl)
      simp only [Act.put, List.setIfInBounds_toArray, List.set_cons_zero, List.set_cons_succ]
      refine take_ #[true, true, true, true, true, true, true, true, true, true, true, true, false] (i := 11) (N := some 24) (v := ?v12) rfl rfl (by kernel_rfl) (fun _ _ _ h => h) (Or.inl ⟨by rfl, ?hy12⟩) HS rfl ?_
      case hy12 => (intro v hv; obtain ⟨x, rfl, _, _, n0, n1⟩ := hv.pin2; go_simp; first | done | with_reducible rfl)
      simp only [Act.put, List.setIfInBounds_toArray, List.set_cons_zero, List.set_cons_succ]
      clear HS
      refine last_ #[true, true, true, true, true, true, true, true, true, true, true, true, true] (i := 12) (N := none) rfl rfl (by kernel_rfl) (by decide) (fun K hK => ?_)
      go_simp
      refine hK.out _ _ ?_
      refine done_ (by kernel_rfl) ?_
      go_wp2_with fail
      exact ⟨⟨i + 1, z.drew, vi0 i, by rw [HOR.out, row_set, HROW.out]; rfl, q0, q1, HB1.out.drew, HI.out⟩, meas_up0 n i HI.out⟩
    · have hi : i = n := by have := H.out.2; omega
      subst hi
      have ht : bs.take i = bs := by rw [HN.out]; exact List.take_length
      rw [ht, row9_lit (leN bs)]
      go_wp2_with fail
      refine bodyPost_ret (v := Lv (leN bs)) ?_ rfl ⟨rfl, ?_⟩
      · simp [results, Tryd.results21, go_sem, q0, q1]
      · exact (by (repeat (first | with_reducible exact H.out.1 | with_reducible refine below_pin ?_ ?_ | with_reducible refine Below.alloc ?_ ?_ _ | with_reducible refine Below.setCell ?_ ?_ _ | with_reducible refine Below.drew ?_)); all_goals (first | omega | (simp only [World.size_alloc, pin_size, World.size_drew, World.size_setCell] <;> omega)))

end Go.Proofs.YtljolpdpblohcaaDoor
