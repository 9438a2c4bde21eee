/-
  Walks: package field, what is left of a number by the order.
-/
import Derived.Test.YtljolpdpblohcaaDoorLx
import Derived.Laws.CopyRow
namespace Go.Proofs.YtljolpdpblohcaaDoor
open Go.RowKit Go.Proofs.YtljolpdpblohcaaDoorW.PrintLast
set_option linter.unusedSimpArgs false

set_option linter.unusedVariables false
/-- The order of the curve's group. -/
abbrev LO : Nat := 7237005577332262213973186563042994240857116359379907606001950938285454250989
abbrev LT5 : Nat := 15458150092069033378781302852832734044513438294264643198945209379837107374690613649382049640449213702311660922048195886906801585403221409083559254043208154054197248
/-- The variable that holds it. -/
def OrdAt (w : World) : Prop := ∀ j, j < 4 → w.cell? ⟨0, j, none⟩ = some (.int .u64 ((lim LO j : Nat) : Int))
theorem OrdAt.next {w w' : World} (h : OrdAt w) (hb : Below w.heap.size w w') : OrdAt w' := fun j hj => (hb.cell (p := ⟨0, j, none⟩) (World.block_lt_of_cell? w _ (h j hj))).trans (h j hj)
theorem OrdAt.mono {w w' : World} (h : OrdAt w) {B : Nat} (hb : Below B w w') (hB : w.heap.size ≤ B) : OrdAt w' := fun j hj => (hb.cell (p := ⟨0, j, none⟩) (Nat.lt_of_lt_of_le (World.block_lt_of_cell? w _ (h j hj)) hB)).trans (h j hj)
theorem setRow_pin {w : World} {b : Nat} {old cs : Array Value} {t : TypeId} (h : w.heap[b]? = some (.cells old t)) : w.setRow b cs = w.pin b (.cells cs t) := by
  simp only [World.setRow, World.pin]
  congr 1
  apply Array.ext_getElem?
  intro k
  rw [Array.getElem?_modify, Array.getElem?_setIfInBounds]
  by_cases hk : b = k
  · subst hk
    have hlt := (Array.getElem?_eq_some_iff.mp h).1
    rw [if_pos rfl, h]
    simp [hlt]
  · simp [hk]
/-- What stands behind o words of nought: the order. -/
def ordC (o : Nat) : Nat → Nat := fun j => if j < o then 0 else lim LO (j - o)
theorem copyOrd (v : World) (g o l c : Nat) (ho9 : o + 4 ≤ 9) (hl : l = 4 ∨ l = 9) (hg : v.heap[g]? = some (.cells #[.int .u64 0, .int .u64 0, .int .u64 0, .int .u64 0, .int .u64 0, .int .u64 0, .int .u64 0, .int .u64 0, .int .u64 0] 44)) (ho : OrdAt v) (ty : TypeId) :
    (Builtin.copy_ #[48, 48] ty #[.slice (some ⟨g, o, none⟩) l c, .slice (some ⟨0, 0, none⟩) 4 4]).run Tryd.prog v = .ok (.int .i64 4) (v.pin g (.cells (((row 9 (lim 0)).toList.take o ++ (row 4 (lim LO)).toList ++ (row 9 (lim 0)).toList.drop (o + 4)).toArray) 44)) := by
  have hz : (.cells #[.int .u64 0, .int .u64 0, .int .u64 0, .int .u64 0, .int .u64 0, .int .u64 0, .int .u64 0, .int .u64 0, .int .u64 0] 44) = (Obj.cells (row 9 (lim 0)) 44) := by rw [← zeros9]
  rw [hz] at hg
  have hlen : (row 4 (lim LO)).toList.length = Nat.min 4 l := by rcases hl with rfl | rfl <;> rfl
  have h := run_copy_row (P := Tryd.prog) v 48 48 ty 33 g o l c ⟨0, 0, none⟩ 4 4 (row 9 (lim 0)) 44 (row 4 (lim LO)).toList (by kernel_rfl) (by kernel_rfl) hg hlen ?_ (by rw [Array.length_toList, row_size, row_size]; exact ho9) ?_
  · rw [h, setRow_pin hg]
    rfl
  · intro j u hj
    have hj4 : j < 4 := by
      have := (List.getElem?_eq_some_iff.mp hj).1
      simpa [row_size] using this
    have hu : u = .int .u64 ((lim LO j : Nat) : Int) := by
      have h1 := row_get (lim LO) hj4
      rw [Array.getElem?_toList] at hj
      rw [h1] at hj
      exact (Option.some.inj hj).symm
    rw [Addr.add_lit, hu, Nat.zero_add]
    exact ho j hj4
  · intro u hu
    simp only [row, List.mem_map] at hu
    obtain ⟨j, _, rfl⟩ := hu
    rfl

/-- What is told at the head of rest's loop. -/
def RestI (x k N M : Nat) : Prop := M = LO * 2 ^ 320 / 2 ^ k ∧ N % LO = x % LO ∧ N * 2 ^ k < LO * 2 ^ 321 ∧ k ≤ 321
theorem rest_div {k : Nat} (hk : k ≤ 320) : LO * 2 ^ 320 / 2 ^ k = LO * 2 ^ (320 - k) := by
  have e : LO * 2 ^ 320 = LO * 2 ^ (320 - k) * 2 ^ k := by rw [Nat.mul_assoc, ← Nat.pow_add, Nat.sub_add_cancel hk]
  rw [e, Nat.mul_div_cancel _ (Nat.pow_pos (by decide))]
theorem rest_W {x k N M : Nat} (h : RestI x k N M) : N < WW ^ 9 ∧ M < WW ^ 9 := by
  obtain ⟨h1, h2, h3, h4⟩ := h
  have hc : LO * 2 ^ 321 < WW ^ 9 := by decide +kernel
  have hc2 : LO * 2 ^ 320 < WW ^ 9 := by decide +kernel
  have hp : 0 < 2 ^ k := Nat.pow_pos (by decide)
  refine ⟨?_, ?_⟩
  · exact Nat.lt_of_le_of_lt (Nat.le_mul_of_pos_right N hp) (Nat.lt_trans h3 hc)
  · rw [h1]
    exact Nat.lt_of_le_of_lt (Nat.div_le_self _ _) hc2
theorem rest_half (k : Nat) : LO * 2 ^ 320 / 2 ^ k / 2 = LO * 2 ^ 320 / 2 ^ (k + 1) := by rw [Nat.div_div_eq_div_mul, ← Nat.pow_succ]
theorem rest_two {k : Nat} (hk : k ≤ 320) : LO * 2 ^ (320 - k) * 2 ^ (k + 1) = LO * 2 ^ 321 := by
  rw [Nat.mul_assoc, ← Nat.pow_add, show 320 - k + (k + 1) = 321 by omega]
theorem rest_below {x k N M : Nat} (h : RestI x k N M) (hk : k < 321) (hlt : N < M) : RestI x (k + 1) N (M / 2) := by
  obtain ⟨h1, h2, h3, h4⟩ := h
  refine ⟨by rw [h1, rest_half], h2, ?_, hk⟩
  rw [h1, rest_div (by omega)] at hlt
  have h5 := Nat.mul_lt_mul_of_pos_right hlt (show 0 < 2 ^ (k + 1) from Nat.pow_pos (by decide))
  rw [rest_two (by omega)] at h5
  exact h5
theorem rest_less {x k N M : Nat} (h : RestI x k N M) (hk : k < 321) (hle : M ≤ N) : RestI x (k + 1) (N - M) (M / 2) := by
  obtain ⟨h1, h2, h3, h4⟩ := h
  have hM := h1
  rw [rest_div (by omega)] at hM
  refine ⟨by rw [h1, rest_half], ?_, ?_, hk⟩
  · rw [← h2]
    obtain ⟨d, hd⟩ : ∃ d, N = M + d := ⟨N - M, by omega⟩
    rw [hd, Nat.add_sub_cancel_left, hM, Nat.add_comm, Nat.add_mul_mod_self_left]
  · have h5 : N < M + M := by
      have h6 : (M + M) * 2 ^ k = LO * 2 ^ 321 := by
        rw [← Nat.two_mul, hM, ← rest_two (k := k) (by omega), Nat.pow_succ]
        simp only [Nat.mul_assoc, Nat.mul_comm, Nat.mul_left_comm]
      rw [← h6] at h3
      exact Nat.lt_of_mul_lt_mul_right h3
    have h7 : N - M < M := by omega
    have h8 := Nat.mul_lt_mul_of_pos_right h7 (show 0 < 2 ^ (k + 1) from Nat.pow_pos (by decide))
    rw [hM, rest_two (by omega), ← hM] at h8
    exact h8
theorem rest_start {x : Nat} (hx : x < LO * 2 ^ 321) : RestI x 0 x (LO * 2 ^ 320) := ⟨by rw [Nat.pow_zero, Nat.div_one], rfl, by rw [Nat.pow_zero, Nat.mul_one]; exact hx, by decide⟩
theorem rest_end {x N M : Nat} (h : RestI x 321 N M) : N = x % LO := by
  obtain ⟨h1, h2, h3, h4⟩ := h
  have h5 : N < LO := Nat.lt_of_mul_lt_mul_right h3
  rw [← h2, Nat.mod_eq_of_lt h5]
theorem ord5 : (((row 9 (lim 0)).toList.take 5 ++ (row 4 (lim LO)).toList ++ (row 9 (lim 0)).toList.drop (5 + 4)).toArray) = row 9 (lim (LO * 2 ^ 320)) := by kernel_rfl
theorem ord0 : (((row 9 (lim 0)).toList.take 0 ++ (row 4 (lim LO)).toList ++ (row 9 (lim 0)).toList.drop (0 + 4)).toArray) = row 9 (lim LO) := by kernel_rfl
theorem BelowZ (x y : Nat) (b : Bool) (hx : x < WW ^ 9) (hy : y < WW ^ 9) (hb : decide (x < y) = b) (w : World) : Calls Tryd.prog 25 #[Lv x, Lv y] w fun e w' => e = .returned (.bool b) ∧ Below w.heap.size w w' := by
  have h := below_any x y hx hy w
  rw [hb] at h
  exact h
set_option maxRecDepth 100000 in
set_option maxHeartbeats 1000000 in
theorem rest_any (x : Nat) (hx : x < LO * 2 ^ 321) (w : World) (ho : OrdAt w) :
    Calls Tryd.prog 20 #[Lv x] w fun e w' => e = .returned (Lv (x % LO)) ∧ Below w.heap.size w w' := by
  have HO := Lib.hid ho
  have HX := Lib.hid hx
  clear ho hx
  go_enter Tryd.func20, Tryd.ntmps20
  go_wp2_with fail
  obtain ⟨v, hv⟩ : ∃ v, v = (((w.alloc (.cells #[.int .u64 ((lim x 0 : Nat) : Int), .int .u64 ((lim x 1 : Nat) : Int), .int .u64 ((lim x 2 : Nat) : Int), .int .u64 ((lim x 3 : Nat) : Int), .int .u64 ((lim x 4 : Nat) : Int), .int .u64 ((lim x 5 : Nat) : Int), .int .u64 ((lim x 6 : Nat) : Int), .int .u64 ((lim x 7 : Nat) : Int), .int .u64 ((lim x 8 : Nat) : Int)] 44)).alloc (.cells #[.int .u64 0, .int .u64 0, .int .u64 0, .int .u64 0, .int .u64 0, .int .u64 0, .int .u64 0, .int .u64 0, .int .u64 0] 44)).alloc (.cells #[.int .u64 0, .int .u64 0, .int .u64 0, .int .u64 0, .int .u64 0, .int .u64 0, .int .u64 0, .int .u64 0, .int .u64 0] 44)) := ⟨_, rfl⟩
  have hv2 : v.heap[w.heap.size + 2]? = some (.cells #[.int .u64 0, .int .u64 0, .int .u64 0, .int .u64 0, .int .u64 0, .int .u64 0, .int .u64 0, .int .u64 0, .int .u64 0] 44) := by rw [hv]; exact (by (repeat (first | with_reducible exact pin_at (by assumption) | (with_reducible apply pin_at; (first | omega | (simp only [World.size_alloc, pin_size, World.size_drew, World.size_setCell] <;> omega))) | (with_reducible apply alloc_at; first | rfl | (simp only [World.size_alloc, pin_size, World.size_drew, World.size_setCell] <;> omega)) | with_reducible apply past_pin | with_reducible apply past_alloc | with_reducible apply past_drew)); all_goals (first | omega | (simp only [World.size_alloc, pin_size, World.size_drew, World.size_setCell] <;> omega)))
  have HVO : OrdAt v := by rw [hv]; exact HO.out.next (by (repeat (first | with_reducible exact (Below.refl _ _) | with_reducible refine below_pin ?_ ?_ | with_reducible refine Below.alloc ?_ ?_ _ | with_reducible refine Below.setCell ?_ ?_ _ | with_reducible refine Below.drew ?_)); all_goals (first | omega | (simp only [World.size_alloc, pin_size, World.size_drew, World.size_setCell] <;> omega)))
  rw [← hv]
  have hcp := fun ty => copyOrd v.drew (w.heap.size + 1 + 1) 5 4 4 (by decide) (.inl rfl) hv2 (fun j hj => HVO j hj) ty
  obtain ⟨M, hM⟩ : ∃ M, M = LO * 2 ^ 320 := ⟨_, rfl⟩
  rw [ord5, ← hM, row9_lit M] at hcp
  have HI0 : Hid (RestI x 0 x M) := Lib.hid (by rw [hM]; exact rest_start HX.out)
  have HVV := Lib.hid hv
  clear hM HVO hv2 hv
  refine wp_region_still_tail 2 (by kernel_rfl) (by kernel_rfl) ?_
  simp only [List.take_succ_cons, List.take_zero, List.drop_succ_cons, List.drop_zero, World.drew_eq]
  (repeat still_step)
  refine wpStill_nil ?_
  go_wp2_with fail
  have hv := HVV.out
  subst hv
  go_loopw [7] (fun kv wr => ∃ (k N M : Nat) (z : World), kv = .int .i64 (k : Int) ∧ wr = (((z.pin (w.heap.size) (.cells #[.int .u64 ((lim N 0 : Nat) : Int), .int .u64 ((lim N 1 : Nat) : Int), .int .u64 ((lim N 2 : Nat) : Int), .int .u64 ((lim N 3 : Nat) : Int), .int .u64 ((lim N 4 : Nat) : Int), .int .u64 ((lim N 5 : Nat) : Int), .int .u64 ((lim N 6 : Nat) : Int), .int .u64 ((lim N 7 : Nat) : Int), .int .u64 ((lim N 8 : Nat) : Int)] 44)).pin (w.heap.size + 1) (.cells #[.int .u64 0, .int .u64 0, .int .u64 0, .int .u64 0, .int .u64 0, .int .u64 0, .int .u64 0, .int .u64 0, .int .u64 0] 44)).pin (w.heap.size + 2) (.cells #[.int .u64 ((lim M 0 : Nat) : Int), .int .u64 ((lim M 1 : Nat) : Int), .int .u64 ((lim M 2 : Nat) : Int), .int .u64 ((lim M 3 : Nat) : Int), .int .u64 ((lim M 4 : Nat) : Int), .int .u64 ((lim M 5 : Nat) : Int), .int .u64 ((lim M 6 : Nat) : Int), .int .u64 ((lim M 7 : Nat) : Int), .int .u64 ((lim M 8 : Nat) : Int)] 44)) ∧ w.heap.size < z.heap.size ∧ w.heap.size + 1 < z.heap.size ∧ w.heap.size + 2 < z.heap.size ∧ Hid (Below w.heap.size w z ∧ RestI x k N M)) (fun kv _ => (321 - intOf kv).toNat)
  case atStart => exact ⟨0, x, M, _, rfl, pins3e (by (repeat (first | with_reducible exact pin_at (by assumption) | (with_reducible apply pin_at; (first | omega | (simp only [World.size_alloc, pin_size, World.size_drew, World.size_setCell] <;> omega))) | (with_reducible apply alloc_at; first | rfl | (simp only [World.size_alloc, pin_size, World.size_drew, World.size_setCell] <;> omega)) | with_reducible apply past_pin | with_reducible apply past_alloc | with_reducible apply past_drew)); all_goals (first | omega | (simp only [World.size_alloc, pin_size, World.size_drew, World.size_setCell] <;> omega))) (by (repeat (first | with_reducible exact pin_at (by assumption) | (with_reducible apply pin_at; (first | omega | (simp only [World.size_alloc, pin_size, World.size_drew, World.size_setCell] <;> omega))) | (with_reducible apply alloc_at; first | rfl | (simp only [World.size_alloc, pin_size, World.size_drew, World.size_setCell] <;> omega)) | with_reducible apply past_pin | with_reducible apply past_alloc | with_reducible apply past_drew)); all_goals (first | omega | (simp only [World.size_alloc, pin_size, World.size_drew, World.size_setCell] <;> omega))) (by (repeat (first | with_reducible exact pin_at (by assumption) | (with_reducible apply pin_at; (first | omega | (simp only [World.size_alloc, pin_size, World.size_drew, World.size_setCell] <;> omega))) | (with_reducible apply alloc_at; first | rfl | (simp only [World.size_alloc, pin_size, World.size_drew, World.size_setCell] <;> omega)) | with_reducible apply past_pin | with_reducible apply past_alloc | with_reducible apply past_drew)); all_goals (first | omega | (simp only [World.size_alloc, pin_size, World.size_drew, World.size_setCell] <;> omega))) (by rfl) (by rfl) (by rfl), (by (first | omega | (simp only [World.size_alloc, pin_size, World.size_drew, World.size_setCell] <;> omega))), (by (first | omega | (simp only [World.size_alloc, pin_size, World.size_drew, World.size_setCell] <;> omega))), (by (first | omega | (simp only [World.size_alloc, pin_size, World.size_drew, World.size_setCell] <;> omega))), (by (repeat (first | with_reducible exact (Below.refl _ _) | with_reducible refine below_pin ?_ ?_ | with_reducible refine Below.alloc ?_ ?_ _ | with_reducible refine Below.setCell ?_ ?_ _ | with_reducible refine Below.drew ?_)); all_goals (first | omega | (simp only [World.size_alloc, pin_size, World.size_drew, World.size_setCell] <;> omega))), HI0.out⟩
  case round =>
    clear hcp HI0
    obtain ⟨k, N, M, z, rfl, rfl, q0, q1, q2, H⟩ := hrel
    have HB1 : Hid (Below w.heap.size w z) := H.out.1
    by_cases hk : k < 321
    · have hkz : (k : Int) < 321 := by omega
      have HK := Lib.hid hk
      clear hk
      by_cases hlt : N < M
      · have HBe := Lib.hid (BelowZ N M true (rest_W H.out.2).1 (rest_W H.out.2).2 (decide_eq_true hlt))
        have HE := Lib.hid (rest_below H.out.2 HK.out hlt)
        have HMW := Lib.hid (rest_W H.out.2).2
        clear H hlt
        go_wp2_with fail
        refine (HBe.out _).mono ?_
        rintro e y2 ⟨rfl, hb2⟩
        obtain ⟨x2, rfl, hc2, hz2, l20, l21, l22⟩ := keep3 (b0 := w.heap.size) (b1 := w.heap.size + 1) (b2 := w.heap.size + 2) hb2 rfl (by (repeat (first | with_reducible exact pin_at (by assumption) | (with_reducible apply pin_at; (first | omega | (simp only [World.size_alloc, pin_size, World.size_drew, World.size_setCell] <;> omega))) | (with_reducible apply alloc_at; first | rfl | (simp only [World.size_alloc, pin_size, World.size_drew, World.size_setCell] <;> omega)) | with_reducible apply past_pin | with_reducible apply past_alloc | with_reducible apply past_drew)); all_goals (first | omega | (simp only [World.size_alloc, pin_size, World.size_drew, World.size_setCell] <;> omega))) (by (repeat (first | with_reducible exact pin_at (by assumption) | (with_reducible apply pin_at; (first | omega | (simp only [World.size_alloc, pin_size, World.size_drew, World.size_setCell] <;> omega))) | (with_reducible apply alloc_at; first | rfl | (simp only [World.size_alloc, pin_size, World.size_drew, World.size_setCell] <;> omega)) | with_reducible apply past_pin | with_reducible apply past_alloc | with_reducible apply past_drew)); all_goals (first | omega | (simp only [World.size_alloc, pin_size, World.size_drew, World.size_setCell] <;> omega))) (by (repeat (first | with_reducible exact pin_at (by assumption) | (with_reducible apply pin_at; (first | omega | (simp only [World.size_alloc, pin_size, World.size_drew, World.size_setCell] <;> omega))) | (with_reducible apply alloc_at; first | rfl | (simp only [World.size_alloc, pin_size, World.size_drew, World.size_setCell] <;> omega)) | with_reducible apply past_pin | with_reducible apply past_alloc | with_reducible apply past_drew)); all_goals (first | omega | (simp only [World.size_alloc, pin_size, World.size_drew, World.size_setCell] <;> omega)))
        have HB2 : Hid (Below w.heap.size w x2) := Below.trans (by (repeat (first | with_reducible exact HB1.out | with_reducible refine below_pin ?_ ?_ | with_reducible refine Below.alloc ?_ ?_ _ | with_reducible refine Below.setCell ?_ ?_ _ | with_reducible refine Below.drew ?_)); all_goals (first | omega | (simp only [World.size_alloc, pin_size, World.size_drew, World.size_setCell] <;> omega))) (hc2.mono (by (first | omega | (simp only [World.size_alloc, pin_size, World.size_drew, World.size_setCell] <;> omega))))
        clear hb2 hc2
        try simp only [World.size_alloc, pin_size, World.size_drew, World.size_setCell] at hz2
        go_wp2_with fail
        refine (halfL_any M HMW.out _).mono ?_
        rintro e y3 ⟨rfl, hb3⟩
        obtain ⟨x3, rfl, hc3, hz3, l30, l31, l32⟩ := keep3 (b0 := w.heap.size) (b1 := w.heap.size + 1) (b2 := w.heap.size + 2) hb3 rfl (by (repeat (first | with_reducible exact pin_at (by assumption) | (with_reducible apply pin_at; (first | omega | (simp only [World.size_alloc, pin_size, World.size_drew, World.size_setCell] <;> omega))) | (with_reducible apply alloc_at; first | rfl | (simp only [World.size_alloc, pin_size, World.size_drew, World.size_setCell] <;> omega)) | with_reducible apply past_pin | with_reducible apply past_alloc | with_reducible apply past_drew)); all_goals (first | omega | (simp only [World.size_alloc, pin_size, World.size_drew, World.size_setCell] <;> omega))) (by (repeat (first | with_reducible exact pin_at (by assumption) | (with_reducible apply pin_at; (first | omega | (simp only [World.size_alloc, pin_size, World.size_drew, World.size_setCell] <;> omega))) | (with_reducible apply alloc_at; first | rfl | (simp only [World.size_alloc, pin_size, World.size_drew, World.size_setCell] <;> omega)) | with_reducible apply past_pin | with_reducible apply past_alloc | with_reducible apply past_drew)); all_goals (first | omega | (simp only [World.size_alloc, pin_size, World.size_drew, World.size_setCell] <;> omega))) (by (repeat (first | with_reducible exact pin_at (by assumption) | (with_reducible apply pin_at; (first | omega | (simp only [World.size_alloc, pin_size, World.size_drew, World.size_setCell] <;> omega))) | (with_reducible apply alloc_at; first | rfl | (simp only [World.size_alloc, pin_size, World.size_drew, World.size_setCell] <;> omega)) | with_reducible apply past_pin | with_reducible apply past_alloc | with_reducible apply past_drew)); all_goals (first | omega | (simp only [World.size_alloc, pin_size, World.size_drew, World.size_setCell] <;> omega)))
        have HB3 : Hid (Below w.heap.size w x3) := Below.trans (by (repeat (first | with_reducible exact HB2.out | with_reducible refine below_pin ?_ ?_ | with_reducible refine Below.alloc ?_ ?_ _ | with_reducible refine Below.setCell ?_ ?_ _ | with_reducible refine Below.drew ?_)); all_goals (first | omega | (simp only [World.size_alloc, pin_size, World.size_drew, World.size_setCell] <;> omega))) (hc3.mono (by (first | omega | (simp only [World.size_alloc, pin_size, World.size_drew, World.size_setCell] <;> omega))))
        clear hb3 hc3
        try simp only [World.size_alloc, pin_size, World.size_drew, World.size_setCell] at hz3
        go_wp2_with fail
        exact ⟨⟨k + 1, N, M / 2, x3, vi0 k, rfl, l30, l31, l32, HB3.out, HE.out⟩, meas_up0 321 k HK.out⟩
      · have HBe := Lib.hid (BelowZ N M false (rest_W H.out.2).1 (rest_W H.out.2).2 (decide_eq_false hlt))
        have HE := Lib.hid (rest_less H.out.2 HK.out (by omega))
        have HMW := Lib.hid (rest_W H.out.2).2
        have HLE := Lib.hid (show M ≤ N by omega)
        clear H hlt
        go_wp2_with fail
        refine (HBe.out _).mono ?_
        rintro e y2 ⟨rfl, hb2⟩
        obtain ⟨x2, rfl, hc2, hz2, l20, l21, l22⟩ := keep3 (b0 := w.heap.size) (b1 := w.heap.size + 1) (b2 := w.heap.size + 2) hb2 rfl (by (repeat (first | with_reducible exact pin_at (by assumption) | (with_reducible apply pin_at; (first | omega | (simp only [World.size_alloc, pin_size, World.size_drew, World.size_setCell] <;> omega))) | (with_reducible apply alloc_at; first | rfl | (simp only [World.size_alloc, pin_size, World.size_drew, World.size_setCell] <;> omega)) | with_reducible apply past_pin | with_reducible apply past_alloc | with_reducible apply past_drew)); all_goals (first | omega | (simp only [World.size_alloc, pin_size, World.size_drew, World.size_setCell] <;> omega))) (by (repeat (first | with_reducible exact pin_at (by assumption) | (with_reducible apply pin_at; (first | omega | (simp only [World.size_alloc, pin_size, World.size_drew, World.size_setCell] <;> omega))) | (with_reducible apply alloc_at; first | rfl | (simp only [World.size_alloc, pin_size, World.size_drew, World.size_setCell] <;> omega)) | with_reducible apply past_pin | with_reducible apply past_alloc | with_reducible apply past_drew)); all_goals (first | omega | (simp only [World.size_alloc, pin_size, World.size_drew, World.size_setCell] <;> omega))) (by (repeat (first | with_reducible exact pin_at (by assumption) | (with_reducible apply pin_at; (first | omega | (simp only [World.size_alloc, pin_size, World.size_drew, World.size_setCell] <;> omega))) | (with_reducible apply alloc_at; first | rfl | (simp only [World.size_alloc, pin_size, World.size_drew, World.size_setCell] <;> omega)) | with_reducible apply past_pin | with_reducible apply past_alloc | with_reducible apply past_drew)); all_goals (first | omega | (simp only [World.size_alloc, pin_size, World.size_drew, World.size_setCell] <;> omega)))
        have HB2 : Hid (Below w.heap.size w x2) := Below.trans (by (repeat (first | with_reducible exact HB1.out | with_reducible refine below_pin ?_ ?_ | with_reducible refine Below.alloc ?_ ?_ _ | with_reducible refine Below.setCell ?_ ?_ _ | with_reducible refine Below.drew ?_)); all_goals (first | omega | (simp only [World.size_alloc, pin_size, World.size_drew, World.size_setCell] <;> omega))) (hc2.mono (by (first | omega | (simp only [World.size_alloc, pin_size, World.size_drew, World.size_setCell] <;> omega))))
        clear hb2 hc2
        try simp only [World.size_alloc, pin_size, World.size_drew, World.size_setCell] at hz2
        go_wp2_with fail
        refine (less_any N M HLE.out _).mono ?_
        rintro e y3 ⟨rfl, hb3⟩
        obtain ⟨x3, rfl, hc3, hz3, l30, l31, l32⟩ := keep3 (b0 := w.heap.size) (b1 := w.heap.size + 1) (b2 := w.heap.size + 2) hb3 rfl (by (repeat (first | with_reducible exact pin_at (by assumption) | (with_reducible apply pin_at; (first | omega | (simp only [World.size_alloc, pin_size, World.size_drew, World.size_setCell] <;> omega))) | (with_reducible apply alloc_at; first | rfl | (simp only [World.size_alloc, pin_size, World.size_drew, World.size_setCell] <;> omega)) | with_reducible apply past_pin | with_reducible apply past_alloc | with_reducible apply past_drew)); all_goals (first | omega | (simp only [World.size_alloc, pin_size, World.size_drew, World.size_setCell] <;> omega))) (by (repeat (first | with_reducible exact pin_at (by assumption) | (with_reducible apply pin_at; (first | omega | (simp only [World.size_alloc, pin_size, World.size_drew, World.size_setCell] <;> omega))) | (with_reducible apply alloc_at; first | rfl | (simp only [World.size_alloc, pin_size, World.size_drew, World.size_setCell] <;> omega)) | with_reducible apply past_pin | with_reducible apply past_alloc | with_reducible apply past_drew)); all_goals (first | omega | (simp only [World.size_alloc, pin_size, World.size_drew, World.size_setCell] <;> omega))) (by (repeat (first | with_reducible exact pin_at (by assumption) | (with_reducible apply pin_at; (first | omega | (simp only [World.size_alloc, pin_size, World.size_drew, World.size_setCell] <;> omega))) | (with_reducible apply alloc_at; first | rfl | (simp only [World.size_alloc, pin_size, World.size_drew, World.size_setCell] <;> omega)) | with_reducible apply past_pin | with_reducible apply past_alloc | with_reducible apply past_drew)); all_goals (first | omega | (simp only [World.size_alloc, pin_size, World.size_drew, World.size_setCell] <;> omega)))
        have HB3 : Hid (Below w.heap.size w x3) := Below.trans (by (repeat (first | with_reducible exact HB2.out | with_reducible refine below_pin ?_ ?_ | with_reducible refine Below.alloc ?_ ?_ _ | with_reducible refine Below.setCell ?_ ?_ _ | with_reducible refine Below.drew ?_)); all_goals (first | omega | (simp only [World.size_alloc, pin_size, World.size_drew, World.size_setCell] <;> omega))) (hc3.mono (by (first | omega | (simp only [World.size_alloc, pin_size, World.size_drew, World.size_setCell] <;> omega))))
        clear hb3 hc3
        try simp only [World.size_alloc, pin_size, World.size_drew, World.size_setCell] at hz3
        go_wp2_with fail
        refine (halfL_any M HMW.out _).mono ?_
        rintro e y4 ⟨rfl, hb4⟩
        obtain ⟨x4, rfl, hc4, hz4, l40, l41, l42⟩ := keep3 (b0 := w.heap.size) (b1 := w.heap.size + 1) (b2 := w.heap.size + 2) hb4 rfl (by (repeat (first | with_reducible exact pin_at (by assumption) | (with_reducible apply pin_at; (first | omega | (simp only [World.size_alloc, pin_size, World.size_drew, World.size_setCell] <;> omega))) | (with_reducible apply alloc_at; first | rfl | (simp only [World.size_alloc, pin_size, World.size_drew, World.size_setCell] <;> omega)) | with_reducible apply past_pin | with_reducible apply past_alloc | with_reducible apply past_drew)); all_goals (first | omega | (simp only [World.size_alloc, pin_size, World.size_drew, World.size_setCell] <;> omega))) (by (repeat (first | with_reducible exact pin_at (by assumption) | (with_reducible apply pin_at; (first | omega | (simp only [World.size_alloc, pin_size, World.size_drew, World.size_setCell] <;> omega))) | (with_reducible apply alloc_at; first | rfl | (simp only [World.size_alloc, pin_size, World.size_drew, World.size_setCell] <;> omega)) | with_reducible apply past_pin | with_reducible apply past_alloc | with_reducible apply past_drew)); all_goals (first | omega | (simp only [World.size_alloc, pin_size, World.size_drew, World.size_setCell] <;> omega))) (by (repeat (first | with_reducible exact pin_at (by assumption) | (with_reducible apply pin_at; (first | omega | (simp only [World.size_alloc, pin_size, World.size_drew, World.size_setCell] <;> omega))) | (with_reducible apply alloc_at; first | rfl | (simp only [World.size_alloc, pin_size, World.size_drew, World.size_setCell] <;> omega)) | with_reducible apply past_pin | with_reducible apply past_alloc | with_reducible apply past_drew)); all_goals (first | omega | (simp only [World.size_alloc, pin_size, World.size_drew, World.size_setCell] <;> omega)))
        have HB4 : Hid (Below w.heap.size w x4) := Below.trans (by (repeat (first | with_reducible exact HB3.out | with_reducible refine below_pin ?_ ?_ | with_reducible refine Below.alloc ?_ ?_ _ | with_reducible refine Below.setCell ?_ ?_ _ | with_reducible refine Below.drew ?_)); all_goals (first | omega | (simp only [World.size_alloc, pin_size, World.size_drew, World.size_setCell] <;> omega))) (hc4.mono (by (first | omega | (simp only [World.size_alloc, pin_size, World.size_drew, World.size_setCell] <;> omega))))
        clear hb4 hc4
        try simp only [World.size_alloc, pin_size, World.size_drew, World.size_setCell] at hz4
        go_wp2_with fail
        exact ⟨⟨k + 1, N - M, M / 2, x4, vi0 k, rfl, l40, l41, l42, HB4.out, HE.out⟩, meas_up0 321 k HK.out⟩
    · have hk' : k = 321 := by have := H.out.2.2.2.2; omega
      subst hk'
      have HE := Lib.hid (rest_end H.out.2)
      clear H
      go_wp2_with fail
      refine bodyPost_ret (v := Lv N) ?_ rfl ⟨by rw [HE.out], ?_⟩
      · simp [results, Tryd.results20, go_sem, q0, q1, q2]
      · exact (by (repeat (first | with_reducible exact HB1.out | with_reducible refine below_pin ?_ ?_ | with_reducible refine Below.alloc ?_ ?_ _ | with_reducible refine Below.setCell ?_ ?_ _ | with_reducible refine Below.drew ?_)); all_goals (first | omega | (simp only [World.size_alloc, pin_size, World.size_drew, World.size_setCell] <;> omega)))

end Go.Proofs.YtljolpdpblohcaaDoor
