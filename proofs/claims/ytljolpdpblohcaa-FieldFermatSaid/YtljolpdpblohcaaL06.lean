/-
  The statement FieldFermat.
-/
import Derived.Test.YtljolpdpblohcaaRows
import Derived.Test.YtljolpdpblohcaaKn
import Derived.Test.YtljolpdpblohcaaFr
namespace Go.Proofs.Ytljolpdpblohcaa
open Go.RowKit Go.ChangeShapes Go.WideShapes Go.ChangeAt Go.Proofs.YtljolpdpblohcaaW.PrintLast
set_option linter.unusedSimpArgs false

theorem fermat_small {a : Nat} (h : ¬ a % Num.p = 0) : small (a ^ leN (nearL 236 127)) = small 1 := by
  apply small_congr
  have e : leN (nearL 236 127) = Num.p - 1 := by decide +kernel
  rw [e, Num.prm_p.fermat a (fun hd => h (Nat.mod_eq_zero_of_dvd hd))]
  decide
theorem fermat_zero {a : Nat} (h : a % Num.p = 0) : small (a ^ leN (nearL 236 127)) = ⟨0, 0, 0, 0, 0⟩ := by
  have e : leN (nearL 236 127) = (Num.p - 2) + 1 := by decide +kernel
  have h2 : small (a ^ leN (nearL 236 127)) = small 0 := by
    apply small_congr
    rw [e, Nat.pow_succ, Nat.mul_mod, h, Nat.mul_zero]
  rw [h2]; rfl

set_option maxRecDepth 100000 in
set_option maxHeartbeats 4000000 in
theorem fieldFermat_walk (a0 : Fn) (w0 : a0.lt 18446744073709551616) (w : World)  :
    Calls Try.prog 8 #[a0.v] w fun e w' => e = .returned (.bool true) ∧ Below w.heap.size w w' := by
  have CX := Lib.hid w0
  clear w0
  by_cases hz : a0.val % Num.p = 0
  · have HZ := Lib.hid hz
    clear hz
    have hd : decide (a0.val % Num.p = Fn.val ⟨0, 0, 0, 0, 0⟩ % Num.p) = true := by rw [zero_val, Nat.zero_mod]; exact decide_eq_true HZ.out
    have CP : ∀ (b c : Nat) (w : World), Rd w .u8 (some ⟨b, 0, none⟩) (nearL 236 127) → Calls Try.prog 33 #[a0.v, .slice (some ⟨b, 0, none⟩) 32 c] w fun e w' => e = .returned (.tuple #[(⟨0, 0, 0, 0, 0⟩ : Fn).v, .int .i64 0]) ∧ Below w.heap.size w w' := by
      intro b c w h
      have h0 := Pow_ok a0 CX.out (some ⟨b, 0, none⟩) c (nearL 236 127) (by decide) (by decide) w h
      rw [fermat_zero HZ.out] at h0
      exact h0
    have HCP := Lib.hid CP
    clear CP
    go_enter Try.func8, Try.ntmps8
    go_wp2_with fail
    refine (Small_any 1 (by decide) _).mono ?_
    rintro e y1 ⟨rfl, hb1⟩
    obtain ⟨x1, rfl, hc1, hz1, l10⟩ := keep1 (b := w.heap.size) hb1 rfl (by (repeat (first | with_reducible exact pin_at (by assumption) | (with_reducible apply pin_at; (first | omega | (simp only [World.size_alloc, pin_size, World.size_drew, World.size_setCell] <;> omega))) | (with_reducible apply alloc_at; first | rfl | (simp only [World.size_alloc, pin_size, World.size_drew, World.size_setCell] <;> omega)) | with_reducible apply past_pin | with_reducible apply past_alloc | with_reducible apply past_drew)); all_goals (first | omega | (simp only [World.size_alloc, pin_size, World.size_drew, World.size_setCell] <;> omega)))
    have HB1 : Hid (Below w.heap.size w x1) := Below.trans (by (repeat (first | with_reducible exact (Below.refl _ _) | with_reducible refine below_pin ?_ ?_ | with_reducible refine Below.alloc ?_ ?_ _ | with_reducible refine Below.setCell ?_ ?_ _ | with_reducible refine Below.drew ?_)); all_goals (first | omega | (simp only [World.size_alloc, pin_size, World.size_drew, World.size_setCell] <;> omega))) (hc1.mono (by (first | omega | (simp only [World.size_alloc, pin_size, World.size_drew, World.size_setCell] <;> omega))))
    clear hb1 hc1
    try simp only [World.size_alloc, pin_size, World.size_drew, World.size_setCell] at hz1
    go_wp2_with fail
    refine (Neg_any (small 1) (small_u 1) _).mono ?_
    rintro e y2 ⟨rfl, hb2⟩
    obtain ⟨x2, rfl, hc2, hz2, l20⟩ := keep1 (b := w.heap.size) hb2 rfl (by (repeat (first | with_reducible exact pin_at (by assumption) | (with_reducible apply pin_at; (first | omega | (simp only [World.size_alloc, pin_size, World.size_drew, World.size_setCell] <;> omega))) | (with_reducible apply alloc_at; first | rfl | (simp only [World.size_alloc, pin_size, World.size_drew, World.size_setCell] <;> omega)) | with_reducible apply past_pin | with_reducible apply past_alloc | with_reducible apply past_drew)); all_goals (first | omega | (simp only [World.size_alloc, pin_size, World.size_drew, World.size_setCell] <;> omega)))
    have HB2 : Hid (Below w.heap.size w x2) := Below.trans (by (repeat (first | with_reducible exact HB1.out | with_reducible refine below_pin ?_ ?_ | with_reducible refine Below.alloc ?_ ?_ _ | with_reducible refine Below.setCell ?_ ?_ _ | with_reducible refine Below.drew ?_)); all_goals (first | omega | (simp only [World.size_alloc, pin_size, World.size_drew, World.size_setCell] <;> omega))) (hc2.mono (by (first | omega | (simp only [World.size_alloc, pin_size, World.size_drew, World.size_setCell] <;> omega))))
    clear hb2 hc2
    try simp only [World.size_alloc, pin_size, World.size_drew, World.size_setCell] at hz2
    go_wp2_with fail
    refine (Enc236 _).mono ?_
    rintro e y3 ⟨⟨b, rfl, hrd⟩, hb3⟩
    obtain ⟨x3, rfl, hc3, hz3, l30⟩ := keep1 (b := w.heap.size) hb3 rfl (by (repeat (first | with_reducible exact pin_at (by assumption) | (with_reducible apply pin_at; (first | omega | (simp only [World.size_alloc, pin_size, World.size_drew, World.size_setCell] <;> omega))) | (with_reducible apply alloc_at; first | rfl | (simp only [World.size_alloc, pin_size, World.size_drew, World.size_setCell] <;> omega)) | with_reducible apply past_pin | with_reducible apply past_alloc | with_reducible apply past_drew)); all_goals (first | omega | (simp only [World.size_alloc, pin_size, World.size_drew, World.size_setCell] <;> omega)))
    have HB3 : Hid (Below w.heap.size w x3) := Below.trans (by (repeat (first | with_reducible exact HB2.out | with_reducible refine below_pin ?_ ?_ | with_reducible refine Below.alloc ?_ ?_ _ | with_reducible refine Below.setCell ?_ ?_ _ | with_reducible refine Below.drew ?_)); all_goals (first | omega | (simp only [World.size_alloc, pin_size, World.size_drew, World.size_setCell] <;> omega))) (hc3.mono (by (first | omega | (simp only [World.size_alloc, pin_size, World.size_drew, World.size_setCell] <;> omega))))
    clear hb3 hc3
    try simp only [World.size_alloc, pin_size, World.size_drew, World.size_setCell] at hz3
    have HRD := Lib.hid hrd
    clear hrd
    go_wp2_with fail
    refine (HCP.out b 32 _ HRD.out).mono ?_
    rintro e y4 ⟨rfl, hb4⟩
    obtain ⟨x4, rfl, hc4, hz4, l40⟩ := keep1 (b := w.heap.size) hb4 rfl (by (repeat (first | with_reducible exact pin_at (by assumption) | (with_reducible apply pin_at; (first | omega | (simp only [World.size_alloc, pin_size, World.size_drew, World.size_setCell] <;> omega))) | (with_reducible apply alloc_at; first | rfl | (simp only [World.size_alloc, pin_size, World.size_drew, World.size_setCell] <;> omega)) | with_reducible apply past_pin | with_reducible apply past_alloc | with_reducible apply past_drew)); all_goals (first | omega | (simp only [World.size_alloc, pin_size, World.size_drew, World.size_setCell] <;> omega)))
    have HB4 : Hid (Below w.heap.size w x4) := Below.trans (by (repeat (first | with_reducible exact HB3.out | with_reducible refine below_pin ?_ ?_ | with_reducible refine Below.alloc ?_ ?_ _ | with_reducible refine Below.setCell ?_ ?_ _ | with_reducible refine Below.drew ?_)); all_goals (first | omega | (simp only [World.size_alloc, pin_size, World.size_drew, World.size_setCell] <;> omega))) (hc4.mono (by (first | omega | (simp only [World.size_alloc, pin_size, World.size_drew, World.size_setCell] <;> omega))))
    clear hb4 hc4
    try simp only [World.size_alloc, pin_size, World.size_drew, World.size_setCell] at hz4
    go_wp2_with fail
    refine (Same_any a0 ⟨0, 0, 0, 0, 0⟩ CX.out (zero_lt _ (by decide)) _).mono ?_
    rintro e y5 ⟨rfl, hb5⟩
    obtain ⟨x5, rfl, hc5, hz5, l50, l51⟩ := keep2 (b0 := w.heap.size) (b1 := x4.heap.size) hb5 rfl (by (repeat (first | with_reducible exact pin_at (by assumption) | (with_reducible apply pin_at; (first | omega | (simp only [World.size_alloc, pin_size, World.size_drew, World.size_setCell] <;> omega))) | (with_reducible apply alloc_at; first | rfl | (simp only [World.size_alloc, pin_size, World.size_drew, World.size_setCell] <;> omega)) | with_reducible apply past_pin | with_reducible apply past_alloc | with_reducible apply past_drew)); all_goals (first | omega | (simp only [World.size_alloc, pin_size, World.size_drew, World.size_setCell] <;> omega))) (by (repeat (first | with_reducible exact pin_at (by assumption) | (with_reducible apply pin_at; (first | omega | (simp only [World.size_alloc, pin_size, World.size_drew, World.size_setCell] <;> omega))) | (with_reducible apply alloc_at; first | rfl | (simp only [World.size_alloc, pin_size, World.size_drew, World.size_setCell] <;> omega)) | with_reducible apply past_pin | with_reducible apply past_alloc | with_reducible apply past_drew)); all_goals (first | omega | (simp only [World.size_alloc, pin_size, World.size_drew, World.size_setCell] <;> omega)))
    have HB5 : Hid (Below w.heap.size w x5) := Below.trans (by (repeat (first | with_reducible exact HB4.out | with_reducible refine below_pin ?_ ?_ | with_reducible refine Below.alloc ?_ ?_ _ | with_reducible refine Below.setCell ?_ ?_ _ | with_reducible refine Below.drew ?_)); all_goals (first | omega | (simp only [World.size_alloc, pin_size, World.size_drew, World.size_setCell] <;> omega))) (hc5.mono (by (first | omega | (simp only [World.size_alloc, pin_size, World.size_drew, World.size_setCell] <;> omega))))
    clear hb5 hc5
    try simp only [World.size_alloc, pin_size, World.size_drew, World.size_setCell] at hz5
    go_wp2_with fail
    refine (known_any _).mono ?_
    rintro e y6 ⟨rfl, hb6⟩
    obtain ⟨x6, rfl, hc6, hz6, l60, l61⟩ := keep2 (b0 := w.heap.size) (b1 := x4.heap.size) hb6 rfl (by (repeat (first | with_reducible exact pin_at (by assumption) | (with_reducible apply pin_at; (first | omega | (simp only [World.size_alloc, pin_size, World.size_drew, World.size_setCell] <;> omega))) | (with_reducible apply alloc_at; first | rfl | (simp only [World.size_alloc, pin_size, World.size_drew, World.size_setCell] <;> omega)) | with_reducible apply past_pin | with_reducible apply past_alloc | with_reducible apply past_drew)); all_goals (first | omega | (simp only [World.size_alloc, pin_size, World.size_drew, World.size_setCell] <;> omega))) (by (repeat (first | with_reducible exact pin_at (by assumption) | (with_reducible apply pin_at; (first | omega | (simp only [World.size_alloc, pin_size, World.size_drew, World.size_setCell] <;> omega))) | (with_reducible apply alloc_at; first | rfl | (simp only [World.size_alloc, pin_size, World.size_drew, World.size_setCell] <;> omega)) | with_reducible apply past_pin | with_reducible apply past_alloc | with_reducible apply past_drew)); all_goals (first | omega | (simp only [World.size_alloc, pin_size, World.size_drew, World.size_setCell] <;> omega)))
    have HB6 : Hid (Below w.heap.size w x6) := Below.trans (by (repeat (first | with_reducible exact HB5.out | with_reducible refine below_pin ?_ ?_ | with_reducible refine Below.alloc ?_ ?_ _ | with_reducible refine Below.setCell ?_ ?_ _ | with_reducible refine Below.drew ?_)); all_goals (first | omega | (simp only [World.size_alloc, pin_size, World.size_drew, World.size_setCell] <;> omega))) (hc6.mono (by (first | omega | (simp only [World.size_alloc, pin_size, World.size_drew, World.size_setCell] <;> omega))))
    clear hb6 hc6
    try simp only [World.size_alloc, pin_size, World.size_drew, World.size_setCell] at hz6
    go_wp2_with fail
    go_ret
    exact ⟨rfl, (by (repeat (first | with_reducible exact HB6.out | with_reducible refine below_pin ?_ ?_ | with_reducible refine Below.alloc ?_ ?_ _ | with_reducible refine Below.setCell ?_ ?_ _ | with_reducible refine Below.drew ?_)); all_goals (first | omega | (simp only [World.size_alloc, pin_size, World.size_drew, World.size_setCell] <;> omega)))⟩
  · have HZ := Lib.hid hz
    clear hz
    have hd : decide (a0.val % Num.p = Fn.val ⟨0, 0, 0, 0, 0⟩ % Num.p) = false := by rw [zero_val, Nat.zero_mod]; exact decide_eq_false HZ.out
    have CP : ∀ (b c : Nat) (w : World), Rd w .u8 (some ⟨b, 0, none⟩) (nearL 236 127) → Calls Try.prog 33 #[a0.v, .slice (some ⟨b, 0, none⟩) 32 c] w fun e w' => e = .returned (.tuple #[(small 1).v, .int .i64 0]) ∧ Below w.heap.size w w' := by
      intro b c w h
      have h0 := Pow_ok a0 CX.out (some ⟨b, 0, none⟩) c (nearL 236 127) (by decide) (by decide) w h
      rw [fermat_small HZ.out] at h0
      exact h0
    have HCP := Lib.hid CP
    clear CP
    go_enter Try.func8, Try.ntmps8
    go_wp2_with fail
    refine (Small_any 1 (by decide) _).mono ?_
    rintro e y1 ⟨rfl, hb1⟩
    obtain ⟨x1, rfl, hc1, hz1, l10⟩ := keep1 (b := w.heap.size) hb1 rfl (by (repeat (first | with_reducible exact pin_at (by assumption) | (with_reducible apply pin_at; (first | omega | (simp only [World.size_alloc, pin_size, World.size_drew, World.size_setCell] <;> omega))) | (with_reducible apply alloc_at; first | rfl | (simp only [World.size_alloc, pin_size, World.size_drew, World.size_setCell] <;> omega)) | with_reducible apply past_pin | with_reducible apply past_alloc | with_reducible apply past_drew)); all_goals (first | omega | (simp only [World.size_alloc, pin_size, World.size_drew, World.size_setCell] <;> omega)))
    have HB1 : Hid (Below w.heap.size w x1) := Below.trans (by (repeat (first | with_reducible exact (Below.refl _ _) | with_reducible refine below_pin ?_ ?_ | with_reducible refine Below.alloc ?_ ?_ _ | with_reducible refine Below.setCell ?_ ?_ _ | with_reducible refine Below.drew ?_)); all_goals (first | omega | (simp only [World.size_alloc, pin_size, World.size_drew, World.size_setCell] <;> omega))) (hc1.mono (by (first | omega | (simp only [World.size_alloc, pin_size, World.size_drew, World.size_setCell] <;> omega))))
    clear hb1 hc1
    try simp only [World.size_alloc, pin_size, World.size_drew, World.size_setCell] at hz1
    go_wp2_with fail
    refine (Neg_any (small 1) (small_u 1) _).mono ?_
    rintro e y2 ⟨rfl, hb2⟩
    obtain ⟨x2, rfl, hc2, hz2, l20⟩ := keep1 (b := w.heap.size) hb2 rfl (by (repeat (first | with_reducible exact pin_at (by assumption) | (with_reducible apply pin_at; (first | omega | (simp only [World.size_alloc, pin_size, World.size_drew, World.size_setCell] <;> omega))) | (with_reducible apply alloc_at; first | rfl | (simp only [World.size_alloc, pin_size, World.size_drew, World.size_setCell] <;> omega)) | with_reducible apply past_pin | with_reducible apply past_alloc | with_reducible apply past_drew)); all_goals (first | omega | (simp only [World.size_alloc, pin_size, World.size_drew, World.size_setCell] <;> omega)))
    have HB2 : Hid (Below w.heap.size w x2) := Below.trans (by (repeat (first | with_reducible exact HB1.out | with_reducible refine below_pin ?_ ?_ | with_reducible refine Below.alloc ?_ ?_ _ | with_reducible refine Below.setCell ?_ ?_ _ | with_reducible refine Below.drew ?_)); all_goals (first | omega | (simp only [World.size_alloc, pin_size, World.size_drew, World.size_setCell] <;> omega))) (hc2.mono (by (first | omega | (simp only [World.size_alloc, pin_size, World.size_drew, World.size_setCell] <;> omega))))
    clear hb2 hc2
    try simp only [World.size_alloc, pin_size, World.size_drew, World.size_setCell] at hz2
    go_wp2_with fail
    refine (Enc236 _).mono ?_
    rintro e y3 ⟨⟨b, rfl, hrd⟩, hb3⟩
    obtain ⟨x3, rfl, hc3, hz3, l30⟩ := keep1 (b := w.heap.size) hb3 rfl (by (repeat (first | with_reducible exact pin_at (by assumption) | (with_reducible apply pin_at; (first | omega | (simp only [World.size_alloc, pin_size, World.size_drew, World.size_setCell] <;> omega))) | (with_reducible apply alloc_at; first | rfl | (simp only [World.size_alloc, pin_size, World.size_drew, World.size_setCell] <;> omega)) | with_reducible apply past_pin | with_reducible apply past_alloc | with_reducible apply past_drew)); all_goals (first | omega | (simp only [World.size_alloc, pin_size, World.size_drew, World.size_setCell] <;> omega)))
    have HB3 : Hid (Below w.heap.size w x3) := Below.trans (by (repeat (first | with_reducible exact HB2.out | with_reducible refine below_pin ?_ ?_ | with_reducible refine Below.alloc ?_ ?_ _ | with_reducible refine Below.setCell ?_ ?_ _ | with_reducible refine Below.drew ?_)); all_goals (first | omega | (simp only [World.size_alloc, pin_size, World.size_drew, World.size_setCell] <;> omega))) (hc3.mono (by (first | omega | (simp only [World.size_alloc, pin_size, World.size_drew, World.size_setCell] <;> omega))))
    clear hb3 hc3
    try simp only [World.size_alloc, pin_size, World.size_drew, World.size_setCell] at hz3
    have HRD := Lib.hid hrd
    clear hrd
    go_wp2_with fail
    refine (HCP.out b 32 _ HRD.out).mono ?_
    rintro e y4 ⟨rfl, hb4⟩
    obtain ⟨x4, rfl, hc4, hz4, l40⟩ := keep1 (b := w.heap.size) hb4 rfl (by (repeat (first | with_reducible exact pin_at (by assumption) | (with_reducible apply pin_at; (first | omega | (simp only [World.size_alloc, pin_size, World.size_drew, World.size_setCell] <;> omega))) | (with_reducible apply alloc_at; first | rfl | (simp only [World.size_alloc, pin_size, World.size_drew, World.size_setCell] <;> omega)) | with_reducible apply past_pin | with_reducible apply past_alloc | with_reducible apply past_drew)); all_goals (first | omega | (simp only [World.size_alloc, pin_size, World.size_drew, World.size_setCell] <;> omega)))
    have HB4 : Hid (Below w.heap.size w x4) := Below.trans (by (repeat (first | with_reducible exact HB3.out | with_reducible refine below_pin ?_ ?_ | with_reducible refine Below.alloc ?_ ?_ _ | with_reducible refine Below.setCell ?_ ?_ _ | with_reducible refine Below.drew ?_)); all_goals (first | omega | (simp only [World.size_alloc, pin_size, World.size_drew, World.size_setCell] <;> omega))) (hc4.mono (by (first | omega | (simp only [World.size_alloc, pin_size, World.size_drew, World.size_setCell] <;> omega))))
    clear hb4 hc4
    try simp only [World.size_alloc, pin_size, World.size_drew, World.size_setCell] at hz4
    go_wp2_with fail
    refine (Same_any a0 ⟨0, 0, 0, 0, 0⟩ CX.out (zero_lt _ (by decide)) _).mono ?_
    rintro e y5 ⟨rfl, hb5⟩
    obtain ⟨x5, rfl, hc5, hz5, l50, l51⟩ := keep2 (b0 := w.heap.size) (b1 := x4.heap.size) hb5 rfl (by (repeat (first | with_reducible exact pin_at (by assumption) | (with_reducible apply pin_at; (first | omega | (simp only [World.size_alloc, pin_size, World.size_drew, World.size_setCell] <;> omega))) | (with_reducible apply alloc_at; first | rfl | (simp only [World.size_alloc, pin_size, World.size_drew, World.size_setCell] <;> omega)) | with_reducible apply past_pin | with_reducible apply past_alloc | with_reducible apply past_drew)); all_goals (first | omega | (simp only [World.size_alloc, pin_size, World.size_drew, World.size_setCell] <;> omega))) (by (repeat (first | with_reducible exact pin_at (by assumption) | (with_reducible apply pin_at; (first | omega | (simp only [World.size_alloc, pin_size, World.size_drew, World.size_setCell] <;> omega))) | (with_reducible apply alloc_at; first | rfl | (simp only [World.size_alloc, pin_size, World.size_drew, World.size_setCell] <;> omega)) | with_reducible apply past_pin | with_reducible apply past_alloc | with_reducible apply past_drew)); all_goals (first | omega | (simp only [World.size_alloc, pin_size, World.size_drew, World.size_setCell] <;> omega)))
    have HB5 : Hid (Below w.heap.size w x5) := Below.trans (by (repeat (first | with_reducible exact HB4.out | with_reducible refine below_pin ?_ ?_ | with_reducible refine Below.alloc ?_ ?_ _ | with_reducible refine Below.setCell ?_ ?_ _ | with_reducible refine Below.drew ?_)); all_goals (first | omega | (simp only [World.size_alloc, pin_size, World.size_drew, World.size_setCell] <;> omega))) (hc5.mono (by (first | omega | (simp only [World.size_alloc, pin_size, World.size_drew, World.size_setCell] <;> omega))))
    clear hb5 hc5
    try simp only [World.size_alloc, pin_size, World.size_drew, World.size_setCell] at hz5
    go_wp2_with fail
    refine start_ (S := Keeps w _) (ds := []) (n := 11) #[false, false, false, false, false, false, false, false, false, false, false] (by kernel_rfl) rfl rfl (keepsC (b := w.heap.size) (by (repeat (first | with_reducible exact pin_at (by assumption) | (with_reducible apply pin_at; (first | omega | (simp only [World.size_alloc, pin_size, World.size_drew, World.size_setCell] <;> omega))) | (with_reducible apply alloc_at; first | rfl | (simp only [World.size_alloc, pin_size, World.size_drew, World.size_setCell] <;> omega)) | with_reducible apply past_pin | with_reducible apply past_alloc | with_reducible apply past_drew)); all_goals (first | omega | (simp only [World.size_alloc, pin_size, World.size_drew, World.size_setCell] <;> omega))) (keepsC (b := x4.heap.size) (by (repeat (first | with_reducible exact pin_at (by assumption) | (with_reducible apply pin_at; (first | omega | (simp only [World.size_alloc, pin_size, World.size_drew, World.size_setCell] <;> omega))) | (with_reducible apply alloc_at; first | rfl | (simp only [World.size_alloc, pin_size, World.size_drew, World.size_setCell] <;> omega)) | with_reducible apply past_pin | with_reducible apply past_alloc | with_reducible apply past_drew)); all_goals (first | omega | (simp only [World.size_alloc, pin_size, World.size_drew, World.size_setCell] <;> omega))) (keeps0 (by (repeat (first | with_reducible exact HB5.out | with_reducible refine below_pin ?_ ?_ | with_reducible refine Below.alloc ?_ ?_ _ | with_reducible refine Below.setCell ?_ ?_ _ | with_reducible refine Below.drew ?_)); all_goals (first | omega | (simp only [World.size_alloc, pin_size, World.size_drew, World.size_setCell] <;> omega)))))) (fun HS => ?_)
    refine take_ #[true, false, false, false, false, false, false, false, false, false, false] (i := 0) (N := some 28) (v := ?v1) rfl rfl (by kernel_rfl) (fun _ _ _ h => h) (Or.inl ⟨by rfl, ?hy1⟩) HS rfl ?_
    case hy1 => (intro v hv; obtain ⟨x, rfl, _, _, n0, n1⟩ := hv.pin2; go_simp; first | done | with_reducible rfl)
    simp only [Act.put, List.setIfInBounds_toArray, List.set_cons_zero, List.set_cons_succ]
    refine take_ #[true, true, false, false, false, false, false, false, false, false, false] (i := 1) (N := some 29) (v := ?v2) rfl rfl (by kernel_rfl) (fun _ _ _ h => h) (Or.inl ⟨by rfl, ?hy2⟩) HS rfl ?_
    case hy2 => (intro v hv; obtain ⟨x, rfl, _, _, n0, n1⟩ := hv.pin2; go_simp; first | done | with_reducible rfl)
    simp only [Act.put, List.setIfInBounds_toArray, List.set_cons_zero, List.set_cons_succ]
    refine take_ #[true, true, true, false, false, false, false, false, false, false, false] (i := 2) (N := some 30) (v := ?v3) rfl rfl (by kernel_rfl) (fun _ _ _ h => h) (Or.inl ⟨by rfl, ?hy3⟩) HS rfl ?_
    case hy3 => (intro v hv; obtain ⟨x, rfl, _, _, n0, n1⟩ := hv.pin2; go_simp; first | done | with_reducible rfl)
    simp only [Act.put, List.setIfInBounds_toArray, List.set_cons_zero, List.set_cons_succ]
    refine take_ #[true, true, true, true, false, false, false, false, false, false, false] (i := 3) (N := some 31) (v := ?v4) rfl rfl (by kernel_rfl) (fun _ _ _ h => h) (Or.inl ⟨by rfl, ?hy4⟩) HS rfl ?_
    case hy4 => (intro v hv; obtain ⟨x, rfl, _, _, n0, n1⟩ := hv.pin2; go_simp; first | done | with_reducible rfl)
    simp only [Act.put, List.setIfInBounds_toArray, List.set_cons_zero, List.set_cons_succ]
    refine one_ #[true, true, true, true, true, false, false, false, false, false, false] (i := 4) (N := some 32) rfl rfl (by kernel_rfl) (by decide) (fun K hK => ?_)
    go_simp
    refine (Small_any 1 (by decide) _).mono ?_
    rintro e y ⟨rfl, hb⟩
    refine hK.out _ _ (HS.step hb rfl) ?_
    clear HS hb
    intro HS
    refine take_ #[true, true, true, true, true, true, false, false, false, false, false] (i := 5) (N := some 33) (v := ?v5) rfl rfl (by kernel_rfl) (fun _ _ _ h => h) (Or.inl ⟨by rfl, ?hy5⟩) HS rfl ?_
    case hy5 => (intro v hv; obtain ⟨x, rfl, _, _, n0, n1⟩ := hv.pin2; go_simp; first | done | with_reducible rfl)
    simp only [Act.put, List.setIfInBounds_toArray, List.set_cons_zero, List.set_cons_succ]
    refine take_ #[true, true, true, true, true, true, true, false, false, false, false] (i := 6) (N := some 34) (v := ?v6) rfl rfl (by kernel_rfl) (fun _ _ _ h => h) (Or.inl ⟨by rfl, ?hy6⟩) HS rfl ?_
    case hy6 => (intro v hv; obtain ⟨x, rfl, _, _, n0, n1⟩ := hv.pin2; go_simp; first | done | with_reducible rfl)
    simp only [Act.put, List.setIfInBounds_toArray, List.set_cons_zero, List.set_cons_succ]
    refine take_ #[true, true, true, true, true, true, true, true, false, false, false] (i := 7) (N := some 35) (v := ?v7) rfl rfl (by kernel_rfl) (fun _ _ _ h => h) (Or.inl ⟨by rfl, ?hy7⟩) HS rfl ?_
    case hy7 => (intro v hv; obtain ⟨x, rfl, _, _, n0, n1⟩ := hv.pin2; go_simp; first | done | with_reducible rfl)
    simp only [Act.put, List.setIfInBounds_toArray, List.set_cons_zero, List.set_cons_succ]
    refine one_ #[true, true, true, true, true, true, true, true, true, false, false] (i := 8) (N := some 36) rfl rfl (by kernel_rfl) (by decide) (fun K hK => ?_)
    go_simp
    refine (known_any _).mono ?_
    rintro e y ⟨rfl, hb⟩
    refine hK.out _ _ (HS.step hb rfl) ?_
    clear HS hb
    intro HS
    refine take_ #[true, true, true, true, true, true, true, true, true, true, false] (i := 9) (N := some 37) (v := ?v8) rfl rfl (by kernel_rfl) (fun _ _ _ h => h) (Or.inl ⟨by rfl, ?hy8⟩) HS rfl ?_
    case hy8 => (intro v hv; obtain ⟨x, rfl, _, _, n0, n1⟩ := hv.pin2; go_simp; first | done | with_reducible rfl)
    simp only [Act.put, List.setIfInBounds_toArray, List.set_cons_zero, List.set_cons_succ]
    refine take_ #[true, true, true, true, true, true, true, true, true, true, true] (i := 10) (N := some 2) (v := ?v9) rfl rfl (by kernel_rfl) (fun _ _ _ h => h) (Or.inl ⟨by rfl, ?hy9⟩) HS rfl ?_
    case hy9 => (intro v hv; obtain ⟨x, rfl, _, _, n0, n1⟩ := hv.pin2; go_simp; first | done | with_reducible rfl)
    simp only [Act.put, List.setIfInBounds_toArray, List.set_cons_zero, List.set_cons_succ]
    obtain ⟨x6, rfl, hk6, hz6, l60, l61⟩ := HS.pin2
    have HB6 : Hid (Below w.heap.size w x6) := hk6.below
    clear HS hk6
    refine done_ (by kernel_rfl) ?_
    go_wp2_with fail
    go_ret
    exact ⟨rfl, (by (repeat (first | with_reducible exact HB6.out | with_reducible refine below_pin ?_ ?_ | with_reducible refine Below.alloc ?_ ?_ _ | with_reducible refine Below.setCell ?_ ?_ _ | with_reducible refine Below.drew ?_)); all_goals (first | omega | (simp only [World.size_alloc, pin_size, World.size_drew, World.size_setCell] <;> omega)))⟩

set_option maxRecDepth 100000 in
theorem fieldFermat_lifted (os : Os) (started : os.Started) (H : Type) (enc : TypeId × Value → H) :
    ReturnsInHanded {} Try.checked os 8 .any (Rows.fieldFermatSpec.pre6 enc Try.prog Try.f8 Rows.fieldFermatRow.domain false) (Rows.fieldFermatSpec.post enc Try.prog Try.f8 false true false false) := by
  refine returnsInHanded_of_change (C := Try.checked) own started (by kernel_rfl) Try.func8
    (ChangeSpec.witness6 (enc := enc) (C := Try.checked) false ⟨#[], #[.agg #[.int .u64 0, .int .u64 0, .int .u64 0, .int .u64 0, .int .u64 0]], []⟩ 8 (by kernel_rfl) (by kernel_rfl) (by kernel_rfl) (by kernel_rfl)) ?_
  intro W base args ds gs before hval0 hW hcnd _
  have hval : ∀ (j : Nat) t v, Try.f8.params[j]? = some t → args[j]? = some v → Value.okWide Try.prog W .any base t v := hval0
  have hW' := hW
  obtain ⟨p, q, hA0, hV, rfl, hfz, hnd⟩ := hW
  have hA : DataW.TrodAll enc Try.prog W 0 (fun _ => true) true Try.f8.params.toList args.toList ds p := hA0
  rw [Try.params8] at hA hval
  obtain ⟨v0, vs0, d0, ds0, p0, q0, hargs, rfl, rfl, h0, r0⟩ := trodAll_cons hA
  obtain ⟨rfl, rfl, rfl⟩ := trodAll_nil r0
  obtain rfl : args = #[v0] := by cases args; simp_all
  obtain ⟨rfl, rfl⟩ := trodVars_none hV
  have k0 := h0
  have lt0 : ∀ x ∈ p0, x.block < W.heap.size := by obtain ⟨m, hm⟩ := k0; exact DataW.trod_lt m _ _ _ hm
  obtain ⟨a0, rfl, w0⟩ := open_elem (hval 0 25 v0 rfl rfl) h0
  clear hA0 hval0
  refine (fieldFermat_walk a0 w0 W ).mono fun e W' ⟨he, bel⟩ => ?_
  subst he
  exact ⟨_, rfl, _, _, _, [], _, [], hW', trodAll_mk1 (shut_bool Try.underlying4 _), (trodAll_cons_mk (Below.trod laidOut (by kernel_rfl) (of_decide_eq_true (by kernel_rfl)) k0 bel lt0) trodAll_mk0), rfl, bel.frame _, fun h => by cases h⟩

theorem fieldFermat_holds : Rows.FieldFermatSaid :=
  OpenClaim.holds_of_wide 8 Try.f8 rfl rfl rfl rfl rfl rfl rfl ⟨rfl, rfl, rfl, rfl, rfl⟩ rfl rfl rfl rfl rfl (by kernel_rfl) Try.func8 (by kernel_rfl)
    (of_decide_eq_true (by kernel_rfl)) (by unfold Func.isWrapper; first | (rw [if_pos (by decide +kernel)]; kernel_rfl) | (rw [if_neg (by decide +kernel)]; exact ⟨rfl, rfl⟩))
    (fun os started H enc _ => fieldFermat_lifted os started H enc)

end Go.Proofs.Ytljolpdpblohcaa
