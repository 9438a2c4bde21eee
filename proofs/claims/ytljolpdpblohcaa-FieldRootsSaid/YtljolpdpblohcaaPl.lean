/-
  Walks: sums and differences modulo the prime.
-/
import Derived.Test.YtljolpdpblohcaaEm
namespace Go.Proofs.Ytljolpdpblohcaa
open Go.RowKit Go.Proofs.YtljolpdpblohcaaW.PrintLast
set_option linter.unusedSimpArgs false

set_option linter.unusedVariables false
theorem pp_dig {n : Nat} (h : n < BB ^ 17) : (dig n).length ≤ 1000000 := Nat.le_trans (dig_len_le h) (by decide)
theorem p_17 {m n : Nat} (h1 : m ≤ Num.p) (h2 : n ≤ Num.p) : m + n < BB ^ 17 := Nat.lt_of_le_of_lt (Nat.add_le_add h1 h2) (by decide)

set_option maxRecDepth 100000 in
set_option maxHeartbeats 2000000 in
theorem Plus_any (A B : Option Addr) (c d X Y : Nat) (hx : X < Num.p) (hy : Y < Num.p) (w : World) (hX : Dn w A c X) (hY : Dn w B d Y) :
    Calls Try.prog 35 #[.slice A (dig X).length c, .slice B (dig Y).length d] w fun e w' => (∃ A' c', e = .returned (.slice A' (dig ((X + Y) % Num.p)).length c') ∧ Dn w' A' c' ((X + Y) % Num.p)) ∧ Below w.heap.size w w' := by
  have HX := Lib.hid hX
  have HY := Lib.hid hY
  have HP := Lib.hid (And.intro hx hy)
  clear hX hY hx hy
  go_enter Try.func35, Try.ntmps35
  go_wp2_with fail
  refine (sum_any A B c d X Y (p_dig HP.out.1) (p_dig HP.out.2) _ HX.out HY.out).mono ?_
  rintro e x1 ⟨⟨A1, c1, rfl, hd1⟩, hb1⟩
  have HB1 : Hid (Below w.heap.size w x1) := Below.trans (by (repeat (first | with_reducible exact (Below.refl _ _) | with_reducible refine below_pin ?_ ?_ | with_reducible refine Below.alloc ?_ ?_ _ | with_reducible refine Below.setCell ?_ ?_ _ | with_reducible refine Below.drew ?_)); all_goals (first | omega | (simp only [World.size_alloc, pin_size, World.size_drew, World.size_setCell] <;> omega))) (hb1.mono (by (first | omega | (simp only [World.size_alloc, pin_size, World.size_drew, World.size_setCell] <;> omega))))
  have hz1 := HB1.out.size
  clear hb1
  have HD1 := Lib.hid hd1
  clear hd1
  go_wp2_with fail
  refine (Mod_any A1 c1 (X + Y) (pp_dig (p_17 (Nat.le_of_lt HP.out.1) (Nat.le_of_lt HP.out.2))) _ HD1.out).mono ?_
  rintro e x2 ⟨⟨A2, c2, rfl, hd2⟩, hb2⟩
  have HB2 : Hid (Below w.heap.size w x2) := Below.trans (by (repeat (first | with_reducible exact HB1.out | with_reducible refine below_pin ?_ ?_ | with_reducible refine Below.alloc ?_ ?_ _ | with_reducible refine Below.setCell ?_ ?_ _ | with_reducible refine Below.drew ?_)); all_goals (first | omega | (simp only [World.size_alloc, pin_size, World.size_drew, World.size_setCell] <;> omega))) (hb2.mono (by (first | omega | (simp only [World.size_alloc, pin_size, World.size_drew, World.size_setCell] <;> omega))))
  have hz2 := HB2.out.size
  clear hb2
  have HD2 := Lib.hid hd2
  clear hd2
  go_wp2_with fail
  go_ret
  exact ⟨⟨A2, c2, rfl, HD2.out⟩, (by (repeat (first | with_reducible exact HB2.out | with_reducible refine below_pin ?_ ?_ | with_reducible refine Below.alloc ?_ ?_ _ | with_reducible refine Below.setCell ?_ ?_ _ | with_reducible refine Below.drew ?_)); all_goals (first | omega | (simp only [World.size_alloc, pin_size, World.size_drew, World.size_setCell] <;> omega)))⟩

set_option maxRecDepth 100000 in
set_option maxHeartbeats 2000000 in
theorem Less_any (A B : Option Addr) (c d X Y : Nat) (hx : X < Num.p) (hy : Y < Num.p) (w : World) (hX : Dn w A c X) (hY : Dn w B d Y) :
    Calls Try.prog 37 #[.slice A (dig X).length c, .slice B (dig Y).length d] w fun e w' => (∃ A' c', e = .returned (.slice A' (dig ((X + (Num.p - Y)) % Num.p)).length c') ∧ Dn w' A' c' ((X + (Num.p - Y)) % Num.p)) ∧ Below w.heap.size w w' := by
  have HX := Lib.hid hX
  have HY := Lib.hid hY
  have HP := Lib.hid (And.intro hx hy)
  clear hX hY hx hy
  go_enter Try.func37, Try.ntmps37
  go_wp2_with fail
  refine (P_any _).mono ?_
  rintro e x1 ⟨⟨A0, c0, rfl, hd0⟩, hb1⟩
  have HB1 : Hid (Below w.heap.size w x1) := Below.trans (by (repeat (first | with_reducible exact (Below.refl _ _) | with_reducible refine below_pin ?_ ?_ | with_reducible refine Below.alloc ?_ ?_ _ | with_reducible refine Below.setCell ?_ ?_ _ | with_reducible refine Below.drew ?_)); all_goals (first | omega | (simp only [World.size_alloc, pin_size, World.size_drew, World.size_setCell] <;> omega))) (hb1.mono (by (first | omega | (simp only [World.size_alloc, pin_size, World.size_drew, World.size_setCell] <;> omega))))
  have hz1 := HB1.out.size
  clear hb1
  have HD0 := Lib.hid hd0
  clear hd0
  go_wp2_with fail
  refine (minus_any A0 B c0 d Num.p Y (by rw [digP]; decide) (Nat.le_of_lt HP.out.2) _ HD0.out (HY.out.mono HB1.out (Nat.le_refl _))).mono ?_
  rintro e x2 ⟨⟨A1, c1, rfl, hd1⟩, hb2⟩
  have HB2 : Hid (Below w.heap.size w x2) := Below.trans (by (repeat (first | with_reducible exact HB1.out | with_reducible refine below_pin ?_ ?_ | with_reducible refine Below.alloc ?_ ?_ _ | with_reducible refine Below.setCell ?_ ?_ _ | with_reducible refine Below.drew ?_)); all_goals (first | omega | (simp only [World.size_alloc, pin_size, World.size_drew, World.size_setCell] <;> omega))) (hb2.mono (by (first | omega | (simp only [World.size_alloc, pin_size, World.size_drew, World.size_setCell] <;> omega))))
  have hz2 := HB2.out.size
  clear hb2
  have HD1 := Lib.hid hd1
  clear hd1
  go_wp2_with fail
  refine (sum_any A A1 c c1 X (Num.p - Y) (p_dig HP.out.1) (pp_dig (Nat.lt_of_le_of_lt (Nat.sub_le _ _) (by decide))) _ (HX.out.mono HB2.out (Nat.le_refl _)) HD1.out).mono ?_
  rintro e x3 ⟨⟨A2, c2, rfl, hd2⟩, hb3⟩
  have HB3 : Hid (Below w.heap.size w x3) := Below.trans (by (repeat (first | with_reducible exact HB2.out | with_reducible refine below_pin ?_ ?_ | with_reducible refine Below.alloc ?_ ?_ _ | with_reducible refine Below.setCell ?_ ?_ _ | with_reducible refine Below.drew ?_)); all_goals (first | omega | (simp only [World.size_alloc, pin_size, World.size_drew, World.size_setCell] <;> omega))) (hb3.mono (by (first | omega | (simp only [World.size_alloc, pin_size, World.size_drew, World.size_setCell] <;> omega))))
  have hz3 := HB3.out.size
  clear hb3
  have HD2 := Lib.hid hd2
  clear hd2
  go_wp2_with fail
  refine (Mod_any A2 c2 (X + (Num.p - Y)) (pp_dig (p_17 (Nat.le_of_lt HP.out.1) (Nat.sub_le _ _))) _ HD2.out).mono ?_
  rintro e x4 ⟨⟨A3, c3, rfl, hd3⟩, hb4⟩
  have HB4 : Hid (Below w.heap.size w x4) := Below.trans (by (repeat (first | with_reducible exact HB3.out | with_reducible refine below_pin ?_ ?_ | with_reducible refine Below.alloc ?_ ?_ _ | with_reducible refine Below.setCell ?_ ?_ _ | with_reducible refine Below.drew ?_)); all_goals (first | omega | (simp only [World.size_alloc, pin_size, World.size_drew, World.size_setCell] <;> omega))) (hb4.mono (by (first | omega | (simp only [World.size_alloc, pin_size, World.size_drew, World.size_setCell] <;> omega))))
  have hz4 := HB4.out.size
  clear hb4
  have HD3 := Lib.hid hd3
  clear hd3
  go_wp2_with fail
  go_ret
  exact ⟨⟨A3, c3, rfl, HD3.out⟩, (by (repeat (first | with_reducible exact HB4.out | with_reducible refine below_pin ?_ ?_ | with_reducible refine Below.alloc ?_ ?_ _ | with_reducible refine Below.setCell ?_ ?_ _ | with_reducible refine Below.drew ?_)); all_goals (first | omega | (simp only [World.size_alloc, pin_size, World.size_drew, World.size_setCell] <;> omega)))⟩

theorem dn_nil (w : World) : Dn w none 0 0 := ⟨by rw [dig_zero]; exact Rd.nil _ _ _, by rw [dig_zero]; exact Nat.le_refl _⟩
theorem Less_nil (B : Option Addr) (d Y : Nat) (hy : Y < Num.p) (w : World) (hY : Dn w B d Y) : Calls Try.prog 37 #[.slice none 0 0, .slice B (dig Y).length d] w fun e w' => (∃ A' c', e = .returned (.slice A' (dig ((Num.p - Y) % Num.p)).length c') ∧ Dn w' A' c' ((Num.p - Y) % Num.p)) ∧ Below w.heap.size w w' := by
  have h := Less_any none B 0 d 0 Y p_pos hy w (dn_nil w) hY
  rw [show (dig 0).length = 0 by rw [dig_zero]; rfl, Nat.zero_add] at h
  exact h

end Go.Proofs.Ytljolpdpblohcaa
