/-
  Walks: the document's root of a quotient.
-/
import Derived.Test.YtljolpdpblohcaaHa
import Derived.Test.YtljolpdpblohcaaRl
import Derived.Test.YtljolpdpblohcaaPl
namespace Go.Proofs.Ytljolpdpblohcaa
open Go.RowKit Go.Proofs.YtljolpdpblohcaaW.PrintLast
set_option linter.unusedSimpArgs false

set_option linter.unusedVariables false
theorem MulZ (A B : Option Addr) (c d X Y Z : Nat) (hx : X < Num.p) (hy : Y < Num.p) (hz : Z = X * Y % Num.p) (w : World) (hX : Dn w A c X) (hY : Dn w B d Y) :
    Calls Try.prog 30 #[.slice A (dig X).length c, .slice B (dig Y).length d] w fun e w' => (∃ A' c', e = .returned (.slice A' (dig Z).length c') ∧ Dn w' A' c' Z) ∧ Below w.heap.size w w' := by
  subst hz
  exact Mul_ref A B c d X Y hx hy w hX hY
theorem InvZ (A : Option Addr) (c X L Z : Nat) (hx : X < Num.p) (hL : L = (dig X).length) (hz : Z = X ^ (Num.p - 2) % Num.p) (w : World) (hX : Dn w A c X) :
    Calls Try.prog 40 #[.slice A L c] w fun e w' => (∃ A' c', e = .returned (.slice A' (dig Z).length c') ∧ Dn w' A' c' Z) ∧ Below w.heap.size w w' := by
  subst hz
  subst hL
  exact RInv_any A c X hx w hX
theorem PowZ (A : Option Addr) (c X b E Z : Nat) (hx : X < Num.p) (hE : E < Num.p) (hz : Z = X ^ E % Num.p) (w : World) (hX : Dn w A c X) (hr : Rd w .u8 (some ⟨b, 0, none⟩) (bytesN 32 E)) :
    Calls Try.prog 38 #[.slice A (dig X).length c, .slice (some ⟨b, 0, none⟩) 32 32] w fun e w' => (∃ A' c', e = .returned (.slice A' (dig Z).length c') ∧ Dn w' A' c' Z) ∧ Below w.heap.size w w' := by
  subst hz
  exact Power_to A c X b 32 E hx (bytesN 32 E) (bytesN_len _ _) (by decide) (bytesN_lt _ _) (bytes_back hE) w hX hr
theorem PowLit (g X b E Z : Nat) (hd : dig X = [X]) (hx : X < Num.p) (hE : E < Num.p) (hz : Z = X ^ E % Num.p) (w : World) (hX : Dn w (some ⟨g, 0, none⟩) 1 X) (hr : Rd w .u8 (some ⟨b, 0, none⟩) (bytesN 32 E)) :
    Calls Try.prog 38 #[.slice (some ⟨g, 0, none⟩) 1 1, .slice (some ⟨b, 0, none⟩) 32 32] w fun e w' => (∃ A' c', e = .returned (.slice A' (dig Z).length c') ∧ Dn w' A' c' Z) ∧ Below w.heap.size w w' := by
  have h := PowZ (some ⟨g, 0, none⟩) 1 X b E Z hx hE hz w hX hr
  rw [show (dig X).length = 1 by rw [hd]; rfl] at h
  exact h
theorem halfZ (A : Option Addr) (c X n Z : Nat) (hsz : (dig X).length ≤ 1000000) (hn : n ≤ 1000) (hz : Z = X / 2 ^ n) (w : World) (hX : Dn w A c X) :
    Calls Try.prog 51 #[.slice A (dig X).length c, .int .i64 n] w fun e w' => (∃ A' c', e = .returned (.slice A' (dig Z).length c') ∧ Dn w' A' c' Z) ∧ Below w.heap.size w w' := by
  subst hz
  exact half_any A c X n hsz hn w hX
theorem sumZ (A : Option Addr) (c X g Y Z : Nat) (hsx : (dig X).length ≤ 1000000) (hY : dig Y = [Y]) (hz : Z = X + Y) (w : World) (hX : Dn w A c X) (hg : w.heap[g]? = some (.cells #[.int .u64 (Y : Int)] 23)) :
    Calls Try.prog 45 #[.slice A (dig X).length c, .slice (some ⟨g, 0, none⟩) 1 1] w fun e w' => (∃ A' c', e = .returned (.slice A' (dig Z).length c') ∧ Dn w' A' c' Z) ∧ Below w.heap.size w w' := by
  subst hz
  exact sum_lit A c X g Y hsx hY w hX hg
theorem minusZ (A : Option Addr) (c X g Y Z : Nat) (hsx : (dig X).length ≤ 1000000) (hY : dig Y = [Y]) (hle : Y ≤ X) (hz : Z = X - Y) (w : World) (hX : Dn w A c X) (hg : w.heap[g]? = some (.cells #[.int .u64 (Y : Int)] 23)) :
    Calls Try.prog 52 #[.slice A (dig X).length c, .slice (some ⟨g, 0, none⟩) 1 1] w fun e w' => (∃ A' c', e = .returned (.slice A' (dig Z).length c') ∧ Dn w' A' c' Z) ∧ Below w.heap.size w w' := by
  subst hz
  exact minus_lit A c X g Y hsx hY hle w hX hg
theorem SameZ (A B : Option Addr) (c d X Y : Nat) (b : Bool) (hx : X < Num.p) (hy : Y < Num.p) (hb : decide (X = Y) = b) (w : World) (hX : Dn w A c X) (hY : Dn w B d Y) :
    Calls Try.prog 24 #[.slice A (dig X).length c, .slice B (dig Y).length d] w fun e w' => e = .returned (.bool b) ∧ Below w.heap.size w w' := by
  subst hb
  exact RSame_any A B c d X Y (p_dig hx) (p_dig hy) w hX hY
theorem dig3 : dig 3 = [3] := dig_of [3] (by decide) (by decide)
theorem LessZ (B : Option Addr) (d Y Z : Nat) (hy : Y < Num.p) (hz : Z = (Num.p - Y) % Num.p) (L : Nat) (hL : L = (dig Y).length) (w : World) (hY : Dn w B d Y) :
    Calls Try.prog 37 #[.slice none 0 0, .slice B L d] w fun e w' => (∃ A' c', e = .returned (.slice A' (dig Z).length c') ∧ Dn w' A' c' Z) ∧ Below w.heap.size w w' := by
  subst hz
  subst hL
  exact Less_nil B d Y hy w hY
theorem odd_dig0 {n : Nat} : dg n 0 % 2 = n % 2 := by
  simp only [dg, Nat.pow_zero, Nat.div_one, BB]; omega
theorem half_p3 {n : Nat} (h : n + n + 1 + (n + n + 1) + (n + n + 1 + (n + n + 1)) = Num.p - 1) : n + 1 = (Num.p + 3) / 2 ^ 3 := by
  unfold Num.p at *
  omega
theorem half_p1 {m : Nat} (h : m + m + (m + m) = Num.p - 1) : m = (Num.p - 1) / 2 ^ 2 := by
  unfold Num.p at *
  omega
theorem dig_pos_len {n : Nat} (h : n ≠ 0) : 0 < (dig n).length := by rw [dig_pos h]; exact Nat.succ_pos _
theorem len_zero {n : Nat} (h : (dig n).length = 0) : n = 0 := by
  have h1 := lt_dig n
  rw [h, Nat.pow_zero] at h1
  omega
set_option maxRecDepth 100000 in
set_option maxHeartbeats 8000000 in
theorem RRoot_any (A B : Option Addr) (c d U V n m : Nat) (ex : Expo n m HP) (hu : U < Num.p) (hv : V < Num.p) (w : World) (hX : Dn w A c U) (hY : Dn w B d V) :
    Calls Try.prog 27 #[.slice A (dig U).length c, .slice B (dig V).length d] w fun e w' => (∃ A' c' r ok, e = .returned (.tuple #[.slice A' (dig r).length c', .bool ok]) ∧ Dn w' A' c' r ∧ r < Num.p ∧ ok = decide (rootOk n m U V) ∧ small r = small (rootV n m U V)) ∧ Below w.heap.size w w' := by
  have HX := Lib.hid hX
  have HY := Lib.hid hY
  have HU := Lib.hid hu
  have HV := Lib.hid hv
  have EX := Lib.hid ex
  clear hX hY hu hv ex
  by_cases hv0 : V = 0
  · have Z := root_zero (E1 := n) (E2 := m) (HU.out) hv0
    have HZ := Lib.hid Z
    subst hv0
    rw [show (dig 0).length = 0 by rw [dig_zero]; rfl]
    obtain ⟨L, hL⟩ : ∃ L, L = (dig U).length := ⟨_, rfl⟩
    rw [← hL]
    have hd : decide ((L : Int) = 0) = decide (rootOk n m U 0) := by
      rw [decide_eq_decide, Z.1]
      constructor
      · intro h; exact len_zero (by omega)
      · intro h; rw [hL, h, dig_zero]; rfl
    have hd2 : (((L : Int)) == 0) = decide (rootOk n m U 0) := by rw [← hd]; rfl
    clear hL Z
    go_enter Try.func27, Try.ntmps27
    go_wp2_with fail
    refine bodyPost_ret (v := .tuple #[.slice none 0 0, .bool (decide (rootOk n m U 0))]) ?_ rfl ⟨⟨none, 0, 0, decide (rootOk n m U 0), by rw [dig_zero]; rfl, dn_nil _, p_pos, rfl, small_congr HZ.out.2.symm⟩, (by (repeat (first | with_reducible exact (Below.refl _ _) | with_reducible refine below_pin ?_ ?_ | with_reducible refine Below.alloc ?_ ?_ _ | with_reducible refine Below.setCell ?_ ?_ _ | with_reducible refine Below.drew ?_)); all_goals (first | omega | (simp only [World.size_alloc, pin_size, World.size_drew, World.size_setCell] <;> omega)))⟩
    · simp [results, Try.results27, go_sem, hd, hd2]
  · have hvm : ¬ V % Num.p = 0 := by rw [Nat.mod_eq_of_lt HV.out]; exact hv0
    obtain ⟨L, hL⟩ : ∃ L, L = (dig V).length := ⟨_, rfl⟩
    have HL := Lib.hid hL
    rw [← hL]
    have hl0 : ¬ (L : Int) = 0 := by have := dig_pos_len hv0; omega
    have hl1 : decide ((L : Int) = 0) = false := decide_eq_false hl0
    obtain ⟨vi, hvi⟩ : ∃ z, z = V ^ (Num.p - 2) % Num.p := ⟨_, rfl⟩
    obtain ⟨q, hq⟩ : ∃ z, z = docQ U V := ⟨_, rfl⟩
    have HQ := Lib.hid (show vi = V ^ (Num.p - 2) % Num.p ∧ vi < Num.p ∧ q = U * vi % Num.p ∧ q < Num.p by rw [hq, hvi]; exact ⟨rfl, Nat.mod_lt _ p_pos, rfl, docQ_lt U V⟩)
    obtain ⟨r0, hr0⟩ : ∃ z, z = docR q (n + 1) := ⟨_, rfl⟩
    obtain ⟨s0, hs0⟩ : ∃ z, z = r0 * r0 % Num.p := ⟨_, rfl⟩
    obtain ⟨S, hS⟩ : ∃ z, z = docS q (n + 1) m := ⟨_, rfl⟩
    obtain ⟨s1, hs1⟩ : ∃ z, z = S * S % Num.p := ⟨_, rfl⟩
    obtain ⟨p3, hp3⟩ : ∃ z, z = Num.p + 3 := ⟨_, rfl⟩
    obtain ⟨e3, he3⟩ : ∃ z, z = n + 1 := ⟨_, rfl⟩
    have HE := Lib.hid (show p3 = Num.p + 3 ∧ e3 = p3 / 2 ^ 3 ∧ e3 < Num.p ∧ r0 = q ^ e3 % Num.p by
      have h := half_p3 (n := n) (by rw [EX.out.E12, EX.out.E22]; have := EX.out.HP2; have := EX.out.E22; omega)
      refine ⟨hp3, by rw [he3, hp3]; exact h, ?_, by rw [hr0, he3]; rfl⟩
      rw [he3, h]
      decide)
    have HR := Lib.hid (show r0 < Num.p ∧ s0 = r0 * r0 % Num.p ∧ s0 < Num.p ∧ S < Num.p ∧ s1 = S * S % Num.p ∧ s1 < Num.p by rw [hs0, hs1, hr0, hS]; exact ⟨Nat.mod_lt _ p_pos, rfl, Nat.mod_lt _ p_pos, docS_lt _ _ _, rfl, Nat.mod_lt _ p_pos⟩)
    have HP3 := Lib.hid (show (dig p3).length ≤ 1000000 by rw [hp3]; exact Nat.le_trans (dig_len_le (show Num.p + 3 < BB ^ 16 by decide)) (by decide))
    have HOK := Lib.hid (show (s1 = q ↔ rootOk n m U V) ∧ (rootOk n m U V → evenV S % Num.p = rootV n m U V % Num.p) by
      have h := doc_ok EX.out HU.out hvm
      rw [← hq, ← hS, ← hs1] at h
      refine ⟨h, fun hk => ?_⟩
      have h2 := doc_val hvm hk (by rw [← hq, ← hS, ← hs1]; exact h.mpr hk)
      rw [← hq, ← hS] at h2
      exact h2)
    have HS0 := Lib.hid (show (s0 = q → S = r0) ∧ (¬ s0 = q → S = r0 * (2 ^ m % Num.p) % Num.p) by
      rw [hs0, hr0, hS]
      unfold docS
      exact ⟨fun h => if_pos h, fun h => if_neg h⟩)
    clear hL hvi hq hr0 hs0 hS hs1 hp3 he3 hvm hv0
    by_cases hb0 : s0 = q
    · have HQ0 := Lib.hid hb0
      have hSr : S = r0 := HS0.out.1 hb0
      have HQ1 : Hid (s1 = q) := Lib.hid (by rw [HR.out.2.2.2.2.1, hSr, ← HR.out.2.1]; exact hb0)
      have HSR := Lib.hid hSr
      clear hSr
      clear hb0
      obtain ⟨LS, hLS⟩ : ∃ L, L = (dig S).length := ⟨_, rfl⟩
      have HLS := Lib.hid hLS
      by_cases hz : LS = 0
      · have HSZ := Lib.hid hz
        have hS0 : S = 0 := len_zero (by rw [← hLS]; exact hz)
        have h1 : decide ((LS : Int) > 0) = false := decide_eq_false (by omega)
        have h2 : decide ((0 : Int) < (LS : Int)) = false := h1
        have h3 : decide (LS > 0) = false := decide_eq_false (by omega)
        have HV1 : Hid (small S = small (rootV n m U V)) := Lib.hid (small_congr (by
          rw [← HOK.out.2 (HOK.out.1.mp HQ1.out)]
          unfold evenV
          rw [if_neg (by rw [hS0]; decide)]))
        clear hz hS0 hLS
        go_enter Try.func27, Try.ntmps27
        go_wp2_with fail
        refine (InvZ B d V L vi HV.out HL.out HQ.out.1 _ HY.out).mono ?_
        rintro e x1 ⟨⟨A1, c1, rfl, hd1⟩, hb1⟩
        have HB1 : Hid (Below w.heap.size w x1) := Below.trans (by (repeat (first | with_reducible exact (Below.refl _ _) | with_reducible refine below_pin ?_ ?_ | with_reducible refine Below.alloc ?_ ?_ _ | with_reducible refine Below.setCell ?_ ?_ _ | with_reducible refine Below.drew ?_)); all_goals (first | omega | (simp only [World.size_alloc, pin_size, World.size_drew, World.size_setCell] <;> omega))) (hb1.mono (by (first | omega | (simp only [World.size_alloc, pin_size, World.size_drew, World.size_setCell] <;> omega))))
        have hz1 := HB1.out.size
        have HXn := Lib.hid (HX.out.next (Below.trans (by (repeat (first | with_reducible exact (Below.refl _ _) | with_reducible refine below_pin ?_ ?_ | with_reducible refine Below.alloc ?_ ?_ _ | with_reducible refine Below.setCell ?_ ?_ _ | with_reducible refine Below.drew ?_)); all_goals (first | omega | (simp only [World.size_alloc, pin_size, World.size_drew, World.size_setCell] <;> omega))) (hb1.mono (by (first | omega | (simp only [World.size_alloc, pin_size, World.size_drew, World.size_setCell] <;> omega))))))
        clear HX
        have HX := HXn
        clear HXn
        clear hb1
        have HD1 := Lib.hid hd1
        clear hd1
        go_wp2_with fail
        refine (MulZ A A1 c c1 U vi q HU.out HQ.out.2.1 HQ.out.2.2.1 _ (HX.out.next (by (repeat (first | with_reducible exact (Below.refl _ _) | with_reducible refine below_pin ?_ ?_ | with_reducible refine Below.alloc ?_ ?_ _ | with_reducible refine Below.setCell ?_ ?_ _ | with_reducible refine Below.drew ?_)); all_goals (first | omega | (simp only [World.size_alloc, pin_size, World.size_drew, World.size_setCell] <;> omega)))) (HD1.out.next (by (repeat (first | with_reducible exact (Below.refl _ _) | with_reducible refine below_pin ?_ ?_ | with_reducible refine Below.alloc ?_ ?_ _ | with_reducible refine Below.setCell ?_ ?_ _ | with_reducible refine Below.drew ?_)); all_goals (first | omega | (simp only [World.size_alloc, pin_size, World.size_drew, World.size_setCell] <;> omega))))).mono ?_
        rintro e x2 ⟨⟨A2, c2, rfl, hd2⟩, hb2⟩
        have HB2 : Hid (Below w.heap.size w x2) := Below.trans (by (repeat (first | with_reducible exact HB1.out | with_reducible refine below_pin ?_ ?_ | with_reducible refine Below.alloc ?_ ?_ _ | with_reducible refine Below.setCell ?_ ?_ _ | with_reducible refine Below.drew ?_)); all_goals (first | omega | (simp only [World.size_alloc, pin_size, World.size_drew, World.size_setCell] <;> omega))) (hb2.mono (by (first | omega | (simp only [World.size_alloc, pin_size, World.size_drew, World.size_setCell] <;> omega))))
        have hz2 := HB2.out.size
        clear hb2
        have HD2 := Lib.hid hd2
        clear hd2
        go_wp2_with fail
        refine (P_any _).mono ?_
        rintro e x3 ⟨⟨A3, c3, rfl, hd3⟩, hb3⟩
        have HB3 : Hid (Below w.heap.size w x3) := Below.trans (by (repeat (first | with_reducible exact HB2.out | with_reducible refine below_pin ?_ ?_ | with_reducible refine Below.alloc ?_ ?_ _ | with_reducible refine Below.setCell ?_ ?_ _ | with_reducible refine Below.drew ?_)); all_goals (first | omega | (simp only [World.size_alloc, pin_size, World.size_drew, World.size_setCell] <;> omega))) (hb3.mono (by (first | omega | (simp only [World.size_alloc, pin_size, World.size_drew, World.size_setCell] <;> omega))))
        have hz3 := HB3.out.size
        have HD2n := Lib.hid (HD2.out.next (Below.trans (by (repeat (first | with_reducible exact (Below.refl _ _) | with_reducible refine below_pin ?_ ?_ | with_reducible refine Below.alloc ?_ ?_ _ | with_reducible refine Below.setCell ?_ ?_ _ | with_reducible refine Below.drew ?_)); all_goals (first | omega | (simp only [World.size_alloc, pin_size, World.size_drew, World.size_setCell] <;> omega))) (hb3.mono (by (first | omega | (simp only [World.size_alloc, pin_size, World.size_drew, World.size_setCell] <;> omega))))))
        clear HD2
        have HD2 := HD2n
        clear HD2n
        clear hb3
        have HD3 := Lib.hid hd3
        clear hd3
        go_wp2_with fail
        refine (sumZ A3 c3 Num.p x3.heap.size 3 p3 (by rw [digP]; decide) dig3 HE.out.1 _ (HD3.out.next (by (repeat (first | with_reducible exact (Below.refl _ _) | with_reducible refine below_pin ?_ ?_ | with_reducible refine Below.alloc ?_ ?_ _ | with_reducible refine Below.setCell ?_ ?_ _ | with_reducible refine Below.drew ?_)); all_goals (first | omega | (simp only [World.size_alloc, pin_size, World.size_drew, World.size_setCell] <;> omega)))) (heap_alloc_new _ _)).mono ?_
        rintro e x4 ⟨⟨A4, c4, rfl, hd4⟩, hb4⟩
        have HB4 : Hid (Below w.heap.size w x4) := Below.trans (by (repeat (first | with_reducible exact HB3.out | with_reducible refine below_pin ?_ ?_ | with_reducible refine Below.alloc ?_ ?_ _ | with_reducible refine Below.setCell ?_ ?_ _ | with_reducible refine Below.drew ?_)); all_goals (first | omega | (simp only [World.size_alloc, pin_size, World.size_drew, World.size_setCell] <;> omega))) (hb4.mono (by (first | omega | (simp only [World.size_alloc, pin_size, World.size_drew, World.size_setCell] <;> omega))))
        have hz4 := HB4.out.size
        have HD2n := Lib.hid (HD2.out.next (Below.trans (by (repeat (first | with_reducible exact (Below.refl _ _) | with_reducible refine below_pin ?_ ?_ | with_reducible refine Below.alloc ?_ ?_ _ | with_reducible refine Below.setCell ?_ ?_ _ | with_reducible refine Below.drew ?_)); all_goals (first | omega | (simp only [World.size_alloc, pin_size, World.size_drew, World.size_setCell] <;> omega))) (hb4.mono (by (first | omega | (simp only [World.size_alloc, pin_size, World.size_drew, World.size_setCell] <;> omega))))))
        clear HD2
        have HD2 := HD2n
        clear HD2n
        clear hb4
        have HD4 := Lib.hid hd4
        clear hd4 HD3
        go_wp2_with fail
        refine (halfZ A4 c4 p3 3 e3 HP3.out (by decide) HE.out.2.1 _ (HD4.out.next (by (repeat (first | with_reducible exact (Below.refl _ _) | with_reducible refine below_pin ?_ ?_ | with_reducible refine Below.alloc ?_ ?_ _ | with_reducible refine Below.setCell ?_ ?_ _ | with_reducible refine Below.drew ?_)); all_goals (first | omega | (simp only [World.size_alloc, pin_size, World.size_drew, World.size_setCell] <;> omega))))).mono ?_
        rintro e x5 ⟨⟨A5, c5, rfl, hd5⟩, hb5⟩
        have HB5 : Hid (Below w.heap.size w x5) := Below.trans (by (repeat (first | with_reducible exact HB4.out | with_reducible refine below_pin ?_ ?_ | with_reducible refine Below.alloc ?_ ?_ _ | with_reducible refine Below.setCell ?_ ?_ _ | with_reducible refine Below.drew ?_)); all_goals (first | omega | (simp only [World.size_alloc, pin_size, World.size_drew, World.size_setCell] <;> omega))) (hb5.mono (by (first | omega | (simp only [World.size_alloc, pin_size, World.size_drew, World.size_setCell] <;> omega))))
        have hz5 := HB5.out.size
        have HD2n := Lib.hid (HD2.out.next (Below.trans (by (repeat (first | with_reducible exact (Below.refl _ _) | with_reducible refine below_pin ?_ ?_ | with_reducible refine Below.alloc ?_ ?_ _ | with_reducible refine Below.setCell ?_ ?_ _ | with_reducible refine Below.drew ?_)); all_goals (first | omega | (simp only [World.size_alloc, pin_size, World.size_drew, World.size_setCell] <;> omega))) (hb5.mono (by (first | omega | (simp only [World.size_alloc, pin_size, World.size_drew, World.size_setCell] <;> omega))))))
        clear HD2
        have HD2 := HD2n
        clear HD2n
        clear hb5
        have HD5 := Lib.hid hd5
        clear hd5 HD4
        go_wp2_with fail
        refine (Bytes_any A5 c5 e3 (p_16 HE.out.2.2.1) _ (HD5.out.next (by (repeat (first | with_reducible exact (Below.refl _ _) | with_reducible refine below_pin ?_ ?_ | with_reducible refine Below.alloc ?_ ?_ _ | with_reducible refine Below.setCell ?_ ?_ _ | with_reducible refine Below.drew ?_)); all_goals (first | omega | (simp only [World.size_alloc, pin_size, World.size_drew, World.size_setCell] <;> omega))))).mono ?_
        rintro e x6 ⟨⟨b6, rfl, hrd⟩, hb6⟩
        have HB6 : Hid (Below w.heap.size w x6) := Below.trans (by (repeat (first | with_reducible exact HB5.out | with_reducible refine below_pin ?_ ?_ | with_reducible refine Below.alloc ?_ ?_ _ | with_reducible refine Below.setCell ?_ ?_ _ | with_reducible refine Below.drew ?_)); all_goals (first | omega | (simp only [World.size_alloc, pin_size, World.size_drew, World.size_setCell] <;> omega))) (hb6.mono (by (first | omega | (simp only [World.size_alloc, pin_size, World.size_drew, World.size_setCell] <;> omega))))
        have hz6 := HB6.out.size
        have HD2n := Lib.hid (HD2.out.next (Below.trans (by (repeat (first | with_reducible exact (Below.refl _ _) | with_reducible refine below_pin ?_ ?_ | with_reducible refine Below.alloc ?_ ?_ _ | with_reducible refine Below.setCell ?_ ?_ _ | with_reducible refine Below.drew ?_)); all_goals (first | omega | (simp only [World.size_alloc, pin_size, World.size_drew, World.size_setCell] <;> omega))) (hb6.mono (by (first | omega | (simp only [World.size_alloc, pin_size, World.size_drew, World.size_setCell] <;> omega))))))
        clear HD2
        have HD2 := HD2n
        clear HD2n
        clear hb6
        have HRD := Lib.hid hrd
        clear hrd HD5
        go_wp2_with fail
        refine (PowZ A2 c2 q b6 e3 r0 HQ.out.2.2.2 HE.out.2.2.1 HE.out.2.2.2 _ (HD2.out.next (by (repeat (first | with_reducible exact (Below.refl _ _) | with_reducible refine below_pin ?_ ?_ | with_reducible refine Below.alloc ?_ ?_ _ | with_reducible refine Below.setCell ?_ ?_ _ | with_reducible refine Below.drew ?_)); all_goals (first | omega | (simp only [World.size_alloc, pin_size, World.size_drew, World.size_setCell] <;> omega)))) HRD.out).mono ?_
        rintro e x7 ⟨⟨A7, c7, rfl, hd7⟩, hb7⟩
        have HB7 : Hid (Below w.heap.size w x7) := Below.trans (by (repeat (first | with_reducible exact HB6.out | with_reducible refine below_pin ?_ ?_ | with_reducible refine Below.alloc ?_ ?_ _ | with_reducible refine Below.setCell ?_ ?_ _ | with_reducible refine Below.drew ?_)); all_goals (first | omega | (simp only [World.size_alloc, pin_size, World.size_drew, World.size_setCell] <;> omega))) (hb7.mono (by (first | omega | (simp only [World.size_alloc, pin_size, World.size_drew, World.size_setCell] <;> omega))))
        have hz7 := HB7.out.size
        have HD2n := Lib.hid (HD2.out.next (Below.trans (by (repeat (first | with_reducible exact (Below.refl _ _) | with_reducible refine below_pin ?_ ?_ | with_reducible refine Below.alloc ?_ ?_ _ | with_reducible refine Below.setCell ?_ ?_ _ | with_reducible refine Below.drew ?_)); all_goals (first | omega | (simp only [World.size_alloc, pin_size, World.size_drew, World.size_setCell] <;> omega))) (hb7.mono (by (first | omega | (simp only [World.size_alloc, pin_size, World.size_drew, World.size_setCell] <;> omega))))))
        clear HD2
        have HD2 := HD2n
        clear HD2n
        clear hb7
        have HD7 := Lib.hid hd7
        clear hd7 HRD
        go_wp2_with fail
        refine (MulZ A7 A7 c7 c7 r0 r0 s0 HR.out.1 HR.out.1 HR.out.2.1 _ (HD7.out.next (by (repeat (first | with_reducible exact (Below.refl _ _) | with_reducible refine below_pin ?_ ?_ | with_reducible refine Below.alloc ?_ ?_ _ | with_reducible refine Below.setCell ?_ ?_ _ | with_reducible refine Below.drew ?_)); all_goals (first | omega | (simp only [World.size_alloc, pin_size, World.size_drew, World.size_setCell] <;> omega)))) (HD7.out.next (by (repeat (first | with_reducible exact (Below.refl _ _) | with_reducible refine below_pin ?_ ?_ | with_reducible refine Below.alloc ?_ ?_ _ | with_reducible refine Below.setCell ?_ ?_ _ | with_reducible refine Below.drew ?_)); all_goals (first | omega | (simp only [World.size_alloc, pin_size, World.size_drew, World.size_setCell] <;> omega))))).mono ?_
        rintro e x8 ⟨⟨A8, c8, rfl, hd8⟩, hb8⟩
        have HB8 : Hid (Below w.heap.size w x8) := Below.trans (by (repeat (first | with_reducible exact HB7.out | with_reducible refine below_pin ?_ ?_ | with_reducible refine Below.alloc ?_ ?_ _ | with_reducible refine Below.setCell ?_ ?_ _ | with_reducible refine Below.drew ?_)); all_goals (first | omega | (simp only [World.size_alloc, pin_size, World.size_drew, World.size_setCell] <;> omega))) (hb8.mono (by (first | omega | (simp only [World.size_alloc, pin_size, World.size_drew, World.size_setCell] <;> omega))))
        have hz8 := HB8.out.size
        have HD2n := Lib.hid (HD2.out.next (Below.trans (by (repeat (first | with_reducible exact (Below.refl _ _) | with_reducible refine below_pin ?_ ?_ | with_reducible refine Below.alloc ?_ ?_ _ | with_reducible refine Below.setCell ?_ ?_ _ | with_reducible refine Below.drew ?_)); all_goals (first | omega | (simp only [World.size_alloc, pin_size, World.size_drew, World.size_setCell] <;> omega))) (hb8.mono (by (first | omega | (simp only [World.size_alloc, pin_size, World.size_drew, World.size_setCell] <;> omega))))))
        clear HD2
        have HD2 := HD2n
        clear HD2n
        have HD7n := Lib.hid (HD7.out.next (Below.trans (by (repeat (first | with_reducible exact (Below.refl _ _) | with_reducible refine below_pin ?_ ?_ | with_reducible refine Below.alloc ?_ ?_ _ | with_reducible refine Below.setCell ?_ ?_ _ | with_reducible refine Below.drew ?_)); all_goals (first | omega | (simp only [World.size_alloc, pin_size, World.size_drew, World.size_setCell] <;> omega))) (hb8.mono (by (first | omega | (simp only [World.size_alloc, pin_size, World.size_drew, World.size_setCell] <;> omega))))))
        clear HD7
        have HD7 := HD7n
        clear HD7n
        clear hb8
        have HD8 := Lib.hid hd8
        clear hd8
        go_wp2_with fail
        refine (SameZ A8 A2 c8 c2 s0 q true HR.out.2.2.1 HQ.out.2.2.2 (decide_eq_true HQ0.out) _ (HD8.out.next (by (repeat (first | with_reducible exact (Below.refl _ _) | with_reducible refine below_pin ?_ ?_ | with_reducible refine Below.alloc ?_ ?_ _ | with_reducible refine Below.setCell ?_ ?_ _ | with_reducible refine Below.drew ?_)); all_goals (first | omega | (simp only [World.size_alloc, pin_size, World.size_drew, World.size_setCell] <;> omega)))) (HD2.out.next (by (repeat (first | with_reducible exact (Below.refl _ _) | with_reducible refine below_pin ?_ ?_ | with_reducible refine Below.alloc ?_ ?_ _ | with_reducible refine Below.setCell ?_ ?_ _ | with_reducible refine Below.drew ?_)); all_goals (first | omega | (simp only [World.size_alloc, pin_size, World.size_drew, World.size_setCell] <;> omega))))).mono ?_
        rintro e x9 ⟨rfl, hb9⟩
        have HB9 : Hid (Below w.heap.size w x9) := Below.trans (by (repeat (first | with_reducible exact HB8.out | with_reducible refine below_pin ?_ ?_ | with_reducible refine Below.alloc ?_ ?_ _ | with_reducible refine Below.setCell ?_ ?_ _ | with_reducible refine Below.drew ?_)); all_goals (first | omega | (simp only [World.size_alloc, pin_size, World.size_drew, World.size_setCell] <;> omega))) (hb9.mono (by (first | omega | (simp only [World.size_alloc, pin_size, World.size_drew, World.size_setCell] <;> omega))))
        have hz9 := HB9.out.size
        have HD2n := Lib.hid (HD2.out.next (Below.trans (by (repeat (first | with_reducible exact (Below.refl _ _) | with_reducible refine below_pin ?_ ?_ | with_reducible refine Below.alloc ?_ ?_ _ | with_reducible refine Below.setCell ?_ ?_ _ | with_reducible refine Below.drew ?_)); all_goals (first | omega | (simp only [World.size_alloc, pin_size, World.size_drew, World.size_setCell] <;> omega))) (hb9.mono (by (first | omega | (simp only [World.size_alloc, pin_size, World.size_drew, World.size_setCell] <;> omega))))))
        clear HD2
        have HD2 := HD2n
        clear HD2n
        have HD7n := Lib.hid (HD7.out.next (Below.trans (by (repeat (first | with_reducible exact (Below.refl _ _) | with_reducible refine below_pin ?_ ?_ | with_reducible refine Below.alloc ?_ ?_ _ | with_reducible refine Below.setCell ?_ ?_ _ | with_reducible refine Below.drew ?_)); all_goals (first | omega | (simp only [World.size_alloc, pin_size, World.size_drew, World.size_setCell] <;> omega))) (hb9.mono (by (first | omega | (simp only [World.size_alloc, pin_size, World.size_drew, World.size_setCell] <;> omega))))))
        clear HD7
        have HD7 := HD7n
        clear HD7n
        clear hb9
        clear HD8
        go_wp2_with fail
        rw [← HSR.out] at HD7 ⊢
        refine (MulZ A7 A7 c7 c7 S S s1 HR.out.2.2.2.1 HR.out.2.2.2.1 HR.out.2.2.2.2.1 _ (HD7.out.next (by (repeat (first | with_reducible exact (Below.refl _ _) | with_reducible refine below_pin ?_ ?_ | with_reducible refine Below.alloc ?_ ?_ _ | with_reducible refine Below.setCell ?_ ?_ _ | with_reducible refine Below.drew ?_)); all_goals (first | omega | (simp only [World.size_alloc, pin_size, World.size_drew, World.size_setCell] <;> omega)))) (HD7.out.next (by (repeat (first | with_reducible exact (Below.refl _ _) | with_reducible refine below_pin ?_ ?_ | with_reducible refine Below.alloc ?_ ?_ _ | with_reducible refine Below.setCell ?_ ?_ _ | with_reducible refine Below.drew ?_)); all_goals (first | omega | (simp only [World.size_alloc, pin_size, World.size_drew, World.size_setCell] <;> omega))))).mono ?_
        rintro e x10 ⟨⟨A15, c15, rfl, hd15⟩, hb10⟩
        have HB10 : Hid (Below w.heap.size w x10) := Below.trans (by (repeat (first | with_reducible exact HB9.out | with_reducible refine below_pin ?_ ?_ | with_reducible refine Below.alloc ?_ ?_ _ | with_reducible refine Below.setCell ?_ ?_ _ | with_reducible refine Below.drew ?_)); all_goals (first | omega | (simp only [World.size_alloc, pin_size, World.size_drew, World.size_setCell] <;> omega))) (hb10.mono (by (first | omega | (simp only [World.size_alloc, pin_size, World.size_drew, World.size_setCell] <;> omega))))
        have hz10 := HB10.out.size
        have HD2n := Lib.hid (HD2.out.next (Below.trans (by (repeat (first | with_reducible exact (Below.refl _ _) | with_reducible refine below_pin ?_ ?_ | with_reducible refine Below.alloc ?_ ?_ _ | with_reducible refine Below.setCell ?_ ?_ _ | with_reducible refine Below.drew ?_)); all_goals (first | omega | (simp only [World.size_alloc, pin_size, World.size_drew, World.size_setCell] <;> omega))) (hb10.mono (by (first | omega | (simp only [World.size_alloc, pin_size, World.size_drew, World.size_setCell] <;> omega))))))
        clear HD2
        have HD2 := HD2n
        clear HD2n
        have HD7n := Lib.hid (HD7.out.next (Below.trans (by (repeat (first | with_reducible exact (Below.refl _ _) | with_reducible refine below_pin ?_ ?_ | with_reducible refine Below.alloc ?_ ?_ _ | with_reducible refine Below.setCell ?_ ?_ _ | with_reducible refine Below.drew ?_)); all_goals (first | omega | (simp only [World.size_alloc, pin_size, World.size_drew, World.size_setCell] <;> omega))) (hb10.mono (by (first | omega | (simp only [World.size_alloc, pin_size, World.size_drew, World.size_setCell] <;> omega))))))
        clear HD7
        have HD7 := HD7n
        clear HD7n
        clear hb10
        have HD15 := Lib.hid hd15
        clear hd15
        go_wp2_with fail
        refine (SameZ A15 A2 c15 c2 s1 q true HR.out.2.2.2.2.2 HQ.out.2.2.2 (decide_eq_true HQ1.out) _ (HD15.out.next (by (repeat (first | with_reducible exact (Below.refl _ _) | with_reducible refine below_pin ?_ ?_ | with_reducible refine Below.alloc ?_ ?_ _ | with_reducible refine Below.setCell ?_ ?_ _ | with_reducible refine Below.drew ?_)); all_goals (first | omega | (simp only [World.size_alloc, pin_size, World.size_drew, World.size_setCell] <;> omega)))) (HD2.out.next (by (repeat (first | with_reducible exact (Below.refl _ _) | with_reducible refine below_pin ?_ ?_ | with_reducible refine Below.alloc ?_ ?_ _ | with_reducible refine Below.setCell ?_ ?_ _ | with_reducible refine Below.drew ?_)); all_goals (first | omega | (simp only [World.size_alloc, pin_size, World.size_drew, World.size_setCell] <;> omega))))).mono ?_
        rintro e x11 ⟨rfl, hb11⟩
        have HB11 : Hid (Below w.heap.size w x11) := Below.trans (by (repeat (first | with_reducible exact HB10.out | with_reducible refine below_pin ?_ ?_ | with_reducible refine Below.alloc ?_ ?_ _ | with_reducible refine Below.setCell ?_ ?_ _ | with_reducible refine Below.drew ?_)); all_goals (first | omega | (simp only [World.size_alloc, pin_size, World.size_drew, World.size_setCell] <;> omega))) (hb11.mono (by (first | omega | (simp only [World.size_alloc, pin_size, World.size_drew, World.size_setCell] <;> omega))))
        have hz11 := HB11.out.size
        have HD7n := Lib.hid (HD7.out.next (Below.trans (by (repeat (first | with_reducible exact (Below.refl _ _) | with_reducible refine below_pin ?_ ?_ | with_reducible refine Below.alloc ?_ ?_ _ | with_reducible refine Below.setCell ?_ ?_ _ | with_reducible refine Below.drew ?_)); all_goals (first | omega | (simp only [World.size_alloc, pin_size, World.size_drew, World.size_setCell] <;> omega))) (hb11.mono (by (first | omega | (simp only [World.size_alloc, pin_size, World.size_drew, World.size_setCell] <;> omega))))))
        clear HD7
        have HD7 := HD7n
        clear HD7n
        clear hb11
        clear HD15 HD2
        rw [← HLS.out]
        go_wp2_with fail
        have hls := HLS.out
        refine bodyPost_ret (v := .tuple #[.slice A7 LS c7, .bool true]) ?_ rfl ⟨⟨A7, c7, S, true, by rw [← HLS.out], (HD7.out.next (by (repeat (first | with_reducible exact (Below.refl _ _) | with_reducible refine below_pin ?_ ?_ | with_reducible refine Below.alloc ?_ ?_ _ | with_reducible refine Below.setCell ?_ ?_ _ | with_reducible refine Below.drew ?_)); all_goals (first | omega | (simp only [World.size_alloc, pin_size, World.size_drew, World.size_setCell] <;> omega)))), HR.out.2.2.2.1, (decide_eq_true (HOK.out.1.mp HQ1.out)).symm, HV1.out⟩, (by (repeat (first | with_reducible exact HB11.out | with_reducible refine below_pin ?_ ?_ | with_reducible refine Below.alloc ?_ ?_ _ | with_reducible refine Below.setCell ?_ ?_ _ | with_reducible refine Below.drew ?_)); all_goals (first | omega | (simp only [World.size_alloc, pin_size, World.size_drew, World.size_setCell] <;> omega)))⟩
        · simp [results, Try.results27, go_sem]
      · have hlt : 0 < LS := by omega
        have hlz : (0 : Int) < (LS : Int) := by omega
        have HLZ := Lib.hid hlt
        obtain ⟨dd, hdd⟩ : ∃ d, d = dg S 0 := ⟨_, rfl⟩
        have HDD := Lib.hid hdd
        by_cases ho : S % 2 = 1
        · have t1 : (((dd : Int)).tmod 2 == 1) = true := by have h := ho; rw [← odd_dig0, ← hdd] at h; rw [beq_iff_eq, Int.tmod_eq_emod_of_nonneg (by omega)]; omega
          have t2 : (((dd : Int)) % 2 == 1) = true := by have h := ho; rw [← odd_dig0, ← hdd] at h; rw [beq_iff_eq]; omega
          obtain ⟨z, hz2⟩ : ∃ z, z = (Num.p - S) % Num.p := ⟨_, rfl⟩
          have HV1 : Hid (z < Num.p ∧ z = (Num.p - S) % Num.p ∧ small z = small (rootV n m U V)) := Lib.hid (by
            refine ⟨by rw [hz2]; exact Nat.mod_lt _ p_pos, hz2, small_congr ?_⟩
            rw [← HOK.out.2 (HOK.out.1.mp HQ1.out)]
            unfold evenV
            rw [Nat.mod_eq_of_lt HR.out.2.2.2.1, if_pos ho, subM_mod, sub0, Nat.mod_eq_of_lt HR.out.2.2.2.1, hz2, Nat.mod_mod])
          clear hz hLS hlt hdd ho hz2
          go_enter Try.func27, Try.ntmps27
          go_wp2_with fail
          refine (InvZ B d V L vi HV.out HL.out HQ.out.1 _ HY.out).mono ?_
          rintro e x1 ⟨⟨A1, c1, rfl, hd1⟩, hb1⟩
          have HB1 : Hid (Below w.heap.size w x1) := Below.trans (by (repeat (first | with_reducible exact (Below.refl _ _) | with_reducible refine below_pin ?_ ?_ | with_reducible refine Below.alloc ?_ ?_ _ | with_reducible refine Below.setCell ?_ ?_ _ | with_reducible refine Below.drew ?_)); all_goals (first | omega | (simp only [World.size_alloc, pin_size, World.size_drew, World.size_setCell] <;> omega))) (hb1.mono (by (first | omega | (simp only [World.size_alloc, pin_size, World.size_drew, World.size_setCell] <;> omega))))
          have hz1 := HB1.out.size
          have HXn := Lib.hid (HX.out.next (Below.trans (by (repeat (first | with_reducible exact (Below.refl _ _) | with_reducible refine below_pin ?_ ?_ | with_reducible refine Below.alloc ?_ ?_ _ | with_reducible refine Below.setCell ?_ ?_ _ | with_reducible refine Below.drew ?_)); all_goals (first | omega | (simp only [World.size_alloc, pin_size, World.size_drew, World.size_setCell] <;> omega))) (hb1.mono (by (first | omega | (simp only [World.size_alloc, pin_size, World.size_drew, World.size_setCell] <;> omega))))))
          clear HX
          have HX := HXn
          clear HXn
          clear hb1
          have HD1 := Lib.hid hd1
          clear hd1
          go_wp2_with fail
          refine (MulZ A A1 c c1 U vi q HU.out HQ.out.2.1 HQ.out.2.2.1 _ (HX.out.next (by (repeat (first | with_reducible exact (Below.refl _ _) | with_reducible refine below_pin ?_ ?_ | with_reducible refine Below.alloc ?_ ?_ _ | with_reducible refine Below.setCell ?_ ?_ _ | with_reducible refine Below.drew ?_)); all_goals (first | omega | (simp only [World.size_alloc, pin_size, World.size_drew, World.size_setCell] <;> omega)))) (HD1.out.next (by (repeat (first | with_reducible exact (Below.refl _ _) | with_reducible refine below_pin ?_ ?_ | with_reducible refine Below.alloc ?_ ?_ _ | with_reducible refine Below.setCell ?_ ?_ _ | with_reducible refine Below.drew ?_)); all_goals (first | omega | (simp only [World.size_alloc, pin_size, World.size_drew, World.size_setCell] <;> omega))))).mono ?_
          rintro e x2 ⟨⟨A2, c2, rfl, hd2⟩, hb2⟩
          have HB2 : Hid (Below w.heap.size w x2) := Below.trans (by (repeat (first | with_reducible exact HB1.out | with_reducible refine below_pin ?_ ?_ | with_reducible refine Below.alloc ?_ ?_ _ | with_reducible refine Below.setCell ?_ ?_ _ | with_reducible refine Below.drew ?_)); all_goals (first | omega | (simp only [World.size_alloc, pin_size, World.size_drew, World.size_setCell] <;> omega))) (hb2.mono (by (first | omega | (simp only [World.size_alloc, pin_size, World.size_drew, World.size_setCell] <;> omega))))
          have hz2 := HB2.out.size
          clear hb2
          have HD2 := Lib.hid hd2
          clear hd2
          go_wp2_with fail
          refine (P_any _).mono ?_
          rintro e x3 ⟨⟨A3, c3, rfl, hd3⟩, hb3⟩
          have HB3 : Hid (Below w.heap.size w x3) := Below.trans (by (repeat (first | with_reducible exact HB2.out | with_reducible refine below_pin ?_ ?_ | with_reducible refine Below.alloc ?_ ?_ _ | with_reducible refine Below.setCell ?_ ?_ _ | with_reducible refine Below.drew ?_)); all_goals (first | omega | (simp only [World.size_alloc, pin_size, World.size_drew, World.size_setCell] <;> omega))) (hb3.mono (by (first | omega | (simp only [World.size_alloc, pin_size, World.size_drew, World.size_setCell] <;> omega))))
          have hz3 := HB3.out.size
          have HD2n := Lib.hid (HD2.out.next (Below.trans (by (repeat (first | with_reducible exact (Below.refl _ _) | with_reducible refine below_pin ?_ ?_ | with_reducible refine Below.alloc ?_ ?_ _ | with_reducible refine Below.setCell ?_ ?_ _ | with_reducible refine Below.drew ?_)); all_goals (first | omega | (simp only [World.size_alloc, pin_size, World.size_drew, World.size_setCell] <;> omega))) (hb3.mono (by (first | omega | (simp only [World.size_alloc, pin_size, World.size_drew, World.size_setCell] <;> omega))))))
          clear HD2
          have HD2 := HD2n
          clear HD2n
          clear hb3
          have HD3 := Lib.hid hd3
          clear hd3
          go_wp2_with fail
          refine (sumZ A3 c3 Num.p x3.heap.size 3 p3 (by rw [digP]; decide) dig3 HE.out.1 _ (HD3.out.next (by (repeat (first | with_reducible exact (Below.refl _ _) | with_reducible refine below_pin ?_ ?_ | with_reducible refine Below.alloc ?_ ?_ _ | with_reducible refine Below.setCell ?_ ?_ _ | with_reducible refine Below.drew ?_)); all_goals (first | omega | (simp only [World.size_alloc, pin_size, World.size_drew, World.size_setCell] <;> omega)))) (heap_alloc_new _ _)).mono ?_
          rintro e x4 ⟨⟨A4, c4, rfl, hd4⟩, hb4⟩
          have HB4 : Hid (Below w.heap.size w x4) := Below.trans (by (repeat (first | with_reducible exact HB3.out | with_reducible refine below_pin ?_ ?_ | with_reducible refine Below.alloc ?_ ?_ _ | with_reducible refine Below.setCell ?_ ?_ _ | with_reducible refine Below.drew ?_)); all_goals (first | omega | (simp only [World.size_alloc, pin_size, World.size_drew, World.size_setCell] <;> omega))) (hb4.mono (by (first | omega | (simp only [World.size_alloc, pin_size, World.size_drew, World.size_setCell] <;> omega))))
          have hz4 := HB4.out.size
          have HD2n := Lib.hid (HD2.out.next (Below.trans (by (repeat (first | with_reducible exact (Below.refl _ _) | with_reducible refine below_pin ?_ ?_ | with_reducible refine Below.alloc ?_ ?_ _ | with_reducible refine Below.setCell ?_ ?_ _ | with_reducible refine Below.drew ?_)); all_goals (first | omega | (simp only [World.size_alloc, pin_size, World.size_drew, World.size_setCell] <;> omega))) (hb4.mono (by (first | omega | (simp only [World.size_alloc, pin_size, World.size_drew, World.size_setCell] <;> omega))))))
          clear HD2
          have HD2 := HD2n
          clear HD2n
          clear hb4
          have HD4 := Lib.hid hd4
          clear hd4 HD3
          go_wp2_with fail
          refine (halfZ A4 c4 p3 3 e3 HP3.out (by decide) HE.out.2.1 _ (HD4.out.next (by (repeat (first | with_reducible exact (Below.refl _ _) | with_reducible refine below_pin ?_ ?_ | with_reducible refine Below.alloc ?_ ?_ _ | with_reducible refine Below.setCell ?_ ?_ _ | with_reducible refine Below.drew ?_)); all_goals (first | omega | (simp only [World.size_alloc, pin_size, World.size_drew, World.size_setCell] <;> omega))))).mono ?_
          rintro e x5 ⟨⟨A5, c5, rfl, hd5⟩, hb5⟩
          have HB5 : Hid (Below w.heap.size w x5) := Below.trans (by (repeat (first | with_reducible exact HB4.out | with_reducible refine below_pin ?_ ?_ | with_reducible refine Below.alloc ?_ ?_ _ | with_reducible refine Below.setCell ?_ ?_ _ | with_reducible refine Below.drew ?_)); all_goals (first | omega | (simp only [World.size_alloc, pin_size, World.size_drew, World.size_setCell] <;> omega))) (hb5.mono (by (first | omega | (simp only [World.size_alloc, pin_size, World.size_drew, World.size_setCell] <;> omega))))
          have hz5 := HB5.out.size
          have HD2n := Lib.hid (HD2.out.next (Below.trans (by (repeat (first | with_reducible exact (Below.refl _ _) | with_reducible refine below_pin ?_ ?_ | with_reducible refine Below.alloc ?_ ?_ _ | with_reducible refine Below.setCell ?_ ?_ _ | with_reducible refine Below.drew ?_)); all_goals (first | omega | (simp only [World.size_alloc, pin_size, World.size_drew, World.size_setCell] <;> omega))) (hb5.mono (by (first | omega | (simp only [World.size_alloc, pin_size, World.size_drew, World.size_setCell] <;> omega))))))
          clear HD2
          have HD2 := HD2n
          clear HD2n
          clear hb5
          have HD5 := Lib.hid hd5
          clear hd5 HD4
          go_wp2_with fail
          refine (Bytes_any A5 c5 e3 (p_16 HE.out.2.2.1) _ (HD5.out.next (by (repeat (first | with_reducible exact (Below.refl _ _) | with_reducible refine below_pin ?_ ?_ | with_reducible refine Below.alloc ?_ ?_ _ | with_reducible refine Below.setCell ?_ ?_ _ | with_reducible refine Below.drew ?_)); all_goals (first | omega | (simp only [World.size_alloc, pin_size, World.size_drew, World.size_setCell] <;> omega))))).mono ?_
          rintro e x6 ⟨⟨b6, rfl, hrd⟩, hb6⟩
          have HB6 : Hid (Below w.heap.size w x6) := Below.trans (by (repeat (first | with_reducible exact HB5.out | with_reducible refine below_pin ?_ ?_ | with_reducible refine Below.alloc ?_ ?_ _ | with_reducible refine Below.setCell ?_ ?_ _ | with_reducible refine Below.drew ?_)); all_goals (first | omega | (simp only [World.size_alloc, pin_size, World.size_drew, World.size_setCell] <;> omega))) (hb6.mono (by (first | omega | (simp only [World.size_alloc, pin_size, World.size_drew, World.size_setCell] <;> omega))))
          have hz6 := HB6.out.size
          have HD2n := Lib.hid (HD2.out.next (Below.trans (by (repeat (first | with_reducible exact (Below.refl _ _) | with_reducible refine below_pin ?_ ?_ | with_reducible refine Below.alloc ?_ ?_ _ | with_reducible refine Below.setCell ?_ ?_ _ | with_reducible refine Below.drew ?_)); all_goals (first | omega | (simp only [World.size_alloc, pin_size, World.size_drew, World.size_setCell] <;> omega))) (hb6.mono (by (first | omega | (simp only [World.size_alloc, pin_size, World.size_drew, World.size_setCell] <;> omega))))))
          clear HD2
          have HD2 := HD2n
          clear HD2n
          clear hb6
          have HRD := Lib.hid hrd
          clear hrd HD5
          go_wp2_with fail
          refine (PowZ A2 c2 q b6 e3 r0 HQ.out.2.2.2 HE.out.2.2.1 HE.out.2.2.2 _ (HD2.out.next (by (repeat (first | with_reducible exact (Below.refl _ _) | with_reducible refine below_pin ?_ ?_ | with_reducible refine Below.alloc ?_ ?_ _ | with_reducible refine Below.setCell ?_ ?_ _ | with_reducible refine Below.drew ?_)); all_goals (first | omega | (simp only [World.size_alloc, pin_size, World.size_drew, World.size_setCell] <;> omega)))) HRD.out).mono ?_
          rintro e x7 ⟨⟨A7, c7, rfl, hd7⟩, hb7⟩
          have HB7 : Hid (Below w.heap.size w x7) := Below.trans (by (repeat (first | with_reducible exact HB6.out | with_reducible refine below_pin ?_ ?_ | with_reducible refine Below.alloc ?_ ?_ _ | with_reducible refine Below.setCell ?_ ?_ _ | with_reducible refine Below.drew ?_)); all_goals (first | omega | (simp only [World.size_alloc, pin_size, World.size_drew, World.size_setCell] <;> omega))) (hb7.mono (by (first | omega | (simp only [World.size_alloc, pin_size, World.size_drew, World.size_setCell] <;> omega))))
          have hz7 := HB7.out.size
          have HD2n := Lib.hid (HD2.out.next (Below.trans (by (repeat (first | with_reducible exact (Below.refl _ _) | with_reducible refine below_pin ?_ ?_ | with_reducible refine Below.alloc ?_ ?_ _ | with_reducible refine Below.setCell ?_ ?_ _ | with_reducible refine Below.drew ?_)); all_goals (first | omega | (simp only [World.size_alloc, pin_size, World.size_drew, World.size_setCell] <;> omega))) (hb7.mono (by (first | omega | (simp only [World.size_alloc, pin_size, World.size_drew, World.size_setCell] <;> omega))))))
          clear HD2
          have HD2 := HD2n
          clear HD2n
          clear hb7
          have HD7 := Lib.hid hd7
          clear hd7 HRD
          go_wp2_with fail
          refine (MulZ A7 A7 c7 c7 r0 r0 s0 HR.out.1 HR.out.1 HR.out.2.1 _ (HD7.out.next (by (repeat (first | with_reducible exact (Below.refl _ _) | with_reducible refine below_pin ?_ ?_ | with_reducible refine Below.alloc ?_ ?_ _ | with_reducible refine Below.setCell ?_ ?_ _ | with_reducible refine Below.drew ?_)); all_goals (first | omega | (simp only [World.size_alloc, pin_size, World.size_drew, World.size_setCell] <;> omega)))) (HD7.out.next (by (repeat (first | with_reducible exact (Below.refl _ _) | with_reducible refine below_pin ?_ ?_ | with_reducible refine Below.alloc ?_ ?_ _ | with_reducible refine Below.setCell ?_ ?_ _ | with_reducible refine Below.drew ?_)); all_goals (first | omega | (simp only [World.size_alloc, pin_size, World.size_drew, World.size_setCell] <;> omega))))).mono ?_
          rintro e x8 ⟨⟨A8, c8, rfl, hd8⟩, hb8⟩
          have HB8 : Hid (Below w.heap.size w x8) := Below.trans (by (repeat (first | with_reducible exact HB7.out | with_reducible refine below_pin ?_ ?_ | with_reducible refine Below.alloc ?_ ?_ _ | with_reducible refine Below.setCell ?_ ?_ _ | with_reducible refine Below.drew ?_)); all_goals (first | omega | (simp only [World.size_alloc, pin_size, World.size_drew, World.size_setCell] <;> omega))) (hb8.mono (by (first | omega | (simp only [World.size_alloc, pin_size, World.size_drew, World.size_setCell] <;> omega))))
          have hz8 := HB8.out.size
          have HD2n := Lib.hid (HD2.out.next (Below.trans (by (repeat (first | with_reducible exact (Below.refl _ _) | with_reducible refine below_pin ?_ ?_ | with_reducible refine Below.alloc ?_ ?_ _ | with_reducible refine Below.setCell ?_ ?_ _ | with_reducible refine Below.drew ?_)); all_goals (first | omega | (simp only [World.size_alloc, pin_size, World.size_drew, World.size_setCell] <;> omega))) (hb8.mono (by (first | omega | (simp only [World.size_alloc, pin_size, World.size_drew, World.size_setCell] <;> omega))))))
          clear HD2
          have HD2 := HD2n
          clear HD2n
          have HD7n := Lib.hid (HD7.out.next (Below.trans (by (repeat (first | with_reducible exact (Below.refl _ _) | with_reducible refine below_pin ?_ ?_ | with_reducible refine Below.alloc ?_ ?_ _ | with_reducible refine Below.setCell ?_ ?_ _ | with_reducible refine Below.drew ?_)); all_goals (first | omega | (simp only [World.size_alloc, pin_size, World.size_drew, World.size_setCell] <;> omega))) (hb8.mono (by (first | omega | (simp only [World.size_alloc, pin_size, World.size_drew, World.size_setCell] <;> omega))))))
          clear HD7
          have HD7 := HD7n
          clear HD7n
          clear hb8
          have HD8 := Lib.hid hd8
          clear hd8
          go_wp2_with fail
          refine (SameZ A8 A2 c8 c2 s0 q true HR.out.2.2.1 HQ.out.2.2.2 (decide_eq_true HQ0.out) _ (HD8.out.next (by (repeat (first | with_reducible exact (Below.refl _ _) | with_reducible refine below_pin ?_ ?_ | with_reducible refine Below.alloc ?_ ?_ _ | with_reducible refine Below.setCell ?_ ?_ _ | with_reducible refine Below.drew ?_)); all_goals (first | omega | (simp only [World.size_alloc, pin_size, World.size_drew, World.size_setCell] <;> omega)))) (HD2.out.next (by (repeat (first | with_reducible exact (Below.refl _ _) | with_reducible refine below_pin ?_ ?_ | with_reducible refine Below.alloc ?_ ?_ _ | with_reducible refine Below.setCell ?_ ?_ _ | with_reducible refine Below.drew ?_)); all_goals (first | omega | (simp only [World.size_alloc, pin_size, World.size_drew, World.size_setCell] <;> omega))))).mono ?_
          rintro e x9 ⟨rfl, hb9⟩
          have HB9 : Hid (Below w.heap.size w x9) := Below.trans (by (repeat (first | with_reducible exact HB8.out | with_reducible refine below_pin ?_ ?_ | with_reducible refine Below.alloc ?_ ?_ _ | with_reducible refine Below.setCell ?_ ?_ _ | with_reducible refine Below.drew ?_)); all_goals (first | omega | (simp only [World.size_alloc, pin_size, World.size_drew, World.size_setCell] <;> omega))) (hb9.mono (by (first | omega | (simp only [World.size_alloc, pin_size, World.size_drew, World.size_setCell] <;> omega))))
          have hz9 := HB9.out.size
          have HD2n := Lib.hid (HD2.out.next (Below.trans (by (repeat (first | with_reducible exact (Below.refl _ _) | with_reducible refine below_pin ?_ ?_ | with_reducible refine Below.alloc ?_ ?_ _ | with_reducible refine Below.setCell ?_ ?_ _ | with_reducible refine Below.drew ?_)); all_goals (first | omega | (simp only [World.size_alloc, pin_size, World.size_drew, World.size_setCell] <;> omega))) (hb9.mono (by (first | omega | (simp only [World.size_alloc, pin_size, World.size_drew, World.size_setCell] <;> omega))))))
          clear HD2
          have HD2 := HD2n
          clear HD2n
          have HD7n := Lib.hid (HD7.out.next (Below.trans (by (repeat (first | with_reducible exact (Below.refl _ _) | with_reducible refine below_pin ?_ ?_ | with_reducible refine Below.alloc ?_ ?_ _ | with_reducible refine Below.setCell ?_ ?_ _ | with_reducible refine Below.drew ?_)); all_goals (first | omega | (simp only [World.size_alloc, pin_size, World.size_drew, World.size_setCell] <;> omega))) (hb9.mono (by (first | omega | (simp only [World.size_alloc, pin_size, World.size_drew, World.size_setCell] <;> omega))))))
          clear HD7
          have HD7 := HD7n
          clear HD7n
          clear hb9
          clear HD8
          go_wp2_with fail
          rw [← HSR.out] at HD7 ⊢
          refine (MulZ A7 A7 c7 c7 S S s1 HR.out.2.2.2.1 HR.out.2.2.2.1 HR.out.2.2.2.2.1 _ (HD7.out.next (by (repeat (first | with_reducible exact (Below.refl _ _) | with_reducible refine below_pin ?_ ?_ | with_reducible refine Below.alloc ?_ ?_ _ | with_reducible refine Below.setCell ?_ ?_ _ | with_reducible refine Below.drew ?_)); all_goals (first | omega | (simp only [World.size_alloc, pin_size, World.size_drew, World.size_setCell] <;> omega)))) (HD7.out.next (by (repeat (first | with_reducible exact (Below.refl _ _) | with_reducible refine below_pin ?_ ?_ | with_reducible refine Below.alloc ?_ ?_ _ | with_reducible refine Below.setCell ?_ ?_ _ | with_reducible refine Below.drew ?_)); all_goals (first | omega | (simp only [World.size_alloc, pin_size, World.size_drew, World.size_setCell] <;> omega))))).mono ?_
          rintro e x10 ⟨⟨A15, c15, rfl, hd15⟩, hb10⟩
          have HB10 : Hid (Below w.heap.size w x10) := Below.trans (by (repeat (first | with_reducible exact HB9.out | with_reducible refine below_pin ?_ ?_ | with_reducible refine Below.alloc ?_ ?_ _ | with_reducible refine Below.setCell ?_ ?_ _ | with_reducible refine Below.drew ?_)); all_goals (first | omega | (simp only [World.size_alloc, pin_size, World.size_drew, World.size_setCell] <;> omega))) (hb10.mono (by (first | omega | (simp only [World.size_alloc, pin_size, World.size_drew, World.size_setCell] <;> omega))))
          have hz10 := HB10.out.size
          have HD2n := Lib.hid (HD2.out.next (Below.trans (by (repeat (first | with_reducible exact (Below.refl _ _) | with_reducible refine below_pin ?_ ?_ | with_reducible refine Below.alloc ?_ ?_ _ | with_reducible refine Below.setCell ?_ ?_ _ | with_reducible refine Below.drew ?_)); all_goals (first | omega | (simp only [World.size_alloc, pin_size, World.size_drew, World.size_setCell] <;> omega))) (hb10.mono (by (first | omega | (simp only [World.size_alloc, pin_size, World.size_drew, World.size_setCell] <;> omega))))))
          clear HD2
          have HD2 := HD2n
          clear HD2n
          have HD7n := Lib.hid (HD7.out.next (Below.trans (by (repeat (first | with_reducible exact (Below.refl _ _) | with_reducible refine below_pin ?_ ?_ | with_reducible refine Below.alloc ?_ ?_ _ | with_reducible refine Below.setCell ?_ ?_ _ | with_reducible refine Below.drew ?_)); all_goals (first | omega | (simp only [World.size_alloc, pin_size, World.size_drew, World.size_setCell] <;> omega))) (hb10.mono (by (first | omega | (simp only [World.size_alloc, pin_size, World.size_drew, World.size_setCell] <;> omega))))))
          clear HD7
          have HD7 := HD7n
          clear HD7n
          clear hb10
          have HD15 := Lib.hid hd15
          clear hd15
          go_wp2_with fail
          refine (SameZ A15 A2 c15 c2 s1 q true HR.out.2.2.2.2.2 HQ.out.2.2.2 (decide_eq_true HQ1.out) _ (HD15.out.next (by (repeat (first | with_reducible exact (Below.refl _ _) | with_reducible refine below_pin ?_ ?_ | with_reducible refine Below.alloc ?_ ?_ _ | with_reducible refine Below.setCell ?_ ?_ _ | with_reducible refine Below.drew ?_)); all_goals (first | omega | (simp only [World.size_alloc, pin_size, World.size_drew, World.size_setCell] <;> omega)))) (HD2.out.next (by (repeat (first | with_reducible exact (Below.refl _ _) | with_reducible refine below_pin ?_ ?_ | with_reducible refine Below.alloc ?_ ?_ _ | with_reducible refine Below.setCell ?_ ?_ _ | with_reducible refine Below.drew ?_)); all_goals (first | omega | (simp only [World.size_alloc, pin_size, World.size_drew, World.size_setCell] <;> omega))))).mono ?_
          rintro e x11 ⟨rfl, hb11⟩
          have HB11 : Hid (Below w.heap.size w x11) := Below.trans (by (repeat (first | with_reducible exact HB10.out | with_reducible refine below_pin ?_ ?_ | with_reducible refine Below.alloc ?_ ?_ _ | with_reducible refine Below.setCell ?_ ?_ _ | with_reducible refine Below.drew ?_)); all_goals (first | omega | (simp only [World.size_alloc, pin_size, World.size_drew, World.size_setCell] <;> omega))) (hb11.mono (by (first | omega | (simp only [World.size_alloc, pin_size, World.size_drew, World.size_setCell] <;> omega))))
          have hz11 := HB11.out.size
          have HD7n := Lib.hid (HD7.out.next (Below.trans (by (repeat (first | with_reducible exact (Below.refl _ _) | with_reducible refine below_pin ?_ ?_ | with_reducible refine Below.alloc ?_ ?_ _ | with_reducible refine Below.setCell ?_ ?_ _ | with_reducible refine Below.drew ?_)); all_goals (first | omega | (simp only [World.size_alloc, pin_size, World.size_drew, World.size_setCell] <;> omega))) (hb11.mono (by (first | omega | (simp only [World.size_alloc, pin_size, World.size_drew, World.size_setCell] <;> omega))))))
          clear HD7
          have HD7 := HD7n
          clear HD7n
          clear hb11
          clear HD15 HD2
          rw [← HLS.out]
          obtain ⟨bb, off, hAA, hbw, hcell⟩ := HD7.out.cell (i := 0) (by rw [← HLS.out]; exact HLZ.out)
          subst hAA
          have hc0 := hcell 0 (by rw [← HLS.out]; exact HLZ.out)
          rw [Nat.add_zero] at hc0
          have hc1 : x11.cell? ⟨bb, off, none⟩ = some (.int .u64 (dd : Int)) := by rw [HDD.out]; exact hc0
          clear hcell hc0
          go_wp2_with fail
          refine (LessZ (some ⟨bb, off, none⟩) c7 S z HR.out.2.2.2.1 HV1.out.2.1 LS HLS.out _ (HD7.out.next (by (repeat (first | with_reducible exact (Below.refl _ _) | with_reducible refine below_pin ?_ ?_ | with_reducible refine Below.alloc ?_ ?_ _ | with_reducible refine Below.setCell ?_ ?_ _ | with_reducible refine Below.drew ?_)); all_goals (first | omega | (simp only [World.size_alloc, pin_size, World.size_drew, World.size_setCell] <;> omega))))).mono ?_
          rintro e x12 ⟨⟨A16, c16, rfl, hd16⟩, hb12⟩
          have HB12 : Hid (Below w.heap.size w x12) := Below.trans (by (repeat (first | with_reducible exact HB11.out | with_reducible refine below_pin ?_ ?_ | with_reducible refine Below.alloc ?_ ?_ _ | with_reducible refine Below.setCell ?_ ?_ _ | with_reducible refine Below.drew ?_)); all_goals (first | omega | (simp only [World.size_alloc, pin_size, World.size_drew, World.size_setCell] <;> omega))) (hb12.mono (by (first | omega | (simp only [World.size_alloc, pin_size, World.size_drew, World.size_setCell] <;> omega))))
          have hz12 := HB12.out.size
          have HD7n := Lib.hid (HD7.out.next (Below.trans (by (repeat (first | with_reducible exact (Below.refl _ _) | with_reducible refine below_pin ?_ ?_ | with_reducible refine Below.alloc ?_ ?_ _ | with_reducible refine Below.setCell ?_ ?_ _ | with_reducible refine Below.drew ?_)); all_goals (first | omega | (simp only [World.size_alloc, pin_size, World.size_drew, World.size_setCell] <;> omega))) (hb12.mono (by (first | omega | (simp only [World.size_alloc, pin_size, World.size_drew, World.size_setCell] <;> omega))))))
          clear HD7
          have HD7 := HD7n
          clear HD7n
          clear hb12
          have HD16 := Lib.hid hd16
          clear hd16
          go_wp2_with fail
          refine bodyPost_ret (v := .tuple #[.slice A16 (dig z).length c16, .bool true]) ?_ rfl ⟨⟨A16, c16, z, true, rfl, HD16.out, HV1.out.1, (decide_eq_true (HOK.out.1.mp HQ1.out)).symm, HV1.out.2.2⟩, (by (repeat (first | with_reducible exact HB12.out | with_reducible refine below_pin ?_ ?_ | with_reducible refine Below.alloc ?_ ?_ _ | with_reducible refine Below.setCell ?_ ?_ _ | with_reducible refine Below.drew ?_)); all_goals (first | omega | (simp only [World.size_alloc, pin_size, World.size_drew, World.size_setCell] <;> omega)))⟩
          · simp [results, Try.results27, go_sem]
        · have t1 : (((dd : Int)).tmod 2 == 1) = false := by have h := ho; rw [← odd_dig0, ← hdd] at h; rw [beq_eq_false_iff_ne, Int.tmod_eq_emod_of_nonneg (by omega)]; omega
          have t2 : (((dd : Int)) % 2 == 1) = false := by have h := ho; rw [← odd_dig0, ← hdd] at h; rw [beq_eq_false_iff_ne]; omega
          have HV1 : Hid (small S = small (rootV n m U V)) := Lib.hid (small_congr (by
            rw [← HOK.out.2 (HOK.out.1.mp HQ1.out)]
            unfold evenV
            rw [Nat.mod_eq_of_lt HR.out.2.2.2.1, if_neg ho, Nat.mod_eq_of_lt HR.out.2.2.2.1]))
          clear hz hLS hlt hdd ho
          go_enter Try.func27, Try.ntmps27
          go_wp2_with fail
          refine (InvZ B d V L vi HV.out HL.out HQ.out.1 _ HY.out).mono ?_
          rintro e x1 ⟨⟨A1, c1, rfl, hd1⟩, hb1⟩
          have HB1 : Hid (Below w.heap.size w x1) := Below.trans (by (repeat (first | with_reducible exact (Below.refl _ _) | with_reducible refine below_pin ?_ ?_ | with_reducible refine Below.alloc ?_ ?_ _ | with_reducible refine Below.setCell ?_ ?_ _ | with_reducible refine Below.drew ?_)); all_goals (first | omega | (simp only [World.size_alloc, pin_size, World.size_drew, World.size_setCell] <;> omega))) (hb1.mono (by (first | omega | (simp only [World.size_alloc, pin_size, World.size_drew, World.size_setCell] <;> omega))))
          have hz1 := HB1.out.size
          have HXn := Lib.hid (HX.out.next (Below.trans (by (repeat (first | with_reducible exact (Below.refl _ _) | with_reducible refine below_pin ?_ ?_ | with_reducible refine Below.alloc ?_ ?_ _ | with_reducible refine Below.setCell ?_ ?_ _ | with_reducible refine Below.drew ?_)); all_goals (first | omega | (simp only [World.size_alloc, pin_size, World.size_drew, World.size_setCell] <;> omega))) (hb1.mono (by (first | omega | (simp only [World.size_alloc, pin_size, World.size_drew, World.size_setCell] <;> omega))))))
          clear HX
          have HX := HXn
          clear HXn
          clear hb1
          have HD1 := Lib.hid hd1
          clear hd1
          go_wp2_with fail
          refine (MulZ A A1 c c1 U vi q HU.out HQ.out.2.1 HQ.out.2.2.1 _ (HX.out.next (by (repeat (first | with_reducible exact (Below.refl _ _) | with_reducible refine below_pin ?_ ?_ | with_reducible refine Below.alloc ?_ ?_ _ | with_reducible refine Below.setCell ?_ ?_ _ | with_reducible refine Below.drew ?_)); all_goals (first | omega | (simp only [World.size_alloc, pin_size, World.size_drew, World.size_setCell] <;> omega)))) (HD1.out.next (by (repeat (first | with_reducible exact (Below.refl _ _) | with_reducible refine below_pin ?_ ?_ | with_reducible refine Below.alloc ?_ ?_ _ | with_reducible refine Below.setCell ?_ ?_ _ | with_reducible refine Below.drew ?_)); all_goals (first | omega | (simp only [World.size_alloc, pin_size, World.size_drew, World.size_setCell] <;> omega))))).mono ?_
          rintro e x2 ⟨⟨A2, c2, rfl, hd2⟩, hb2⟩
          have HB2 : Hid (Below w.heap.size w x2) := Below.trans (by (repeat (first | with_reducible exact HB1.out | with_reducible refine below_pin ?_ ?_ | with_reducible refine Below.alloc ?_ ?_ _ | with_reducible refine Below.setCell ?_ ?_ _ | with_reducible refine Below.drew ?_)); all_goals (first | omega | (simp only [World.size_alloc, pin_size, World.size_drew, World.size_setCell] <;> omega))) (hb2.mono (by (first | omega | (simp only [World.size_alloc, pin_size, World.size_drew, World.size_setCell] <;> omega))))
          have hz2 := HB2.out.size
          clear hb2
          have HD2 := Lib.hid hd2
          clear hd2
          go_wp2_with fail
          refine (P_any _).mono ?_
          rintro e x3 ⟨⟨A3, c3, rfl, hd3⟩, hb3⟩
          have HB3 : Hid (Below w.heap.size w x3) := Below.trans (by (repeat (first | with_reducible exact HB2.out | with_reducible refine below_pin ?_ ?_ | with_reducible refine Below.alloc ?_ ?_ _ | with_reducible refine Below.setCell ?_ ?_ _ | with_reducible refine Below.drew ?_)); all_goals (first | omega | (simp only [World.size_alloc, pin_size, World.size_drew, World.size_setCell] <;> omega))) (hb3.mono (by (first | omega | (simp only [World.size_alloc, pin_size, World.size_drew, World.size_setCell] <;> omega))))
          have hz3 := HB3.out.size
          have HD2n := Lib.hid (HD2.out.next (Below.trans (by (repeat (first | with_reducible exact (Below.refl _ _) | with_reducible refine below_pin ?_ ?_ | with_reducible refine Below.alloc ?_ ?_ _ | with_reducible refine Below.setCell ?_ ?_ _ | with_reducible refine Below.drew ?_)); all_goals (first | omega | (simp only [World.size_alloc, pin_size, World.size_drew, World.size_setCell] <;> omega))) (hb3.mono (by (first | omega | (simp only [World.size_alloc, pin_size, World.size_drew, World.size_setCell] <;> omega))))))
          clear HD2
          have HD2 := HD2n
          clear HD2n
          clear hb3
          have HD3 := Lib.hid hd3
          clear hd3
          go_wp2_with fail
          refine (sumZ A3 c3 Num.p x3.heap.size 3 p3 (by rw [digP]; decide) dig3 HE.out.1 _ (HD3.out.next (by (repeat (first | with_reducible exact (Below.refl _ _) | with_reducible refine below_pin ?_ ?_ | with_reducible refine Below.alloc ?_ ?_ _ | with_reducible refine Below.setCell ?_ ?_ _ | with_reducible refine Below.drew ?_)); all_goals (first | omega | (simp only [World.size_alloc, pin_size, World.size_drew, World.size_setCell] <;> omega)))) (heap_alloc_new _ _)).mono ?_
          rintro e x4 ⟨⟨A4, c4, rfl, hd4⟩, hb4⟩
          have HB4 : Hid (Below w.heap.size w x4) := Below.trans (by (repeat (first | with_reducible exact HB3.out | with_reducible refine below_pin ?_ ?_ | with_reducible refine Below.alloc ?_ ?_ _ | with_reducible refine Below.setCell ?_ ?_ _ | with_reducible refine Below.drew ?_)); all_goals (first | omega | (simp only [World.size_alloc, pin_size, World.size_drew, World.size_setCell] <;> omega))) (hb4.mono (by (first | omega | (simp only [World.size_alloc, pin_size, World.size_drew, World.size_setCell] <;> omega))))
          have hz4 := HB4.out.size
          have HD2n := Lib.hid (HD2.out.next (Below.trans (by (repeat (first | with_reducible exact (Below.refl _ _) | with_reducible refine below_pin ?_ ?_ | with_reducible refine Below.alloc ?_ ?_ _ | with_reducible refine Below.setCell ?_ ?_ _ | with_reducible refine Below.drew ?_)); all_goals (first | omega | (simp only [World.size_alloc, pin_size, World.size_drew, World.size_setCell] <;> omega))) (hb4.mono (by (first | omega | (simp only [World.size_alloc, pin_size, World.size_drew, World.size_setCell] <;> omega))))))
          clear HD2
          have HD2 := HD2n
          clear HD2n
          clear hb4
          have HD4 := Lib.hid hd4
          clear hd4 HD3
          go_wp2_with fail
          refine (halfZ A4 c4 p3 3 e3 HP3.out (by decide) HE.out.2.1 _ (HD4.out.next (by (repeat (first | with_reducible exact (Below.refl _ _) | with_reducible refine below_pin ?_ ?_ | with_reducible refine Below.alloc ?_ ?_ _ | with_reducible refine Below.setCell ?_ ?_ _ | with_reducible refine Below.drew ?_)); all_goals (first | omega | (simp only [World.size_alloc, pin_size, World.size_drew, World.size_setCell] <;> omega))))).mono ?_
          rintro e x5 ⟨⟨A5, c5, rfl, hd5⟩, hb5⟩
          have HB5 : Hid (Below w.heap.size w x5) := Below.trans (by (repeat (first | with_reducible exact HB4.out | with_reducible refine below_pin ?_ ?_ | with_reducible refine Below.alloc ?_ ?_ _ | with_reducible refine Below.setCell ?_ ?_ _ | with_reducible refine Below.drew ?_)); all_goals (first | omega | (simp only [World.size_alloc, pin_size, World.size_drew, World.size_setCell] <;> omega))) (hb5.mono (by (first | omega | (simp only [World.size_alloc, pin_size, World.size_drew, World.size_setCell] <;> omega))))
          have hz5 := HB5.out.size
          have HD2n := Lib.hid (HD2.out.next (Below.trans (by (repeat (first | with_reducible exact (Below.refl _ _) | with_reducible refine below_pin ?_ ?_ | with_reducible refine Below.alloc ?_ ?_ _ | with_reducible refine Below.setCell ?_ ?_ _ | with_reducible refine Below.drew ?_)); all_goals (first | omega | (simp only [World.size_alloc, pin_size, World.size_drew, World.size_setCell] <;> omega))) (hb5.mono (by (first | omega | (simp only [World.size_alloc, pin_size, World.size_drew, World.size_setCell] <;> omega))))))
          clear HD2
          have HD2 := HD2n
          clear HD2n
          clear hb5
          have HD5 := Lib.hid hd5
          clear hd5 HD4
          go_wp2_with fail
          refine (Bytes_any A5 c5 e3 (p_16 HE.out.2.2.1) _ (HD5.out.next (by (repeat (first | with_reducible exact (Below.refl _ _) | with_reducible refine below_pin ?_ ?_ | with_reducible refine Below.alloc ?_ ?_ _ | with_reducible refine Below.setCell ?_ ?_ _ | with_reducible refine Below.drew ?_)); all_goals (first | omega | (simp only [World.size_alloc, pin_size, World.size_drew, World.size_setCell] <;> omega))))).mono ?_
          rintro e x6 ⟨⟨b6, rfl, hrd⟩, hb6⟩
          have HB6 : Hid (Below w.heap.size w x6) := Below.trans (by (repeat (first | with_reducible exact HB5.out | with_reducible refine below_pin ?_ ?_ | with_reducible refine Below.alloc ?_ ?_ _ | with_reducible refine Below.setCell ?_ ?_ _ | with_reducible refine Below.drew ?_)); all_goals (first | omega | (simp only [World.size_alloc, pin_size, World.size_drew, World.size_setCell] <;> omega))) (hb6.mono (by (first | omega | (simp only [World.size_alloc, pin_size, World.size_drew, World.size_setCell] <;> omega))))
          have hz6 := HB6.out.size
          have HD2n := Lib.hid (HD2.out.next (Below.trans (by (repeat (first | with_reducible exact (Below.refl _ _) | with_reducible refine below_pin ?_ ?_ | with_reducible refine Below.alloc ?_ ?_ _ | with_reducible refine Below.setCell ?_ ?_ _ | with_reducible refine Below.drew ?_)); all_goals (first | omega | (simp only [World.size_alloc, pin_size, World.size_drew, World.size_setCell] <;> omega))) (hb6.mono (by (first | omega | (simp only [World.size_alloc, pin_size, World.size_drew, World.size_setCell] <;> omega))))))
          clear HD2
          have HD2 := HD2n
          clear HD2n
          clear hb6
          have HRD := Lib.hid hrd
          clear hrd HD5
          go_wp2_with fail
          refine (PowZ A2 c2 q b6 e3 r0 HQ.out.2.2.2 HE.out.2.2.1 HE.out.2.2.2 _ (HD2.out.next (by (repeat (first | with_reducible exact (Below.refl _ _) | with_reducible refine below_pin ?_ ?_ | with_reducible refine Below.alloc ?_ ?_ _ | with_reducible refine Below.setCell ?_ ?_ _ | with_reducible refine Below.drew ?_)); all_goals (first | omega | (simp only [World.size_alloc, pin_size, World.size_drew, World.size_setCell] <;> omega)))) HRD.out).mono ?_
          rintro e x7 ⟨⟨A7, c7, rfl, hd7⟩, hb7⟩
          have HB7 : Hid (Below w.heap.size w x7) := Below.trans (by (repeat (first | with_reducible exact HB6.out | with_reducible refine below_pin ?_ ?_ | with_reducible refine Below.alloc ?_ ?_ _ | with_reducible refine Below.setCell ?_ ?_ _ | with_reducible refine Below.drew ?_)); all_goals (first | omega | (simp only [World.size_alloc, pin_size, World.size_drew, World.size_setCell] <;> omega))) (hb7.mono (by (first | omega | (simp only [World.size_alloc, pin_size, World.size_drew, World.size_setCell] <;> omega))))
          have hz7 := HB7.out.size
          have HD2n := Lib.hid (HD2.out.next (Below.trans (by (repeat (first | with_reducible exact (Below.refl _ _) | with_reducible refine below_pin ?_ ?_ | with_reducible refine Below.alloc ?_ ?_ _ | with_reducible refine Below.setCell ?_ ?_ _ | with_reducible refine Below.drew ?_)); all_goals (first | omega | (simp only [World.size_alloc, pin_size, World.size_drew, World.size_setCell] <;> omega))) (hb7.mono (by (first | omega | (simp only [World.size_alloc, pin_size, World.size_drew, World.size_setCell] <;> omega))))))
          clear HD2
          have HD2 := HD2n
          clear HD2n
          clear hb7
          have HD7 := Lib.hid hd7
          clear hd7 HRD
          go_wp2_with fail
          refine (MulZ A7 A7 c7 c7 r0 r0 s0 HR.out.1 HR.out.1 HR.out.2.1 _ (HD7.out.next (by (repeat (first | with_reducible exact (Below.refl _ _) | with_reducible refine below_pin ?_ ?_ | with_reducible refine Below.alloc ?_ ?_ _ | with_reducible refine Below.setCell ?_ ?_ _ | with_reducible refine Below.drew ?_)); all_goals (first | omega | (simp only [World.size_alloc, pin_size, World.size_drew, World.size_setCell] <;> omega)))) (HD7.out.next (by (repeat (first | with_reducible exact (Below.refl _ _) | with_reducible refine below_pin ?_ ?_ | with_reducible refine Below.alloc ?_ ?_ _ | with_reducible refine Below.setCell ?_ ?_ _ | with_reducible refine Below.drew ?_)); all_goals (first | omega | (simp only [World.size_alloc, pin_size, World.size_drew, World.size_setCell] <;> omega))))).mono ?_
          rintro e x8 ⟨⟨A8, c8, rfl, hd8⟩, hb8⟩
          have HB8 : Hid (Below w.heap.size w x8) := Below.trans (by (repeat (first | with_reducible exact HB7.out | with_reducible refine below_pin ?_ ?_ | with_reducible refine Below.alloc ?_ ?_ _ | with_reducible refine Below.setCell ?_ ?_ _ | with_reducible refine Below.drew ?_)); all_goals (first | omega | (simp only [World.size_alloc, pin_size, World.size_drew, World.size_setCell] <;> omega))) (hb8.mono (by (first | omega | (simp only [World.size_alloc, pin_size, World.size_drew, World.size_setCell] <;> omega))))
          have hz8 := HB8.out.size
          have HD2n := Lib.hid (HD2.out.next (Below.trans (by (repeat (first | with_reducible exact (Below.refl _ _) | with_reducible refine below_pin ?_ ?_ | with_reducible refine Below.alloc ?_ ?_ _ | with_reducible refine Below.setCell ?_ ?_ _ | with_reducible refine Below.drew ?_)); all_goals (first | omega | (simp only [World.size_alloc, pin_size, World.size_drew, World.size_setCell] <;> omega))) (hb8.mono (by (first | omega | (simp only [World.size_alloc, pin_size, World.size_drew, World.size_setCell] <;> omega))))))
          clear HD2
          have HD2 := HD2n
          clear HD2n
          have HD7n := Lib.hid (HD7.out.next (Below.trans (by (repeat (first | with_reducible exact (Below.refl _ _) | with_reducible refine below_pin ?_ ?_ | with_reducible refine Below.alloc ?_ ?_ _ | with_reducible refine Below.setCell ?_ ?_ _ | with_reducible refine Below.drew ?_)); all_goals (first | omega | (simp only [World.size_alloc, pin_size, World.size_drew, World.size_setCell] <;> omega))) (hb8.mono (by (first | omega | (simp only [World.size_alloc, pin_size, World.size_drew, World.size_setCell] <;> omega))))))
          clear HD7
          have HD7 := HD7n
          clear HD7n
          clear hb8
          have HD8 := Lib.hid hd8
          clear hd8
          go_wp2_with fail
          refine (SameZ A8 A2 c8 c2 s0 q true HR.out.2.2.1 HQ.out.2.2.2 (decide_eq_true HQ0.out) _ (HD8.out.next (by (repeat (first | with_reducible exact (Below.refl _ _) | with_reducible refine below_pin ?_ ?_ | with_reducible refine Below.alloc ?_ ?_ _ | with_reducible refine Below.setCell ?_ ?_ _ | with_reducible refine Below.drew ?_)); all_goals (first | omega | (simp only [World.size_alloc, pin_size, World.size_drew, World.size_setCell] <;> omega)))) (HD2.out.next (by (repeat (first | with_reducible exact (Below.refl _ _) | with_reducible refine below_pin ?_ ?_ | with_reducible refine Below.alloc ?_ ?_ _ | with_reducible refine Below.setCell ?_ ?_ _ | with_reducible refine Below.drew ?_)); all_goals (first | omega | (simp only [World.size_alloc, pin_size, World.size_drew, World.size_setCell] <;> omega))))).mono ?_
          rintro e x9 ⟨rfl, hb9⟩
          have HB9 : Hid (Below w.heap.size w x9) := Below.trans (by (repeat (first | with_reducible exact HB8.out | with_reducible refine below_pin ?_ ?_ | with_reducible refine Below.alloc ?_ ?_ _ | with_reducible refine Below.setCell ?_ ?_ _ | with_reducible refine Below.drew ?_)); all_goals (first | omega | (simp only [World.size_alloc, pin_size, World.size_drew, World.size_setCell] <;> omega))) (hb9.mono (by (first | omega | (simp only [World.size_alloc, pin_size, World.size_drew, World.size_setCell] <;> omega))))
          have hz9 := HB9.out.size
          have HD2n := Lib.hid (HD2.out.next (Below.trans (by (repeat (first | with_reducible exact (Below.refl _ _) | with_reducible refine below_pin ?_ ?_ | with_reducible refine Below.alloc ?_ ?_ _ | with_reducible refine Below.setCell ?_ ?_ _ | with_reducible refine Below.drew ?_)); all_goals (first | omega | (simp only [World.size_alloc, pin_size, World.size_drew, World.size_setCell] <;> omega))) (hb9.mono (by (first | omega | (simp only [World.size_alloc, pin_size, World.size_drew, World.size_setCell] <;> omega))))))
          clear HD2
          have HD2 := HD2n
          clear HD2n
          have HD7n := Lib.hid (HD7.out.next (Below.trans (by (repeat (first | with_reducible exact (Below.refl _ _) | with_reducible refine below_pin ?_ ?_ | with_reducible refine Below.alloc ?_ ?_ _ | with_reducible refine Below.setCell ?_ ?_ _ | with_reducible refine Below.drew ?_)); all_goals (first | omega | (simp only [World.size_alloc, pin_size, World.size_drew, World.size_setCell] <;> omega))) (hb9.mono (by (first | omega | (simp only [World.size_alloc, pin_size, World.size_drew, World.size_setCell] <;> omega))))))
          clear HD7
          have HD7 := HD7n
          clear HD7n
          clear hb9
          clear HD8
          go_wp2_with fail
          rw [← HSR.out] at HD7 ⊢
          refine (MulZ A7 A7 c7 c7 S S s1 HR.out.2.2.2.1 HR.out.2.2.2.1 HR.out.2.2.2.2.1 _ (HD7.out.next (by (repeat (first | with_reducible exact (Below.refl _ _) | with_reducible refine below_pin ?_ ?_ | with_reducible refine Below.alloc ?_ ?_ _ | with_reducible refine Below.setCell ?_ ?_ _ | with_reducible refine Below.drew ?_)); all_goals (first | omega | (simp only [World.size_alloc, pin_size, World.size_drew, World.size_setCell] <;> omega)))) (HD7.out.next (by (repeat (first | with_reducible exact (Below.refl _ _) | with_reducible refine below_pin ?_ ?_ | with_reducible refine Below.alloc ?_ ?_ _ | with_reducible refine Below.setCell ?_ ?_ _ | with_reducible refine Below.drew ?_)); all_goals (first | omega | (simp only [World.size_alloc, pin_size, World.size_drew, World.size_setCell] <;> omega))))).mono ?_
          rintro e x10 ⟨⟨A15, c15, rfl, hd15⟩, hb10⟩
          have HB10 : Hid (Below w.heap.size w x10) := Below.trans (by (repeat (first | with_reducible exact HB9.out | with_reducible refine below_pin ?_ ?_ | with_reducible refine Below.alloc ?_ ?_ _ | with_reducible refine Below.setCell ?_ ?_ _ | with_reducible refine Below.drew ?_)); all_goals (first | omega | (simp only [World.size_alloc, pin_size, World.size_drew, World.size_setCell] <;> omega))) (hb10.mono (by (first | omega | (simp only [World.size_alloc, pin_size, World.size_drew, World.size_setCell] <;> omega))))
          have hz10 := HB10.out.size
          have HD2n := Lib.hid (HD2.out.next (Below.trans (by (repeat (first | with_reducible exact (Below.refl _ _) | with_reducible refine below_pin ?_ ?_ | with_reducible refine Below.alloc ?_ ?_ _ | with_reducible refine Below.setCell ?_ ?_ _ | with_reducible refine Below.drew ?_)); all_goals (first | omega | (simp only [World.size_alloc, pin_size, World.size_drew, World.size_setCell] <;> omega))) (hb10.mono (by (first | omega | (simp only [World.size_alloc, pin_size, World.size_drew, World.size_setCell] <;> omega))))))
          clear HD2
          have HD2 := HD2n
          clear HD2n
          have HD7n := Lib.hid (HD7.out.next (Below.trans (by (repeat (first | with_reducible exact (Below.refl _ _) | with_reducible refine below_pin ?_ ?_ | with_reducible refine Below.alloc ?_ ?_ _ | with_reducible refine Below.setCell ?_ ?_ _ | with_reducible refine Below.drew ?_)); all_goals (first | omega | (simp only [World.size_alloc, pin_size, World.size_drew, World.size_setCell] <;> omega))) (hb10.mono (by (first | omega | (simp only [World.size_alloc, pin_size, World.size_drew, World.size_setCell] <;> omega))))))
          clear HD7
          have HD7 := HD7n
          clear HD7n
          clear hb10
          have HD15 := Lib.hid hd15
          clear hd15
          go_wp2_with fail
          refine (SameZ A15 A2 c15 c2 s1 q true HR.out.2.2.2.2.2 HQ.out.2.2.2 (decide_eq_true HQ1.out) _ (HD15.out.next (by (repeat (first | with_reducible exact (Below.refl _ _) | with_reducible refine below_pin ?_ ?_ | with_reducible refine Below.alloc ?_ ?_ _ | with_reducible refine Below.setCell ?_ ?_ _ | with_reducible refine Below.drew ?_)); all_goals (first | omega | (simp only [World.size_alloc, pin_size, World.size_drew, World.size_setCell] <;> omega)))) (HD2.out.next (by (repeat (first | with_reducible exact (Below.refl _ _) | with_reducible refine below_pin ?_ ?_ | with_reducible refine Below.alloc ?_ ?_ _ | with_reducible refine Below.setCell ?_ ?_ _ | with_reducible refine Below.drew ?_)); all_goals (first | omega | (simp only [World.size_alloc, pin_size, World.size_drew, World.size_setCell] <;> omega))))).mono ?_
          rintro e x11 ⟨rfl, hb11⟩
          have HB11 : Hid (Below w.heap.size w x11) := Below.trans (by (repeat (first | with_reducible exact HB10.out | with_reducible refine below_pin ?_ ?_ | with_reducible refine Below.alloc ?_ ?_ _ | with_reducible refine Below.setCell ?_ ?_ _ | with_reducible refine Below.drew ?_)); all_goals (first | omega | (simp only [World.size_alloc, pin_size, World.size_drew, World.size_setCell] <;> omega))) (hb11.mono (by (first | omega | (simp only [World.size_alloc, pin_size, World.size_drew, World.size_setCell] <;> omega))))
          have hz11 := HB11.out.size
          have HD7n := Lib.hid (HD7.out.next (Below.trans (by (repeat (first | with_reducible exact (Below.refl _ _) | with_reducible refine below_pin ?_ ?_ | with_reducible refine Below.alloc ?_ ?_ _ | with_reducible refine Below.setCell ?_ ?_ _ | with_reducible refine Below.drew ?_)); all_goals (first | omega | (simp only [World.size_alloc, pin_size, World.size_drew, World.size_setCell] <;> omega))) (hb11.mono (by (first | omega | (simp only [World.size_alloc, pin_size, World.size_drew, World.size_setCell] <;> omega))))))
          clear HD7
          have HD7 := HD7n
          clear HD7n
          clear hb11
          clear HD15 HD2
          rw [← HLS.out]
          obtain ⟨bb, off, hAA, hbw, hcell⟩ := HD7.out.cell (i := 0) (by rw [← HLS.out]; exact HLZ.out)
          subst hAA
          have hc0 := hcell 0 (by rw [← HLS.out]; exact HLZ.out)
          rw [Nat.add_zero] at hc0
          have hc1 : x11.cell? ⟨bb, off, none⟩ = some (.int .u64 (dd : Int)) := by rw [HDD.out]; exact hc0
          clear hcell hc0
          go_wp2_with fail
          refine bodyPost_ret (v := .tuple #[.slice (some ⟨bb, off, none⟩) LS c7, .bool true]) ?_ rfl ⟨⟨(some ⟨bb, off, none⟩), c7, S, true, by rw [← HLS.out], (HD7.out.next (by (repeat (first | with_reducible exact (Below.refl _ _) | with_reducible refine below_pin ?_ ?_ | with_reducible refine Below.alloc ?_ ?_ _ | with_reducible refine Below.setCell ?_ ?_ _ | with_reducible refine Below.drew ?_)); all_goals (first | omega | (simp only [World.size_alloc, pin_size, World.size_drew, World.size_setCell] <;> omega)))), HR.out.2.2.2.1, (decide_eq_true (HOK.out.1.mp HQ1.out)).symm, HV1.out⟩, (by (repeat (first | with_reducible exact HB11.out | with_reducible refine below_pin ?_ ?_ | with_reducible refine Below.alloc ?_ ?_ _ | with_reducible refine Below.setCell ?_ ?_ _ | with_reducible refine Below.drew ?_)); all_goals (first | omega | (simp only [World.size_alloc, pin_size, World.size_drew, World.size_setCell] <;> omega)))⟩
          · simp [results, Try.results27, go_sem]
    · have HQ0 := Lib.hid hb0
      obtain ⟨im, him⟩ : ∃ z, z = 2 ^ m % Num.p := ⟨_, rfl⟩
      obtain ⟨p1, hp1⟩ : ∃ z, z = Num.p - 1 := ⟨_, rfl⟩
      have HE1 := Lib.hid (show p1 = Num.p - 1 ∧ (dig p1).length ≤ 1000000 ∧ m = p1 / 2 ^ 2 ∧ m < Num.p ∧ im = 2 ^ m % Num.p ∧ im < Num.p ∧ S = r0 * im % Num.p by
        have h := half_p1 (m := m) (by rw [EX.out.E22]; exact EX.out.HP2)
        refine ⟨hp1, by rw [hp1]; exact p_dig (by decide), by rw [hp1]; exact h, ?_, him, by rw [him]; exact Nat.mod_lt _ p_pos, by rw [him]; exact HS0.out.2 hb0⟩
        rw [h]
        decide)
      clear him hp1
      clear hb0
      by_cases hb1 : s1 = q
      · have HQ1 := Lib.hid hb1
        clear hb1
        obtain ⟨LS, hLS⟩ : ∃ L, L = (dig S).length := ⟨_, rfl⟩
        have HLS := Lib.hid hLS
        by_cases hz : LS = 0
        · have HSZ := Lib.hid hz
          have hS0 : S = 0 := len_zero (by rw [← hLS]; exact hz)
          have h1 : decide ((LS : Int) > 0) = false := decide_eq_false (by omega)
          have h2 : decide ((0 : Int) < (LS : Int)) = false := h1
          have h3 : decide (LS > 0) = false := decide_eq_false (by omega)
          have HV1 : Hid (small S = small (rootV n m U V)) := Lib.hid (small_congr (by
            rw [← HOK.out.2 (HOK.out.1.mp HQ1.out)]
            unfold evenV
            rw [if_neg (by rw [hS0]; decide)]))
          clear hz hS0 hLS
          go_enter Try.func27, Try.ntmps27
          go_wp2_with fail
          refine (InvZ B d V L vi HV.out HL.out HQ.out.1 _ HY.out).mono ?_
          rintro e x1 ⟨⟨A1, c1, rfl, hd1⟩, hb1⟩
          have HB1 : Hid (Below w.heap.size w x1) := Below.trans (by (repeat (first | with_reducible exact (Below.refl _ _) | with_reducible refine below_pin ?_ ?_ | with_reducible refine Below.alloc ?_ ?_ _ | with_reducible refine Below.setCell ?_ ?_ _ | with_reducible refine Below.drew ?_)); all_goals (first | omega | (simp only [World.size_alloc, pin_size, World.size_drew, World.size_setCell] <;> omega))) (hb1.mono (by (first | omega | (simp only [World.size_alloc, pin_size, World.size_drew, World.size_setCell] <;> omega))))
          have hz1 := HB1.out.size
          have HXn := Lib.hid (HX.out.next (Below.trans (by (repeat (first | with_reducible exact (Below.refl _ _) | with_reducible refine below_pin ?_ ?_ | with_reducible refine Below.alloc ?_ ?_ _ | with_reducible refine Below.setCell ?_ ?_ _ | with_reducible refine Below.drew ?_)); all_goals (first | omega | (simp only [World.size_alloc, pin_size, World.size_drew, World.size_setCell] <;> omega))) (hb1.mono (by (first | omega | (simp only [World.size_alloc, pin_size, World.size_drew, World.size_setCell] <;> omega))))))
          clear HX
          have HX := HXn
          clear HXn
          clear hb1
          have HD1 := Lib.hid hd1
          clear hd1
          go_wp2_with fail
          refine (MulZ A A1 c c1 U vi q HU.out HQ.out.2.1 HQ.out.2.2.1 _ (HX.out.next (by (repeat (first | with_reducible exact (Below.refl _ _) | with_reducible refine below_pin ?_ ?_ | with_reducible refine Below.alloc ?_ ?_ _ | with_reducible refine Below.setCell ?_ ?_ _ | with_reducible refine Below.drew ?_)); all_goals (first | omega | (simp only [World.size_alloc, pin_size, World.size_drew, World.size_setCell] <;> omega)))) (HD1.out.next (by (repeat (first | with_reducible exact (Below.refl _ _) | with_reducible refine below_pin ?_ ?_ | with_reducible refine Below.alloc ?_ ?_ _ | with_reducible refine Below.setCell ?_ ?_ _ | with_reducible refine Below.drew ?_)); all_goals (first | omega | (simp only [World.size_alloc, pin_size, World.size_drew, World.size_setCell] <;> omega))))).mono ?_
          rintro e x2 ⟨⟨A2, c2, rfl, hd2⟩, hb2⟩
          have HB2 : Hid (Below w.heap.size w x2) := Below.trans (by (repeat (first | with_reducible exact HB1.out | with_reducible refine below_pin ?_ ?_ | with_reducible refine Below.alloc ?_ ?_ _ | with_reducible refine Below.setCell ?_ ?_ _ | with_reducible refine Below.drew ?_)); all_goals (first | omega | (simp only [World.size_alloc, pin_size, World.size_drew, World.size_setCell] <;> omega))) (hb2.mono (by (first | omega | (simp only [World.size_alloc, pin_size, World.size_drew, World.size_setCell] <;> omega))))
          have hz2 := HB2.out.size
          clear hb2
          have HD2 := Lib.hid hd2
          clear hd2
          go_wp2_with fail
          refine (P_any _).mono ?_
          rintro e x3 ⟨⟨A3, c3, rfl, hd3⟩, hb3⟩
          have HB3 : Hid (Below w.heap.size w x3) := Below.trans (by (repeat (first | with_reducible exact HB2.out | with_reducible refine below_pin ?_ ?_ | with_reducible refine Below.alloc ?_ ?_ _ | with_reducible refine Below.setCell ?_ ?_ _ | with_reducible refine Below.drew ?_)); all_goals (first | omega | (simp only [World.size_alloc, pin_size, World.size_drew, World.size_setCell] <;> omega))) (hb3.mono (by (first | omega | (simp only [World.size_alloc, pin_size, World.size_drew, World.size_setCell] <;> omega))))
          have hz3 := HB3.out.size
          have HD2n := Lib.hid (HD2.out.next (Below.trans (by (repeat (first | with_reducible exact (Below.refl _ _) | with_reducible refine below_pin ?_ ?_ | with_reducible refine Below.alloc ?_ ?_ _ | with_reducible refine Below.setCell ?_ ?_ _ | with_reducible refine Below.drew ?_)); all_goals (first | omega | (simp only [World.size_alloc, pin_size, World.size_drew, World.size_setCell] <;> omega))) (hb3.mono (by (first | omega | (simp only [World.size_alloc, pin_size, World.size_drew, World.size_setCell] <;> omega))))))
          clear HD2
          have HD2 := HD2n
          clear HD2n
          clear hb3
          have HD3 := Lib.hid hd3
          clear hd3
          go_wp2_with fail
          refine (sumZ A3 c3 Num.p x3.heap.size 3 p3 (by rw [digP]; decide) dig3 HE.out.1 _ (HD3.out.next (by (repeat (first | with_reducible exact (Below.refl _ _) | with_reducible refine below_pin ?_ ?_ | with_reducible refine Below.alloc ?_ ?_ _ | with_reducible refine Below.setCell ?_ ?_ _ | with_reducible refine Below.drew ?_)); all_goals (first | omega | (simp only [World.size_alloc, pin_size, World.size_drew, World.size_setCell] <;> omega)))) (heap_alloc_new _ _)).mono ?_
          rintro e x4 ⟨⟨A4, c4, rfl, hd4⟩, hb4⟩
          have HB4 : Hid (Below w.heap.size w x4) := Below.trans (by (repeat (first | with_reducible exact HB3.out | with_reducible refine below_pin ?_ ?_ | with_reducible refine Below.alloc ?_ ?_ _ | with_reducible refine Below.setCell ?_ ?_ _ | with_reducible refine Below.drew ?_)); all_goals (first | omega | (simp only [World.size_alloc, pin_size, World.size_drew, World.size_setCell] <;> omega))) (hb4.mono (by (first | omega | (simp only [World.size_alloc, pin_size, World.size_drew, World.size_setCell] <;> omega))))
          have hz4 := HB4.out.size
          have HD2n := Lib.hid (HD2.out.next (Below.trans (by (repeat (first | with_reducible exact (Below.refl _ _) | with_reducible refine below_pin ?_ ?_ | with_reducible refine Below.alloc ?_ ?_ _ | with_reducible refine Below.setCell ?_ ?_ _ | with_reducible refine Below.drew ?_)); all_goals (first | omega | (simp only [World.size_alloc, pin_size, World.size_drew, World.size_setCell] <;> omega))) (hb4.mono (by (first | omega | (simp only [World.size_alloc, pin_size, World.size_drew, World.size_setCell] <;> omega))))))
          clear HD2
          have HD2 := HD2n
          clear HD2n
          clear hb4
          have HD4 := Lib.hid hd4
          clear hd4 HD3
          go_wp2_with fail
          refine (halfZ A4 c4 p3 3 e3 HP3.out (by decide) HE.out.2.1 _ (HD4.out.next (by (repeat (first | with_reducible exact (Below.refl _ _) | with_reducible refine below_pin ?_ ?_ | with_reducible refine Below.alloc ?_ ?_ _ | with_reducible refine Below.setCell ?_ ?_ _ | with_reducible refine Below.drew ?_)); all_goals (first | omega | (simp only [World.size_alloc, pin_size, World.size_drew, World.size_setCell] <;> omega))))).mono ?_
          rintro e x5 ⟨⟨A5, c5, rfl, hd5⟩, hb5⟩
          have HB5 : Hid (Below w.heap.size w x5) := Below.trans (by (repeat (first | with_reducible exact HB4.out | with_reducible refine below_pin ?_ ?_ | with_reducible refine Below.alloc ?_ ?_ _ | with_reducible refine Below.setCell ?_ ?_ _ | with_reducible refine Below.drew ?_)); all_goals (first | omega | (simp only [World.size_alloc, pin_size, World.size_drew, World.size_setCell] <;> omega))) (hb5.mono (by (first | omega | (simp only [World.size_alloc, pin_size, World.size_drew, World.size_setCell] <;> omega))))
          have hz5 := HB5.out.size
          have HD2n := Lib.hid (HD2.out.next (Below.trans (by (repeat (first | with_reducible exact (Below.refl _ _) | with_reducible refine below_pin ?_ ?_ | with_reducible refine Below.alloc ?_ ?_ _ | with_reducible refine Below.setCell ?_ ?_ _ | with_reducible refine Below.drew ?_)); all_goals (first | omega | (simp only [World.size_alloc, pin_size, World.size_drew, World.size_setCell] <;> omega))) (hb5.mono (by (first | omega | (simp only [World.size_alloc, pin_size, World.size_drew, World.size_setCell] <;> omega))))))
          clear HD2
          have HD2 := HD2n
          clear HD2n
          clear hb5
          have HD5 := Lib.hid hd5
          clear hd5 HD4
          go_wp2_with fail
          refine (Bytes_any A5 c5 e3 (p_16 HE.out.2.2.1) _ (HD5.out.next (by (repeat (first | with_reducible exact (Below.refl _ _) | with_reducible refine below_pin ?_ ?_ | with_reducible refine Below.alloc ?_ ?_ _ | with_reducible refine Below.setCell ?_ ?_ _ | with_reducible refine Below.drew ?_)); all_goals (first | omega | (simp only [World.size_alloc, pin_size, World.size_drew, World.size_setCell] <;> omega))))).mono ?_
          rintro e x6 ⟨⟨b6, rfl, hrd⟩, hb6⟩
          have HB6 : Hid (Below w.heap.size w x6) := Below.trans (by (repeat (first | with_reducible exact HB5.out | with_reducible refine below_pin ?_ ?_ | with_reducible refine Below.alloc ?_ ?_ _ | with_reducible refine Below.setCell ?_ ?_ _ | with_reducible refine Below.drew ?_)); all_goals (first | omega | (simp only [World.size_alloc, pin_size, World.size_drew, World.size_setCell] <;> omega))) (hb6.mono (by (first | omega | (simp only [World.size_alloc, pin_size, World.size_drew, World.size_setCell] <;> omega))))
          have hz6 := HB6.out.size
          have HD2n := Lib.hid (HD2.out.next (Below.trans (by (repeat (first | with_reducible exact (Below.refl _ _) | with_reducible refine below_pin ?_ ?_ | with_reducible refine Below.alloc ?_ ?_ _ | with_reducible refine Below.setCell ?_ ?_ _ | with_reducible refine Below.drew ?_)); all_goals (first | omega | (simp only [World.size_alloc, pin_size, World.size_drew, World.size_setCell] <;> omega))) (hb6.mono (by (first | omega | (simp only [World.size_alloc, pin_size, World.size_drew, World.size_setCell] <;> omega))))))
          clear HD2
          have HD2 := HD2n
          clear HD2n
          clear hb6
          have HRD := Lib.hid hrd
          clear hrd HD5
          go_wp2_with fail
          refine (PowZ A2 c2 q b6 e3 r0 HQ.out.2.2.2 HE.out.2.2.1 HE.out.2.2.2 _ (HD2.out.next (by (repeat (first | with_reducible exact (Below.refl _ _) | with_reducible refine below_pin ?_ ?_ | with_reducible refine Below.alloc ?_ ?_ _ | with_reducible refine Below.setCell ?_ ?_ _ | with_reducible refine Below.drew ?_)); all_goals (first | omega | (simp only [World.size_alloc, pin_size, World.size_drew, World.size_setCell] <;> omega)))) HRD.out).mono ?_
          rintro e x7 ⟨⟨A7, c7, rfl, hd7⟩, hb7⟩
          have HB7 : Hid (Below w.heap.size w x7) := Below.trans (by (repeat (first | with_reducible exact HB6.out | with_reducible refine below_pin ?_ ?_ | with_reducible refine Below.alloc ?_ ?_ _ | with_reducible refine Below.setCell ?_ ?_ _ | with_reducible refine Below.drew ?_)); all_goals (first | omega | (simp only [World.size_alloc, pin_size, World.size_drew, World.size_setCell] <;> omega))) (hb7.mono (by (first | omega | (simp only [World.size_alloc, pin_size, World.size_drew, World.size_setCell] <;> omega))))
          have hz7 := HB7.out.size
          have HD2n := Lib.hid (HD2.out.next (Below.trans (by (repeat (first | with_reducible exact (Below.refl _ _) | with_reducible refine below_pin ?_ ?_ | with_reducible refine Below.alloc ?_ ?_ _ | with_reducible refine Below.setCell ?_ ?_ _ | with_reducible refine Below.drew ?_)); all_goals (first | omega | (simp only [World.size_alloc, pin_size, World.size_drew, World.size_setCell] <;> omega))) (hb7.mono (by (first | omega | (simp only [World.size_alloc, pin_size, World.size_drew, World.size_setCell] <;> omega))))))
          clear HD2
          have HD2 := HD2n
          clear HD2n
          clear hb7
          have HD7 := Lib.hid hd7
          clear hd7 HRD
          go_wp2_with fail
          refine (MulZ A7 A7 c7 c7 r0 r0 s0 HR.out.1 HR.out.1 HR.out.2.1 _ (HD7.out.next (by (repeat (first | with_reducible exact (Below.refl _ _) | with_reducible refine below_pin ?_ ?_ | with_reducible refine Below.alloc ?_ ?_ _ | with_reducible refine Below.setCell ?_ ?_ _ | with_reducible refine Below.drew ?_)); all_goals (first | omega | (simp only [World.size_alloc, pin_size, World.size_drew, World.size_setCell] <;> omega)))) (HD7.out.next (by (repeat (first | with_reducible exact (Below.refl _ _) | with_reducible refine below_pin ?_ ?_ | with_reducible refine Below.alloc ?_ ?_ _ | with_reducible refine Below.setCell ?_ ?_ _ | with_reducible refine Below.drew ?_)); all_goals (first | omega | (simp only [World.size_alloc, pin_size, World.size_drew, World.size_setCell] <;> omega))))).mono ?_
          rintro e x8 ⟨⟨A8, c8, rfl, hd8⟩, hb8⟩
          have HB8 : Hid (Below w.heap.size w x8) := Below.trans (by (repeat (first | with_reducible exact HB7.out | with_reducible refine below_pin ?_ ?_ | with_reducible refine Below.alloc ?_ ?_ _ | with_reducible refine Below.setCell ?_ ?_ _ | with_reducible refine Below.drew ?_)); all_goals (first | omega | (simp only [World.size_alloc, pin_size, World.size_drew, World.size_setCell] <;> omega))) (hb8.mono (by (first | omega | (simp only [World.size_alloc, pin_size, World.size_drew, World.size_setCell] <;> omega))))
          have hz8 := HB8.out.size
          have HD2n := Lib.hid (HD2.out.next (Below.trans (by (repeat (first | with_reducible exact (Below.refl _ _) | with_reducible refine below_pin ?_ ?_ | with_reducible refine Below.alloc ?_ ?_ _ | with_reducible refine Below.setCell ?_ ?_ _ | with_reducible refine Below.drew ?_)); all_goals (first | omega | (simp only [World.size_alloc, pin_size, World.size_drew, World.size_setCell] <;> omega))) (hb8.mono (by (first | omega | (simp only [World.size_alloc, pin_size, World.size_drew, World.size_setCell] <;> omega))))))
          clear HD2
          have HD2 := HD2n
          clear HD2n
          have HD7n := Lib.hid (HD7.out.next (Below.trans (by (repeat (first | with_reducible exact (Below.refl _ _) | with_reducible refine below_pin ?_ ?_ | with_reducible refine Below.alloc ?_ ?_ _ | with_reducible refine Below.setCell ?_ ?_ _ | with_reducible refine Below.drew ?_)); all_goals (first | omega | (simp only [World.size_alloc, pin_size, World.size_drew, World.size_setCell] <;> omega))) (hb8.mono (by (first | omega | (simp only [World.size_alloc, pin_size, World.size_drew, World.size_setCell] <;> omega))))))
          clear HD7
          have HD7 := HD7n
          clear HD7n
          clear hb8
          have HD8 := Lib.hid hd8
          clear hd8
          go_wp2_with fail
          refine (SameZ A8 A2 c8 c2 s0 q false HR.out.2.2.1 HQ.out.2.2.2 (decide_eq_false HQ0.out) _ (HD8.out.next (by (repeat (first | with_reducible exact (Below.refl _ _) | with_reducible refine below_pin ?_ ?_ | with_reducible refine Below.alloc ?_ ?_ _ | with_reducible refine Below.setCell ?_ ?_ _ | with_reducible refine Below.drew ?_)); all_goals (first | omega | (simp only [World.size_alloc, pin_size, World.size_drew, World.size_setCell] <;> omega)))) (HD2.out.next (by (repeat (first | with_reducible exact (Below.refl _ _) | with_reducible refine below_pin ?_ ?_ | with_reducible refine Below.alloc ?_ ?_ _ | with_reducible refine Below.setCell ?_ ?_ _ | with_reducible refine Below.drew ?_)); all_goals (first | omega | (simp only [World.size_alloc, pin_size, World.size_drew, World.size_setCell] <;> omega))))).mono ?_
          rintro e x9 ⟨rfl, hb9⟩
          have HB9 : Hid (Below w.heap.size w x9) := Below.trans (by (repeat (first | with_reducible exact HB8.out | with_reducible refine below_pin ?_ ?_ | with_reducible refine Below.alloc ?_ ?_ _ | with_reducible refine Below.setCell ?_ ?_ _ | with_reducible refine Below.drew ?_)); all_goals (first | omega | (simp only [World.size_alloc, pin_size, World.size_drew, World.size_setCell] <;> omega))) (hb9.mono (by (first | omega | (simp only [World.size_alloc, pin_size, World.size_drew, World.size_setCell] <;> omega))))
          have hz9 := HB9.out.size
          have HD2n := Lib.hid (HD2.out.next (Below.trans (by (repeat (first | with_reducible exact (Below.refl _ _) | with_reducible refine below_pin ?_ ?_ | with_reducible refine Below.alloc ?_ ?_ _ | with_reducible refine Below.setCell ?_ ?_ _ | with_reducible refine Below.drew ?_)); all_goals (first | omega | (simp only [World.size_alloc, pin_size, World.size_drew, World.size_setCell] <;> omega))) (hb9.mono (by (first | omega | (simp only [World.size_alloc, pin_size, World.size_drew, World.size_setCell] <;> omega))))))
          clear HD2
          have HD2 := HD2n
          clear HD2n
          have HD7n := Lib.hid (HD7.out.next (Below.trans (by (repeat (first | with_reducible exact (Below.refl _ _) | with_reducible refine below_pin ?_ ?_ | with_reducible refine Below.alloc ?_ ?_ _ | with_reducible refine Below.setCell ?_ ?_ _ | with_reducible refine Below.drew ?_)); all_goals (first | omega | (simp only [World.size_alloc, pin_size, World.size_drew, World.size_setCell] <;> omega))) (hb9.mono (by (first | omega | (simp only [World.size_alloc, pin_size, World.size_drew, World.size_setCell] <;> omega))))))
          clear HD7
          have HD7 := HD7n
          clear HD7n
          clear hb9
          clear HD8
          go_wp2_with fail
          have HT : Hid (Dn (x9.alloc (.cells #[.int .u64 2] 23)) (some ⟨x9.heap.size, 0, none⟩) 1 2) := Lib.hid (dn_lit 2 dig2 (heap_alloc_new _ _))
          refine (P_any _).mono ?_
          rintro e x10 ⟨⟨A9, c9, rfl, hd9⟩, hb10⟩
          have HB10 : Hid (Below w.heap.size w x10) := Below.trans (by (repeat (first | with_reducible exact HB9.out | with_reducible refine below_pin ?_ ?_ | with_reducible refine Below.alloc ?_ ?_ _ | with_reducible refine Below.setCell ?_ ?_ _ | with_reducible refine Below.drew ?_)); all_goals (first | omega | (simp only [World.size_alloc, pin_size, World.size_drew, World.size_setCell] <;> omega))) (hb10.mono (by (first | omega | (simp only [World.size_alloc, pin_size, World.size_drew, World.size_setCell] <;> omega))))
          have hz10 := HB10.out.size
          have HD2n := Lib.hid (HD2.out.next (Below.trans (by (repeat (first | with_reducible exact (Below.refl _ _) | with_reducible refine below_pin ?_ ?_ | with_reducible refine Below.alloc ?_ ?_ _ | with_reducible refine Below.setCell ?_ ?_ _ | with_reducible refine Below.drew ?_)); all_goals (first | omega | (simp only [World.size_alloc, pin_size, World.size_drew, World.size_setCell] <;> omega))) (hb10.mono (by (first | omega | (simp only [World.size_alloc, pin_size, World.size_drew, World.size_setCell] <;> omega))))))
          clear HD2
          have HD2 := HD2n
          clear HD2n
          have HD7n := Lib.hid (HD7.out.next (Below.trans (by (repeat (first | with_reducible exact (Below.refl _ _) | with_reducible refine below_pin ?_ ?_ | with_reducible refine Below.alloc ?_ ?_ _ | with_reducible refine Below.setCell ?_ ?_ _ | with_reducible refine Below.drew ?_)); all_goals (first | omega | (simp only [World.size_alloc, pin_size, World.size_drew, World.size_setCell] <;> omega))) (hb10.mono (by (first | omega | (simp only [World.size_alloc, pin_size, World.size_drew, World.size_setCell] <;> omega))))))
          clear HD7
          have HD7 := HD7n
          clear HD7n
          have HTn := Lib.hid (HT.out.next (Below.trans (by (repeat (first | with_reducible exact (Below.refl _ _) | with_reducible refine below_pin ?_ ?_ | with_reducible refine Below.alloc ?_ ?_ _ | with_reducible refine Below.setCell ?_ ?_ _ | with_reducible refine Below.drew ?_)); all_goals (first | omega | (simp only [World.size_alloc, pin_size, World.size_drew, World.size_setCell] <;> omega))) (hb10.mono (by (first | omega | (simp only [World.size_alloc, pin_size, World.size_drew, World.size_setCell] <;> omega))))))
          clear HT
          have HT := HTn
          clear HTn
          clear hb10
          have HD9 := Lib.hid hd9
          clear hd9
          go_wp2_with fail
          refine (minusZ A9 c9 Num.p x10.heap.size 1 p1 (by rw [digP]; decide) dig1 (by decide) HE1.out.1 _ (HD9.out.next (by (repeat (first | with_reducible exact (Below.refl _ _) | with_reducible refine below_pin ?_ ?_ | with_reducible refine Below.alloc ?_ ?_ _ | with_reducible refine Below.setCell ?_ ?_ _ | with_reducible refine Below.drew ?_)); all_goals (first | omega | (simp only [World.size_alloc, pin_size, World.size_drew, World.size_setCell] <;> omega)))) (heap_alloc_new _ _)).mono ?_
          rintro e x11 ⟨⟨A10, c10, rfl, hd10⟩, hb11⟩
          have HB11 : Hid (Below w.heap.size w x11) := Below.trans (by (repeat (first | with_reducible exact HB10.out | with_reducible refine below_pin ?_ ?_ | with_reducible refine Below.alloc ?_ ?_ _ | with_reducible refine Below.setCell ?_ ?_ _ | with_reducible refine Below.drew ?_)); all_goals (first | omega | (simp only [World.size_alloc, pin_size, World.size_drew, World.size_setCell] <;> omega))) (hb11.mono (by (first | omega | (simp only [World.size_alloc, pin_size, World.size_drew, World.size_setCell] <;> omega))))
          have hz11 := HB11.out.size
          have HD2n := Lib.hid (HD2.out.next (Below.trans (by (repeat (first | with_reducible exact (Below.refl _ _) | with_reducible refine below_pin ?_ ?_ | with_reducible refine Below.alloc ?_ ?_ _ | with_reducible refine Below.setCell ?_ ?_ _ | with_reducible refine Below.drew ?_)); all_goals (first | omega | (simp only [World.size_alloc, pin_size, World.size_drew, World.size_setCell] <;> omega))) (hb11.mono (by (first | omega | (simp only [World.size_alloc, pin_size, World.size_drew, World.size_setCell] <;> omega))))))
          clear HD2
          have HD2 := HD2n
          clear HD2n
          have HD7n := Lib.hid (HD7.out.next (Below.trans (by (repeat (first | with_reducible exact (Below.refl _ _) | with_reducible refine below_pin ?_ ?_ | with_reducible refine Below.alloc ?_ ?_ _ | with_reducible refine Below.setCell ?_ ?_ _ | with_reducible refine Below.drew ?_)); all_goals (first | omega | (simp only [World.size_alloc, pin_size, World.size_drew, World.size_setCell] <;> omega))) (hb11.mono (by (first | omega | (simp only [World.size_alloc, pin_size, World.size_drew, World.size_setCell] <;> omega))))))
          clear HD7
          have HD7 := HD7n
          clear HD7n
          have HTn := Lib.hid (HT.out.next (Below.trans (by (repeat (first | with_reducible exact (Below.refl _ _) | with_reducible refine below_pin ?_ ?_ | with_reducible refine Below.alloc ?_ ?_ _ | with_reducible refine Below.setCell ?_ ?_ _ | with_reducible refine Below.drew ?_)); all_goals (first | omega | (simp only [World.size_alloc, pin_size, World.size_drew, World.size_setCell] <;> omega))) (hb11.mono (by (first | omega | (simp only [World.size_alloc, pin_size, World.size_drew, World.size_setCell] <;> omega))))))
          clear HT
          have HT := HTn
          clear HTn
          clear hb11
          have HD10 := Lib.hid hd10
          clear hd10 HD9
          go_wp2_with fail
          refine (halfZ A10 c10 p1 2 m HE1.out.2.1 (by decide) HE1.out.2.2.1 _ (HD10.out.next (by (repeat (first | with_reducible exact (Below.refl _ _) | with_reducible refine below_pin ?_ ?_ | with_reducible refine Below.alloc ?_ ?_ _ | with_reducible refine Below.setCell ?_ ?_ _ | with_reducible refine Below.drew ?_)); all_goals (first | omega | (simp only [World.size_alloc, pin_size, World.size_drew, World.size_setCell] <;> omega))))).mono ?_
          rintro e x12 ⟨⟨A11, c11, rfl, hd11⟩, hb12⟩
          have HB12 : Hid (Below w.heap.size w x12) := Below.trans (by (repeat (first | with_reducible exact HB11.out | with_reducible refine below_pin ?_ ?_ | with_reducible refine Below.alloc ?_ ?_ _ | with_reducible refine Below.setCell ?_ ?_ _ | with_reducible refine Below.drew ?_)); all_goals (first | omega | (simp only [World.size_alloc, pin_size, World.size_drew, World.size_setCell] <;> omega))) (hb12.mono (by (first | omega | (simp only [World.size_alloc, pin_size, World.size_drew, World.size_setCell] <;> omega))))
          have hz12 := HB12.out.size
          have HD2n := Lib.hid (HD2.out.next (Below.trans (by (repeat (first | with_reducible exact (Below.refl _ _) | with_reducible refine below_pin ?_ ?_ | with_reducible refine Below.alloc ?_ ?_ _ | with_reducible refine Below.setCell ?_ ?_ _ | with_reducible refine Below.drew ?_)); all_goals (first | omega | (simp only [World.size_alloc, pin_size, World.size_drew, World.size_setCell] <;> omega))) (hb12.mono (by (first | omega | (simp only [World.size_alloc, pin_size, World.size_drew, World.size_setCell] <;> omega))))))
          clear HD2
          have HD2 := HD2n
          clear HD2n
          have HD7n := Lib.hid (HD7.out.next (Below.trans (by (repeat (first | with_reducible exact (Below.refl _ _) | with_reducible refine below_pin ?_ ?_ | with_reducible refine Below.alloc ?_ ?_ _ | with_reducible refine Below.setCell ?_ ?_ _ | with_reducible refine Below.drew ?_)); all_goals (first | omega | (simp only [World.size_alloc, pin_size, World.size_drew, World.size_setCell] <;> omega))) (hb12.mono (by (first | omega | (simp only [World.size_alloc, pin_size, World.size_drew, World.size_setCell] <;> omega))))))
          clear HD7
          have HD7 := HD7n
          clear HD7n
          have HTn := Lib.hid (HT.out.next (Below.trans (by (repeat (first | with_reducible exact (Below.refl _ _) | with_reducible refine below_pin ?_ ?_ | with_reducible refine Below.alloc ?_ ?_ _ | with_reducible refine Below.setCell ?_ ?_ _ | with_reducible refine Below.drew ?_)); all_goals (first | omega | (simp only [World.size_alloc, pin_size, World.size_drew, World.size_setCell] <;> omega))) (hb12.mono (by (first | omega | (simp only [World.size_alloc, pin_size, World.size_drew, World.size_setCell] <;> omega))))))
          clear HT
          have HT := HTn
          clear HTn
          clear hb12
          have HD11 := Lib.hid hd11
          clear hd11 HD10
          go_wp2_with fail
          refine (Bytes_any A11 c11 m (p_16 HE1.out.2.2.2.1) _ (HD11.out.next (by (repeat (first | with_reducible exact (Below.refl _ _) | with_reducible refine below_pin ?_ ?_ | with_reducible refine Below.alloc ?_ ?_ _ | with_reducible refine Below.setCell ?_ ?_ _ | with_reducible refine Below.drew ?_)); all_goals (first | omega | (simp only [World.size_alloc, pin_size, World.size_drew, World.size_setCell] <;> omega))))).mono ?_
          rintro e x13 ⟨⟨b12, rfl, hrd⟩, hb13⟩
          have HB13 : Hid (Below w.heap.size w x13) := Below.trans (by (repeat (first | with_reducible exact HB12.out | with_reducible refine below_pin ?_ ?_ | with_reducible refine Below.alloc ?_ ?_ _ | with_reducible refine Below.setCell ?_ ?_ _ | with_reducible refine Below.drew ?_)); all_goals (first | omega | (simp only [World.size_alloc, pin_size, World.size_drew, World.size_setCell] <;> omega))) (hb13.mono (by (first | omega | (simp only [World.size_alloc, pin_size, World.size_drew, World.size_setCell] <;> omega))))
          have hz13 := HB13.out.size
          have HD2n := Lib.hid (HD2.out.next (Below.trans (by (repeat (first | with_reducible exact (Below.refl _ _) | with_reducible refine below_pin ?_ ?_ | with_reducible refine Below.alloc ?_ ?_ _ | with_reducible refine Below.setCell ?_ ?_ _ | with_reducible refine Below.drew ?_)); all_goals (first | omega | (simp only [World.size_alloc, pin_size, World.size_drew, World.size_setCell] <;> omega))) (hb13.mono (by (first | omega | (simp only [World.size_alloc, pin_size, World.size_drew, World.size_setCell] <;> omega))))))
          clear HD2
          have HD2 := HD2n
          clear HD2n
          have HD7n := Lib.hid (HD7.out.next (Below.trans (by (repeat (first | with_reducible exact (Below.refl _ _) | with_reducible refine below_pin ?_ ?_ | with_reducible refine Below.alloc ?_ ?_ _ | with_reducible refine Below.setCell ?_ ?_ _ | with_reducible refine Below.drew ?_)); all_goals (first | omega | (simp only [World.size_alloc, pin_size, World.size_drew, World.size_setCell] <;> omega))) (hb13.mono (by (first | omega | (simp only [World.size_alloc, pin_size, World.size_drew, World.size_setCell] <;> omega))))))
          clear HD7
          have HD7 := HD7n
          clear HD7n
          have HTn := Lib.hid (HT.out.next (Below.trans (by (repeat (first | with_reducible exact (Below.refl _ _) | with_reducible refine below_pin ?_ ?_ | with_reducible refine Below.alloc ?_ ?_ _ | with_reducible refine Below.setCell ?_ ?_ _ | with_reducible refine Below.drew ?_)); all_goals (first | omega | (simp only [World.size_alloc, pin_size, World.size_drew, World.size_setCell] <;> omega))) (hb13.mono (by (first | omega | (simp only [World.size_alloc, pin_size, World.size_drew, World.size_setCell] <;> omega))))))
          clear HT
          have HT := HTn
          clear HTn
          clear hb13
          have HRD := Lib.hid hrd
          clear hrd HD11
          go_wp2_with fail
          refine (PowLit x9.heap.size 2 b12 m im dig2 (by decide) HE1.out.2.2.2.1 HE1.out.2.2.2.2.1 _ (HT.out.next (by (repeat (first | with_reducible exact (Below.refl _ _) | with_reducible refine below_pin ?_ ?_ | with_reducible refine Below.alloc ?_ ?_ _ | with_reducible refine Below.setCell ?_ ?_ _ | with_reducible refine Below.drew ?_)); all_goals (first | omega | (simp only [World.size_alloc, pin_size, World.size_drew, World.size_setCell] <;> omega)))) HRD.out).mono ?_
          rintro e x14 ⟨⟨A13, c13, rfl, hd13⟩, hb14⟩
          have HB14 : Hid (Below w.heap.size w x14) := Below.trans (by (repeat (first | with_reducible exact HB13.out | with_reducible refine below_pin ?_ ?_ | with_reducible refine Below.alloc ?_ ?_ _ | with_reducible refine Below.setCell ?_ ?_ _ | with_reducible refine Below.drew ?_)); all_goals (first | omega | (simp only [World.size_alloc, pin_size, World.size_drew, World.size_setCell] <;> omega))) (hb14.mono (by (first | omega | (simp only [World.size_alloc, pin_size, World.size_drew, World.size_setCell] <;> omega))))
          have hz14 := HB14.out.size
          have HD2n := Lib.hid (HD2.out.next (Below.trans (by (repeat (first | with_reducible exact (Below.refl _ _) | with_reducible refine below_pin ?_ ?_ | with_reducible refine Below.alloc ?_ ?_ _ | with_reducible refine Below.setCell ?_ ?_ _ | with_reducible refine Below.drew ?_)); all_goals (first | omega | (simp only [World.size_alloc, pin_size, World.size_drew, World.size_setCell] <;> omega))) (hb14.mono (by (first | omega | (simp only [World.size_alloc, pin_size, World.size_drew, World.size_setCell] <;> omega))))))
          clear HD2
          have HD2 := HD2n
          clear HD2n
          have HD7n := Lib.hid (HD7.out.next (Below.trans (by (repeat (first | with_reducible exact (Below.refl _ _) | with_reducible refine below_pin ?_ ?_ | with_reducible refine Below.alloc ?_ ?_ _ | with_reducible refine Below.setCell ?_ ?_ _ | with_reducible refine Below.drew ?_)); all_goals (first | omega | (simp only [World.size_alloc, pin_size, World.size_drew, World.size_setCell] <;> omega))) (hb14.mono (by (first | omega | (simp only [World.size_alloc, pin_size, World.size_drew, World.size_setCell] <;> omega))))))
          clear HD7
          have HD7 := HD7n
          clear HD7n
          have HTn := Lib.hid (HT.out.next (Below.trans (by (repeat (first | with_reducible exact (Below.refl _ _) | with_reducible refine below_pin ?_ ?_ | with_reducible refine Below.alloc ?_ ?_ _ | with_reducible refine Below.setCell ?_ ?_ _ | with_reducible refine Below.drew ?_)); all_goals (first | omega | (simp only [World.size_alloc, pin_size, World.size_drew, World.size_setCell] <;> omega))) (hb14.mono (by (first | omega | (simp only [World.size_alloc, pin_size, World.size_drew, World.size_setCell] <;> omega))))))
          clear HT
          have HT := HTn
          clear HTn
          clear hb14
          have HD13 := Lib.hid hd13
          clear hd13 HRD HT
          go_wp2_with fail
          refine (MulZ A7 A13 c7 c13 r0 im S HR.out.1 HE1.out.2.2.2.2.2.1 HE1.out.2.2.2.2.2.2 _ (HD7.out.next (by (repeat (first | with_reducible exact (Below.refl _ _) | with_reducible refine below_pin ?_ ?_ | with_reducible refine Below.alloc ?_ ?_ _ | with_reducible refine Below.setCell ?_ ?_ _ | with_reducible refine Below.drew ?_)); all_goals (first | omega | (simp only [World.size_alloc, pin_size, World.size_drew, World.size_setCell] <;> omega)))) (HD13.out.next (by (repeat (first | with_reducible exact (Below.refl _ _) | with_reducible refine below_pin ?_ ?_ | with_reducible refine Below.alloc ?_ ?_ _ | with_reducible refine Below.setCell ?_ ?_ _ | with_reducible refine Below.drew ?_)); all_goals (first | omega | (simp only [World.size_alloc, pin_size, World.size_drew, World.size_setCell] <;> omega))))).mono ?_
          rintro e x15 ⟨⟨A14, c14, rfl, hd14⟩, hb15⟩
          have HB15 : Hid (Below w.heap.size w x15) := Below.trans (by (repeat (first | with_reducible exact HB14.out | with_reducible refine below_pin ?_ ?_ | with_reducible refine Below.alloc ?_ ?_ _ | with_reducible refine Below.setCell ?_ ?_ _ | with_reducible refine Below.drew ?_)); all_goals (first | omega | (simp only [World.size_alloc, pin_size, World.size_drew, World.size_setCell] <;> omega))) (hb15.mono (by (first | omega | (simp only [World.size_alloc, pin_size, World.size_drew, World.size_setCell] <;> omega))))
          have hz15 := HB15.out.size
          have HD2n := Lib.hid (HD2.out.next (Below.trans (by (repeat (first | with_reducible exact (Below.refl _ _) | with_reducible refine below_pin ?_ ?_ | with_reducible refine Below.alloc ?_ ?_ _ | with_reducible refine Below.setCell ?_ ?_ _ | with_reducible refine Below.drew ?_)); all_goals (first | omega | (simp only [World.size_alloc, pin_size, World.size_drew, World.size_setCell] <;> omega))) (hb15.mono (by (first | omega | (simp only [World.size_alloc, pin_size, World.size_drew, World.size_setCell] <;> omega))))))
          clear HD2
          have HD2 := HD2n
          clear HD2n
          clear hb15
          have HD14 := Lib.hid hd14
          clear hd14 HD13 HD7
          go_wp2_with fail
          refine (MulZ A14 A14 c14 c14 S S s1 HR.out.2.2.2.1 HR.out.2.2.2.1 HR.out.2.2.2.2.1 _ (HD14.out.next (by (repeat (first | with_reducible exact (Below.refl _ _) | with_reducible refine below_pin ?_ ?_ | with_reducible refine Below.alloc ?_ ?_ _ | with_reducible refine Below.setCell ?_ ?_ _ | with_reducible refine Below.drew ?_)); all_goals (first | omega | (simp only [World.size_alloc, pin_size, World.size_drew, World.size_setCell] <;> omega)))) (HD14.out.next (by (repeat (first | with_reducible exact (Below.refl _ _) | with_reducible refine below_pin ?_ ?_ | with_reducible refine Below.alloc ?_ ?_ _ | with_reducible refine Below.setCell ?_ ?_ _ | with_reducible refine Below.drew ?_)); all_goals (first | omega | (simp only [World.size_alloc, pin_size, World.size_drew, World.size_setCell] <;> omega))))).mono ?_
          rintro e x16 ⟨⟨A15, c15, rfl, hd15⟩, hb16⟩
          have HB16 : Hid (Below w.heap.size w x16) := Below.trans (by (repeat (first | with_reducible exact HB15.out | with_reducible refine below_pin ?_ ?_ | with_reducible refine Below.alloc ?_ ?_ _ | with_reducible refine Below.setCell ?_ ?_ _ | with_reducible refine Below.drew ?_)); all_goals (first | omega | (simp only [World.size_alloc, pin_size, World.size_drew, World.size_setCell] <;> omega))) (hb16.mono (by (first | omega | (simp only [World.size_alloc, pin_size, World.size_drew, World.size_setCell] <;> omega))))
          have hz16 := HB16.out.size
          have HD2n := Lib.hid (HD2.out.next (Below.trans (by (repeat (first | with_reducible exact (Below.refl _ _) | with_reducible refine below_pin ?_ ?_ | with_reducible refine Below.alloc ?_ ?_ _ | with_reducible refine Below.setCell ?_ ?_ _ | with_reducible refine Below.drew ?_)); all_goals (first | omega | (simp only [World.size_alloc, pin_size, World.size_drew, World.size_setCell] <;> omega))) (hb16.mono (by (first | omega | (simp only [World.size_alloc, pin_size, World.size_drew, World.size_setCell] <;> omega))))))
          clear HD2
          have HD2 := HD2n
          clear HD2n
          have HD14n := Lib.hid (HD14.out.next (Below.trans (by (repeat (first | with_reducible exact (Below.refl _ _) | with_reducible refine below_pin ?_ ?_ | with_reducible refine Below.alloc ?_ ?_ _ | with_reducible refine Below.setCell ?_ ?_ _ | with_reducible refine Below.drew ?_)); all_goals (first | omega | (simp only [World.size_alloc, pin_size, World.size_drew, World.size_setCell] <;> omega))) (hb16.mono (by (first | omega | (simp only [World.size_alloc, pin_size, World.size_drew, World.size_setCell] <;> omega))))))
          clear HD14
          have HD14 := HD14n
          clear HD14n
          clear hb16
          have HD15 := Lib.hid hd15
          clear hd15
          go_wp2_with fail
          refine (SameZ A15 A2 c15 c2 s1 q true HR.out.2.2.2.2.2 HQ.out.2.2.2 (decide_eq_true HQ1.out) _ (HD15.out.next (by (repeat (first | with_reducible exact (Below.refl _ _) | with_reducible refine below_pin ?_ ?_ | with_reducible refine Below.alloc ?_ ?_ _ | with_reducible refine Below.setCell ?_ ?_ _ | with_reducible refine Below.drew ?_)); all_goals (first | omega | (simp only [World.size_alloc, pin_size, World.size_drew, World.size_setCell] <;> omega)))) (HD2.out.next (by (repeat (first | with_reducible exact (Below.refl _ _) | with_reducible refine below_pin ?_ ?_ | with_reducible refine Below.alloc ?_ ?_ _ | with_reducible refine Below.setCell ?_ ?_ _ | with_reducible refine Below.drew ?_)); all_goals (first | omega | (simp only [World.size_alloc, pin_size, World.size_drew, World.size_setCell] <;> omega))))).mono ?_
          rintro e x17 ⟨rfl, hb17⟩
          have HB17 : Hid (Below w.heap.size w x17) := Below.trans (by (repeat (first | with_reducible exact HB16.out | with_reducible refine below_pin ?_ ?_ | with_reducible refine Below.alloc ?_ ?_ _ | with_reducible refine Below.setCell ?_ ?_ _ | with_reducible refine Below.drew ?_)); all_goals (first | omega | (simp only [World.size_alloc, pin_size, World.size_drew, World.size_setCell] <;> omega))) (hb17.mono (by (first | omega | (simp only [World.size_alloc, pin_size, World.size_drew, World.size_setCell] <;> omega))))
          have hz17 := HB17.out.size
          have HD14n := Lib.hid (HD14.out.next (Below.trans (by (repeat (first | with_reducible exact (Below.refl _ _) | with_reducible refine below_pin ?_ ?_ | with_reducible refine Below.alloc ?_ ?_ _ | with_reducible refine Below.setCell ?_ ?_ _ | with_reducible refine Below.drew ?_)); all_goals (first | omega | (simp only [World.size_alloc, pin_size, World.size_drew, World.size_setCell] <;> omega))) (hb17.mono (by (first | omega | (simp only [World.size_alloc, pin_size, World.size_drew, World.size_setCell] <;> omega))))))
          clear HD14
          have HD14 := HD14n
          clear HD14n
          clear hb17
          clear HD15 HD2
          rw [← HLS.out]
          go_wp2_with fail
          have hls := HLS.out
          refine bodyPost_ret (v := .tuple #[.slice A14 LS c14, .bool true]) ?_ rfl ⟨⟨A14, c14, S, true, by rw [← HLS.out], (HD14.out.next (by (repeat (first | with_reducible exact (Below.refl _ _) | with_reducible refine below_pin ?_ ?_ | with_reducible refine Below.alloc ?_ ?_ _ | with_reducible refine Below.setCell ?_ ?_ _ | with_reducible refine Below.drew ?_)); all_goals (first | omega | (simp only [World.size_alloc, pin_size, World.size_drew, World.size_setCell] <;> omega)))), HR.out.2.2.2.1, (decide_eq_true (HOK.out.1.mp HQ1.out)).symm, HV1.out⟩, (by (repeat (first | with_reducible exact HB17.out | with_reducible refine below_pin ?_ ?_ | with_reducible refine Below.alloc ?_ ?_ _ | with_reducible refine Below.setCell ?_ ?_ _ | with_reducible refine Below.drew ?_)); all_goals (first | omega | (simp only [World.size_alloc, pin_size, World.size_drew, World.size_setCell] <;> omega)))⟩
          · simp [results, Try.results27, go_sem]
        · have hlt : 0 < LS := by omega
          have hlz : (0 : Int) < (LS : Int) := by omega
          have HLZ := Lib.hid hlt
          obtain ⟨dd, hdd⟩ : ∃ d, d = dg S 0 := ⟨_, rfl⟩
          have HDD := Lib.hid hdd
          by_cases ho : S % 2 = 1
          · have t1 : (((dd : Int)).tmod 2 == 1) = true := by have h := ho; rw [← odd_dig0, ← hdd] at h; rw [beq_iff_eq, Int.tmod_eq_emod_of_nonneg (by omega)]; omega
            have t2 : (((dd : Int)) % 2 == 1) = true := by have h := ho; rw [← odd_dig0, ← hdd] at h; rw [beq_iff_eq]; omega
            obtain ⟨z, hz2⟩ : ∃ z, z = (Num.p - S) % Num.p := ⟨_, rfl⟩
            have HV1 : Hid (z < Num.p ∧ z = (Num.p - S) % Num.p ∧ small z = small (rootV n m U V)) := Lib.hid (by
              refine ⟨by rw [hz2]; exact Nat.mod_lt _ p_pos, hz2, small_congr ?_⟩
              rw [← HOK.out.2 (HOK.out.1.mp HQ1.out)]
              unfold evenV
              rw [Nat.mod_eq_of_lt HR.out.2.2.2.1, if_pos ho, subM_mod, sub0, Nat.mod_eq_of_lt HR.out.2.2.2.1, hz2, Nat.mod_mod])
            clear hz hLS hlt hdd ho hz2
            go_enter Try.func27, Try.ntmps27
            go_wp2_with fail
            refine (InvZ B d V L vi HV.out HL.out HQ.out.1 _ HY.out).mono ?_
            rintro e x1 ⟨⟨A1, c1, rfl, hd1⟩, hb1⟩
            have HB1 : Hid (Below w.heap.size w x1) := Below.trans (by (repeat (first | with_reducible exact (Below.refl _ _) | with_reducible refine below_pin ?_ ?_ | with_reducible refine Below.alloc ?_ ?_ _ | with_reducible refine Below.setCell ?_ ?_ _ | with_reducible refine Below.drew ?_)); all_goals (first | omega | (simp only [World.size_alloc, pin_size, World.size_drew, World.size_setCell] <;> omega))) (hb1.mono (by (first | omega | (simp only [World.size_alloc, pin_size, World.size_drew, World.size_setCell] <;> omega))))
            have hz1 := HB1.out.size
            have HXn := Lib.hid (HX.out.next (Below.trans (by (repeat (first | with_reducible exact (Below.refl _ _) | with_reducible refine below_pin ?_ ?_ | with_reducible refine Below.alloc ?_ ?_ _ | with_reducible refine Below.setCell ?_ ?_ _ | with_reducible refine Below.drew ?_)); all_goals (first | omega | (simp only [World.size_alloc, pin_size, World.size_drew, World.size_setCell] <;> omega))) (hb1.mono (by (first | omega | (simp only [World.size_alloc, pin_size, World.size_drew, World.size_setCell] <;> omega))))))
            clear HX
            have HX := HXn
            clear HXn
            clear hb1
            have HD1 := Lib.hid hd1
            clear hd1
            go_wp2_with fail
            refine (MulZ A A1 c c1 U vi q HU.out HQ.out.2.1 HQ.out.2.2.1 _ (HX.out.next (by (repeat (first | with_reducible exact (Below.refl _ _) | with_reducible refine below_pin ?_ ?_ | with_reducible refine Below.alloc ?_ ?_ _ | with_reducible refine Below.setCell ?_ ?_ _ | with_reducible refine Below.drew ?_)); all_goals (first | omega | (simp only [World.size_alloc, pin_size, World.size_drew, World.size_setCell] <;> omega)))) (HD1.out.next (by (repeat (first | with_reducible exact (Below.refl _ _) | with_reducible refine below_pin ?_ ?_ | with_reducible refine Below.alloc ?_ ?_ _ | with_reducible refine Below.setCell ?_ ?_ _ | with_reducible refine Below.drew ?_)); all_goals (first | omega | (simp only [World.size_alloc, pin_size, World.size_drew, World.size_setCell] <;> omega))))).mono ?_
            rintro e x2 ⟨⟨A2, c2, rfl, hd2⟩, hb2⟩
            have HB2 : Hid (Below w.heap.size w x2) := Below.trans (by (repeat (first | with_reducible exact HB1.out | with_reducible refine below_pin ?_ ?_ | with_reducible refine Below.alloc ?_ ?_ _ | with_reducible refine Below.setCell ?_ ?_ _ | with_reducible refine Below.drew ?_)); all_goals (first | omega | (simp only [World.size_alloc, pin_size, World.size_drew, World.size_setCell] <;> omega))) (hb2.mono (by (first | omega | (simp only [World.size_alloc, pin_size, World.size_drew, World.size_setCell] <;> omega))))
            have hz2 := HB2.out.size
            clear hb2
            have HD2 := Lib.hid hd2
            clear hd2
            go_wp2_with fail
            refine (P_any _).mono ?_
            rintro e x3 ⟨⟨A3, c3, rfl, hd3⟩, hb3⟩
            have HB3 : Hid (Below w.heap.size w x3) := Below.trans (by (repeat (first | with_reducible exact HB2.out | with_reducible refine below_pin ?_ ?_ | with_reducible refine Below.alloc ?_ ?_ _ | with_reducible refine Below.setCell ?_ ?_ _ | with_reducible refine Below.drew ?_)); all_goals (first | omega | (simp only [World.size_alloc, pin_size, World.size_drew, World.size_setCell] <;> omega))) (hb3.mono (by (first | omega | (simp only [World.size_alloc, pin_size, World.size_drew, World.size_setCell] <;> omega))))
            have hz3 := HB3.out.size
            have HD2n := Lib.hid (HD2.out.next (Below.trans (by (repeat (first | with_reducible exact (Below.refl _ _) | with_reducible refine below_pin ?_ ?_ | with_reducible refine Below.alloc ?_ ?_ _ | with_reducible refine Below.setCell ?_ ?_ _ | with_reducible refine Below.drew ?_)); all_goals (first | omega | (simp only [World.size_alloc, pin_size, World.size_drew, World.size_setCell] <;> omega))) (hb3.mono (by (first | omega | (simp only [World.size_alloc, pin_size, World.size_drew, World.size_setCell] <;> omega))))))
            clear HD2
            have HD2 := HD2n
            clear HD2n
            clear hb3
            have HD3 := Lib.hid hd3
            clear hd3
            go_wp2_with fail
            refine (sumZ A3 c3 Num.p x3.heap.size 3 p3 (by rw [digP]; decide) dig3 HE.out.1 _ (HD3.out.next (by (repeat (first | with_reducible exact (Below.refl _ _) | with_reducible refine below_pin ?_ ?_ | with_reducible refine Below.alloc ?_ ?_ _ | with_reducible refine Below.setCell ?_ ?_ _ | with_reducible refine Below.drew ?_)); all_goals (first | omega | (simp only [World.size_alloc, pin_size, World.size_drew, World.size_setCell] <;> omega)))) (heap_alloc_new _ _)).mono ?_
            rintro e x4 ⟨⟨A4, c4, rfl, hd4⟩, hb4⟩
            have HB4 : Hid (Below w.heap.size w x4) := Below.trans (by (repeat (first | with_reducible exact HB3.out | with_reducible refine below_pin ?_ ?_ | with_reducible refine Below.alloc ?_ ?_ _ | with_reducible refine Below.setCell ?_ ?_ _ | with_reducible refine Below.drew ?_)); all_goals (first | omega | (simp only [World.size_alloc, pin_size, World.size_drew, World.size_setCell] <;> omega))) (hb4.mono (by (first | omega | (simp only [World.size_alloc, pin_size, World.size_drew, World.size_setCell] <;> omega))))
            have hz4 := HB4.out.size
            have HD2n := Lib.hid (HD2.out.next (Below.trans (by (repeat (first | with_reducible exact (Below.refl _ _) | with_reducible refine below_pin ?_ ?_ | with_reducible refine Below.alloc ?_ ?_ _ | with_reducible refine Below.setCell ?_ ?_ _ | with_reducible refine Below.drew ?_)); all_goals (first | omega | (simp only [World.size_alloc, pin_size, World.size_drew, World.size_setCell] <;> omega))) (hb4.mono (by (first | omega | (simp only [World.size_alloc, pin_size, World.size_drew, World.size_setCell] <;> omega))))))
            clear HD2
            have HD2 := HD2n
            clear HD2n
            clear hb4
            have HD4 := Lib.hid hd4
            clear hd4 HD3
            go_wp2_with fail
            refine (halfZ A4 c4 p3 3 e3 HP3.out (by decide) HE.out.2.1 _ (HD4.out.next (by (repeat (first | with_reducible exact (Below.refl _ _) | with_reducible refine below_pin ?_ ?_ | with_reducible refine Below.alloc ?_ ?_ _ | with_reducible refine Below.setCell ?_ ?_ _ | with_reducible refine Below.drew ?_)); all_goals (first | omega | (simp only [World.size_alloc, pin_size, World.size_drew, World.size_setCell] <;> omega))))).mono ?_
            rintro e x5 ⟨⟨A5, c5, rfl, hd5⟩, hb5⟩
            have HB5 : Hid (Below w.heap.size w x5) := Below.trans (by (repeat (first | with_reducible exact HB4.out | with_reducible refine below_pin ?_ ?_ | with_reducible refine Below.alloc ?_ ?_ _ | with_reducible refine Below.setCell ?_ ?_ _ | with_reducible refine Below.drew ?_)); all_goals (first | omega | (simp only [World.size_alloc, pin_size, World.size_drew, World.size_setCell] <;> omega))) (hb5.mono (by (first | omega | (simp only [World.size_alloc, pin_size, World.size_drew, World.size_setCell] <;> omega))))
            have hz5 := HB5.out.size
            have HD2n := Lib.hid (HD2.out.next (Below.trans (by (repeat (first | with_reducible exact (Below.refl _ _) | with_reducible refine below_pin ?_ ?_ | with_reducible refine Below.alloc ?_ ?_ _ | with_reducible refine Below.setCell ?_ ?_ _ | with_reducible refine Below.drew ?_)); all_goals (first | omega | (simp only [World.size_alloc, pin_size, World.size_drew, World.size_setCell] <;> omega))) (hb5.mono (by (first | omega | (simp only [World.size_alloc, pin_size, World.size_drew, World.size_setCell] <;> omega))))))
            clear HD2
            have HD2 := HD2n
            clear HD2n
            clear hb5
            have HD5 := Lib.hid hd5
            clear hd5 HD4
            go_wp2_with fail
            refine (Bytes_any A5 c5 e3 (p_16 HE.out.2.2.1) _ (HD5.out.next (by (repeat (first | with_reducible exact (Below.refl _ _) | with_reducible refine below_pin ?_ ?_ | with_reducible refine Below.alloc ?_ ?_ _ | with_reducible refine Below.setCell ?_ ?_ _ | with_reducible refine Below.drew ?_)); all_goals (first | omega | (simp only [World.size_alloc, pin_size, World.size_drew, World.size_setCell] <;> omega))))).mono ?_
            rintro e x6 ⟨⟨b6, rfl, hrd⟩, hb6⟩
            have HB6 : Hid (Below w.heap.size w x6) := Below.trans (by (repeat (first | with_reducible exact HB5.out | with_reducible refine below_pin ?_ ?_ | with_reducible refine Below.alloc ?_ ?_ _ | with_reducible refine Below.setCell ?_ ?_ _ | with_reducible refine Below.drew ?_)); all_goals (first | omega | (simp only [World.size_alloc, pin_size, World.size_drew, World.size_setCell] <;> omega))) (hb6.mono (by (first | omega | (simp only [World.size_alloc, pin_size, World.size_drew, World.size_setCell] <;> omega))))
            have hz6 := HB6.out.size
            have HD2n := Lib.hid (HD2.out.next (Below.trans (by (repeat (first | with_reducible exact (Below.refl _ _) | with_reducible refine below_pin ?_ ?_ | with_reducible refine Below.alloc ?_ ?_ _ | with_reducible refine Below.setCell ?_ ?_ _ | with_reducible refine Below.drew ?_)); all_goals (first | omega | (simp only [World.size_alloc, pin_size, World.size_drew, World.size_setCell] <;> omega))) (hb6.mono (by (first | omega | (simp only [World.size_alloc, pin_size, World.size_drew, World.size_setCell] <;> omega))))))
            clear HD2
            have HD2 := HD2n
            clear HD2n
            clear hb6
            have HRD := Lib.hid hrd
            clear hrd HD5
            go_wp2_with fail
            refine (PowZ A2 c2 q b6 e3 r0 HQ.out.2.2.2 HE.out.2.2.1 HE.out.2.2.2 _ (HD2.out.next (by (repeat (first | with_reducible exact (Below.refl _ _) | with_reducible refine below_pin ?_ ?_ | with_reducible refine Below.alloc ?_ ?_ _ | with_reducible refine Below.setCell ?_ ?_ _ | with_reducible refine Below.drew ?_)); all_goals (first | omega | (simp only [World.size_alloc, pin_size, World.size_drew, World.size_setCell] <;> omega)))) HRD.out).mono ?_
            rintro e x7 ⟨⟨A7, c7, rfl, hd7⟩, hb7⟩
            have HB7 : Hid (Below w.heap.size w x7) := Below.trans (by (repeat (first | with_reducible exact HB6.out | with_reducible refine below_pin ?_ ?_ | with_reducible refine Below.alloc ?_ ?_ _ | with_reducible refine Below.setCell ?_ ?_ _ | with_reducible refine Below.drew ?_)); all_goals (first | omega | (simp only [World.size_alloc, pin_size, World.size_drew, World.size_setCell] <;> omega))) (hb7.mono (by (first | omega | (simp only [World.size_alloc, pin_size, World.size_drew, World.size_setCell] <;> omega))))
            have hz7 := HB7.out.size
            have HD2n := Lib.hid (HD2.out.next (Below.trans (by (repeat (first | with_reducible exact (Below.refl _ _) | with_reducible refine below_pin ?_ ?_ | with_reducible refine Below.alloc ?_ ?_ _ | with_reducible refine Below.setCell ?_ ?_ _ | with_reducible refine Below.drew ?_)); all_goals (first | omega | (simp only [World.size_alloc, pin_size, World.size_drew, World.size_setCell] <;> omega))) (hb7.mono (by (first | omega | (simp only [World.size_alloc, pin_size, World.size_drew, World.size_setCell] <;> omega))))))
            clear HD2
            have HD2 := HD2n
            clear HD2n
            clear hb7
            have HD7 := Lib.hid hd7
            clear hd7 HRD
            go_wp2_with fail
            refine (MulZ A7 A7 c7 c7 r0 r0 s0 HR.out.1 HR.out.1 HR.out.2.1 _ (HD7.out.next (by (repeat (first | with_reducible exact (Below.refl _ _) | with_reducible refine below_pin ?_ ?_ | with_reducible refine Below.alloc ?_ ?_ _ | with_reducible refine Below.setCell ?_ ?_ _ | with_reducible refine Below.drew ?_)); all_goals (first | omega | (simp only [World.size_alloc, pin_size, World.size_drew, World.size_setCell] <;> omega)))) (HD7.out.next (by (repeat (first | with_reducible exact (Below.refl _ _) | with_reducible refine below_pin ?_ ?_ | with_reducible refine Below.alloc ?_ ?_ _ | with_reducible refine Below.setCell ?_ ?_ _ | with_reducible refine Below.drew ?_)); all_goals (first | omega | (simp only [World.size_alloc, pin_size, World.size_drew, World.size_setCell] <;> omega))))).mono ?_
            rintro e x8 ⟨⟨A8, c8, rfl, hd8⟩, hb8⟩
            have HB8 : Hid (Below w.heap.size w x8) := Below.trans (by (repeat (first | with_reducible exact HB7.out | with_reducible refine below_pin ?_ ?_ | with_reducible refine Below.alloc ?_ ?_ _ | with_reducible refine Below.setCell ?_ ?_ _ | with_reducible refine Below.drew ?_)); all_goals (first | omega | (simp only [World.size_alloc, pin_size, World.size_drew, World.size_setCell] <;> omega))) (hb8.mono (by (first | omega | (simp only [World.size_alloc, pin_size, World.size_drew, World.size_setCell] <;> omega))))
            have hz8 := HB8.out.size
            have HD2n := Lib.hid (HD2.out.next (Below.trans (by (repeat (first | with_reducible exact (Below.refl _ _) | with_reducible refine below_pin ?_ ?_ | with_reducible refine Below.alloc ?_ ?_ _ | with_reducible refine Below.setCell ?_ ?_ _ | with_reducible refine Below.drew ?_)); all_goals (first | omega | (simp only [World.size_alloc, pin_size, World.size_drew, World.size_setCell] <;> omega))) (hb8.mono (by (first | omega | (simp only [World.size_alloc, pin_size, World.size_drew, World.size_setCell] <;> omega))))))
            clear HD2
            have HD2 := HD2n
            clear HD2n
            have HD7n := Lib.hid (HD7.out.next (Below.trans (by (repeat (first | with_reducible exact (Below.refl _ _) | with_reducible refine below_pin ?_ ?_ | with_reducible refine Below.alloc ?_ ?_ _ | with_reducible refine Below.setCell ?_ ?_ _ | with_reducible refine Below.drew ?_)); all_goals (first | omega | (simp only [World.size_alloc, pin_size, World.size_drew, World.size_setCell] <;> omega))) (hb8.mono (by (first | omega | (simp only [World.size_alloc, pin_size, World.size_drew, World.size_setCell] <;> omega))))))
            clear HD7
            have HD7 := HD7n
            clear HD7n
            clear hb8
            have HD8 := Lib.hid hd8
            clear hd8
            go_wp2_with fail
            refine (SameZ A8 A2 c8 c2 s0 q false HR.out.2.2.1 HQ.out.2.2.2 (decide_eq_false HQ0.out) _ (HD8.out.next (by (repeat (first | with_reducible exact (Below.refl _ _) | with_reducible refine below_pin ?_ ?_ | with_reducible refine Below.alloc ?_ ?_ _ | with_reducible refine Below.setCell ?_ ?_ _ | with_reducible refine Below.drew ?_)); all_goals (first | omega | (simp only [World.size_alloc, pin_size, World.size_drew, World.size_setCell] <;> omega)))) (HD2.out.next (by (repeat (first | with_reducible exact (Below.refl _ _) | with_reducible refine below_pin ?_ ?_ | with_reducible refine Below.alloc ?_ ?_ _ | with_reducible refine Below.setCell ?_ ?_ _ | with_reducible refine Below.drew ?_)); all_goals (first | omega | (simp only [World.size_alloc, pin_size, World.size_drew, World.size_setCell] <;> omega))))).mono ?_
            rintro e x9 ⟨rfl, hb9⟩
            have HB9 : Hid (Below w.heap.size w x9) := Below.trans (by (repeat (first | with_reducible exact HB8.out | with_reducible refine below_pin ?_ ?_ | with_reducible refine Below.alloc ?_ ?_ _ | with_reducible refine Below.setCell ?_ ?_ _ | with_reducible refine Below.drew ?_)); all_goals (first | omega | (simp only [World.size_alloc, pin_size, World.size_drew, World.size_setCell] <;> omega))) (hb9.mono (by (first | omega | (simp only [World.size_alloc, pin_size, World.size_drew, World.size_setCell] <;> omega))))
            have hz9 := HB9.out.size
            have HD2n := Lib.hid (HD2.out.next (Below.trans (by (repeat (first | with_reducible exact (Below.refl _ _) | with_reducible refine below_pin ?_ ?_ | with_reducible refine Below.alloc ?_ ?_ _ | with_reducible refine Below.setCell ?_ ?_ _ | with_reducible refine Below.drew ?_)); all_goals (first | omega | (simp only [World.size_alloc, pin_size, World.size_drew, World.size_setCell] <;> omega))) (hb9.mono (by (first | omega | (simp only [World.size_alloc, pin_size, World.size_drew, World.size_setCell] <;> omega))))))
            clear HD2
            have HD2 := HD2n
            clear HD2n
            have HD7n := Lib.hid (HD7.out.next (Below.trans (by (repeat (first | with_reducible exact (Below.refl _ _) | with_reducible refine below_pin ?_ ?_ | with_reducible refine Below.alloc ?_ ?_ _ | with_reducible refine Below.setCell ?_ ?_ _ | with_reducible refine Below.drew ?_)); all_goals (first | omega | (simp only [World.size_alloc, pin_size, World.size_drew, World.size_setCell] <;> omega))) (hb9.mono (by (first | omega | (simp only [World.size_alloc, pin_size, World.size_drew, World.size_setCell] <;> omega))))))
            clear HD7
            have HD7 := HD7n
            clear HD7n
            clear hb9
            clear HD8
            go_wp2_with fail
            have HT : Hid (Dn (x9.alloc (.cells #[.int .u64 2] 23)) (some ⟨x9.heap.size, 0, none⟩) 1 2) := Lib.hid (dn_lit 2 dig2 (heap_alloc_new _ _))
            refine (P_any _).mono ?_
            rintro e x10 ⟨⟨A9, c9, rfl, hd9⟩, hb10⟩
            have HB10 : Hid (Below w.heap.size w x10) := Below.trans (by (repeat (first | with_reducible exact HB9.out | with_reducible refine below_pin ?_ ?_ | with_reducible refine Below.alloc ?_ ?_ _ | with_reducible refine Below.setCell ?_ ?_ _ | with_reducible refine Below.drew ?_)); all_goals (first | omega | (simp only [World.size_alloc, pin_size, World.size_drew, World.size_setCell] <;> omega))) (hb10.mono (by (first | omega | (simp only [World.size_alloc, pin_size, World.size_drew, World.size_setCell] <;> omega))))
            have hz10 := HB10.out.size
            have HD2n := Lib.hid (HD2.out.next (Below.trans (by (repeat (first | with_reducible exact (Below.refl _ _) | with_reducible refine below_pin ?_ ?_ | with_reducible refine Below.alloc ?_ ?_ _ | with_reducible refine Below.setCell ?_ ?_ _ | with_reducible refine Below.drew ?_)); all_goals (first | omega | (simp only [World.size_alloc, pin_size, World.size_drew, World.size_setCell] <;> omega))) (hb10.mono (by (first | omega | (simp only [World.size_alloc, pin_size, World.size_drew, World.size_setCell] <;> omega))))))
            clear HD2
            have HD2 := HD2n
            clear HD2n
            have HD7n := Lib.hid (HD7.out.next (Below.trans (by (repeat (first | with_reducible exact (Below.refl _ _) | with_reducible refine below_pin ?_ ?_ | with_reducible refine Below.alloc ?_ ?_ _ | with_reducible refine Below.setCell ?_ ?_ _ | with_reducible refine Below.drew ?_)); all_goals (first | omega | (simp only [World.size_alloc, pin_size, World.size_drew, World.size_setCell] <;> omega))) (hb10.mono (by (first | omega | (simp only [World.size_alloc, pin_size, World.size_drew, World.size_setCell] <;> omega))))))
            clear HD7
            have HD7 := HD7n
            clear HD7n
            have HTn := Lib.hid (HT.out.next (Below.trans (by (repeat (first | with_reducible exact (Below.refl _ _) | with_reducible refine below_pin ?_ ?_ | with_reducible refine Below.alloc ?_ ?_ _ | with_reducible refine Below.setCell ?_ ?_ _ | with_reducible refine Below.drew ?_)); all_goals (first | omega | (simp only [World.size_alloc, pin_size, World.size_drew, World.size_setCell] <;> omega))) (hb10.mono (by (first | omega | (simp only [World.size_alloc, pin_size, World.size_drew, World.size_setCell] <;> omega))))))
            clear HT
            have HT := HTn
            clear HTn
            clear hb10
            have HD9 := Lib.hid hd9
            clear hd9
            go_wp2_with fail
            refine (minusZ A9 c9 Num.p x10.heap.size 1 p1 (by rw [digP]; decide) dig1 (by decide) HE1.out.1 _ (HD9.out.next (by (repeat (first | with_reducible exact (Below.refl _ _) | with_reducible refine below_pin ?_ ?_ | with_reducible refine Below.alloc ?_ ?_ _ | with_reducible refine Below.setCell ?_ ?_ _ | with_reducible refine Below.drew ?_)); all_goals (first | omega | (simp only [World.size_alloc, pin_size, World.size_drew, World.size_setCell] <;> omega)))) (heap_alloc_new _ _)).mono ?_
            rintro e x11 ⟨⟨A10, c10, rfl, hd10⟩, hb11⟩
            have HB11 : Hid (Below w.heap.size w x11) := Below.trans (by (repeat (first | with_reducible exact HB10.out | with_reducible refine below_pin ?_ ?_ | with_reducible refine Below.alloc ?_ ?_ _ | with_reducible refine Below.setCell ?_ ?_ _ | with_reducible refine Below.drew ?_)); all_goals (first | omega | (simp only [World.size_alloc, pin_size, World.size_drew, World.size_setCell] <;> omega))) (hb11.mono (by (first | omega | (simp only [World.size_alloc, pin_size, World.size_drew, World.size_setCell] <;> omega))))
            have hz11 := HB11.out.size
            have HD2n := Lib.hid (HD2.out.next (Below.trans (by (repeat (first | with_reducible exact (Below.refl _ _) | with_reducible refine below_pin ?_ ?_ | with_reducible refine Below.alloc ?_ ?_ _ | with_reducible refine Below.setCell ?_ ?_ _ | with_reducible refine Below.drew ?_)); all_goals (first | omega | (simp only [World.size_alloc, pin_size, World.size_drew, World.size_setCell] <;> omega))) (hb11.mono (by (first | omega | (simp only [World.size_alloc, pin_size, World.size_drew, World.size_setCell] <;> omega))))))
            clear HD2
            have HD2 := HD2n
            clear HD2n
            have HD7n := Lib.hid (HD7.out.next (Below.trans (by (repeat (first | with_reducible exact (Below.refl _ _) | with_reducible refine below_pin ?_ ?_ | with_reducible refine Below.alloc ?_ ?_ _ | with_reducible refine Below.setCell ?_ ?_ _ | with_reducible refine Below.drew ?_)); all_goals (first | omega | (simp only [World.size_alloc, pin_size, World.size_drew, World.size_setCell] <;> omega))) (hb11.mono (by (first | omega | (simp only [World.size_alloc, pin_size, World.size_drew, World.size_setCell] <;> omega))))))
            clear HD7
            have HD7 := HD7n
            clear HD7n
            have HTn := Lib.hid (HT.out.next (Below.trans (by (repeat (first | with_reducible exact (Below.refl _ _) | with_reducible refine below_pin ?_ ?_ | with_reducible refine Below.alloc ?_ ?_ _ | with_reducible refine Below.setCell ?_ ?_ _ | with_reducible refine Below.drew ?_)); all_goals (first | omega | (simp only [World.size_alloc, pin_size, World.size_drew, World.size_setCell] <;> omega))) (hb11.mono (by (first | omega | (simp only [World.size_alloc, pin_size, World.size_drew, World.size_setCell] <;> omega))))))
            clear HT
            have HT := HTn
            clear HTn
            clear hb11
            have HD10 := Lib.hid hd10
            clear hd10 HD9
            go_wp2_with fail
            refine (halfZ A10 c10 p1 2 m HE1.out.2.1 (by decide) HE1.out.2.2.1 _ (HD10.out.next (by (repeat (first | with_reducible exact (Below.refl _ _) | with_reducible refine below_pin ?_ ?_ | with_reducible refine Below.alloc ?_ ?_ _ | with_reducible refine Below.setCell ?_ ?_ _ | with_reducible refine Below.drew ?_)); all_goals (first | omega | (simp only [World.size_alloc, pin_size, World.size_drew, World.size_setCell] <;> omega))))).mono ?_
            rintro e x12 ⟨⟨A11, c11, rfl, hd11⟩, hb12⟩
            have HB12 : Hid (Below w.heap.size w x12) := Below.trans (by (repeat (first | with_reducible exact HB11.out | with_reducible refine below_pin ?_ ?_ | with_reducible refine Below.alloc ?_ ?_ _ | with_reducible refine Below.setCell ?_ ?_ _ | with_reducible refine Below.drew ?_)); all_goals (first | omega | (simp only [World.size_alloc, pin_size, World.size_drew, World.size_setCell] <;> omega))) (hb12.mono (by (first | omega | (simp only [World.size_alloc, pin_size, World.size_drew, World.size_setCell] <;> omega))))
            have hz12 := HB12.out.size
            have HD2n := Lib.hid (HD2.out.next (Below.trans (by (repeat (first | with_reducible exact (Below.refl _ _) | with_reducible refine below_pin ?_ ?_ | with_reducible refine Below.alloc ?_ ?_ _ | with_reducible refine Below.setCell ?_ ?_ _ | with_reducible refine Below.drew ?_)); all_goals (first | omega | (simp only [World.size_alloc, pin_size, World.size_drew, World.size_setCell] <;> omega))) (hb12.mono (by (first | omega | (simp only [World.size_alloc, pin_size, World.size_drew, World.size_setCell] <;> omega))))))
            clear HD2
            have HD2 := HD2n
            clear HD2n
            have HD7n := Lib.hid (HD7.out.next (Below.trans (by (repeat (first | with_reducible exact (Below.refl _ _) | with_reducible refine below_pin ?_ ?_ | with_reducible refine Below.alloc ?_ ?_ _ | with_reducible refine Below.setCell ?_ ?_ _ | with_reducible refine Below.drew ?_)); all_goals (first | omega | (simp only [World.size_alloc, pin_size, World.size_drew, World.size_setCell] <;> omega))) (hb12.mono (by (first | omega | (simp only [World.size_alloc, pin_size, World.size_drew, World.size_setCell] <;> omega))))))
            clear HD7
            have HD7 := HD7n
            clear HD7n
            have HTn := Lib.hid (HT.out.next (Below.trans (by (repeat (first | with_reducible exact (Below.refl _ _) | with_reducible refine below_pin ?_ ?_ | with_reducible refine Below.alloc ?_ ?_ _ | with_reducible refine Below.setCell ?_ ?_ _ | with_reducible refine Below.drew ?_)); all_goals (first | omega | (simp only [World.size_alloc, pin_size, World.size_drew, World.size_setCell] <;> omega))) (hb12.mono (by (first | omega | (simp only [World.size_alloc, pin_size, World.size_drew, World.size_setCell] <;> omega))))))
            clear HT
            have HT := HTn
            clear HTn
            clear hb12
            have HD11 := Lib.hid hd11
            clear hd11 HD10
            go_wp2_with fail
            refine (Bytes_any A11 c11 m (p_16 HE1.out.2.2.2.1) _ (HD11.out.next (by (repeat (first | with_reducible exact (Below.refl _ _) | with_reducible refine below_pin ?_ ?_ | with_reducible refine Below.alloc ?_ ?_ _ | with_reducible refine Below.setCell ?_ ?_ _ | with_reducible refine Below.drew ?_)); all_goals (first | omega | (simp only [World.size_alloc, pin_size, World.size_drew, World.size_setCell] <;> omega))))).mono ?_
            rintro e x13 ⟨⟨b12, rfl, hrd⟩, hb13⟩
            have HB13 : Hid (Below w.heap.size w x13) := Below.trans (by (repeat (first | with_reducible exact HB12.out | with_reducible refine below_pin ?_ ?_ | with_reducible refine Below.alloc ?_ ?_ _ | with_reducible refine Below.setCell ?_ ?_ _ | with_reducible refine Below.drew ?_)); all_goals (first | omega | (simp only [World.size_alloc, pin_size, World.size_drew, World.size_setCell] <;> omega))) (hb13.mono (by (first | omega | (simp only [World.size_alloc, pin_size, World.size_drew, World.size_setCell] <;> omega))))
            have hz13 := HB13.out.size
            have HD2n := Lib.hid (HD2.out.next (Below.trans (by (repeat (first | with_reducible exact (Below.refl _ _) | with_reducible refine below_pin ?_ ?_ | with_reducible refine Below.alloc ?_ ?_ _ | with_reducible refine Below.setCell ?_ ?_ _ | with_reducible refine Below.drew ?_)); all_goals (first | omega | (simp only [World.size_alloc, pin_size, World.size_drew, World.size_setCell] <;> omega))) (hb13.mono (by (first | omega | (simp only [World.size_alloc, pin_size, World.size_drew, World.size_setCell] <;> omega))))))
            clear HD2
            have HD2 := HD2n
            clear HD2n
            have HD7n := Lib.hid (HD7.out.next (Below.trans (by (repeat (first | with_reducible exact (Below.refl _ _) | with_reducible refine below_pin ?_ ?_ | with_reducible refine Below.alloc ?_ ?_ _ | with_reducible refine Below.setCell ?_ ?_ _ | with_reducible refine Below.drew ?_)); all_goals (first | omega | (simp only [World.size_alloc, pin_size, World.size_drew, World.size_setCell] <;> omega))) (hb13.mono (by (first | omega | (simp only [World.size_alloc, pin_size, World.size_drew, World.size_setCell] <;> omega))))))
            clear HD7
            have HD7 := HD7n
            clear HD7n
            have HTn := Lib.hid (HT.out.next (Below.trans (by (repeat (first | with_reducible exact (Below.refl _ _) | with_reducible refine below_pin ?_ ?_ | with_reducible refine Below.alloc ?_ ?_ _ | with_reducible refine Below.setCell ?_ ?_ _ | with_reducible refine Below.drew ?_)); all_goals (first | omega | (simp only [World.size_alloc, pin_size, World.size_drew, World.size_setCell] <;> omega))) (hb13.mono (by (first | omega | (simp only [World.size_alloc, pin_size, World.size_drew, World.size_setCell] <;> omega))))))
            clear HT
            have HT := HTn
            clear HTn
            clear hb13
            have HRD := Lib.hid hrd
            clear hrd HD11
            go_wp2_with fail
            refine (PowLit x9.heap.size 2 b12 m im dig2 (by decide) HE1.out.2.2.2.1 HE1.out.2.2.2.2.1 _ (HT.out.next (by (repeat (first | with_reducible exact (Below.refl _ _) | with_reducible refine below_pin ?_ ?_ | with_reducible refine Below.alloc ?_ ?_ _ | with_reducible refine Below.setCell ?_ ?_ _ | with_reducible refine Below.drew ?_)); all_goals (first | omega | (simp only [World.size_alloc, pin_size, World.size_drew, World.size_setCell] <;> omega)))) HRD.out).mono ?_
            rintro e x14 ⟨⟨A13, c13, rfl, hd13⟩, hb14⟩
            have HB14 : Hid (Below w.heap.size w x14) := Below.trans (by (repeat (first | with_reducible exact HB13.out | with_reducible refine below_pin ?_ ?_ | with_reducible refine Below.alloc ?_ ?_ _ | with_reducible refine Below.setCell ?_ ?_ _ | with_reducible refine Below.drew ?_)); all_goals (first | omega | (simp only [World.size_alloc, pin_size, World.size_drew, World.size_setCell] <;> omega))) (hb14.mono (by (first | omega | (simp only [World.size_alloc, pin_size, World.size_drew, World.size_setCell] <;> omega))))
            have hz14 := HB14.out.size
            have HD2n := Lib.hid (HD2.out.next (Below.trans (by (repeat (first | with_reducible exact (Below.refl _ _) | with_reducible refine below_pin ?_ ?_ | with_reducible refine Below.alloc ?_ ?_ _ | with_reducible refine Below.setCell ?_ ?_ _ | with_reducible refine Below.drew ?_)); all_goals (first | omega | (simp only [World.size_alloc, pin_size, World.size_drew, World.size_setCell] <;> omega))) (hb14.mono (by (first | omega | (simp only [World.size_alloc, pin_size, World.size_drew, World.size_setCell] <;> omega))))))
            clear HD2
            have HD2 := HD2n
            clear HD2n
            have HD7n := Lib.hid (HD7.out.next (Below.trans (by (repeat (first | with_reducible exact (Below.refl _ _) | with_reducible refine below_pin ?_ ?_ | with_reducible refine Below.alloc ?_ ?_ _ | with_reducible refine Below.setCell ?_ ?_ _ | with_reducible refine Below.drew ?_)); all_goals (first | omega | (simp only [World.size_alloc, pin_size, World.size_drew, World.size_setCell] <;> omega))) (hb14.mono (by (first | omega | (simp only [World.size_alloc, pin_size, World.size_drew, World.size_setCell] <;> omega))))))
            clear HD7
            have HD7 := HD7n
            clear HD7n
            have HTn := Lib.hid (HT.out.next (Below.trans (by (repeat (first | with_reducible exact (Below.refl _ _) | with_reducible refine below_pin ?_ ?_ | with_reducible refine Below.alloc ?_ ?_ _ | with_reducible refine Below.setCell ?_ ?_ _ | with_reducible refine Below.drew ?_)); all_goals (first | omega | (simp only [World.size_alloc, pin_size, World.size_drew, World.size_setCell] <;> omega))) (hb14.mono (by (first | omega | (simp only [World.size_alloc, pin_size, World.size_drew, World.size_setCell] <;> omega))))))
            clear HT
            have HT := HTn
            clear HTn
            clear hb14
            have HD13 := Lib.hid hd13
            clear hd13 HRD HT
            go_wp2_with fail
            refine (MulZ A7 A13 c7 c13 r0 im S HR.out.1 HE1.out.2.2.2.2.2.1 HE1.out.2.2.2.2.2.2 _ (HD7.out.next (by (repeat (first | with_reducible exact (Below.refl _ _) | with_reducible refine below_pin ?_ ?_ | with_reducible refine Below.alloc ?_ ?_ _ | with_reducible refine Below.setCell ?_ ?_ _ | with_reducible refine Below.drew ?_)); all_goals (first | omega | (simp only [World.size_alloc, pin_size, World.size_drew, World.size_setCell] <;> omega)))) (HD13.out.next (by (repeat (first | with_reducible exact (Below.refl _ _) | with_reducible refine below_pin ?_ ?_ | with_reducible refine Below.alloc ?_ ?_ _ | with_reducible refine Below.setCell ?_ ?_ _ | with_reducible refine Below.drew ?_)); all_goals (first | omega | (simp only [World.size_alloc, pin_size, World.size_drew, World.size_setCell] <;> omega))))).mono ?_
            rintro e x15 ⟨⟨A14, c14, rfl, hd14⟩, hb15⟩
            have HB15 : Hid (Below w.heap.size w x15) := Below.trans (by (repeat (first | with_reducible exact HB14.out | with_reducible refine below_pin ?_ ?_ | with_reducible refine Below.alloc ?_ ?_ _ | with_reducible refine Below.setCell ?_ ?_ _ | with_reducible refine Below.drew ?_)); all_goals (first | omega | (simp only [World.size_alloc, pin_size, World.size_drew, World.size_setCell] <;> omega))) (hb15.mono (by (first | omega | (simp only [World.size_alloc, pin_size, World.size_drew, World.size_setCell] <;> omega))))
            have hz15 := HB15.out.size
            have HD2n := Lib.hid (HD2.out.next (Below.trans (by (repeat (first | with_reducible exact (Below.refl _ _) | with_reducible refine below_pin ?_ ?_ | with_reducible refine Below.alloc ?_ ?_ _ | with_reducible refine Below.setCell ?_ ?_ _ | with_reducible refine Below.drew ?_)); all_goals (first | omega | (simp only [World.size_alloc, pin_size, World.size_drew, World.size_setCell] <;> omega))) (hb15.mono (by (first | omega | (simp only [World.size_alloc, pin_size, World.size_drew, World.size_setCell] <;> omega))))))
            clear HD2
            have HD2 := HD2n
            clear HD2n
            clear hb15
            have HD14 := Lib.hid hd14
            clear hd14 HD13 HD7
            go_wp2_with fail
            refine (MulZ A14 A14 c14 c14 S S s1 HR.out.2.2.2.1 HR.out.2.2.2.1 HR.out.2.2.2.2.1 _ (HD14.out.next (by (repeat (first | with_reducible exact (Below.refl _ _) | with_reducible refine below_pin ?_ ?_ | with_reducible refine Below.alloc ?_ ?_ _ | with_reducible refine Below.setCell ?_ ?_ _ | with_reducible refine Below.drew ?_)); all_goals (first | omega | (simp only [World.size_alloc, pin_size, World.size_drew, World.size_setCell] <;> omega)))) (HD14.out.next (by (repeat (first | with_reducible exact (Below.refl _ _) | with_reducible refine below_pin ?_ ?_ | with_reducible refine Below.alloc ?_ ?_ _ | with_reducible refine Below.setCell ?_ ?_ _ | with_reducible refine Below.drew ?_)); all_goals (first | omega | (simp only [World.size_alloc, pin_size, World.size_drew, World.size_setCell] <;> omega))))).mono ?_
            rintro e x16 ⟨⟨A15, c15, rfl, hd15⟩, hb16⟩
            have HB16 : Hid (Below w.heap.size w x16) := Below.trans (by (repeat (first | with_reducible exact HB15.out | with_reducible refine below_pin ?_ ?_ | with_reducible refine Below.alloc ?_ ?_ _ | with_reducible refine Below.setCell ?_ ?_ _ | with_reducible refine Below.drew ?_)); all_goals (first | omega | (simp only [World.size_alloc, pin_size, World.size_drew, World.size_setCell] <;> omega))) (hb16.mono (by (first | omega | (simp only [World.size_alloc, pin_size, World.size_drew, World.size_setCell] <;> omega))))
            have hz16 := HB16.out.size
            have HD2n := Lib.hid (HD2.out.next (Below.trans (by (repeat (first | with_reducible exact (Below.refl _ _) | with_reducible refine below_pin ?_ ?_ | with_reducible refine Below.alloc ?_ ?_ _ | with_reducible refine Below.setCell ?_ ?_ _ | with_reducible refine Below.drew ?_)); all_goals (first | omega | (simp only [World.size_alloc, pin_size, World.size_drew, World.size_setCell] <;> omega))) (hb16.mono (by (first | omega | (simp only [World.size_alloc, pin_size, World.size_drew, World.size_setCell] <;> omega))))))
            clear HD2
            have HD2 := HD2n
            clear HD2n
            have HD14n := Lib.hid (HD14.out.next (Below.trans (by (repeat (first | with_reducible exact (Below.refl _ _) | with_reducible refine below_pin ?_ ?_ | with_reducible refine Below.alloc ?_ ?_ _ | with_reducible refine Below.setCell ?_ ?_ _ | with_reducible refine Below.drew ?_)); all_goals (first | omega | (simp only [World.size_alloc, pin_size, World.size_drew, World.size_setCell] <;> omega))) (hb16.mono (by (first | omega | (simp only [World.size_alloc, pin_size, World.size_drew, World.size_setCell] <;> omega))))))
            clear HD14
            have HD14 := HD14n
            clear HD14n
            clear hb16
            have HD15 := Lib.hid hd15
            clear hd15
            go_wp2_with fail
            refine (SameZ A15 A2 c15 c2 s1 q true HR.out.2.2.2.2.2 HQ.out.2.2.2 (decide_eq_true HQ1.out) _ (HD15.out.next (by (repeat (first | with_reducible exact (Below.refl _ _) | with_reducible refine below_pin ?_ ?_ | with_reducible refine Below.alloc ?_ ?_ _ | with_reducible refine Below.setCell ?_ ?_ _ | with_reducible refine Below.drew ?_)); all_goals (first | omega | (simp only [World.size_alloc, pin_size, World.size_drew, World.size_setCell] <;> omega)))) (HD2.out.next (by (repeat (first | with_reducible exact (Below.refl _ _) | with_reducible refine below_pin ?_ ?_ | with_reducible refine Below.alloc ?_ ?_ _ | with_reducible refine Below.setCell ?_ ?_ _ | with_reducible refine Below.drew ?_)); all_goals (first | omega | (simp only [World.size_alloc, pin_size, World.size_drew, World.size_setCell] <;> omega))))).mono ?_
            rintro e x17 ⟨rfl, hb17⟩
            have HB17 : Hid (Below w.heap.size w x17) := Below.trans (by (repeat (first | with_reducible exact HB16.out | with_reducible refine below_pin ?_ ?_ | with_reducible refine Below.alloc ?_ ?_ _ | with_reducible refine Below.setCell ?_ ?_ _ | with_reducible refine Below.drew ?_)); all_goals (first | omega | (simp only [World.size_alloc, pin_size, World.size_drew, World.size_setCell] <;> omega))) (hb17.mono (by (first | omega | (simp only [World.size_alloc, pin_size, World.size_drew, World.size_setCell] <;> omega))))
            have hz17 := HB17.out.size
            have HD14n := Lib.hid (HD14.out.next (Below.trans (by (repeat (first | with_reducible exact (Below.refl _ _) | with_reducible refine below_pin ?_ ?_ | with_reducible refine Below.alloc ?_ ?_ _ | with_reducible refine Below.setCell ?_ ?_ _ | with_reducible refine Below.drew ?_)); all_goals (first | omega | (simp only [World.size_alloc, pin_size, World.size_drew, World.size_setCell] <;> omega))) (hb17.mono (by (first | omega | (simp only [World.size_alloc, pin_size, World.size_drew, World.size_setCell] <;> omega))))))
            clear HD14
            have HD14 := HD14n
            clear HD14n
            clear hb17
            clear HD15 HD2
            rw [← HLS.out]
            obtain ⟨bb, off, hAA, hbw, hcell⟩ := HD14.out.cell (i := 0) (by rw [← HLS.out]; exact HLZ.out)
            subst hAA
            have hc0 := hcell 0 (by rw [← HLS.out]; exact HLZ.out)
            rw [Nat.add_zero] at hc0
            have hc1 : x17.cell? ⟨bb, off, none⟩ = some (.int .u64 (dd : Int)) := by rw [HDD.out]; exact hc0
            clear hcell hc0
            go_wp2_with fail
            refine (LessZ (some ⟨bb, off, none⟩) c14 S z HR.out.2.2.2.1 HV1.out.2.1 LS HLS.out _ (HD14.out.next (by (repeat (first | with_reducible exact (Below.refl _ _) | with_reducible refine below_pin ?_ ?_ | with_reducible refine Below.alloc ?_ ?_ _ | with_reducible refine Below.setCell ?_ ?_ _ | with_reducible refine Below.drew ?_)); all_goals (first | omega | (simp only [World.size_alloc, pin_size, World.size_drew, World.size_setCell] <;> omega))))).mono ?_
            rintro e x18 ⟨⟨A16, c16, rfl, hd16⟩, hb18⟩
            have HB18 : Hid (Below w.heap.size w x18) := Below.trans (by (repeat (first | with_reducible exact HB17.out | with_reducible refine below_pin ?_ ?_ | with_reducible refine Below.alloc ?_ ?_ _ | with_reducible refine Below.setCell ?_ ?_ _ | with_reducible refine Below.drew ?_)); all_goals (first | omega | (simp only [World.size_alloc, pin_size, World.size_drew, World.size_setCell] <;> omega))) (hb18.mono (by (first | omega | (simp only [World.size_alloc, pin_size, World.size_drew, World.size_setCell] <;> omega))))
            have hz18 := HB18.out.size
            have HD14n := Lib.hid (HD14.out.next (Below.trans (by (repeat (first | with_reducible exact (Below.refl _ _) | with_reducible refine below_pin ?_ ?_ | with_reducible refine Below.alloc ?_ ?_ _ | with_reducible refine Below.setCell ?_ ?_ _ | with_reducible refine Below.drew ?_)); all_goals (first | omega | (simp only [World.size_alloc, pin_size, World.size_drew, World.size_setCell] <;> omega))) (hb18.mono (by (first | omega | (simp only [World.size_alloc, pin_size, World.size_drew, World.size_setCell] <;> omega))))))
            clear HD14
            have HD14 := HD14n
            clear HD14n
            clear hb18
            have HD16 := Lib.hid hd16
            clear hd16
            go_wp2_with fail
            refine bodyPost_ret (v := .tuple #[.slice A16 (dig z).length c16, .bool true]) ?_ rfl ⟨⟨A16, c16, z, true, rfl, HD16.out, HV1.out.1, (decide_eq_true (HOK.out.1.mp HQ1.out)).symm, HV1.out.2.2⟩, (by (repeat (first | with_reducible exact HB18.out | with_reducible refine below_pin ?_ ?_ | with_reducible refine Below.alloc ?_ ?_ _ | with_reducible refine Below.setCell ?_ ?_ _ | with_reducible refine Below.drew ?_)); all_goals (first | omega | (simp only [World.size_alloc, pin_size, World.size_drew, World.size_setCell] <;> omega)))⟩
            · simp [results, Try.results27, go_sem]
          · have t1 : (((dd : Int)).tmod 2 == 1) = false := by have h := ho; rw [← odd_dig0, ← hdd] at h; rw [beq_eq_false_iff_ne, Int.tmod_eq_emod_of_nonneg (by omega)]; omega
            have t2 : (((dd : Int)) % 2 == 1) = false := by have h := ho; rw [← odd_dig0, ← hdd] at h; rw [beq_eq_false_iff_ne]; omega
            have HV1 : Hid (small S = small (rootV n m U V)) := Lib.hid (small_congr (by
              rw [← HOK.out.2 (HOK.out.1.mp HQ1.out)]
              unfold evenV
              rw [Nat.mod_eq_of_lt HR.out.2.2.2.1, if_neg ho, Nat.mod_eq_of_lt HR.out.2.2.2.1]))
            clear hz hLS hlt hdd ho
            go_enter Try.func27, Try.ntmps27
            go_wp2_with fail
            refine (InvZ B d V L vi HV.out HL.out HQ.out.1 _ HY.out).mono ?_
            rintro e x1 ⟨⟨A1, c1, rfl, hd1⟩, hb1⟩
            have HB1 : Hid (Below w.heap.size w x1) := Below.trans (by (repeat (first | with_reducible exact (Below.refl _ _) | with_reducible refine below_pin ?_ ?_ | with_reducible refine Below.alloc ?_ ?_ _ | with_reducible refine Below.setCell ?_ ?_ _ | with_reducible refine Below.drew ?_)); all_goals (first | omega | (simp only [World.size_alloc, pin_size, World.size_drew, World.size_setCell] <;> omega))) (hb1.mono (by (first | omega | (simp only [World.size_alloc, pin_size, World.size_drew, World.size_setCell] <;> omega))))
            have hz1 := HB1.out.size
            have HXn := Lib.hid (HX.out.next (Below.trans (by (repeat (first | with_reducible exact (Below.refl _ _) | with_reducible refine below_pin ?_ ?_ | with_reducible refine Below.alloc ?_ ?_ _ | with_reducible refine Below.setCell ?_ ?_ _ | with_reducible refine Below.drew ?_)); all_goals (first | omega | (simp only [World.size_alloc, pin_size, World.size_drew, World.size_setCell] <;> omega))) (hb1.mono (by (first | omega | (simp only [World.size_alloc, pin_size, World.size_drew, World.size_setCell] <;> omega))))))
            clear HX
            have HX := HXn
            clear HXn
            clear hb1
            have HD1 := Lib.hid hd1
            clear hd1
            go_wp2_with fail
            refine (MulZ A A1 c c1 U vi q HU.out HQ.out.2.1 HQ.out.2.2.1 _ (HX.out.next (by (repeat (first | with_reducible exact (Below.refl _ _) | with_reducible refine below_pin ?_ ?_ | with_reducible refine Below.alloc ?_ ?_ _ | with_reducible refine Below.setCell ?_ ?_ _ | with_reducible refine Below.drew ?_)); all_goals (first | omega | (simp only [World.size_alloc, pin_size, World.size_drew, World.size_setCell] <;> omega)))) (HD1.out.next (by (repeat (first | with_reducible exact (Below.refl _ _) | with_reducible refine below_pin ?_ ?_ | with_reducible refine Below.alloc ?_ ?_ _ | with_reducible refine Below.setCell ?_ ?_ _ | with_reducible refine Below.drew ?_)); all_goals (first | omega | (simp only [World.size_alloc, pin_size, World.size_drew, World.size_setCell] <;> omega))))).mono ?_
            rintro e x2 ⟨⟨A2, c2, rfl, hd2⟩, hb2⟩
            have HB2 : Hid (Below w.heap.size w x2) := Below.trans (by (repeat (first | with_reducible exact HB1.out | with_reducible refine below_pin ?_ ?_ | with_reducible refine Below.alloc ?_ ?_ _ | with_reducible refine Below.setCell ?_ ?_ _ | with_reducible refine Below.drew ?_)); all_goals (first | omega | (simp only [World.size_alloc, pin_size, World.size_drew, World.size_setCell] <;> omega))) (hb2.mono (by (first | omega | (simp only [World.size_alloc, pin_size, World.size_drew, World.size_setCell] <;> omega))))
            have hz2 := HB2.out.size
            clear hb2
            have HD2 := Lib.hid hd2
            clear hd2
            go_wp2_with fail
            refine (P_any _).mono ?_
            rintro e x3 ⟨⟨A3, c3, rfl, hd3⟩, hb3⟩
            have HB3 : Hid (Below w.heap.size w x3) := Below.trans (by (repeat (first | with_reducible exact HB2.out | with_reducible refine below_pin ?_ ?_ | with_reducible refine Below.alloc ?_ ?_ _ | with_reducible refine Below.setCell ?_ ?_ _ | with_reducible refine Below.drew ?_)); all_goals (first | omega | (simp only [World.size_alloc, pin_size, World.size_drew, World.size_setCell] <;> omega))) (hb3.mono (by (first | omega | (simp only [World.size_alloc, pin_size, World.size_drew, World.size_setCell] <;> omega))))
            have hz3 := HB3.out.size
            have HD2n := Lib.hid (HD2.out.next (Below.trans (by (repeat (first | with_reducible exact (Below.refl _ _) | with_reducible refine below_pin ?_ ?_ | with_reducible refine Below.alloc ?_ ?_ _ | with_reducible refine Below.setCell ?_ ?_ _ | with_reducible refine Below.drew ?_)); all_goals (first | omega | (simp only [World.size_alloc, pin_size, World.size_drew, World.size_setCell] <;> omega))) (hb3.mono (by (first | omega | (simp only [World.size_alloc, pin_size, World.size_drew, World.size_setCell] <;> omega))))))
            clear HD2
            have HD2 := HD2n
            clear HD2n
            clear hb3
            have HD3 := Lib.hid hd3
            clear hd3
            go_wp2_with fail
            refine (sumZ A3 c3 Num.p x3.heap.size 3 p3 (by rw [digP]; decide) dig3 HE.out.1 _ (HD3.out.next (by (repeat (first | with_reducible exact (Below.refl _ _) | with_reducible refine below_pin ?_ ?_ | with_reducible refine Below.alloc ?_ ?_ _ | with_reducible refine Below.setCell ?_ ?_ _ | with_reducible refine Below.drew ?_)); all_goals (first | omega | (simp only [World.size_alloc, pin_size, World.size_drew, World.size_setCell] <;> omega)))) (heap_alloc_new _ _)).mono ?_
            rintro e x4 ⟨⟨A4, c4, rfl, hd4⟩, hb4⟩
            have HB4 : Hid (Below w.heap.size w x4) := Below.trans (by (repeat (first | with_reducible exact HB3.out | with_reducible refine below_pin ?_ ?_ | with_reducible refine Below.alloc ?_ ?_ _ | with_reducible refine Below.setCell ?_ ?_ _ | with_reducible refine Below.drew ?_)); all_goals (first | omega | (simp only [World.size_alloc, pin_size, World.size_drew, World.size_setCell] <;> omega))) (hb4.mono (by (first | omega | (simp only [World.size_alloc, pin_size, World.size_drew, World.size_setCell] <;> omega))))
            have hz4 := HB4.out.size
            have HD2n := Lib.hid (HD2.out.next (Below.trans (by (repeat (first | with_reducible exact (Below.refl _ _) | with_reducible refine below_pin ?_ ?_ | with_reducible refine Below.alloc ?_ ?_ _ | with_reducible refine Below.setCell ?_ ?_ _ | with_reducible refine Below.drew ?_)); all_goals (first | omega | (simp only [World.size_alloc, pin_size, World.size_drew, World.size_setCell] <;> omega))) (hb4.mono (by (first | omega | (simp only [World.size_alloc, pin_size, World.size_drew, World.size_setCell] <;> omega))))))
            clear HD2
            have HD2 := HD2n
            clear HD2n
            clear hb4
            have HD4 := Lib.hid hd4
            clear hd4 HD3
            go_wp2_with fail
            refine (halfZ A4 c4 p3 3 e3 HP3.out (by decide) HE.out.2.1 _ (HD4.out.next (by (repeat (first | with_reducible exact (Below.refl _ _) | with_reducible refine below_pin ?_ ?_ | with_reducible refine Below.alloc ?_ ?_ _ | with_reducible refine Below.setCell ?_ ?_ _ | with_reducible refine Below.drew ?_)); all_goals (first | omega | (simp only [World.size_alloc, pin_size, World.size_drew, World.size_setCell] <;> omega))))).mono ?_
            rintro e x5 ⟨⟨A5, c5, rfl, hd5⟩, hb5⟩
            have HB5 : Hid (Below w.heap.size w x5) := Below.trans (by (repeat (first | with_reducible exact HB4.out | with_reducible refine below_pin ?_ ?_ | with_reducible refine Below.alloc ?_ ?_ _ | with_reducible refine Below.setCell ?_ ?_ _ | with_reducible refine Below.drew ?_)); all_goals (first | omega | (simp only [World.size_alloc, pin_size, World.size_drew, World.size_setCell] <;> omega))) (hb5.mono (by (first | omega | (simp only [World.size_alloc, pin_size, World.size_drew, World.size_setCell] <;> omega))))
            have hz5 := HB5.out.size
            have HD2n := Lib.hid (HD2.out.next (Below.trans (by (repeat (first | with_reducible exact (Below.refl _ _) | with_reducible refine below_pin ?_ ?_ | with_reducible refine Below.alloc ?_ ?_ _ | with_reducible refine Below.setCell ?_ ?_ _ | with_reducible refine Below.drew ?_)); all_goals (first | omega | (simp only [World.size_alloc, pin_size, World.size_drew, World.size_setCell] <;> omega))) (hb5.mono (by (first | omega | (simp only [World.size_alloc, pin_size, World.size_drew, World.size_setCell] <;> omega))))))
            clear HD2
            have HD2 := HD2n
            clear HD2n
            clear hb5
            have HD5 := Lib.hid hd5
            clear hd5 HD4
            go_wp2_with fail
            refine (Bytes_any A5 c5 e3 (p_16 HE.out.2.2.1) _ (HD5.out.next (by (repeat (first | with_reducible exact (Below.refl _ _) | with_reducible refine below_pin ?_ ?_ | with_reducible refine Below.alloc ?_ ?_ _ | with_reducible refine Below.setCell ?_ ?_ _ | with_reducible refine Below.drew ?_)); all_goals (first | omega | (simp only [World.size_alloc, pin_size, World.size_drew, World.size_setCell] <;> omega))))).mono ?_
            rintro e x6 ⟨⟨b6, rfl, hrd⟩, hb6⟩
            have HB6 : Hid (Below w.heap.size w x6) := Below.trans (by (repeat (first | with_reducible exact HB5.out | with_reducible refine below_pin ?_ ?_ | with_reducible refine Below.alloc ?_ ?_ _ | with_reducible refine Below.setCell ?_ ?_ _ | with_reducible refine Below.drew ?_)); all_goals (first | omega | (simp only [World.size_alloc, pin_size, World.size_drew, World.size_setCell] <;> omega))) (hb6.mono (by (first | omega | (simp only [World.size_alloc, pin_size, World.size_drew, World.size_setCell] <;> omega))))
            have hz6 := HB6.out.size
            have HD2n := Lib.hid (HD2.out.next (Below.trans (by (repeat (first | with_reducible exact (Below.refl _ _) | with_reducible refine below_pin ?_ ?_ | with_reducible refine Below.alloc ?_ ?_ _ | with_reducible refine Below.setCell ?_ ?_ _ | with_reducible refine Below.drew ?_)); all_goals (first | omega | (simp only [World.size_alloc, pin_size, World.size_drew, World.size_setCell] <;> omega))) (hb6.mono (by (first | omega | (simp only [World.size_alloc, pin_size, World.size_drew, World.size_setCell] <;> omega))))))
            clear HD2
            have HD2 := HD2n
            clear HD2n
            clear hb6
            have HRD := Lib.hid hrd
            clear hrd HD5
            go_wp2_with fail
            refine (PowZ A2 c2 q b6 e3 r0 HQ.out.2.2.2 HE.out.2.2.1 HE.out.2.2.2 _ (HD2.out.next (by (repeat (first | with_reducible exact (Below.refl _ _) | with_reducible refine below_pin ?_ ?_ | with_reducible refine Below.alloc ?_ ?_ _ | with_reducible refine Below.setCell ?_ ?_ _ | with_reducible refine Below.drew ?_)); all_goals (first | omega | (simp only [World.size_alloc, pin_size, World.size_drew, World.size_setCell] <;> omega)))) HRD.out).mono ?_
            rintro e x7 ⟨⟨A7, c7, rfl, hd7⟩, hb7⟩
            have HB7 : Hid (Below w.heap.size w x7) := Below.trans (by (repeat (first | with_reducible exact HB6.out | with_reducible refine below_pin ?_ ?_ | with_reducible refine Below.alloc ?_ ?_ _ | with_reducible refine Below.setCell ?_ ?_ _ | with_reducible refine Below.drew ?_)); all_goals (first | omega | (simp only [World.size_alloc, pin_size, World.size_drew, World.size_setCell] <;> omega))) (hb7.mono (by (first | omega | (simp only [World.size_alloc, pin_size, World.size_drew, World.size_setCell] <;> omega))))
            have hz7 := HB7.out.size
            have HD2n := Lib.hid (HD2.out.next (Below.trans (by (repeat (first | with_reducible exact (Below.refl _ _) | with_reducible refine below_pin ?_ ?_ | with_reducible refine Below.alloc ?_ ?_ _ | with_reducible refine Below.setCell ?_ ?_ _ | with_reducible refine Below.drew ?_)); all_goals (first | omega | (simp only [World.size_alloc, pin_size, World.size_drew, World.size_setCell] <;> omega))) (hb7.mono (by (first | omega | (simp only [World.size_alloc, pin_size, World.size_drew, World.size_setCell] <;> omega))))))
            clear HD2
            have HD2 := HD2n
            clear HD2n
            clear hb7
            have HD7 := Lib.hid hd7
            clear hd7 HRD
            go_wp2_with fail
            refine (MulZ A7 A7 c7 c7 r0 r0 s0 HR.out.1 HR.out.1 HR.out.2.1 _ (HD7.out.next (by (repeat (first | with_reducible exact (Below.refl _ _) | with_reducible refine below_pin ?_ ?_ | with_reducible refine Below.alloc ?_ ?_ _ | with_reducible refine Below.setCell ?_ ?_ _ | with_reducible refine Below.drew ?_)); all_goals (first | omega | (simp only [World.size_alloc, pin_size, World.size_drew, World.size_setCell] <;> omega)))) (HD7.out.next (by (repeat (first | with_reducible exact (Below.refl _ _) | with_reducible refine below_pin ?_ ?_ | with_reducible refine Below.alloc ?_ ?_ _ | with_reducible refine Below.setCell ?_ ?_ _ | with_reducible refine Below.drew ?_)); all_goals (first | omega | (simp only [World.size_alloc, pin_size, World.size_drew, World.size_setCell] <;> omega))))).mono ?_
            rintro e x8 ⟨⟨A8, c8, rfl, hd8⟩, hb8⟩
            have HB8 : Hid (Below w.heap.size w x8) := Below.trans (by (repeat (first | with_reducible exact HB7.out | with_reducible refine below_pin ?_ ?_ | with_reducible refine Below.alloc ?_ ?_ _ | with_reducible refine Below.setCell ?_ ?_ _ | with_reducible refine Below.drew ?_)); all_goals (first | omega | (simp only [World.size_alloc, pin_size, World.size_drew, World.size_setCell] <;> omega))) (hb8.mono (by (first | omega | (simp only [World.size_alloc, pin_size, World.size_drew, World.size_setCell] <;> omega))))
            have hz8 := HB8.out.size
            have HD2n := Lib.hid (HD2.out.next (Below.trans (by (repeat (first | with_reducible exact (Below.refl _ _) | with_reducible refine below_pin ?_ ?_ | with_reducible refine Below.alloc ?_ ?_ _ | with_reducible refine Below.setCell ?_ ?_ _ | with_reducible refine Below.drew ?_)); all_goals (first | omega | (simp only [World.size_alloc, pin_size, World.size_drew, World.size_setCell] <;> omega))) (hb8.mono (by (first | omega | (simp only [World.size_alloc, pin_size, World.size_drew, World.size_setCell] <;> omega))))))
            clear HD2
            have HD2 := HD2n
            clear HD2n
            have HD7n := Lib.hid (HD7.out.next (Below.trans (by (repeat (first | with_reducible exact (Below.refl _ _) | with_reducible refine below_pin ?_ ?_ | with_reducible refine Below.alloc ?_ ?_ _ | with_reducible refine Below.setCell ?_ ?_ _ | with_reducible refine Below.drew ?_)); all_goals (first | omega | (simp only [World.size_alloc, pin_size, World.size_drew, World.size_setCell] <;> omega))) (hb8.mono (by (first | omega | (simp only [World.size_alloc, pin_size, World.size_drew, World.size_setCell] <;> omega))))))
            clear HD7
            have HD7 := HD7n
            clear HD7n
            clear hb8
            have HD8 := Lib.hid hd8
            clear hd8
            go_wp2_with fail
            refine (SameZ A8 A2 c8 c2 s0 q false HR.out.2.2.1 HQ.out.2.2.2 (decide_eq_false HQ0.out) _ (HD8.out.next (by (repeat (first | with_reducible exact (Below.refl _ _) | with_reducible refine below_pin ?_ ?_ | with_reducible refine Below.alloc ?_ ?_ _ | with_reducible refine Below.setCell ?_ ?_ _ | with_reducible refine Below.drew ?_)); all_goals (first | omega | (simp only [World.size_alloc, pin_size, World.size_drew, World.size_setCell] <;> omega)))) (HD2.out.next (by (repeat (first | with_reducible exact (Below.refl _ _) | with_reducible refine below_pin ?_ ?_ | with_reducible refine Below.alloc ?_ ?_ _ | with_reducible refine Below.setCell ?_ ?_ _ | with_reducible refine Below.drew ?_)); all_goals (first | omega | (simp only [World.size_alloc, pin_size, World.size_drew, World.size_setCell] <;> omega))))).mono ?_
            rintro e x9 ⟨rfl, hb9⟩
            have HB9 : Hid (Below w.heap.size w x9) := Below.trans (by (repeat (first | with_reducible exact HB8.out | with_reducible refine below_pin ?_ ?_ | with_reducible refine Below.alloc ?_ ?_ _ | with_reducible refine Below.setCell ?_ ?_ _ | with_reducible refine Below.drew ?_)); all_goals (first | omega | (simp only [World.size_alloc, pin_size, World.size_drew, World.size_setCell] <;> omega))) (hb9.mono (by (first | omega | (simp only [World.size_alloc, pin_size, World.size_drew, World.size_setCell] <;> omega))))
            have hz9 := HB9.out.size
            have HD2n := Lib.hid (HD2.out.next (Below.trans (by (repeat (first | with_reducible exact (Below.refl _ _) | with_reducible refine below_pin ?_ ?_ | with_reducible refine Below.alloc ?_ ?_ _ | with_reducible refine Below.setCell ?_ ?_ _ | with_reducible refine Below.drew ?_)); all_goals (first | omega | (simp only [World.size_alloc, pin_size, World.size_drew, World.size_setCell] <;> omega))) (hb9.mono (by (first | omega | (simp only [World.size_alloc, pin_size, World.size_drew, World.size_setCell] <;> omega))))))
            clear HD2
            have HD2 := HD2n
            clear HD2n
            have HD7n := Lib.hid (HD7.out.next (Below.trans (by (repeat (first | with_reducible exact (Below.refl _ _) | with_reducible refine below_pin ?_ ?_ | with_reducible refine Below.alloc ?_ ?_ _ | with_reducible refine Below.setCell ?_ ?_ _ | with_reducible refine Below.drew ?_)); all_goals (first | omega | (simp only [World.size_alloc, pin_size, World.size_drew, World.size_setCell] <;> omega))) (hb9.mono (by (first | omega | (simp only [World.size_alloc, pin_size, World.size_drew, World.size_setCell] <;> omega))))))
            clear HD7
            have HD7 := HD7n
            clear HD7n
            clear hb9
            clear HD8
            go_wp2_with fail
            have HT : Hid (Dn (x9.alloc (.cells #[.int .u64 2] 23)) (some ⟨x9.heap.size, 0, none⟩) 1 2) := Lib.hid (dn_lit 2 dig2 (heap_alloc_new _ _))
            refine (P_any _).mono ?_
            rintro e x10 ⟨⟨A9, c9, rfl, hd9⟩, hb10⟩
            have HB10 : Hid (Below w.heap.size w x10) := Below.trans (by (repeat (first | with_reducible exact HB9.out | with_reducible refine below_pin ?_ ?_ | with_reducible refine Below.alloc ?_ ?_ _ | with_reducible refine Below.setCell ?_ ?_ _ | with_reducible refine Below.drew ?_)); all_goals (first | omega | (simp only [World.size_alloc, pin_size, World.size_drew, World.size_setCell] <;> omega))) (hb10.mono (by (first | omega | (simp only [World.size_alloc, pin_size, World.size_drew, World.size_setCell] <;> omega))))
            have hz10 := HB10.out.size
            have HD2n := Lib.hid (HD2.out.next (Below.trans (by (repeat (first | with_reducible exact (Below.refl _ _) | with_reducible refine below_pin ?_ ?_ | with_reducible refine Below.alloc ?_ ?_ _ | with_reducible refine Below.setCell ?_ ?_ _ | with_reducible refine Below.drew ?_)); all_goals (first | omega | (simp only [World.size_alloc, pin_size, World.size_drew, World.size_setCell] <;> omega))) (hb10.mono (by (first | omega | (simp only [World.size_alloc, pin_size, World.size_drew, World.size_setCell] <;> omega))))))
            clear HD2
            have HD2 := HD2n
            clear HD2n
            have HD7n := Lib.hid (HD7.out.next (Below.trans (by (repeat (first | with_reducible exact (Below.refl _ _) | with_reducible refine below_pin ?_ ?_ | with_reducible refine Below.alloc ?_ ?_ _ | with_reducible refine Below.setCell ?_ ?_ _ | with_reducible refine Below.drew ?_)); all_goals (first | omega | (simp only [World.size_alloc, pin_size, World.size_drew, World.size_setCell] <;> omega))) (hb10.mono (by (first | omega | (simp only [World.size_alloc, pin_size, World.size_drew, World.size_setCell] <;> omega))))))
            clear HD7
            have HD7 := HD7n
            clear HD7n
            have HTn := Lib.hid (HT.out.next (Below.trans (by (repeat (first | with_reducible exact (Below.refl _ _) | with_reducible refine below_pin ?_ ?_ | with_reducible refine Below.alloc ?_ ?_ _ | with_reducible refine Below.setCell ?_ ?_ _ | with_reducible refine Below.drew ?_)); all_goals (first | omega | (simp only [World.size_alloc, pin_size, World.size_drew, World.size_setCell] <;> omega))) (hb10.mono (by (first | omega | (simp only [World.size_alloc, pin_size, World.size_drew, World.size_setCell] <;> omega))))))
            clear HT
            have HT := HTn
            clear HTn
            clear hb10
            have HD9 := Lib.hid hd9
            clear hd9
            go_wp2_with fail
            refine (minusZ A9 c9 Num.p x10.heap.size 1 p1 (by rw [digP]; decide) dig1 (by decide) HE1.out.1 _ (HD9.out.next (by (repeat (first | with_reducible exact (Below.refl _ _) | with_reducible refine below_pin ?_ ?_ | with_reducible refine Below.alloc ?_ ?_ _ | with_reducible refine Below.setCell ?_ ?_ _ | with_reducible refine Below.drew ?_)); all_goals (first | omega | (simp only [World.size_alloc, pin_size, World.size_drew, World.size_setCell] <;> omega)))) (heap_alloc_new _ _)).mono ?_
            rintro e x11 ⟨⟨A10, c10, rfl, hd10⟩, hb11⟩
            have HB11 : Hid (Below w.heap.size w x11) := Below.trans (by (repeat (first | with_reducible exact HB10.out | with_reducible refine below_pin ?_ ?_ | with_reducible refine Below.alloc ?_ ?_ _ | with_reducible refine Below.setCell ?_ ?_ _ | with_reducible refine Below.drew ?_)); all_goals (first | omega | (simp only [World.size_alloc, pin_size, World.size_drew, World.size_setCell] <;> omega))) (hb11.mono (by (first | omega | (simp only [World.size_alloc, pin_size, World.size_drew, World.size_setCell] <;> omega))))
            have hz11 := HB11.out.size
            have HD2n := Lib.hid (HD2.out.next (Below.trans (by (repeat (first | with_reducible exact (Below.refl _ _) | with_reducible refine below_pin ?_ ?_ | with_reducible refine Below.alloc ?_ ?_ _ | with_reducible refine Below.setCell ?_ ?_ _ | with_reducible refine Below.drew ?_)); all_goals (first | omega | (simp only [World.size_alloc, pin_size, World.size_drew, World.size_setCell] <;> omega))) (hb11.mono (by (first | omega | (simp only [World.size_alloc, pin_size, World.size_drew, World.size_setCell] <;> omega))))))
            clear HD2
            have HD2 := HD2n
            clear HD2n
            have HD7n := Lib.hid (HD7.out.next (Below.trans (by (repeat (first | with_reducible exact (Below.refl _ _) | with_reducible refine below_pin ?_ ?_ | with_reducible refine Below.alloc ?_ ?_ _ | with_reducible refine Below.setCell ?_ ?_ _ | with_reducible refine Below.drew ?_)); all_goals (first | omega | (simp only [World.size_alloc, pin_size, World.size_drew, World.size_setCell] <;> omega))) (hb11.mono (by (first | omega | (simp only [World.size_alloc, pin_size, World.size_drew, World.size_setCell] <;> omega))))))
            clear HD7
            have HD7 := HD7n
            clear HD7n
            have HTn := Lib.hid (HT.out.next (Below.trans (by (repeat (first | with_reducible exact (Below.refl _ _) | with_reducible refine below_pin ?_ ?_ | with_reducible refine Below.alloc ?_ ?_ _ | with_reducible refine Below.setCell ?_ ?_ _ | with_reducible refine Below.drew ?_)); all_goals (first | omega | (simp only [World.size_alloc, pin_size, World.size_drew, World.size_setCell] <;> omega))) (hb11.mono (by (first | omega | (simp only [World.size_alloc, pin_size, World.size_drew, World.size_setCell] <;> omega))))))
            clear HT
            have HT := HTn
            clear HTn
            clear hb11
            have HD10 := Lib.hid hd10
            clear hd10 HD9
            go_wp2_with fail
            refine (halfZ A10 c10 p1 2 m HE1.out.2.1 (by decide) HE1.out.2.2.1 _ (HD10.out.next (by (repeat (first | with_reducible exact (Below.refl _ _) | with_reducible refine below_pin ?_ ?_ | with_reducible refine Below.alloc ?_ ?_ _ | with_reducible refine Below.setCell ?_ ?_ _ | with_reducible refine Below.drew ?_)); all_goals (first | omega | (simp only [World.size_alloc, pin_size, World.size_drew, World.size_setCell] <;> omega))))).mono ?_
            rintro e x12 ⟨⟨A11, c11, rfl, hd11⟩, hb12⟩
            have HB12 : Hid (Below w.heap.size w x12) := Below.trans (by (repeat (first | with_reducible exact HB11.out | with_reducible refine below_pin ?_ ?_ | with_reducible refine Below.alloc ?_ ?_ _ | with_reducible refine Below.setCell ?_ ?_ _ | with_reducible refine Below.drew ?_)); all_goals (first | omega | (simp only [World.size_alloc, pin_size, World.size_drew, World.size_setCell] <;> omega))) (hb12.mono (by (first | omega | (simp only [World.size_alloc, pin_size, World.size_drew, World.size_setCell] <;> omega))))
            have hz12 := HB12.out.size
            have HD2n := Lib.hid (HD2.out.next (Below.trans (by (repeat (first | with_reducible exact (Below.refl _ _) | with_reducible refine below_pin ?_ ?_ | with_reducible refine Below.alloc ?_ ?_ _ | with_reducible refine Below.setCell ?_ ?_ _ | with_reducible refine Below.drew ?_)); all_goals (first | omega | (simp only [World.size_alloc, pin_size, World.size_drew, World.size_setCell] <;> omega))) (hb12.mono (by (first | omega | (simp only [World.size_alloc, pin_size, World.size_drew, World.size_setCell] <;> omega))))))
            clear HD2
            have HD2 := HD2n
            clear HD2n
            have HD7n := Lib.hid (HD7.out.next (Below.trans (by (repeat (first | with_reducible exact (Below.refl _ _) | with_reducible refine below_pin ?_ ?_ | with_reducible refine Below.alloc ?_ ?_ _ | with_reducible refine Below.setCell ?_ ?_ _ | with_reducible refine Below.drew ?_)); all_goals (first | omega | (simp only [World.size_alloc, pin_size, World.size_drew, World.size_setCell] <;> omega))) (hb12.mono (by (first | omega | (simp only [World.size_alloc, pin_size, World.size_drew, World.size_setCell] <;> omega))))))
            clear HD7
            have HD7 := HD7n
            clear HD7n
            have HTn := Lib.hid (HT.out.next (Below.trans (by (repeat (first | with_reducible exact (Below.refl _ _) | with_reducible refine below_pin ?_ ?_ | with_reducible refine Below.alloc ?_ ?_ _ | with_reducible refine Below.setCell ?_ ?_ _ | with_reducible refine Below.drew ?_)); all_goals (first | omega | (simp only [World.size_alloc, pin_size, World.size_drew, World.size_setCell] <;> omega))) (hb12.mono (by (first | omega | (simp only [World.size_alloc, pin_size, World.size_drew, World.size_setCell] <;> omega))))))
            clear HT
            have HT := HTn
            clear HTn
            clear hb12
            have HD11 := Lib.hid hd11
            clear hd11 HD10
            go_wp2_with fail
            refine (Bytes_any A11 c11 m (p_16 HE1.out.2.2.2.1) _ (HD11.out.next (by (repeat (first | with_reducible exact (Below.refl _ _) | with_reducible refine below_pin ?_ ?_ | with_reducible refine Below.alloc ?_ ?_ _ | with_reducible refine Below.setCell ?_ ?_ _ | with_reducible refine Below.drew ?_)); all_goals (first | omega | (simp only [World.size_alloc, pin_size, World.size_drew, World.size_setCell] <;> omega))))).mono ?_
            rintro e x13 ⟨⟨b12, rfl, hrd⟩, hb13⟩
            have HB13 : Hid (Below w.heap.size w x13) := Below.trans (by (repeat (first | with_reducible exact HB12.out | with_reducible refine below_pin ?_ ?_ | with_reducible refine Below.alloc ?_ ?_ _ | with_reducible refine Below.setCell ?_ ?_ _ | with_reducible refine Below.drew ?_)); all_goals (first | omega | (simp only [World.size_alloc, pin_size, World.size_drew, World.size_setCell] <;> omega))) (hb13.mono (by (first | omega | (simp only [World.size_alloc, pin_size, World.size_drew, World.size_setCell] <;> omega))))
            have hz13 := HB13.out.size
            have HD2n := Lib.hid (HD2.out.next (Below.trans (by (repeat (first | with_reducible exact (Below.refl _ _) | with_reducible refine below_pin ?_ ?_ | with_reducible refine Below.alloc ?_ ?_ _ | with_reducible refine Below.setCell ?_ ?_ _ | with_reducible refine Below.drew ?_)); all_goals (first | omega | (simp only [World.size_alloc, pin_size, World.size_drew, World.size_setCell] <;> omega))) (hb13.mono (by (first | omega | (simp only [World.size_alloc, pin_size, World.size_drew, World.size_setCell] <;> omega))))))
            clear HD2
            have HD2 := HD2n
            clear HD2n
            have HD7n := Lib.hid (HD7.out.next (Below.trans (by (repeat (first | with_reducible exact (Below.refl _ _) | with_reducible refine below_pin ?_ ?_ | with_reducible refine Below.alloc ?_ ?_ _ | with_reducible refine Below.setCell ?_ ?_ _ | with_reducible refine Below.drew ?_)); all_goals (first | omega | (simp only [World.size_alloc, pin_size, World.size_drew, World.size_setCell] <;> omega))) (hb13.mono (by (first | omega | (simp only [World.size_alloc, pin_size, World.size_drew, World.size_setCell] <;> omega))))))
            clear HD7
            have HD7 := HD7n
            clear HD7n
            have HTn := Lib.hid (HT.out.next (Below.trans (by (repeat (first | with_reducible exact (Below.refl _ _) | with_reducible refine below_pin ?_ ?_ | with_reducible refine Below.alloc ?_ ?_ _ | with_reducible refine Below.setCell ?_ ?_ _ | with_reducible refine Below.drew ?_)); all_goals (first | omega | (simp only [World.size_alloc, pin_size, World.size_drew, World.size_setCell] <;> omega))) (hb13.mono (by (first | omega | (simp only [World.size_alloc, pin_size, World.size_drew, World.size_setCell] <;> omega))))))
            clear HT
            have HT := HTn
            clear HTn
            clear hb13
            have HRD := Lib.hid hrd
            clear hrd HD11
            go_wp2_with fail
            refine (PowLit x9.heap.size 2 b12 m im dig2 (by decide) HE1.out.2.2.2.1 HE1.out.2.2.2.2.1 _ (HT.out.next (by (repeat (first | with_reducible exact (Below.refl _ _) | with_reducible refine below_pin ?_ ?_ | with_reducible refine Below.alloc ?_ ?_ _ | with_reducible refine Below.setCell ?_ ?_ _ | with_reducible refine Below.drew ?_)); all_goals (first | omega | (simp only [World.size_alloc, pin_size, World.size_drew, World.size_setCell] <;> omega)))) HRD.out).mono ?_
            rintro e x14 ⟨⟨A13, c13, rfl, hd13⟩, hb14⟩
            have HB14 : Hid (Below w.heap.size w x14) := Below.trans (by (repeat (first | with_reducible exact HB13.out | with_reducible refine below_pin ?_ ?_ | with_reducible refine Below.alloc ?_ ?_ _ | with_reducible refine Below.setCell ?_ ?_ _ | with_reducible refine Below.drew ?_)); all_goals (first | omega | (simp only [World.size_alloc, pin_size, World.size_drew, World.size_setCell] <;> omega))) (hb14.mono (by (first | omega | (simp only [World.size_alloc, pin_size, World.size_drew, World.size_setCell] <;> omega))))
            have hz14 := HB14.out.size
            have HD2n := Lib.hid (HD2.out.next (Below.trans (by (repeat (first | with_reducible exact (Below.refl _ _) | with_reducible refine below_pin ?_ ?_ | with_reducible refine Below.alloc ?_ ?_ _ | with_reducible refine Below.setCell ?_ ?_ _ | with_reducible refine Below.drew ?_)); all_goals (first | omega | (simp only [World.size_alloc, pin_size, World.size_drew, World.size_setCell] <;> omega))) (hb14.mono (by (first | omega | (simp only [World.size_alloc, pin_size, World.size_drew, World.size_setCell] <;> omega))))))
            clear HD2
            have HD2 := HD2n
            clear HD2n
            have HD7n := Lib.hid (HD7.out.next (Below.trans (by (repeat (first | with_reducible exact (Below.refl _ _) | with_reducible refine below_pin ?_ ?_ | with_reducible refine Below.alloc ?_ ?_ _ | with_reducible refine Below.setCell ?_ ?_ _ | with_reducible refine Below.drew ?_)); all_goals (first | omega | (simp only [World.size_alloc, pin_size, World.size_drew, World.size_setCell] <;> omega))) (hb14.mono (by (first | omega | (simp only [World.size_alloc, pin_size, World.size_drew, World.size_setCell] <;> omega))))))
            clear HD7
            have HD7 := HD7n
            clear HD7n
            have HTn := Lib.hid (HT.out.next (Below.trans (by (repeat (first | with_reducible exact (Below.refl _ _) | with_reducible refine below_pin ?_ ?_ | with_reducible refine Below.alloc ?_ ?_ _ | with_reducible refine Below.setCell ?_ ?_ _ | with_reducible refine Below.drew ?_)); all_goals (first | omega | (simp only [World.size_alloc, pin_size, World.size_drew, World.size_setCell] <;> omega))) (hb14.mono (by (first | omega | (simp only [World.size_alloc, pin_size, World.size_drew, World.size_setCell] <;> omega))))))
            clear HT
            have HT := HTn
            clear HTn
            clear hb14
            have HD13 := Lib.hid hd13
            clear hd13 HRD HT
            go_wp2_with fail
            refine (MulZ A7 A13 c7 c13 r0 im S HR.out.1 HE1.out.2.2.2.2.2.1 HE1.out.2.2.2.2.2.2 _ (HD7.out.next (by (repeat (first | with_reducible exact (Below.refl _ _) | with_reducible refine below_pin ?_ ?_ | with_reducible refine Below.alloc ?_ ?_ _ | with_reducible refine Below.setCell ?_ ?_ _ | with_reducible refine Below.drew ?_)); all_goals (first | omega | (simp only [World.size_alloc, pin_size, World.size_drew, World.size_setCell] <;> omega)))) (HD13.out.next (by (repeat (first | with_reducible exact (Below.refl _ _) | with_reducible refine below_pin ?_ ?_ | with_reducible refine Below.alloc ?_ ?_ _ | with_reducible refine Below.setCell ?_ ?_ _ | with_reducible refine Below.drew ?_)); all_goals (first | omega | (simp only [World.size_alloc, pin_size, World.size_drew, World.size_setCell] <;> omega))))).mono ?_
            rintro e x15 ⟨⟨A14, c14, rfl, hd14⟩, hb15⟩
            have HB15 : Hid (Below w.heap.size w x15) := Below.trans (by (repeat (first | with_reducible exact HB14.out | with_reducible refine below_pin ?_ ?_ | with_reducible refine Below.alloc ?_ ?_ _ | with_reducible refine Below.setCell ?_ ?_ _ | with_reducible refine Below.drew ?_)); all_goals (first | omega | (simp only [World.size_alloc, pin_size, World.size_drew, World.size_setCell] <;> omega))) (hb15.mono (by (first | omega | (simp only [World.size_alloc, pin_size, World.size_drew, World.size_setCell] <;> omega))))
            have hz15 := HB15.out.size
            have HD2n := Lib.hid (HD2.out.next (Below.trans (by (repeat (first | with_reducible exact (Below.refl _ _) | with_reducible refine below_pin ?_ ?_ | with_reducible refine Below.alloc ?_ ?_ _ | with_reducible refine Below.setCell ?_ ?_ _ | with_reducible refine Below.drew ?_)); all_goals (first | omega | (simp only [World.size_alloc, pin_size, World.size_drew, World.size_setCell] <;> omega))) (hb15.mono (by (first | omega | (simp only [World.size_alloc, pin_size, World.size_drew, World.size_setCell] <;> omega))))))
            clear HD2
            have HD2 := HD2n
            clear HD2n
            clear hb15
            have HD14 := Lib.hid hd14
            clear hd14 HD13 HD7
            go_wp2_with fail
            refine (MulZ A14 A14 c14 c14 S S s1 HR.out.2.2.2.1 HR.out.2.2.2.1 HR.out.2.2.2.2.1 _ (HD14.out.next (by (repeat (first | with_reducible exact (Below.refl _ _) | with_reducible refine below_pin ?_ ?_ | with_reducible refine Below.alloc ?_ ?_ _ | with_reducible refine Below.setCell ?_ ?_ _ | with_reducible refine Below.drew ?_)); all_goals (first | omega | (simp only [World.size_alloc, pin_size, World.size_drew, World.size_setCell] <;> omega)))) (HD14.out.next (by (repeat (first | with_reducible exact (Below.refl _ _) | with_reducible refine below_pin ?_ ?_ | with_reducible refine Below.alloc ?_ ?_ _ | with_reducible refine Below.setCell ?_ ?_ _ | with_reducible refine Below.drew ?_)); all_goals (first | omega | (simp only [World.size_alloc, pin_size, World.size_drew, World.size_setCell] <;> omega))))).mono ?_
            rintro e x16 ⟨⟨A15, c15, rfl, hd15⟩, hb16⟩
            have HB16 : Hid (Below w.heap.size w x16) := Below.trans (by (repeat (first | with_reducible exact HB15.out | with_reducible refine below_pin ?_ ?_ | with_reducible refine Below.alloc ?_ ?_ _ | with_reducible refine Below.setCell ?_ ?_ _ | with_reducible refine Below.drew ?_)); all_goals (first | omega | (simp only [World.size_alloc, pin_size, World.size_drew, World.size_setCell] <;> omega))) (hb16.mono (by (first | omega | (simp only [World.size_alloc, pin_size, World.size_drew, World.size_setCell] <;> omega))))
            have hz16 := HB16.out.size
            have HD2n := Lib.hid (HD2.out.next (Below.trans (by (repeat (first | with_reducible exact (Below.refl _ _) | with_reducible refine below_pin ?_ ?_ | with_reducible refine Below.alloc ?_ ?_ _ | with_reducible refine Below.setCell ?_ ?_ _ | with_reducible refine Below.drew ?_)); all_goals (first | omega | (simp only [World.size_alloc, pin_size, World.size_drew, World.size_setCell] <;> omega))) (hb16.mono (by (first | omega | (simp only [World.size_alloc, pin_size, World.size_drew, World.size_setCell] <;> omega))))))
            clear HD2
            have HD2 := HD2n
            clear HD2n
            have HD14n := Lib.hid (HD14.out.next (Below.trans (by (repeat (first | with_reducible exact (Below.refl _ _) | with_reducible refine below_pin ?_ ?_ | with_reducible refine Below.alloc ?_ ?_ _ | with_reducible refine Below.setCell ?_ ?_ _ | with_reducible refine Below.drew ?_)); all_goals (first | omega | (simp only [World.size_alloc, pin_size, World.size_drew, World.size_setCell] <;> omega))) (hb16.mono (by (first | omega | (simp only [World.size_alloc, pin_size, World.size_drew, World.size_setCell] <;> omega))))))
            clear HD14
            have HD14 := HD14n
            clear HD14n
            clear hb16
            have HD15 := Lib.hid hd15
            clear hd15
            go_wp2_with fail
            refine (SameZ A15 A2 c15 c2 s1 q true HR.out.2.2.2.2.2 HQ.out.2.2.2 (decide_eq_true HQ1.out) _ (HD15.out.next (by (repeat (first | with_reducible exact (Below.refl _ _) | with_reducible refine below_pin ?_ ?_ | with_reducible refine Below.alloc ?_ ?_ _ | with_reducible refine Below.setCell ?_ ?_ _ | with_reducible refine Below.drew ?_)); all_goals (first | omega | (simp only [World.size_alloc, pin_size, World.size_drew, World.size_setCell] <;> omega)))) (HD2.out.next (by (repeat (first | with_reducible exact (Below.refl _ _) | with_reducible refine below_pin ?_ ?_ | with_reducible refine Below.alloc ?_ ?_ _ | with_reducible refine Below.setCell ?_ ?_ _ | with_reducible refine Below.drew ?_)); all_goals (first | omega | (simp only [World.size_alloc, pin_size, World.size_drew, World.size_setCell] <;> omega))))).mono ?_
            rintro e x17 ⟨rfl, hb17⟩
            have HB17 : Hid (Below w.heap.size w x17) := Below.trans (by (repeat (first | with_reducible exact HB16.out | with_reducible refine below_pin ?_ ?_ | with_reducible refine Below.alloc ?_ ?_ _ | with_reducible refine Below.setCell ?_ ?_ _ | with_reducible refine Below.drew ?_)); all_goals (first | omega | (simp only [World.size_alloc, pin_size, World.size_drew, World.size_setCell] <;> omega))) (hb17.mono (by (first | omega | (simp only [World.size_alloc, pin_size, World.size_drew, World.size_setCell] <;> omega))))
            have hz17 := HB17.out.size
            have HD14n := Lib.hid (HD14.out.next (Below.trans (by (repeat (first | with_reducible exact (Below.refl _ _) | with_reducible refine below_pin ?_ ?_ | with_reducible refine Below.alloc ?_ ?_ _ | with_reducible refine Below.setCell ?_ ?_ _ | with_reducible refine Below.drew ?_)); all_goals (first | omega | (simp only [World.size_alloc, pin_size, World.size_drew, World.size_setCell] <;> omega))) (hb17.mono (by (first | omega | (simp only [World.size_alloc, pin_size, World.size_drew, World.size_setCell] <;> omega))))))
            clear HD14
            have HD14 := HD14n
            clear HD14n
            clear hb17
            clear HD15 HD2
            rw [← HLS.out]
            obtain ⟨bb, off, hAA, hbw, hcell⟩ := HD14.out.cell (i := 0) (by rw [← HLS.out]; exact HLZ.out)
            subst hAA
            have hc0 := hcell 0 (by rw [← HLS.out]; exact HLZ.out)
            rw [Nat.add_zero] at hc0
            have hc1 : x17.cell? ⟨bb, off, none⟩ = some (.int .u64 (dd : Int)) := by rw [HDD.out]; exact hc0
            clear hcell hc0
            go_wp2_with fail
            refine bodyPost_ret (v := .tuple #[.slice (some ⟨bb, off, none⟩) LS c14, .bool true]) ?_ rfl ⟨⟨(some ⟨bb, off, none⟩), c14, S, true, by rw [← HLS.out], (HD14.out.next (by (repeat (first | with_reducible exact (Below.refl _ _) | with_reducible refine below_pin ?_ ?_ | with_reducible refine Below.alloc ?_ ?_ _ | with_reducible refine Below.setCell ?_ ?_ _ | with_reducible refine Below.drew ?_)); all_goals (first | omega | (simp only [World.size_alloc, pin_size, World.size_drew, World.size_setCell] <;> omega)))), HR.out.2.2.2.1, (decide_eq_true (HOK.out.1.mp HQ1.out)).symm, HV1.out⟩, (by (repeat (first | with_reducible exact HB17.out | with_reducible refine below_pin ?_ ?_ | with_reducible refine Below.alloc ?_ ?_ _ | with_reducible refine Below.setCell ?_ ?_ _ | with_reducible refine Below.drew ?_)); all_goals (first | omega | (simp only [World.size_alloc, pin_size, World.size_drew, World.size_setCell] <;> omega)))⟩
            · simp [results, Try.results27, go_sem]
      · have HQ1 := Lib.hid hb1
        clear hb1
        go_enter Try.func27, Try.ntmps27
        go_wp2_with fail
        refine (InvZ B d V L vi HV.out HL.out HQ.out.1 _ HY.out).mono ?_
        rintro e x1 ⟨⟨A1, c1, rfl, hd1⟩, hb1⟩
        have HB1 : Hid (Below w.heap.size w x1) := Below.trans (by (repeat (first | with_reducible exact (Below.refl _ _) | with_reducible refine below_pin ?_ ?_ | with_reducible refine Below.alloc ?_ ?_ _ | with_reducible refine Below.setCell ?_ ?_ _ | with_reducible refine Below.drew ?_)); all_goals (first | omega | (simp only [World.size_alloc, pin_size, World.size_drew, World.size_setCell] <;> omega))) (hb1.mono (by (first | omega | (simp only [World.size_alloc, pin_size, World.size_drew, World.size_setCell] <;> omega))))
        have hz1 := HB1.out.size
        have HXn := Lib.hid (HX.out.next (Below.trans (by (repeat (first | with_reducible exact (Below.refl _ _) | with_reducible refine below_pin ?_ ?_ | with_reducible refine Below.alloc ?_ ?_ _ | with_reducible refine Below.setCell ?_ ?_ _ | with_reducible refine Below.drew ?_)); all_goals (first | omega | (simp only [World.size_alloc, pin_size, World.size_drew, World.size_setCell] <;> omega))) (hb1.mono (by (first | omega | (simp only [World.size_alloc, pin_size, World.size_drew, World.size_setCell] <;> omega))))))
        clear HX
        have HX := HXn
        clear HXn
        clear hb1
        have HD1 := Lib.hid hd1
        clear hd1
        go_wp2_with fail
        refine (MulZ A A1 c c1 U vi q HU.out HQ.out.2.1 HQ.out.2.2.1 _ (HX.out.next (by (repeat (first | with_reducible exact (Below.refl _ _) | with_reducible refine below_pin ?_ ?_ | with_reducible refine Below.alloc ?_ ?_ _ | with_reducible refine Below.setCell ?_ ?_ _ | with_reducible refine Below.drew ?_)); all_goals (first | omega | (simp only [World.size_alloc, pin_size, World.size_drew, World.size_setCell] <;> omega)))) (HD1.out.next (by (repeat (first | with_reducible exact (Below.refl _ _) | with_reducible refine below_pin ?_ ?_ | with_reducible refine Below.alloc ?_ ?_ _ | with_reducible refine Below.setCell ?_ ?_ _ | with_reducible refine Below.drew ?_)); all_goals (first | omega | (simp only [World.size_alloc, pin_size, World.size_drew, World.size_setCell] <;> omega))))).mono ?_
        rintro e x2 ⟨⟨A2, c2, rfl, hd2⟩, hb2⟩
        have HB2 : Hid (Below w.heap.size w x2) := Below.trans (by (repeat (first | with_reducible exact HB1.out | with_reducible refine below_pin ?_ ?_ | with_reducible refine Below.alloc ?_ ?_ _ | with_reducible refine Below.setCell ?_ ?_ _ | with_reducible refine Below.drew ?_)); all_goals (first | omega | (simp only [World.size_alloc, pin_size, World.size_drew, World.size_setCell] <;> omega))) (hb2.mono (by (first | omega | (simp only [World.size_alloc, pin_size, World.size_drew, World.size_setCell] <;> omega))))
        have hz2 := HB2.out.size
        clear hb2
        have HD2 := Lib.hid hd2
        clear hd2
        go_wp2_with fail
        refine (P_any _).mono ?_
        rintro e x3 ⟨⟨A3, c3, rfl, hd3⟩, hb3⟩
        have HB3 : Hid (Below w.heap.size w x3) := Below.trans (by (repeat (first | with_reducible exact HB2.out | with_reducible refine below_pin ?_ ?_ | with_reducible refine Below.alloc ?_ ?_ _ | with_reducible refine Below.setCell ?_ ?_ _ | with_reducible refine Below.drew ?_)); all_goals (first | omega | (simp only [World.size_alloc, pin_size, World.size_drew, World.size_setCell] <;> omega))) (hb3.mono (by (first | omega | (simp only [World.size_alloc, pin_size, World.size_drew, World.size_setCell] <;> omega))))
        have hz3 := HB3.out.size
        have HD2n := Lib.hid (HD2.out.next (Below.trans (by (repeat (first | with_reducible exact (Below.refl _ _) | with_reducible refine below_pin ?_ ?_ | with_reducible refine Below.alloc ?_ ?_ _ | with_reducible refine Below.setCell ?_ ?_ _ | with_reducible refine Below.drew ?_)); all_goals (first | omega | (simp only [World.size_alloc, pin_size, World.size_drew, World.size_setCell] <;> omega))) (hb3.mono (by (first | omega | (simp only [World.size_alloc, pin_size, World.size_drew, World.size_setCell] <;> omega))))))
        clear HD2
        have HD2 := HD2n
        clear HD2n
        clear hb3
        have HD3 := Lib.hid hd3
        clear hd3
        go_wp2_with fail
        refine (sumZ A3 c3 Num.p x3.heap.size 3 p3 (by rw [digP]; decide) dig3 HE.out.1 _ (HD3.out.next (by (repeat (first | with_reducible exact (Below.refl _ _) | with_reducible refine below_pin ?_ ?_ | with_reducible refine Below.alloc ?_ ?_ _ | with_reducible refine Below.setCell ?_ ?_ _ | with_reducible refine Below.drew ?_)); all_goals (first | omega | (simp only [World.size_alloc, pin_size, World.size_drew, World.size_setCell] <;> omega)))) (heap_alloc_new _ _)).mono ?_
        rintro e x4 ⟨⟨A4, c4, rfl, hd4⟩, hb4⟩
        have HB4 : Hid (Below w.heap.size w x4) := Below.trans (by (repeat (first | with_reducible exact HB3.out | with_reducible refine below_pin ?_ ?_ | with_reducible refine Below.alloc ?_ ?_ _ | with_reducible refine Below.setCell ?_ ?_ _ | with_reducible refine Below.drew ?_)); all_goals (first | omega | (simp only [World.size_alloc, pin_size, World.size_drew, World.size_setCell] <;> omega))) (hb4.mono (by (first | omega | (simp only [World.size_alloc, pin_size, World.size_drew, World.size_setCell] <;> omega))))
        have hz4 := HB4.out.size
        have HD2n := Lib.hid (HD2.out.next (Below.trans (by (repeat (first | with_reducible exact (Below.refl _ _) | with_reducible refine below_pin ?_ ?_ | with_reducible refine Below.alloc ?_ ?_ _ | with_reducible refine Below.setCell ?_ ?_ _ | with_reducible refine Below.drew ?_)); all_goals (first | omega | (simp only [World.size_alloc, pin_size, World.size_drew, World.size_setCell] <;> omega))) (hb4.mono (by (first | omega | (simp only [World.size_alloc, pin_size, World.size_drew, World.size_setCell] <;> omega))))))
        clear HD2
        have HD2 := HD2n
        clear HD2n
        clear hb4
        have HD4 := Lib.hid hd4
        clear hd4 HD3
        go_wp2_with fail
        refine (halfZ A4 c4 p3 3 e3 HP3.out (by decide) HE.out.2.1 _ (HD4.out.next (by (repeat (first | with_reducible exact (Below.refl _ _) | with_reducible refine below_pin ?_ ?_ | with_reducible refine Below.alloc ?_ ?_ _ | with_reducible refine Below.setCell ?_ ?_ _ | with_reducible refine Below.drew ?_)); all_goals (first | omega | (simp only [World.size_alloc, pin_size, World.size_drew, World.size_setCell] <;> omega))))).mono ?_
        rintro e x5 ⟨⟨A5, c5, rfl, hd5⟩, hb5⟩
        have HB5 : Hid (Below w.heap.size w x5) := Below.trans (by (repeat (first | with_reducible exact HB4.out | with_reducible refine below_pin ?_ ?_ | with_reducible refine Below.alloc ?_ ?_ _ | with_reducible refine Below.setCell ?_ ?_ _ | with_reducible refine Below.drew ?_)); all_goals (first | omega | (simp only [World.size_alloc, pin_size, World.size_drew, World.size_setCell] <;> omega))) (hb5.mono (by (first | omega | (simp only [World.size_alloc, pin_size, World.size_drew, World.size_setCell] <;> omega))))
        have hz5 := HB5.out.size
        have HD2n := Lib.hid (HD2.out.next (Below.trans (by (repeat (first | with_reducible exact (Below.refl _ _) | with_reducible refine below_pin ?_ ?_ | with_reducible refine Below.alloc ?_ ?_ _ | with_reducible refine Below.setCell ?_ ?_ _ | with_reducible refine Below.drew ?_)); all_goals (first | omega | (simp only [World.size_alloc, pin_size, World.size_drew, World.size_setCell] <;> omega))) (hb5.mono (by (first | omega | (simp only [World.size_alloc, pin_size, World.size_drew, World.size_setCell] <;> omega))))))
        clear HD2
        have HD2 := HD2n
        clear HD2n
        clear hb5
        have HD5 := Lib.hid hd5
        clear hd5 HD4
        go_wp2_with fail
        refine (Bytes_any A5 c5 e3 (p_16 HE.out.2.2.1) _ (HD5.out.next (by (repeat (first | with_reducible exact (Below.refl _ _) | with_reducible refine below_pin ?_ ?_ | with_reducible refine Below.alloc ?_ ?_ _ | with_reducible refine Below.setCell ?_ ?_ _ | with_reducible refine Below.drew ?_)); all_goals (first | omega | (simp only [World.size_alloc, pin_size, World.size_drew, World.size_setCell] <;> omega))))).mono ?_
        rintro e x6 ⟨⟨b6, rfl, hrd⟩, hb6⟩
        have HB6 : Hid (Below w.heap.size w x6) := Below.trans (by (repeat (first | with_reducible exact HB5.out | with_reducible refine below_pin ?_ ?_ | with_reducible refine Below.alloc ?_ ?_ _ | with_reducible refine Below.setCell ?_ ?_ _ | with_reducible refine Below.drew ?_)); all_goals (first | omega | (simp only [World.size_alloc, pin_size, World.size_drew, World.size_setCell] <;> omega))) (hb6.mono (by (first | omega | (simp only [World.size_alloc, pin_size, World.size_drew, World.size_setCell] <;> omega))))
        have hz6 := HB6.out.size
        have HD2n := Lib.hid (HD2.out.next (Below.trans (by (repeat (first | with_reducible exact (Below.refl _ _) | with_reducible refine below_pin ?_ ?_ | with_reducible refine Below.alloc ?_ ?_ _ | with_reducible refine Below.setCell ?_ ?_ _ | with_reducible refine Below.drew ?_)); all_goals (first | omega | (simp only [World.size_alloc, pin_size, World.size_drew, World.size_setCell] <;> omega))) (hb6.mono (by (first | omega | (simp only [World.size_alloc, pin_size, World.size_drew, World.size_setCell] <;> omega))))))
        clear HD2
        have HD2 := HD2n
        clear HD2n
        clear hb6
        have HRD := Lib.hid hrd
        clear hrd HD5
        go_wp2_with fail
        refine (PowZ A2 c2 q b6 e3 r0 HQ.out.2.2.2 HE.out.2.2.1 HE.out.2.2.2 _ (HD2.out.next (by (repeat (first | with_reducible exact (Below.refl _ _) | with_reducible refine below_pin ?_ ?_ | with_reducible refine Below.alloc ?_ ?_ _ | with_reducible refine Below.setCell ?_ ?_ _ | with_reducible refine Below.drew ?_)); all_goals (first | omega | (simp only [World.size_alloc, pin_size, World.size_drew, World.size_setCell] <;> omega)))) HRD.out).mono ?_
        rintro e x7 ⟨⟨A7, c7, rfl, hd7⟩, hb7⟩
        have HB7 : Hid (Below w.heap.size w x7) := Below.trans (by (repeat (first | with_reducible exact HB6.out | with_reducible refine below_pin ?_ ?_ | with_reducible refine Below.alloc ?_ ?_ _ | with_reducible refine Below.setCell ?_ ?_ _ | with_reducible refine Below.drew ?_)); all_goals (first | omega | (simp only [World.size_alloc, pin_size, World.size_drew, World.size_setCell] <;> omega))) (hb7.mono (by (first | omega | (simp only [World.size_alloc, pin_size, World.size_drew, World.size_setCell] <;> omega))))
        have hz7 := HB7.out.size
        have HD2n := Lib.hid (HD2.out.next (Below.trans (by (repeat (first | with_reducible exact (Below.refl _ _) | with_reducible refine below_pin ?_ ?_ | with_reducible refine Below.alloc ?_ ?_ _ | with_reducible refine Below.setCell ?_ ?_ _ | with_reducible refine Below.drew ?_)); all_goals (first | omega | (simp only [World.size_alloc, pin_size, World.size_drew, World.size_setCell] <;> omega))) (hb7.mono (by (first | omega | (simp only [World.size_alloc, pin_size, World.size_drew, World.size_setCell] <;> omega))))))
        clear HD2
        have HD2 := HD2n
        clear HD2n
        clear hb7
        have HD7 := Lib.hid hd7
        clear hd7 HRD
        go_wp2_with fail
        refine (MulZ A7 A7 c7 c7 r0 r0 s0 HR.out.1 HR.out.1 HR.out.2.1 _ (HD7.out.next (by (repeat (first | with_reducible exact (Below.refl _ _) | with_reducible refine below_pin ?_ ?_ | with_reducible refine Below.alloc ?_ ?_ _ | with_reducible refine Below.setCell ?_ ?_ _ | with_reducible refine Below.drew ?_)); all_goals (first | omega | (simp only [World.size_alloc, pin_size, World.size_drew, World.size_setCell] <;> omega)))) (HD7.out.next (by (repeat (first | with_reducible exact (Below.refl _ _) | with_reducible refine below_pin ?_ ?_ | with_reducible refine Below.alloc ?_ ?_ _ | with_reducible refine Below.setCell ?_ ?_ _ | with_reducible refine Below.drew ?_)); all_goals (first | omega | (simp only [World.size_alloc, pin_size, World.size_drew, World.size_setCell] <;> omega))))).mono ?_
        rintro e x8 ⟨⟨A8, c8, rfl, hd8⟩, hb8⟩
        have HB8 : Hid (Below w.heap.size w x8) := Below.trans (by (repeat (first | with_reducible exact HB7.out | with_reducible refine below_pin ?_ ?_ | with_reducible refine Below.alloc ?_ ?_ _ | with_reducible refine Below.setCell ?_ ?_ _ | with_reducible refine Below.drew ?_)); all_goals (first | omega | (simp only [World.size_alloc, pin_size, World.size_drew, World.size_setCell] <;> omega))) (hb8.mono (by (first | omega | (simp only [World.size_alloc, pin_size, World.size_drew, World.size_setCell] <;> omega))))
        have hz8 := HB8.out.size
        have HD2n := Lib.hid (HD2.out.next (Below.trans (by (repeat (first | with_reducible exact (Below.refl _ _) | with_reducible refine below_pin ?_ ?_ | with_reducible refine Below.alloc ?_ ?_ _ | with_reducible refine Below.setCell ?_ ?_ _ | with_reducible refine Below.drew ?_)); all_goals (first | omega | (simp only [World.size_alloc, pin_size, World.size_drew, World.size_setCell] <;> omega))) (hb8.mono (by (first | omega | (simp only [World.size_alloc, pin_size, World.size_drew, World.size_setCell] <;> omega))))))
        clear HD2
        have HD2 := HD2n
        clear HD2n
        have HD7n := Lib.hid (HD7.out.next (Below.trans (by (repeat (first | with_reducible exact (Below.refl _ _) | with_reducible refine below_pin ?_ ?_ | with_reducible refine Below.alloc ?_ ?_ _ | with_reducible refine Below.setCell ?_ ?_ _ | with_reducible refine Below.drew ?_)); all_goals (first | omega | (simp only [World.size_alloc, pin_size, World.size_drew, World.size_setCell] <;> omega))) (hb8.mono (by (first | omega | (simp only [World.size_alloc, pin_size, World.size_drew, World.size_setCell] <;> omega))))))
        clear HD7
        have HD7 := HD7n
        clear HD7n
        clear hb8
        have HD8 := Lib.hid hd8
        clear hd8
        go_wp2_with fail
        refine (SameZ A8 A2 c8 c2 s0 q false HR.out.2.2.1 HQ.out.2.2.2 (decide_eq_false HQ0.out) _ (HD8.out.next (by (repeat (first | with_reducible exact (Below.refl _ _) | with_reducible refine below_pin ?_ ?_ | with_reducible refine Below.alloc ?_ ?_ _ | with_reducible refine Below.setCell ?_ ?_ _ | with_reducible refine Below.drew ?_)); all_goals (first | omega | (simp only [World.size_alloc, pin_size, World.size_drew, World.size_setCell] <;> omega)))) (HD2.out.next (by (repeat (first | with_reducible exact (Below.refl _ _) | with_reducible refine below_pin ?_ ?_ | with_reducible refine Below.alloc ?_ ?_ _ | with_reducible refine Below.setCell ?_ ?_ _ | with_reducible refine Below.drew ?_)); all_goals (first | omega | (simp only [World.size_alloc, pin_size, World.size_drew, World.size_setCell] <;> omega))))).mono ?_
        rintro e x9 ⟨rfl, hb9⟩
        have HB9 : Hid (Below w.heap.size w x9) := Below.trans (by (repeat (first | with_reducible exact HB8.out | with_reducible refine below_pin ?_ ?_ | with_reducible refine Below.alloc ?_ ?_ _ | with_reducible refine Below.setCell ?_ ?_ _ | with_reducible refine Below.drew ?_)); all_goals (first | omega | (simp only [World.size_alloc, pin_size, World.size_drew, World.size_setCell] <;> omega))) (hb9.mono (by (first | omega | (simp only [World.size_alloc, pin_size, World.size_drew, World.size_setCell] <;> omega))))
        have hz9 := HB9.out.size
        have HD2n := Lib.hid (HD2.out.next (Below.trans (by (repeat (first | with_reducible exact (Below.refl _ _) | with_reducible refine below_pin ?_ ?_ | with_reducible refine Below.alloc ?_ ?_ _ | with_reducible refine Below.setCell ?_ ?_ _ | with_reducible refine Below.drew ?_)); all_goals (first | omega | (simp only [World.size_alloc, pin_size, World.size_drew, World.size_setCell] <;> omega))) (hb9.mono (by (first | omega | (simp only [World.size_alloc, pin_size, World.size_drew, World.size_setCell] <;> omega))))))
        clear HD2
        have HD2 := HD2n
        clear HD2n
        have HD7n := Lib.hid (HD7.out.next (Below.trans (by (repeat (first | with_reducible exact (Below.refl _ _) | with_reducible refine below_pin ?_ ?_ | with_reducible refine Below.alloc ?_ ?_ _ | with_reducible refine Below.setCell ?_ ?_ _ | with_reducible refine Below.drew ?_)); all_goals (first | omega | (simp only [World.size_alloc, pin_size, World.size_drew, World.size_setCell] <;> omega))) (hb9.mono (by (first | omega | (simp only [World.size_alloc, pin_size, World.size_drew, World.size_setCell] <;> omega))))))
        clear HD7
        have HD7 := HD7n
        clear HD7n
        clear hb9
        clear HD8
        go_wp2_with fail
        have HT : Hid (Dn (x9.alloc (.cells #[.int .u64 2] 23)) (some ⟨x9.heap.size, 0, none⟩) 1 2) := Lib.hid (dn_lit 2 dig2 (heap_alloc_new _ _))
        refine (P_any _).mono ?_
        rintro e x10 ⟨⟨A9, c9, rfl, hd9⟩, hb10⟩
        have HB10 : Hid (Below w.heap.size w x10) := Below.trans (by (repeat (first | with_reducible exact HB9.out | with_reducible refine below_pin ?_ ?_ | with_reducible refine Below.alloc ?_ ?_ _ | with_reducible refine Below.setCell ?_ ?_ _ | with_reducible refine Below.drew ?_)); all_goals (first | omega | (simp only [World.size_alloc, pin_size, World.size_drew, World.size_setCell] <;> omega))) (hb10.mono (by (first | omega | (simp only [World.size_alloc, pin_size, World.size_drew, World.size_setCell] <;> omega))))
        have hz10 := HB10.out.size
        have HD2n := Lib.hid (HD2.out.next (Below.trans (by (repeat (first | with_reducible exact (Below.refl _ _) | with_reducible refine below_pin ?_ ?_ | with_reducible refine Below.alloc ?_ ?_ _ | with_reducible refine Below.setCell ?_ ?_ _ | with_reducible refine Below.drew ?_)); all_goals (first | omega | (simp only [World.size_alloc, pin_size, World.size_drew, World.size_setCell] <;> omega))) (hb10.mono (by (first | omega | (simp only [World.size_alloc, pin_size, World.size_drew, World.size_setCell] <;> omega))))))
        clear HD2
        have HD2 := HD2n
        clear HD2n
        have HD7n := Lib.hid (HD7.out.next (Below.trans (by (repeat (first | with_reducible exact (Below.refl _ _) | with_reducible refine below_pin ?_ ?_ | with_reducible refine Below.alloc ?_ ?_ _ | with_reducible refine Below.setCell ?_ ?_ _ | with_reducible refine Below.drew ?_)); all_goals (first | omega | (simp only [World.size_alloc, pin_size, World.size_drew, World.size_setCell] <;> omega))) (hb10.mono (by (first | omega | (simp only [World.size_alloc, pin_size, World.size_drew, World.size_setCell] <;> omega))))))
        clear HD7
        have HD7 := HD7n
        clear HD7n
        have HTn := Lib.hid (HT.out.next (Below.trans (by (repeat (first | with_reducible exact (Below.refl _ _) | with_reducible refine below_pin ?_ ?_ | with_reducible refine Below.alloc ?_ ?_ _ | with_reducible refine Below.setCell ?_ ?_ _ | with_reducible refine Below.drew ?_)); all_goals (first | omega | (simp only [World.size_alloc, pin_size, World.size_drew, World.size_setCell] <;> omega))) (hb10.mono (by (first | omega | (simp only [World.size_alloc, pin_size, World.size_drew, World.size_setCell] <;> omega))))))
        clear HT
        have HT := HTn
        clear HTn
        clear hb10
        have HD9 := Lib.hid hd9
        clear hd9
        go_wp2_with fail
        refine (minusZ A9 c9 Num.p x10.heap.size 1 p1 (by rw [digP]; decide) dig1 (by decide) HE1.out.1 _ (HD9.out.next (by (repeat (first | with_reducible exact (Below.refl _ _) | with_reducible refine below_pin ?_ ?_ | with_reducible refine Below.alloc ?_ ?_ _ | with_reducible refine Below.setCell ?_ ?_ _ | with_reducible refine Below.drew ?_)); all_goals (first | omega | (simp only [World.size_alloc, pin_size, World.size_drew, World.size_setCell] <;> omega)))) (heap_alloc_new _ _)).mono ?_
        rintro e x11 ⟨⟨A10, c10, rfl, hd10⟩, hb11⟩
        have HB11 : Hid (Below w.heap.size w x11) := Below.trans (by (repeat (first | with_reducible exact HB10.out | with_reducible refine below_pin ?_ ?_ | with_reducible refine Below.alloc ?_ ?_ _ | with_reducible refine Below.setCell ?_ ?_ _ | with_reducible refine Below.drew ?_)); all_goals (first | omega | (simp only [World.size_alloc, pin_size, World.size_drew, World.size_setCell] <;> omega))) (hb11.mono (by (first | omega | (simp only [World.size_alloc, pin_size, World.size_drew, World.size_setCell] <;> omega))))
        have hz11 := HB11.out.size
        have HD2n := Lib.hid (HD2.out.next (Below.trans (by (repeat (first | with_reducible exact (Below.refl _ _) | with_reducible refine below_pin ?_ ?_ | with_reducible refine Below.alloc ?_ ?_ _ | with_reducible refine Below.setCell ?_ ?_ _ | with_reducible refine Below.drew ?_)); all_goals (first | omega | (simp only [World.size_alloc, pin_size, World.size_drew, World.size_setCell] <;> omega))) (hb11.mono (by (first | omega | (simp only [World.size_alloc, pin_size, World.size_drew, World.size_setCell] <;> omega))))))
        clear HD2
        have HD2 := HD2n
        clear HD2n
        have HD7n := Lib.hid (HD7.out.next (Below.trans (by (repeat (first | with_reducible exact (Below.refl _ _) | with_reducible refine below_pin ?_ ?_ | with_reducible refine Below.alloc ?_ ?_ _ | with_reducible refine Below.setCell ?_ ?_ _ | with_reducible refine Below.drew ?_)); all_goals (first | omega | (simp only [World.size_alloc, pin_size, World.size_drew, World.size_setCell] <;> omega))) (hb11.mono (by (first | omega | (simp only [World.size_alloc, pin_size, World.size_drew, World.size_setCell] <;> omega))))))
        clear HD7
        have HD7 := HD7n
        clear HD7n
        have HTn := Lib.hid (HT.out.next (Below.trans (by (repeat (first | with_reducible exact (Below.refl _ _) | with_reducible refine below_pin ?_ ?_ | with_reducible refine Below.alloc ?_ ?_ _ | with_reducible refine Below.setCell ?_ ?_ _ | with_reducible refine Below.drew ?_)); all_goals (first | omega | (simp only [World.size_alloc, pin_size, World.size_drew, World.size_setCell] <;> omega))) (hb11.mono (by (first | omega | (simp only [World.size_alloc, pin_size, World.size_drew, World.size_setCell] <;> omega))))))
        clear HT
        have HT := HTn
        clear HTn
        clear hb11
        have HD10 := Lib.hid hd10
        clear hd10 HD9
        go_wp2_with fail
        refine (halfZ A10 c10 p1 2 m HE1.out.2.1 (by decide) HE1.out.2.2.1 _ (HD10.out.next (by (repeat (first | with_reducible exact (Below.refl _ _) | with_reducible refine below_pin ?_ ?_ | with_reducible refine Below.alloc ?_ ?_ _ | with_reducible refine Below.setCell ?_ ?_ _ | with_reducible refine Below.drew ?_)); all_goals (first | omega | (simp only [World.size_alloc, pin_size, World.size_drew, World.size_setCell] <;> omega))))).mono ?_
        rintro e x12 ⟨⟨A11, c11, rfl, hd11⟩, hb12⟩
        have HB12 : Hid (Below w.heap.size w x12) := Below.trans (by (repeat (first | with_reducible exact HB11.out | with_reducible refine below_pin ?_ ?_ | with_reducible refine Below.alloc ?_ ?_ _ | with_reducible refine Below.setCell ?_ ?_ _ | with_reducible refine Below.drew ?_)); all_goals (first | omega | (simp only [World.size_alloc, pin_size, World.size_drew, World.size_setCell] <;> omega))) (hb12.mono (by (first | omega | (simp only [World.size_alloc, pin_size, World.size_drew, World.size_setCell] <;> omega))))
        have hz12 := HB12.out.size
        have HD2n := Lib.hid (HD2.out.next (Below.trans (by (repeat (first | with_reducible exact (Below.refl _ _) | with_reducible refine below_pin ?_ ?_ | with_reducible refine Below.alloc ?_ ?_ _ | with_reducible refine Below.setCell ?_ ?_ _ | with_reducible refine Below.drew ?_)); all_goals (first | omega | (simp only [World.size_alloc, pin_size, World.size_drew, World.size_setCell] <;> omega))) (hb12.mono (by (first | omega | (simp only [World.size_alloc, pin_size, World.size_drew, World.size_setCell] <;> omega))))))
        clear HD2
        have HD2 := HD2n
        clear HD2n
        have HD7n := Lib.hid (HD7.out.next (Below.trans (by (repeat (first | with_reducible exact (Below.refl _ _) | with_reducible refine below_pin ?_ ?_ | with_reducible refine Below.alloc ?_ ?_ _ | with_reducible refine Below.setCell ?_ ?_ _ | with_reducible refine Below.drew ?_)); all_goals (first | omega | (simp only [World.size_alloc, pin_size, World.size_drew, World.size_setCell] <;> omega))) (hb12.mono (by (first | omega | (simp only [World.size_alloc, pin_size, World.size_drew, World.size_setCell] <;> omega))))))
        clear HD7
        have HD7 := HD7n
        clear HD7n
        have HTn := Lib.hid (HT.out.next (Below.trans (by (repeat (first | with_reducible exact (Below.refl _ _) | with_reducible refine below_pin ?_ ?_ | with_reducible refine Below.alloc ?_ ?_ _ | with_reducible refine Below.setCell ?_ ?_ _ | with_reducible refine Below.drew ?_)); all_goals (first | omega | (simp only [World.size_alloc, pin_size, World.size_drew, World.size_setCell] <;> omega))) (hb12.mono (by (first | omega | (simp only [World.size_alloc, pin_size, World.size_drew, World.size_setCell] <;> omega))))))
        clear HT
        have HT := HTn
        clear HTn
        clear hb12
        have HD11 := Lib.hid hd11
        clear hd11 HD10
        go_wp2_with fail
        refine (Bytes_any A11 c11 m (p_16 HE1.out.2.2.2.1) _ (HD11.out.next (by (repeat (first | with_reducible exact (Below.refl _ _) | with_reducible refine below_pin ?_ ?_ | with_reducible refine Below.alloc ?_ ?_ _ | with_reducible refine Below.setCell ?_ ?_ _ | with_reducible refine Below.drew ?_)); all_goals (first | omega | (simp only [World.size_alloc, pin_size, World.size_drew, World.size_setCell] <;> omega))))).mono ?_
        rintro e x13 ⟨⟨b12, rfl, hrd⟩, hb13⟩
        have HB13 : Hid (Below w.heap.size w x13) := Below.trans (by (repeat (first | with_reducible exact HB12.out | with_reducible refine below_pin ?_ ?_ | with_reducible refine Below.alloc ?_ ?_ _ | with_reducible refine Below.setCell ?_ ?_ _ | with_reducible refine Below.drew ?_)); all_goals (first | omega | (simp only [World.size_alloc, pin_size, World.size_drew, World.size_setCell] <;> omega))) (hb13.mono (by (first | omega | (simp only [World.size_alloc, pin_size, World.size_drew, World.size_setCell] <;> omega))))
        have hz13 := HB13.out.size
        have HD2n := Lib.hid (HD2.out.next (Below.trans (by (repeat (first | with_reducible exact (Below.refl _ _) | with_reducible refine below_pin ?_ ?_ | with_reducible refine Below.alloc ?_ ?_ _ | with_reducible refine Below.setCell ?_ ?_ _ | with_reducible refine Below.drew ?_)); all_goals (first | omega | (simp only [World.size_alloc, pin_size, World.size_drew, World.size_setCell] <;> omega))) (hb13.mono (by (first | omega | (simp only [World.size_alloc, pin_size, World.size_drew, World.size_setCell] <;> omega))))))
        clear HD2
        have HD2 := HD2n
        clear HD2n
        have HD7n := Lib.hid (HD7.out.next (Below.trans (by (repeat (first | with_reducible exact (Below.refl _ _) | with_reducible refine below_pin ?_ ?_ | with_reducible refine Below.alloc ?_ ?_ _ | with_reducible refine Below.setCell ?_ ?_ _ | with_reducible refine Below.drew ?_)); all_goals (first | omega | (simp only [World.size_alloc, pin_size, World.size_drew, World.size_setCell] <;> omega))) (hb13.mono (by (first | omega | (simp only [World.size_alloc, pin_size, World.size_drew, World.size_setCell] <;> omega))))))
        clear HD7
        have HD7 := HD7n
        clear HD7n
        have HTn := Lib.hid (HT.out.next (Below.trans (by (repeat (first | with_reducible exact (Below.refl _ _) | with_reducible refine below_pin ?_ ?_ | with_reducible refine Below.alloc ?_ ?_ _ | with_reducible refine Below.setCell ?_ ?_ _ | with_reducible refine Below.drew ?_)); all_goals (first | omega | (simp only [World.size_alloc, pin_size, World.size_drew, World.size_setCell] <;> omega))) (hb13.mono (by (first | omega | (simp only [World.size_alloc, pin_size, World.size_drew, World.size_setCell] <;> omega))))))
        clear HT
        have HT := HTn
        clear HTn
        clear hb13
        have HRD := Lib.hid hrd
        clear hrd HD11
        go_wp2_with fail
        refine (PowLit x9.heap.size 2 b12 m im dig2 (by decide) HE1.out.2.2.2.1 HE1.out.2.2.2.2.1 _ (HT.out.next (by (repeat (first | with_reducible exact (Below.refl _ _) | with_reducible refine below_pin ?_ ?_ | with_reducible refine Below.alloc ?_ ?_ _ | with_reducible refine Below.setCell ?_ ?_ _ | with_reducible refine Below.drew ?_)); all_goals (first | omega | (simp only [World.size_alloc, pin_size, World.size_drew, World.size_setCell] <;> omega)))) HRD.out).mono ?_
        rintro e x14 ⟨⟨A13, c13, rfl, hd13⟩, hb14⟩
        have HB14 : Hid (Below w.heap.size w x14) := Below.trans (by (repeat (first | with_reducible exact HB13.out | with_reducible refine below_pin ?_ ?_ | with_reducible refine Below.alloc ?_ ?_ _ | with_reducible refine Below.setCell ?_ ?_ _ | with_reducible refine Below.drew ?_)); all_goals (first | omega | (simp only [World.size_alloc, pin_size, World.size_drew, World.size_setCell] <;> omega))) (hb14.mono (by (first | omega | (simp only [World.size_alloc, pin_size, World.size_drew, World.size_setCell] <;> omega))))
        have hz14 := HB14.out.size
        have HD2n := Lib.hid (HD2.out.next (Below.trans (by (repeat (first | with_reducible exact (Below.refl _ _) | with_reducible refine below_pin ?_ ?_ | with_reducible refine Below.alloc ?_ ?_ _ | with_reducible refine Below.setCell ?_ ?_ _ | with_reducible refine Below.drew ?_)); all_goals (first | omega | (simp only [World.size_alloc, pin_size, World.size_drew, World.size_setCell] <;> omega))) (hb14.mono (by (first | omega | (simp only [World.size_alloc, pin_size, World.size_drew, World.size_setCell] <;> omega))))))
        clear HD2
        have HD2 := HD2n
        clear HD2n
        have HD7n := Lib.hid (HD7.out.next (Below.trans (by (repeat (first | with_reducible exact (Below.refl _ _) | with_reducible refine below_pin ?_ ?_ | with_reducible refine Below.alloc ?_ ?_ _ | with_reducible refine Below.setCell ?_ ?_ _ | with_reducible refine Below.drew ?_)); all_goals (first | omega | (simp only [World.size_alloc, pin_size, World.size_drew, World.size_setCell] <;> omega))) (hb14.mono (by (first | omega | (simp only [World.size_alloc, pin_size, World.size_drew, World.size_setCell] <;> omega))))))
        clear HD7
        have HD7 := HD7n
        clear HD7n
        have HTn := Lib.hid (HT.out.next (Below.trans (by (repeat (first | with_reducible exact (Below.refl _ _) | with_reducible refine below_pin ?_ ?_ | with_reducible refine Below.alloc ?_ ?_ _ | with_reducible refine Below.setCell ?_ ?_ _ | with_reducible refine Below.drew ?_)); all_goals (first | omega | (simp only [World.size_alloc, pin_size, World.size_drew, World.size_setCell] <;> omega))) (hb14.mono (by (first | omega | (simp only [World.size_alloc, pin_size, World.size_drew, World.size_setCell] <;> omega))))))
        clear HT
        have HT := HTn
        clear HTn
        clear hb14
        have HD13 := Lib.hid hd13
        clear hd13 HRD HT
        go_wp2_with fail
        refine (MulZ A7 A13 c7 c13 r0 im S HR.out.1 HE1.out.2.2.2.2.2.1 HE1.out.2.2.2.2.2.2 _ (HD7.out.next (by (repeat (first | with_reducible exact (Below.refl _ _) | with_reducible refine below_pin ?_ ?_ | with_reducible refine Below.alloc ?_ ?_ _ | with_reducible refine Below.setCell ?_ ?_ _ | with_reducible refine Below.drew ?_)); all_goals (first | omega | (simp only [World.size_alloc, pin_size, World.size_drew, World.size_setCell] <;> omega)))) (HD13.out.next (by (repeat (first | with_reducible exact (Below.refl _ _) | with_reducible refine below_pin ?_ ?_ | with_reducible refine Below.alloc ?_ ?_ _ | with_reducible refine Below.setCell ?_ ?_ _ | with_reducible refine Below.drew ?_)); all_goals (first | omega | (simp only [World.size_alloc, pin_size, World.size_drew, World.size_setCell] <;> omega))))).mono ?_
        rintro e x15 ⟨⟨A14, c14, rfl, hd14⟩, hb15⟩
        have HB15 : Hid (Below w.heap.size w x15) := Below.trans (by (repeat (first | with_reducible exact HB14.out | with_reducible refine below_pin ?_ ?_ | with_reducible refine Below.alloc ?_ ?_ _ | with_reducible refine Below.setCell ?_ ?_ _ | with_reducible refine Below.drew ?_)); all_goals (first | omega | (simp only [World.size_alloc, pin_size, World.size_drew, World.size_setCell] <;> omega))) (hb15.mono (by (first | omega | (simp only [World.size_alloc, pin_size, World.size_drew, World.size_setCell] <;> omega))))
        have hz15 := HB15.out.size
        have HD2n := Lib.hid (HD2.out.next (Below.trans (by (repeat (first | with_reducible exact (Below.refl _ _) | with_reducible refine below_pin ?_ ?_ | with_reducible refine Below.alloc ?_ ?_ _ | with_reducible refine Below.setCell ?_ ?_ _ | with_reducible refine Below.drew ?_)); all_goals (first | omega | (simp only [World.size_alloc, pin_size, World.size_drew, World.size_setCell] <;> omega))) (hb15.mono (by (first | omega | (simp only [World.size_alloc, pin_size, World.size_drew, World.size_setCell] <;> omega))))))
        clear HD2
        have HD2 := HD2n
        clear HD2n
        clear hb15
        have HD14 := Lib.hid hd14
        clear hd14 HD13 HD7
        go_wp2_with fail
        refine (MulZ A14 A14 c14 c14 S S s1 HR.out.2.2.2.1 HR.out.2.2.2.1 HR.out.2.2.2.2.1 _ (HD14.out.next (by (repeat (first | with_reducible exact (Below.refl _ _) | with_reducible refine below_pin ?_ ?_ | with_reducible refine Below.alloc ?_ ?_ _ | with_reducible refine Below.setCell ?_ ?_ _ | with_reducible refine Below.drew ?_)); all_goals (first | omega | (simp only [World.size_alloc, pin_size, World.size_drew, World.size_setCell] <;> omega)))) (HD14.out.next (by (repeat (first | with_reducible exact (Below.refl _ _) | with_reducible refine below_pin ?_ ?_ | with_reducible refine Below.alloc ?_ ?_ _ | with_reducible refine Below.setCell ?_ ?_ _ | with_reducible refine Below.drew ?_)); all_goals (first | omega | (simp only [World.size_alloc, pin_size, World.size_drew, World.size_setCell] <;> omega))))).mono ?_
        rintro e x16 ⟨⟨A15, c15, rfl, hd15⟩, hb16⟩
        have HB16 : Hid (Below w.heap.size w x16) := Below.trans (by (repeat (first | with_reducible exact HB15.out | with_reducible refine below_pin ?_ ?_ | with_reducible refine Below.alloc ?_ ?_ _ | with_reducible refine Below.setCell ?_ ?_ _ | with_reducible refine Below.drew ?_)); all_goals (first | omega | (simp only [World.size_alloc, pin_size, World.size_drew, World.size_setCell] <;> omega))) (hb16.mono (by (first | omega | (simp only [World.size_alloc, pin_size, World.size_drew, World.size_setCell] <;> omega))))
        have hz16 := HB16.out.size
        have HD2n := Lib.hid (HD2.out.next (Below.trans (by (repeat (first | with_reducible exact (Below.refl _ _) | with_reducible refine below_pin ?_ ?_ | with_reducible refine Below.alloc ?_ ?_ _ | with_reducible refine Below.setCell ?_ ?_ _ | with_reducible refine Below.drew ?_)); all_goals (first | omega | (simp only [World.size_alloc, pin_size, World.size_drew, World.size_setCell] <;> omega))) (hb16.mono (by (first | omega | (simp only [World.size_alloc, pin_size, World.size_drew, World.size_setCell] <;> omega))))))
        clear HD2
        have HD2 := HD2n
        clear HD2n
        have HD14n := Lib.hid (HD14.out.next (Below.trans (by (repeat (first | with_reducible exact (Below.refl _ _) | with_reducible refine below_pin ?_ ?_ | with_reducible refine Below.alloc ?_ ?_ _ | with_reducible refine Below.setCell ?_ ?_ _ | with_reducible refine Below.drew ?_)); all_goals (first | omega | (simp only [World.size_alloc, pin_size, World.size_drew, World.size_setCell] <;> omega))) (hb16.mono (by (first | omega | (simp only [World.size_alloc, pin_size, World.size_drew, World.size_setCell] <;> omega))))))
        clear HD14
        have HD14 := HD14n
        clear HD14n
        clear hb16
        have HD15 := Lib.hid hd15
        clear hd15
        go_wp2_with fail
        refine (SameZ A15 A2 c15 c2 s1 q false HR.out.2.2.2.2.2 HQ.out.2.2.2 (decide_eq_false HQ1.out) _ (HD15.out.next (by (repeat (first | with_reducible exact (Below.refl _ _) | with_reducible refine below_pin ?_ ?_ | with_reducible refine Below.alloc ?_ ?_ _ | with_reducible refine Below.setCell ?_ ?_ _ | with_reducible refine Below.drew ?_)); all_goals (first | omega | (simp only [World.size_alloc, pin_size, World.size_drew, World.size_setCell] <;> omega)))) (HD2.out.next (by (repeat (first | with_reducible exact (Below.refl _ _) | with_reducible refine below_pin ?_ ?_ | with_reducible refine Below.alloc ?_ ?_ _ | with_reducible refine Below.setCell ?_ ?_ _ | with_reducible refine Below.drew ?_)); all_goals (first | omega | (simp only [World.size_alloc, pin_size, World.size_drew, World.size_setCell] <;> omega))))).mono ?_
        rintro e x17 ⟨rfl, hb17⟩
        have HB17 : Hid (Below w.heap.size w x17) := Below.trans (by (repeat (first | with_reducible exact HB16.out | with_reducible refine below_pin ?_ ?_ | with_reducible refine Below.alloc ?_ ?_ _ | with_reducible refine Below.setCell ?_ ?_ _ | with_reducible refine Below.drew ?_)); all_goals (first | omega | (simp only [World.size_alloc, pin_size, World.size_drew, World.size_setCell] <;> omega))) (hb17.mono (by (first | omega | (simp only [World.size_alloc, pin_size, World.size_drew, World.size_setCell] <;> omega))))
        have hz17 := HB17.out.size
        have HD14n := Lib.hid (HD14.out.next (Below.trans (by (repeat (first | with_reducible exact (Below.refl _ _) | with_reducible refine below_pin ?_ ?_ | with_reducible refine Below.alloc ?_ ?_ _ | with_reducible refine Below.setCell ?_ ?_ _ | with_reducible refine Below.drew ?_)); all_goals (first | omega | (simp only [World.size_alloc, pin_size, World.size_drew, World.size_setCell] <;> omega))) (hb17.mono (by (first | omega | (simp only [World.size_alloc, pin_size, World.size_drew, World.size_setCell] <;> omega))))))
        clear HD14
        have HD14 := HD14n
        clear HD14n
        clear hb17
        clear HD15 HD2
        go_wp2_with fail
        refine bodyPost_ret (v := .tuple #[.slice none 0 0, .bool false]) ?_ rfl ⟨⟨none, 0, 0, false, by rw [dig_zero]; rfl, dn_nil _, p_pos, (decide_eq_false (fun h => HQ1.out (HOK.out.1.mpr h))).symm, small_congr (by unfold rootV; rw [if_neg (fun h => HQ1.out (HOK.out.1.mpr h))])⟩, (by (repeat (first | with_reducible exact HB17.out | with_reducible refine below_pin ?_ ?_ | with_reducible refine Below.alloc ?_ ?_ _ | with_reducible refine Below.setCell ?_ ?_ _ | with_reducible refine Below.drew ?_)); all_goals (first | omega | (simp only [World.size_alloc, pin_size, World.size_drew, World.size_setCell] <;> omega)))⟩
        · simp [results, Try.results27, go_sem]

end Go.Proofs.Ytljolpdpblohcaa
