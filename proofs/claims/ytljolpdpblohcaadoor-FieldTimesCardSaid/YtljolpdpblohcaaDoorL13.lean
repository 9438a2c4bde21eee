/-
  The statement FieldTimes.
-/
import Derived.Test.YtljolpdpblohcaaDoorCd
import Derived.Test.YtljolpdpblohcaaDoorCards
import Derived.Test.YtljolpdpblohcaaDoorTie
import Derived.SevenTiedAt
namespace Go.Proofs.YtljolpdpblohcaaDoor
open Go.RowKit Go.ChangeShapes Go.WideShapes Go.ChangeAt Go.Proofs.YtljolpdpblohcaaDoorW.PrintLast
set_option linter.unusedSimpArgs false

set_option linter.unusedVariables false
theorem TimesZ (A0 A1 A2 : Option Addr) (c0 c1 c2 L0 L1 L2 : Nat) (b0 b1 b2 : List Nat) (y0 : ∀ b ∈ b0, b < 256) (y1 : ∀ b ∈ b1, b < 256) (y2 : ∀ b ∈ b2, b < 256) (l0 : b0.length ≤ 32) (l1 : b1.length ≤ 32) (l2 : b2.length ≤ 32) (h0 : b0.length = L0) (h1 : b1.length = L1) (h2 : b2.length = L2) (R : Nat) (hR : R = (leN b0 * leN b1 + leN b2) % LO) (w : World) (r0 : Rd w .u8 A0 b0) (r1 : Rd w .u8 A1 b1) (r2 : Rd w .u8 A2 b2) (ho : OrdAt w) :
    Calls Tryd.prog 12 #[.slice A0 L0 c0, .slice A1 L1 c1, .slice A2 L2 c2] w fun e w' => (∃ b, e = .returned (.tuple #[.slice (some ⟨b, 0, none⟩) 32 32, .int .i64 0]) ∧ Rd w' .u8 (some ⟨b, 0, none⟩) (bytesN 32 R)) ∧ Below w.heap.size w w' := by
  subst h0 h1 h2 hR
  exact Times_ok A0 c0 b0 y0 l0 A1 c1 b1 y1 l1 A2 c2 b2 y2 l2 w r0 r1 r2 ho
theorem RTimesZ (A0 A1 A2 : Option Addr) (c0 c1 c2 L0 L1 L2 : Nat) (b0 b1 b2 : List Nat) (y0 : ∀ b ∈ b0, b < 256) (y1 : ∀ b ∈ b1, b < 256) (y2 : ∀ b ∈ b2, b < 256) (l0 : b0.length ≤ 32) (l1 : b1.length ≤ 32) (l2 : b2.length ≤ 32) (h0 : b0.length = L0) (h1 : b1.length = L1) (h2 : b2.length = L2) (R : Nat) (hR : R = (leN b0 * leN b1 + leN b2) % LO) (w : World) (r0 : Rd w .u8 A0 b0) (r1 : Rd w .u8 A1 b1) (r2 : Rd w .u8 A2 b2) :
    Calls Tryd.prog 13 #[.slice A0 L0 c0, .slice A1 L1 c1, .slice A2 L2 c2] w fun e w' => (∃ b, e = .returned (.tuple #[.slice (some ⟨b, 0, none⟩) 32 32, .int .i64 0]) ∧ Rd w' .u8 (some ⟨b, 0, none⟩) (bytesN 32 R)) ∧ Below w.heap.size w w' := by
  subst h0 h1 h2 hR
  exact RTimes_ok A0 c0 b0 y0 l0 A1 c1 b1 y1 l1 A2 c2 b2 y2 l2 w r0 r1 r2
set_option maxRecDepth 100000 in
set_option maxHeartbeats 8000000 in
theorem fieldTimes_walk (A0 : Option Addr) (c0 : Nat) (bs0 : List Nat) (by0 : ∀ b ∈ bs0, b < 256) (lc0 : bs0.length ≤ c0) (cm0 : c0 ≤ maxLen) (A1 : Option Addr) (c1 : Nat) (bs1 : List Nat) (by1 : ∀ b ∈ bs1, b < 256) (lc1 : bs1.length ≤ c1) (cm1 : c1 ≤ maxLen) (A2 : Option Addr) (c2 : Nat) (bs2 : List Nat) (by2 : ∀ b ∈ bs2, b < 256) (lc2 : bs2.length ≤ c2) (cm2 : c2 ≤ maxLen) (w : World) (rd0 : Rd w .u8 A0 bs0) (rd1 : Rd w .u8 A1 bs1) (rd2 : Rd w .u8 A2 bs2) (ho : OrdAt w) :
    Calls Tryd.prog 4 #[.slice A0 bs0.length c0, .slice A1 bs1.length c1, .slice A2 bs2.length c2] w fun e w' => e = .returned (.bool true) ∧ Below w.heap.size w w' := by
  have HO := Lib.hid ho
  have HR0 := Lib.hid rd0
  have HY0 := Lib.hid by0
  have HR1 := Lib.hid rd1
  have HY1 := Lib.hid by1
  have HR2 := Lib.hid rd2
  have HY2 := Lib.hid by2
  clear ho rd0 rd1 rd2 by0 by1 by2 lc0 lc1 lc2 cm0 cm1 cm2
  obtain ⟨L0, hL0⟩ : ∃ L, L = bs0.length := ⟨_, rfl⟩
  rw [← hL0]
  have HL0 := Lib.hid hL0
  obtain ⟨L1, hL1⟩ : ∃ L, L = bs1.length := ⟨_, rfl⟩
  rw [← hL1]
  have HL1 := Lib.hid hL1
  obtain ⟨L2, hL2⟩ : ∃ L, L = bs2.length := ⟨_, rfl⟩
  rw [← hL2]
  have HL2 := Lib.hid hL2
  clear hL0 hL1 hL2
  by_cases h0 : (100 : Int) < (L0 : Int)
  · have k0 : decide (100 < L0) = true := decide_eq_true (by omega)
    go_enter Tryd.func4, Tryd.ntmps4
    go_wp2_with fail
    refine (known_any _).mono ?_
    rintro e x1 ⟨rfl, hb1⟩
    have HB1 : Hid (Below w.heap.size w x1) := Below.trans (by (repeat (first | with_reducible exact (Below.refl _ _) | with_reducible refine below_pin ?_ ?_ | with_reducible refine Below.alloc ?_ ?_ _ | with_reducible refine Below.setCell ?_ ?_ _ | with_reducible refine Below.drew ?_)); all_goals (first | omega | (simp only [World.size_alloc, pin_size, World.size_drew, World.size_setCell] <;> omega))) (hb1.mono (by (first | omega | (simp only [World.size_alloc, pin_size, World.size_drew, World.size_setCell] <;> omega))))
    have hz1 := HB1.out.size
    clear hb1
    go_wp2_with fail
    go_ret
    exact ⟨rfl, (by (repeat (first | with_reducible exact HB1.out | with_reducible refine below_pin ?_ ?_ | with_reducible refine Below.alloc ?_ ?_ _ | with_reducible refine Below.setCell ?_ ?_ _ | with_reducible refine Below.drew ?_)); all_goals (first | omega | (simp only [World.size_alloc, pin_size, World.size_drew, World.size_setCell] <;> omega)))⟩
  have k0 : decide (100 < L0) = false := decide_eq_false (by omega)
  by_cases h1 : (100 : Int) < (L1 : Int)
  · have k1 : decide (100 < L1) = true := decide_eq_true (by omega)
    go_enter Tryd.func4, Tryd.ntmps4
    go_wp2_with fail
    refine (known_any _).mono ?_
    rintro e x1 ⟨rfl, hb1⟩
    have HB1 : Hid (Below w.heap.size w x1) := Below.trans (by (repeat (first | with_reducible exact (Below.refl _ _) | with_reducible refine below_pin ?_ ?_ | with_reducible refine Below.alloc ?_ ?_ _ | with_reducible refine Below.setCell ?_ ?_ _ | with_reducible refine Below.drew ?_)); all_goals (first | omega | (simp only [World.size_alloc, pin_size, World.size_drew, World.size_setCell] <;> omega))) (hb1.mono (by (first | omega | (simp only [World.size_alloc, pin_size, World.size_drew, World.size_setCell] <;> omega))))
    have hz1 := HB1.out.size
    clear hb1
    go_wp2_with fail
    go_ret
    exact ⟨rfl, (by (repeat (first | with_reducible exact HB1.out | with_reducible refine below_pin ?_ ?_ | with_reducible refine Below.alloc ?_ ?_ _ | with_reducible refine Below.setCell ?_ ?_ _ | with_reducible refine Below.drew ?_)); all_goals (first | omega | (simp only [World.size_alloc, pin_size, World.size_drew, World.size_setCell] <;> omega)))⟩
  have k1 : decide (100 < L1) = false := decide_eq_false (by omega)
  by_cases h2 : (100 : Int) < (L2 : Int)
  · have k2 : decide (100 < L2) = true := decide_eq_true (by omega)
    go_enter Tryd.func4, Tryd.ntmps4
    go_wp2_with fail
    refine (known_any _).mono ?_
    rintro e x1 ⟨rfl, hb1⟩
    have HB1 : Hid (Below w.heap.size w x1) := Below.trans (by (repeat (first | with_reducible exact (Below.refl _ _) | with_reducible refine below_pin ?_ ?_ | with_reducible refine Below.alloc ?_ ?_ _ | with_reducible refine Below.setCell ?_ ?_ _ | with_reducible refine Below.drew ?_)); all_goals (first | omega | (simp only [World.size_alloc, pin_size, World.size_drew, World.size_setCell] <;> omega))) (hb1.mono (by (first | omega | (simp only [World.size_alloc, pin_size, World.size_drew, World.size_setCell] <;> omega))))
    have hz1 := HB1.out.size
    clear hb1
    go_wp2_with fail
    go_ret
    exact ⟨rfl, (by (repeat (first | with_reducible exact HB1.out | with_reducible refine below_pin ?_ ?_ | with_reducible refine Below.alloc ?_ ?_ _ | with_reducible refine Below.setCell ?_ ?_ _ | with_reducible refine Below.drew ?_)); all_goals (first | omega | (simp only [World.size_alloc, pin_size, World.size_drew, World.size_setCell] <;> omega)))⟩
  have k2 : decide (100 < L2) = false := decide_eq_false (by omega)
  by_cases hok : L0 ≤ 32 ∧ L1 ≤ 32 ∧ L2 ≤ 32
  · have HOK := Lib.hid hok
    clear hok
    obtain ⟨R, hR⟩ : ∃ R, R = (leN bs0 * leN bs1 + leN bs2) % LO := ⟨_, rfl⟩
    have HRR := Lib.hid hR
    clear hR
    go_enter Tryd.func4, Tryd.ntmps4
    go_wp2_with fail
    refine (TimesZ A0 A1 A2 c0 c1 c2 L0 L1 L2 bs0 bs1 bs2 HY0.out HY1.out HY2.out (by rw [← HL0.out]; exact HOK.out.1) (by rw [← HL1.out]; exact HOK.out.2.1) (by rw [← HL2.out]; exact HOK.out.2.2) HL0.out.symm HL1.out.symm HL2.out.symm R HRR.out _ (HR0.out.next (by (repeat (first | with_reducible exact (Below.refl _ _) | with_reducible refine below_pin ?_ ?_ | with_reducible refine Below.alloc ?_ ?_ _ | with_reducible refine Below.setCell ?_ ?_ _ | with_reducible refine Below.drew ?_)); all_goals (first | omega | (simp only [World.size_alloc, pin_size, World.size_drew, World.size_setCell] <;> omega)))) (HR1.out.next (by (repeat (first | with_reducible exact (Below.refl _ _) | with_reducible refine below_pin ?_ ?_ | with_reducible refine Below.alloc ?_ ?_ _ | with_reducible refine Below.setCell ?_ ?_ _ | with_reducible refine Below.drew ?_)); all_goals (first | omega | (simp only [World.size_alloc, pin_size, World.size_drew, World.size_setCell] <;> omega)))) (HR2.out.next (by (repeat (first | with_reducible exact (Below.refl _ _) | with_reducible refine below_pin ?_ ?_ | with_reducible refine Below.alloc ?_ ?_ _ | with_reducible refine Below.setCell ?_ ?_ _ | with_reducible refine Below.drew ?_)); all_goals (first | omega | (simp only [World.size_alloc, pin_size, World.size_drew, World.size_setCell] <;> omega)))) (HO.out.next (by (repeat (first | with_reducible exact (Below.refl _ _) | with_reducible refine below_pin ?_ ?_ | with_reducible refine Below.alloc ?_ ?_ _ | with_reducible refine Below.setCell ?_ ?_ _ | with_reducible refine Below.drew ?_)); all_goals (first | omega | (simp only [World.size_alloc, pin_size, World.size_drew, World.size_setCell] <;> omega))))).mono ?_
    rintro e x1 ⟨⟨b1, rfl, hrd1⟩, hb1⟩
    have HB1 : Hid (Below w.heap.size w x1) := Below.trans (by (repeat (first | with_reducible exact (Below.refl _ _) | with_reducible refine below_pin ?_ ?_ | with_reducible refine Below.alloc ?_ ?_ _ | with_reducible refine Below.setCell ?_ ?_ _ | with_reducible refine Below.drew ?_)); all_goals (first | omega | (simp only [World.size_alloc, pin_size, World.size_drew, World.size_setCell] <;> omega))) (hb1.mono (by (first | omega | (simp only [World.size_alloc, pin_size, World.size_drew, World.size_setCell] <;> omega))))
    have hz1 := HB1.out.size
    have HR0n := Lib.hid (HR0.out.next (Below.trans (by (repeat (first | with_reducible exact (Below.refl _ _) | with_reducible refine below_pin ?_ ?_ | with_reducible refine Below.alloc ?_ ?_ _ | with_reducible refine Below.setCell ?_ ?_ _ | with_reducible refine Below.drew ?_)); all_goals (first | omega | (simp only [World.size_alloc, pin_size, World.size_drew, World.size_setCell] <;> omega))) (hb1.mono (by (first | omega | (simp only [World.size_alloc, pin_size, World.size_drew, World.size_setCell] <;> omega))))))
    clear HR0
    have HR0 := HR0n
    clear HR0n
    have HR1n := Lib.hid (HR1.out.next (Below.trans (by (repeat (first | with_reducible exact (Below.refl _ _) | with_reducible refine below_pin ?_ ?_ | with_reducible refine Below.alloc ?_ ?_ _ | with_reducible refine Below.setCell ?_ ?_ _ | with_reducible refine Below.drew ?_)); all_goals (first | omega | (simp only [World.size_alloc, pin_size, World.size_drew, World.size_setCell] <;> omega))) (hb1.mono (by (first | omega | (simp only [World.size_alloc, pin_size, World.size_drew, World.size_setCell] <;> omega))))))
    clear HR1
    have HR1 := HR1n
    clear HR1n
    have HR2n := Lib.hid (HR2.out.next (Below.trans (by (repeat (first | with_reducible exact (Below.refl _ _) | with_reducible refine below_pin ?_ ?_ | with_reducible refine Below.alloc ?_ ?_ _ | with_reducible refine Below.setCell ?_ ?_ _ | with_reducible refine Below.drew ?_)); all_goals (first | omega | (simp only [World.size_alloc, pin_size, World.size_drew, World.size_setCell] <;> omega))) (hb1.mono (by (first | omega | (simp only [World.size_alloc, pin_size, World.size_drew, World.size_setCell] <;> omega))))))
    clear HR2
    have HR2 := HR2n
    clear HR2n
    clear hb1
    have HD1 := Lib.hid hrd1
    clear hrd1
    go_wp2_with fail
    refine (RTimesZ A0 A1 A2 c0 c1 c2 L0 L1 L2 bs0 bs1 bs2 HY0.out HY1.out HY2.out (by rw [← HL0.out]; exact HOK.out.1) (by rw [← HL1.out]; exact HOK.out.2.1) (by rw [← HL2.out]; exact HOK.out.2.2) HL0.out.symm HL1.out.symm HL2.out.symm R HRR.out _ (HR0.out.next (by (repeat (first | with_reducible exact (Below.refl _ _) | with_reducible refine below_pin ?_ ?_ | with_reducible refine Below.alloc ?_ ?_ _ | with_reducible refine Below.setCell ?_ ?_ _ | with_reducible refine Below.drew ?_)); all_goals (first | omega | (simp only [World.size_alloc, pin_size, World.size_drew, World.size_setCell] <;> omega)))) (HR1.out.next (by (repeat (first | with_reducible exact (Below.refl _ _) | with_reducible refine below_pin ?_ ?_ | with_reducible refine Below.alloc ?_ ?_ _ | with_reducible refine Below.setCell ?_ ?_ _ | with_reducible refine Below.drew ?_)); all_goals (first | omega | (simp only [World.size_alloc, pin_size, World.size_drew, World.size_setCell] <;> omega)))) (HR2.out.next (by (repeat (first | with_reducible exact (Below.refl _ _) | with_reducible refine below_pin ?_ ?_ | with_reducible refine Below.alloc ?_ ?_ _ | with_reducible refine Below.setCell ?_ ?_ _ | with_reducible refine Below.drew ?_)); all_goals (first | omega | (simp only [World.size_alloc, pin_size, World.size_drew, World.size_setCell] <;> omega))))).mono ?_
    rintro e x2 ⟨⟨b2, rfl, hrd2⟩, hb2⟩
    have HB2 : Hid (Below w.heap.size w x2) := Below.trans (by (repeat (first | with_reducible exact HB1.out | with_reducible refine below_pin ?_ ?_ | with_reducible refine Below.alloc ?_ ?_ _ | with_reducible refine Below.setCell ?_ ?_ _ | with_reducible refine Below.drew ?_)); all_goals (first | omega | (simp only [World.size_alloc, pin_size, World.size_drew, World.size_setCell] <;> omega))) (hb2.mono (by (first | omega | (simp only [World.size_alloc, pin_size, World.size_drew, World.size_setCell] <;> omega))))
    have hz2 := HB2.out.size
    have HD1n := Lib.hid (HD1.out.next (Below.trans (by (repeat (first | with_reducible exact (Below.refl _ _) | with_reducible refine below_pin ?_ ?_ | with_reducible refine Below.alloc ?_ ?_ _ | with_reducible refine Below.setCell ?_ ?_ _ | with_reducible refine Below.drew ?_)); all_goals (first | omega | (simp only [World.size_alloc, pin_size, World.size_drew, World.size_setCell] <;> omega))) (hb2.mono (by (first | omega | (simp only [World.size_alloc, pin_size, World.size_drew, World.size_setCell] <;> omega))))))
    clear HD1
    have HD1 := HD1n
    clear HD1n
    clear hb2
    have HD2 := Lib.hid hrd2
    clear hrd2
    go_wp2_with fail
    refine (SameBZ (some ⟨b1, 0, none⟩) (some ⟨b2, 0, none⟩) 32 32 32 32 (bytesN 32 R) (bytesN 32 R) true (bytesN_len _ _) (bytesN_len _ _) (bytesN_lt _ _) (bytesN_lt _ _) (decide_eq_true rfl) _ (HD1.out.next (by (repeat (first | with_reducible exact (Below.refl _ _) | with_reducible refine below_pin ?_ ?_ | with_reducible refine Below.alloc ?_ ?_ _ | with_reducible refine Below.setCell ?_ ?_ _ | with_reducible refine Below.drew ?_)); all_goals (first | omega | (simp only [World.size_alloc, pin_size, World.size_drew, World.size_setCell] <;> omega)))) (HD2.out.next (by (repeat (first | with_reducible exact (Below.refl _ _) | with_reducible refine below_pin ?_ ?_ | with_reducible refine Below.alloc ?_ ?_ _ | with_reducible refine Below.setCell ?_ ?_ _ | with_reducible refine Below.drew ?_)); all_goals (first | omega | (simp only [World.size_alloc, pin_size, World.size_drew, World.size_setCell] <;> omega))))).mono ?_
    rintro e x3 ⟨rfl, hb3⟩
    have HB3 : Hid (Below w.heap.size w x3) := Below.trans (by (repeat (first | with_reducible exact HB2.out | with_reducible refine below_pin ?_ ?_ | with_reducible refine Below.alloc ?_ ?_ _ | with_reducible refine Below.setCell ?_ ?_ _ | with_reducible refine Below.drew ?_)); all_goals (first | omega | (simp only [World.size_alloc, pin_size, World.size_drew, World.size_setCell] <;> omega))) (hb3.mono (by (first | omega | (simp only [World.size_alloc, pin_size, World.size_drew, World.size_setCell] <;> omega))))
    have hz3 := HB3.out.size
    clear hb3
    go_wp2_with fail
    refine (known_any _).mono ?_
    rintro e x4 ⟨rfl, hb4⟩
    have HB4 : Hid (Below w.heap.size w x4) := Below.trans (by (repeat (first | with_reducible exact HB3.out | with_reducible refine below_pin ?_ ?_ | with_reducible refine Below.alloc ?_ ?_ _ | with_reducible refine Below.setCell ?_ ?_ _ | with_reducible refine Below.drew ?_)); all_goals (first | omega | (simp only [World.size_alloc, pin_size, World.size_drew, World.size_setCell] <;> omega))) (hb4.mono (by (first | omega | (simp only [World.size_alloc, pin_size, World.size_drew, World.size_setCell] <;> omega))))
    have hz4 := HB4.out.size
    clear hb4
    go_wp2_with fail
    go_ret
    exact ⟨rfl, (by (repeat (first | with_reducible exact HB4.out | with_reducible refine below_pin ?_ ?_ | with_reducible refine Below.alloc ?_ ?_ _ | with_reducible refine Below.setCell ?_ ?_ _ | with_reducible refine Below.drew ?_)); all_goals (first | omega | (simp only [World.size_alloc, pin_size, World.size_drew, World.size_setCell] <;> omega)))⟩
  · have HOK := Lib.hid hok
    clear hok
    go_enter Tryd.func4, Tryd.ntmps4
    go_wp2_with fail
    refine (Times_bad A0 A1 A2 c0 c1 c2 L0 L1 L2 HOK.out _).mono ?_
    rintro e x1 ⟨rfl, hb1⟩
    have HB1 : Hid (Below w.heap.size w x1) := Below.trans (by (repeat (first | with_reducible exact (Below.refl _ _) | with_reducible refine below_pin ?_ ?_ | with_reducible refine Below.alloc ?_ ?_ _ | with_reducible refine Below.setCell ?_ ?_ _ | with_reducible refine Below.drew ?_)); all_goals (first | omega | (simp only [World.size_alloc, pin_size, World.size_drew, World.size_setCell] <;> omega))) (hb1.mono (by (first | omega | (simp only [World.size_alloc, pin_size, World.size_drew, World.size_setCell] <;> omega))))
    have hz1 := HB1.out.size
    clear hb1
    go_wp2_with fail
    refine (RTimes_bad A0 A1 A2 c0 c1 c2 L0 L1 L2 HOK.out _).mono ?_
    rintro e x2 ⟨rfl, hb2⟩
    have HB2 : Hid (Below w.heap.size w x2) := Below.trans (by (repeat (first | with_reducible exact HB1.out | with_reducible refine below_pin ?_ ?_ | with_reducible refine Below.alloc ?_ ?_ _ | with_reducible refine Below.setCell ?_ ?_ _ | with_reducible refine Below.drew ?_)); all_goals (first | omega | (simp only [World.size_alloc, pin_size, World.size_drew, World.size_setCell] <;> omega))) (hb2.mono (by (first | omega | (simp only [World.size_alloc, pin_size, World.size_drew, World.size_setCell] <;> omega))))
    have hz2 := HB2.out.size
    clear hb2
    go_wp2_with fail
    refine (SameBZ none none 0 0 0 0 [] [] true rfl rfl (by simp) (by simp) (decide_eq_true rfl) _ (Rd.nil _ _ _) (Rd.nil _ _ _)).mono ?_
    rintro e x3 ⟨rfl, hb3⟩
    have HB3 : Hid (Below w.heap.size w x3) := Below.trans (by (repeat (first | with_reducible exact HB2.out | with_reducible refine below_pin ?_ ?_ | with_reducible refine Below.alloc ?_ ?_ _ | with_reducible refine Below.setCell ?_ ?_ _ | with_reducible refine Below.drew ?_)); all_goals (first | omega | (simp only [World.size_alloc, pin_size, World.size_drew, World.size_setCell] <;> omega))) (hb3.mono (by (first | omega | (simp only [World.size_alloc, pin_size, World.size_drew, World.size_setCell] <;> omega))))
    have hz3 := HB3.out.size
    clear hb3
    go_wp2_with fail
    refine (known_any _).mono ?_
    rintro e x4 ⟨rfl, hb4⟩
    have HB4 : Hid (Below w.heap.size w x4) := Below.trans (by (repeat (first | with_reducible exact HB3.out | with_reducible refine below_pin ?_ ?_ | with_reducible refine Below.alloc ?_ ?_ _ | with_reducible refine Below.setCell ?_ ?_ _ | with_reducible refine Below.drew ?_)); all_goals (first | omega | (simp only [World.size_alloc, pin_size, World.size_drew, World.size_setCell] <;> omega))) (hb4.mono (by (first | omega | (simp only [World.size_alloc, pin_size, World.size_drew, World.size_setCell] <;> omega))))
    have hz4 := HB4.out.size
    clear hb4
    go_wp2_with fail
    go_ret
    exact ⟨rfl, (by (repeat (first | with_reducible exact HB4.out | with_reducible refine below_pin ?_ ?_ | with_reducible refine Below.alloc ?_ ?_ _ | with_reducible refine Below.setCell ?_ ?_ _ | with_reducible refine Below.drew ?_)); all_goals (first | omega | (simp only [World.size_alloc, pin_size, World.size_drew, World.size_setCell] <;> omega)))⟩

set_option maxRecDepth 100000 in
theorem fieldTimes_lifted (os : Os) (started : os.Started) (H : Type) (enc : TypeId × Value → H) :
    ReturnsInHanded {} Tryd.checked os 4 .any (fun w args => (Rows.fieldTimesSpec.pre enc Tryd.prog Tryd.f4 [] false w args ∧ laidMetH Tryd.prog laidL w) ∧ sizedMet enc Tryd.prog Tryd.f4 (OpenSpec.ofChange Rows.fieldTimesSpec) false w args) (Rows.fieldTimesSpec.post enc Tryd.prog Tryd.f4 false true false false) := by
  refine returnsInHanded_of_change_and (C := Tryd.checked) (X := fun w _ => laidMetH Tryd.prog laidL w) (fun _ _ _ hh h => h.of_heap hh) own started (by kernel_rfl) Tryd.func4
    (ChangeSpec.witness_shaped (enc := enc) (C := Tryd.checked) (os := os) (X := fun w _ => laidMetH Tryd.prog laidL w) false (World.doorLaid Tryd.prog 14 os) #[.slice none 0 0, .slice none 0 0, .slice none 0 0] 8 rfl (World.shaped_of_RefB (by kernel_rfl) (by kernel_rfl)) (by kernel_rfl) (by kernel_rfl) (by kernel_rfl) (door_met os _)) ?_
  intro W base args ds gs before hval0 hW _ _ hL _
  have hval : ∀ (j : Nat) t v, Tryd.f4.params[j]? = some t → args[j]? = some v → Value.okWide Tryd.prog W .any base t v := hval0
  have hW' := hW
  obtain ⟨p, q, hA0, hV, rfl, hfz, hnd⟩ := hW
  have hA : DataW.TrodAll enc Tryd.prog W 0 (fun _ => true) true Tryd.f4.params.toList args.toList ds p := hA0
  rw [Tryd.params4] at hA hval
  obtain ⟨v0, vs0, d0, ds0, p0, q0, hargs, rfl, rfl, h0, r0⟩ := trodAll_cons hA
  obtain ⟨v1, vs1, d1, ds1, p1, q1, rfl, rfl, rfl, h1, r1⟩ := trodAll_cons r0
  obtain ⟨v2, vs2, d2, ds2, p2, q2, rfl, rfl, rfl, h2, r2⟩ := trodAll_cons r1
  obtain ⟨rfl, rfl, rfl⟩ := trodAll_nil r2
  obtain rfl : args = #[v0, v1, v2] := by cases args; simp_all
  obtain ⟨rfl, rfl⟩ := trodVars_none hV
  have k0 := h0
  have lt0 : ∀ x ∈ p0, x.block < W.heap.size := by obtain ⟨m, hm⟩ := k0; exact DataW.trod_lt m _ _ _ hm
  obtain ⟨A0, c0, bs0, rfl, rd0, by0, lc0, cm0⟩ := open_bytes (hval 0 22 v0 rfl rfl) h0
  have k1 := h1
  have lt1 : ∀ x ∈ p1, x.block < W.heap.size := by obtain ⟨m, hm⟩ := k1; exact DataW.trod_lt m _ _ _ hm
  obtain ⟨A1, c1, bs1, rfl, rd1, by1, lc1, cm1⟩ := open_bytes (hval 1 22 v1 rfl rfl) h1
  have k2 := h2
  have lt2 : ∀ x ∈ p2, x.block < W.heap.size := by obtain ⟨m, hm⟩ := k2; exact DataW.trod_lt m _ _ _ hm
  obtain ⟨A2, c2, bs2, rfl, rd2, by2, lc2, cm2⟩ := open_bytes (hval 2 22 v2 rfl rfl) h2
  have hO := ord_of_laid hL
  clear hA0 hval0
  refine (fieldTimes_walk A0 c0 bs0 by0 lc0 cm0 A1 c1 bs1 by1 lc1 cm1 A2 c2 bs2 by2 lc2 cm2 W rd0 rd1 rd2 hO).mono fun e W' ⟨he, bel⟩ => ?_
  subst he
  exact ⟨_, rfl, _, _, _, [], _, [], hW', trodAll_mk1 (shut_bool Tryd.underlying4 _), (trodAll_cons_mk (Below.trod laidOut (by kernel_rfl) (of_decide_eq_true (by kernel_rfl)) k0 bel lt0) (trodAll_cons_mk (Below.trod laidOut (by kernel_rfl) (of_decide_eq_true (by kernel_rfl)) k1 bel lt1) (trodAll_cons_mk (Below.trod laidOut (by kernel_rfl) (of_decide_eq_true (by kernel_rfl)) k2 bel lt2) trodAll_mk0))), rfl, bel.frame _, fun h => by cases h⟩

theorem fieldTimes_row : Rows.FieldTimesSaid :=
  OpenClaim.holds_of_wide 4 Tryd.f4 rfl rfl rfl rfl rfl rfl rfl ⟨rfl, rfl, rfl, rfl, rfl⟩ rfl rfl rfl rfl rfl (by kernel_rfl) Tryd.func4 (by kernel_rfl)
    (of_decide_eq_true (by kernel_rfl)) (by unfold Func.isWrapper; first | (rw [if_pos (by decide +kernel)]; kernel_rfl) | (rw [if_neg (by decide +kernel)]; exact ⟨rfl, rfl⟩))
    (fun os started H enc _ => fieldTimes_lifted os started H enc)

theorem fieldTimes_holds : Rows.FieldTimesCardSaid :=
  Claim7.holds_tied_plain_at .later [] [.widerDeep] true (true, "7d2c27b929568f0ff6b242ee743fd7d5b33e039ad38333eb67c14a6dff9c6362") false
    fieldTimes_row (fun _ h => by cases h) (by kernel_rfl) (fun _ h => by cases h) fieldTimes_row_tie rfl ⟨rfl, rfl⟩ (by kernel_rfl) rfl
    (fun f fn hf hfn => by
      obtain rfl : f = 4 := Option.some.inj ((show Tryd.prog.funcNamed "imprimatur/imprimaturlaw04.FieldTimes" = some 4 by kernel_rfl).symm.trans hf) |>.symm
      obtain rfl : fn = Tryd.f4 := (Option.some.inj (Tryd.func4.symm.trans hfn)).symm
      exact ⟨by kernel_rfl, fun j t ht => by
        rw [Tryd.params4] at ht
        have hm : t ∈ [22] := by simpa using Array.mem_of_getElem? ht
        have hall : ([22].all fun u => !Tryd.prog.wantsStandIn u) = true := by kernel_rfl
        exact (show Tryd.prog.wantsStandIn t = false by simpa using List.all_eq_true.1 hall t hm)⟩)
    (by kernel_rfl)

end Go.Proofs.YtljolpdpblohcaaDoor
