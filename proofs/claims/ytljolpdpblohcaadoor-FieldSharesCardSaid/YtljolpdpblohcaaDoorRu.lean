/-
  Walks: the document's scalars.
-/
import Derived.Test.YtljolpdpblohcaaDoorRs
import Derived.Test.YtljolpdpblohcaaDoorLt
namespace Go.Proofs.YtljolpdpblohcaaDoor
open Go.RowKit Go.Proofs.YtljolpdpblohcaaDoorW.PrintLast
set_option linter.unusedSimpArgs false

set_option linter.unusedVariables false
theorem NumZ (A : Option Addr) (c L N : Nat) (bs : List Nat) (hby : ∀ b ∈ bs, b < 256) (hl : bs.length ≤ 64) (hL : L = bs.length) (hN : N = leN bs) (w : World) (hr : Rd w .u8 A bs) : Calls Tryd.prog 24 #[.slice A L c] w fun e w' => (∃ A' c', e = .returned (.slice A' (dig (N)).length c') ∧ Dn w' A' c' (N)) ∧ Below w.heap.size w w' := by
  subst hN
  subst hL
  exact Number_any A c bs hby (Nat.le_trans hl (by decide)) w hr
theorem RestZ (A : Option Addr) (c X Z : Nat) (hsz : (dig X).length ≤ 1000000) (hz : Z = X % LO) (w : World) (hX : Dn w A c X) : Calls Tryd.prog 23 #[.slice A (dig X).length c] w fun e w' => (∃ A' c', e = .returned (.slice A' (dig (Z)).length c') ∧ Dn w' A' c' (Z)) ∧ Below w.heap.size w w' := by
  subst hz
  exact Rest_any A c X hsz w hX
theorem dig512 {n : Nat} (h : n < 256 ^ 64) : (dig n).length ≤ 1000000 := Nat.le_trans (dig_len_le (k := 32) (by rw [show BB ^ 32 = 256 ^ 64 by decide +kernel]; exact h)) (by decide)
theorem dig513 {n : Nat} (h : n < LO * 2 ^ 321) : (dig n).length ≤ 1000000 := Nat.le_trans (dig_len_le (k := 40) (Nat.lt_trans h (by decide +kernel))) (by decide)
theorem lo_16 {n : Nat} (h : n < LO) : n < BB ^ 16 := Nat.lt_trans h (by decide)
set_option maxRecDepth 100000 in
set_option maxHeartbeats 2000000 in
theorem RFold_ok (A : Option Addr) (c : Nat) (bs : List Nat) (hby : ∀ b ∈ bs, b < 256) (hl : bs.length ≤ 64) (w : World) (hr : Rd w .u8 A bs) :
    Calls Tryd.prog 8 #[.slice A bs.length c] w fun e w' => (∃ b, e = .returned (.tuple #[.slice (some ⟨b, 0, none⟩) 32 32, .int .i64 0]) ∧ Rd w' .u8 (some ⟨b, 0, none⟩) (bytesN 32 (leN bs % LO))) ∧ Below w.heap.size w w' := by
  have HR := Lib.hid hr
  have HBy := Lib.hid hby
  have HL := Lib.hid hl
  obtain ⟨L, hL⟩ : ∃ L, L = bs.length := ⟨_, rfl⟩
  obtain ⟨N, hN⟩ : ∃ N, N = leN bs := ⟨_, rfl⟩
  obtain ⟨M, hM⟩ : ∃ M, M = N % LO := ⟨_, rfl⟩
  have HN := Lib.hid (show L = bs.length ∧ N = leN bs ∧ M = N % LO ∧ (dig N).length ≤ 1000000 ∧ M < BB ^ 16 by rw [hM, hN, hL]; exact ⟨rfl, rfl, rfl, dig512 (b64_lt hby hl), lo_16 (Nat.mod_lt _ (by decide))⟩)
  have hlz2 : ¬ (64 : Int) < (L : Int) := by omega
  have hd2 : decide (64 < L) = false := decide_eq_false (by omega)
  rw [← hL, ← hN, ← hM]
  clear hr hby hl hL hN hM
  go_enter Tryd.func8, Tryd.ntmps8
  go_wp2_with fail
  refine (NumZ A c L N bs HBy.out HL.out HN.out.1 HN.out.2.1 _ (HR.out.mono (by (repeat (first | with_reducible exact (Below.refl _ _) | with_reducible refine below_pin ?_ ?_ | with_reducible refine Below.alloc ?_ ?_ _ | with_reducible refine Below.setCell ?_ ?_ _ | with_reducible refine Below.drew ?_)); all_goals (first | omega | (simp only [World.size_alloc, pin_size, World.size_drew, World.size_setCell] <;> omega))) (Nat.le_refl _))).mono ?_
  rintro e x1 ⟨⟨A1, c1, rfl, hd1⟩, hb1⟩
  have HB1 : Hid (Below w.heap.size w x1) := Below.trans (by (repeat (first | with_reducible exact (Below.refl _ _) | with_reducible refine below_pin ?_ ?_ | with_reducible refine Below.alloc ?_ ?_ _ | with_reducible refine Below.setCell ?_ ?_ _ | with_reducible refine Below.drew ?_)); all_goals (first | omega | (simp only [World.size_alloc, pin_size, World.size_drew, World.size_setCell] <;> omega))) (hb1.mono (by (first | omega | (simp only [World.size_alloc, pin_size, World.size_drew, World.size_setCell] <;> omega))))
  have hz1 := HB1.out.size
  clear hb1
  have HD1 := Lib.hid hd1
  clear hd1
  go_wp2_with fail
  refine (RestZ A1 c1 N M HN.out.2.2.2.1 HN.out.2.2.1 _ (HD1.out.next (by (repeat (first | with_reducible exact (Below.refl _ _) | with_reducible refine below_pin ?_ ?_ | with_reducible refine Below.alloc ?_ ?_ _ | with_reducible refine Below.setCell ?_ ?_ _ | with_reducible refine Below.drew ?_)); all_goals (first | omega | (simp only [World.size_alloc, pin_size, World.size_drew, World.size_setCell] <;> omega))))).mono ?_
  rintro e x2 ⟨⟨A2, c2, rfl, hd2'⟩, hb2⟩
  have HB2 : Hid (Below w.heap.size w x2) := Below.trans (by (repeat (first | with_reducible exact HB1.out | with_reducible refine below_pin ?_ ?_ | with_reducible refine Below.alloc ?_ ?_ _ | with_reducible refine Below.setCell ?_ ?_ _ | with_reducible refine Below.drew ?_)); all_goals (first | omega | (simp only [World.size_alloc, pin_size, World.size_drew, World.size_setCell] <;> omega))) (hb2.mono (by (first | omega | (simp only [World.size_alloc, pin_size, World.size_drew, World.size_setCell] <;> omega))))
  have hz2 := HB2.out.size
  clear hb2
  have HD2 := Lib.hid hd2'
  clear hd2'
  go_wp2_with fail
  refine (Bytes_any A2 c2 M HN.out.2.2.2.2 _ (HD2.out.next (by (repeat (first | with_reducible exact (Below.refl _ _) | with_reducible refine below_pin ?_ ?_ | with_reducible refine Below.alloc ?_ ?_ _ | with_reducible refine Below.setCell ?_ ?_ _ | with_reducible refine Below.drew ?_)); all_goals (first | omega | (simp only [World.size_alloc, pin_size, World.size_drew, World.size_setCell] <;> omega))))).mono ?_
  rintro e x3 ⟨⟨b, rfl, hrd⟩, hb3⟩
  have HB3 : Hid (Below w.heap.size w x3) := Below.trans (by (repeat (first | with_reducible exact HB2.out | with_reducible refine below_pin ?_ ?_ | with_reducible refine Below.alloc ?_ ?_ _ | with_reducible refine Below.setCell ?_ ?_ _ | with_reducible refine Below.drew ?_)); all_goals (first | omega | (simp only [World.size_alloc, pin_size, World.size_drew, World.size_setCell] <;> omega))) (hb3.mono (by (first | omega | (simp only [World.size_alloc, pin_size, World.size_drew, World.size_setCell] <;> omega))))
  have hz3 := HB3.out.size
  clear hb3
  have HRD := Lib.hid hrd
  clear hrd
  go_wp2_with fail
  refine bodyPost_ret (v := .tuple #[.slice (some ⟨b, 0, none⟩) 32 32, .int .i64 0]) ?_ rfl ⟨⟨b, rfl, HRD.out⟩, (by (repeat (first | with_reducible exact HB3.out | with_reducible refine below_pin ?_ ?_ | with_reducible refine Below.alloc ?_ ?_ _ | with_reducible refine Below.setCell ?_ ?_ _ | with_reducible refine Below.drew ?_)); all_goals (first | omega | (simp only [World.size_alloc, pin_size, World.size_drew, World.size_setCell] <;> omega)))⟩
  · simp [results, Tryd.results8, go_sem]
set_option maxRecDepth 100000 in
set_option maxHeartbeats 1000000 in
theorem RFold_bad (A : Option Addr) (c L : Nat) (hl : 64 < L) (w : World) :
    Calls Tryd.prog 8 #[.slice A L c] w fun e w' => e = .returned (.tuple #[.slice none 0 0, .int .i64 1]) ∧ Below w.heap.size w w' := by
  have hlz2 : (64 : Int) < (L : Int) := by omega
  have hd2 : decide (64 < L) = true := decide_eq_true hl
  clear hl
  go_enter Tryd.func8, Tryd.ntmps8
  go_wp2_with fail
  refine bodyPost_ret (v := .tuple #[.slice none 0 0, .int .i64 1]) ?_ rfl ⟨rfl, (by (repeat (first | with_reducible exact (Below.refl _ _) | with_reducible refine below_pin ?_ ?_ | with_reducible refine Below.alloc ?_ ?_ _ | with_reducible refine Below.setCell ?_ ?_ _ | with_reducible refine Below.drew ?_)); all_goals (first | omega | (simp only [World.size_alloc, pin_size, World.size_drew, World.size_setCell] <;> omega)))⟩
  · simp [results, Tryd.results8, go_sem]
set_option maxRecDepth 100000 in
set_option maxHeartbeats 2000000 in
theorem RScalar_32 (A : Option Addr) (c : Nat) (bs : List Nat) (hby : ∀ b ∈ bs, b < 256) (hl : bs.length = 32) (w : World) (hr : Rd w .u8 A bs) :
    Calls Tryd.prog 10 #[.slice A bs.length c] w fun e w' => e = .returned (.int .i64 (if leN bs < LO then 0 else 31)) ∧ Below w.heap.size w w' := by
  have HR := Lib.hid hr
  have HBy := Lib.hid hby
  have HL := Lib.hid hl
  obtain ⟨N, hN⟩ : ∃ N, N = leN bs := ⟨_, rfl⟩
  have HN := Lib.hid (show N = leN bs ∧ (dig N).length ≤ 1000000 by rw [hN]; exact ⟨rfl, dig512 (b64_lt hby (by omega))⟩)
  have HLL := Lib.hid (show bs.length ≤ 64 by omega)
  obtain ⟨l, hl'⟩ : ∃ l, l = LO := ⟨_, rfl⟩
  have HLO := Lib.hid hl'
  obtain ⟨er, her⟩ : ∃ er : Int, er = if leN bs < LO then 0 else 31 := ⟨_, rfl⟩
  rw [← her]
  have HER := Lib.hid her
  rw [hl]
  clear hr hby hl hN her hl'
  by_cases hlt : N < l
  · have HLT := Lib.hid hlt
    have her : er = 0 := by rw [HER.out, if_pos (by rw [← HN.out.1, ← HLO.out]; exact hlt)]
    subst her
    clear hlt
    go_enter Tryd.func10, Tryd.ntmps10
    go_wp2_with fail
    refine (NumZ A c 32 N bs HBy.out HLL.out HL.out.symm HN.out.1 _ (HR.out.mono (by (repeat (first | with_reducible exact (Below.refl _ _) | with_reducible refine below_pin ?_ ?_ | with_reducible refine Below.alloc ?_ ?_ _ | with_reducible refine Below.setCell ?_ ?_ _ | with_reducible refine Below.drew ?_)); all_goals (first | omega | (simp only [World.size_alloc, pin_size, World.size_drew, World.size_setCell] <;> omega))) (Nat.le_refl _))).mono ?_
    rintro e x1 ⟨⟨A1, c1, rfl, hd1⟩, hb1⟩
    have HB1 : Hid (Below w.heap.size w x1) := Below.trans (by (repeat (first | with_reducible exact (Below.refl _ _) | with_reducible refine below_pin ?_ ?_ | with_reducible refine Below.alloc ?_ ?_ _ | with_reducible refine Below.setCell ?_ ?_ _ | with_reducible refine Below.drew ?_)); all_goals (first | omega | (simp only [World.size_alloc, pin_size, World.size_drew, World.size_setCell] <;> omega))) (hb1.mono (by (first | omega | (simp only [World.size_alloc, pin_size, World.size_drew, World.size_setCell] <;> omega))))
    have hz1 := HB1.out.size
    clear hb1
    have HD1 := Lib.hid hd1
    clear hd1
    go_wp2_with fail
    refine (L_any l HLO.out _).mono ?_
    rintro e x2 ⟨⟨A2, c2, rfl, hd2'⟩, hb2⟩
    have HB2 : Hid (Below w.heap.size w x2) := Below.trans (by (repeat (first | with_reducible exact HB1.out | with_reducible refine below_pin ?_ ?_ | with_reducible refine Below.alloc ?_ ?_ _ | with_reducible refine Below.setCell ?_ ?_ _ | with_reducible refine Below.drew ?_)); all_goals (first | omega | (simp only [World.size_alloc, pin_size, World.size_drew, World.size_setCell] <;> omega))) (hb2.mono (by (first | omega | (simp only [World.size_alloc, pin_size, World.size_drew, World.size_setCell] <;> omega))))
    have hz2 := HB2.out.size
    have HD1n := Lib.hid (HD1.out.next (Below.trans (by (repeat (first | with_reducible exact (Below.refl _ _) | with_reducible refine below_pin ?_ ?_ | with_reducible refine Below.alloc ?_ ?_ _ | with_reducible refine Below.setCell ?_ ?_ _ | with_reducible refine Below.drew ?_)); all_goals (first | omega | (simp only [World.size_alloc, pin_size, World.size_drew, World.size_setCell] <;> omega))) (hb2.mono (by (first | omega | (simp only [World.size_alloc, pin_size, World.size_drew, World.size_setCell] <;> omega))))))
    clear HD1
    have HD1 := HD1n
    clear HD1n
    clear hb2
    have HD2 := Lib.hid hd2'
    clear hd2'
    go_wp2_with fail
    refine (leastY A1 A2 c1 c2 N l true HN.out.2 (decide_eq_true HLT.out) _ (HD1.out.next (by (repeat (first | with_reducible exact (Below.refl _ _) | with_reducible refine below_pin ?_ ?_ | with_reducible refine Below.alloc ?_ ?_ _ | with_reducible refine Below.setCell ?_ ?_ _ | with_reducible refine Below.drew ?_)); all_goals (first | omega | (simp only [World.size_alloc, pin_size, World.size_drew, World.size_setCell] <;> omega)))) (HD2.out.next (by (repeat (first | with_reducible exact (Below.refl _ _) | with_reducible refine below_pin ?_ ?_ | with_reducible refine Below.alloc ?_ ?_ _ | with_reducible refine Below.setCell ?_ ?_ _ | with_reducible refine Below.drew ?_)); all_goals (first | omega | (simp only [World.size_alloc, pin_size, World.size_drew, World.size_setCell] <;> omega))))).mono ?_
    rintro e x3 ⟨rfl, hb3⟩
    have HB3 : Hid (Below w.heap.size w x3) := Below.trans (by (repeat (first | with_reducible exact HB2.out | with_reducible refine below_pin ?_ ?_ | with_reducible refine Below.alloc ?_ ?_ _ | with_reducible refine Below.setCell ?_ ?_ _ | with_reducible refine Below.drew ?_)); all_goals (first | omega | (simp only [World.size_alloc, pin_size, World.size_drew, World.size_setCell] <;> omega))) (hb3.mono (by (first | omega | (simp only [World.size_alloc, pin_size, World.size_drew, World.size_setCell] <;> omega))))
    have hz3 := HB3.out.size
    clear hb3
    go_wp2_with fail
    go_ret
    exact ⟨rfl, (by (repeat (first | with_reducible exact HB3.out | with_reducible refine below_pin ?_ ?_ | with_reducible refine Below.alloc ?_ ?_ _ | with_reducible refine Below.setCell ?_ ?_ _ | with_reducible refine Below.drew ?_)); all_goals (first | omega | (simp only [World.size_alloc, pin_size, World.size_drew, World.size_setCell] <;> omega)))⟩
  · have HLT := Lib.hid hlt
    have her : er = 31 := by rw [HER.out, if_neg (by rw [← HN.out.1, ← HLO.out]; exact hlt)]
    subst her
    clear hlt
    go_enter Tryd.func10, Tryd.ntmps10
    go_wp2_with fail
    refine (NumZ A c 32 N bs HBy.out HLL.out HL.out.symm HN.out.1 _ (HR.out.mono (by (repeat (first | with_reducible exact (Below.refl _ _) | with_reducible refine below_pin ?_ ?_ | with_reducible refine Below.alloc ?_ ?_ _ | with_reducible refine Below.setCell ?_ ?_ _ | with_reducible refine Below.drew ?_)); all_goals (first | omega | (simp only [World.size_alloc, pin_size, World.size_drew, World.size_setCell] <;> omega))) (Nat.le_refl _))).mono ?_
    rintro e x1 ⟨⟨A1, c1, rfl, hd1⟩, hb1⟩
    have HB1 : Hid (Below w.heap.size w x1) := Below.trans (by (repeat (first | with_reducible exact (Below.refl _ _) | with_reducible refine below_pin ?_ ?_ | with_reducible refine Below.alloc ?_ ?_ _ | with_reducible refine Below.setCell ?_ ?_ _ | with_reducible refine Below.drew ?_)); all_goals (first | omega | (simp only [World.size_alloc, pin_size, World.size_drew, World.size_setCell] <;> omega))) (hb1.mono (by (first | omega | (simp only [World.size_alloc, pin_size, World.size_drew, World.size_setCell] <;> omega))))
    have hz1 := HB1.out.size
    clear hb1
    have HD1 := Lib.hid hd1
    clear hd1
    go_wp2_with fail
    refine (L_any l HLO.out _).mono ?_
    rintro e x2 ⟨⟨A2, c2, rfl, hd2'⟩, hb2⟩
    have HB2 : Hid (Below w.heap.size w x2) := Below.trans (by (repeat (first | with_reducible exact HB1.out | with_reducible refine below_pin ?_ ?_ | with_reducible refine Below.alloc ?_ ?_ _ | with_reducible refine Below.setCell ?_ ?_ _ | with_reducible refine Below.drew ?_)); all_goals (first | omega | (simp only [World.size_alloc, pin_size, World.size_drew, World.size_setCell] <;> omega))) (hb2.mono (by (first | omega | (simp only [World.size_alloc, pin_size, World.size_drew, World.size_setCell] <;> omega))))
    have hz2 := HB2.out.size
    have HD1n := Lib.hid (HD1.out.next (Below.trans (by (repeat (first | with_reducible exact (Below.refl _ _) | with_reducible refine below_pin ?_ ?_ | with_reducible refine Below.alloc ?_ ?_ _ | with_reducible refine Below.setCell ?_ ?_ _ | with_reducible refine Below.drew ?_)); all_goals (first | omega | (simp only [World.size_alloc, pin_size, World.size_drew, World.size_setCell] <;> omega))) (hb2.mono (by (first | omega | (simp only [World.size_alloc, pin_size, World.size_drew, World.size_setCell] <;> omega))))))
    clear HD1
    have HD1 := HD1n
    clear HD1n
    clear hb2
    have HD2 := Lib.hid hd2'
    clear hd2'
    go_wp2_with fail
    refine (leastY A1 A2 c1 c2 N l false HN.out.2 (decide_eq_false HLT.out) _ (HD1.out.next (by (repeat (first | with_reducible exact (Below.refl _ _) | with_reducible refine below_pin ?_ ?_ | with_reducible refine Below.alloc ?_ ?_ _ | with_reducible refine Below.setCell ?_ ?_ _ | with_reducible refine Below.drew ?_)); all_goals (first | omega | (simp only [World.size_alloc, pin_size, World.size_drew, World.size_setCell] <;> omega)))) (HD2.out.next (by (repeat (first | with_reducible exact (Below.refl _ _) | with_reducible refine below_pin ?_ ?_ | with_reducible refine Below.alloc ?_ ?_ _ | with_reducible refine Below.setCell ?_ ?_ _ | with_reducible refine Below.drew ?_)); all_goals (first | omega | (simp only [World.size_alloc, pin_size, World.size_drew, World.size_setCell] <;> omega))))).mono ?_
    rintro e x3 ⟨rfl, hb3⟩
    have HB3 : Hid (Below w.heap.size w x3) := Below.trans (by (repeat (first | with_reducible exact HB2.out | with_reducible refine below_pin ?_ ?_ | with_reducible refine Below.alloc ?_ ?_ _ | with_reducible refine Below.setCell ?_ ?_ _ | with_reducible refine Below.drew ?_)); all_goals (first | omega | (simp only [World.size_alloc, pin_size, World.size_drew, World.size_setCell] <;> omega))) (hb3.mono (by (first | omega | (simp only [World.size_alloc, pin_size, World.size_drew, World.size_setCell] <;> omega))))
    have hz3 := HB3.out.size
    clear hb3
    go_wp2_with fail
    go_ret
    exact ⟨rfl, (by (repeat (first | with_reducible exact HB3.out | with_reducible refine below_pin ?_ ?_ | with_reducible refine Below.alloc ?_ ?_ _ | with_reducible refine Below.setCell ?_ ?_ _ | with_reducible refine Below.drew ?_)); all_goals (first | omega | (simp only [World.size_alloc, pin_size, World.size_drew, World.size_setCell] <;> omega)))⟩
set_option maxRecDepth 100000 in
set_option maxHeartbeats 1000000 in
theorem RScalar_bad (A : Option Addr) (c L : Nat) (hl : ¬ L = 32) (w : World) :
    Calls Tryd.prog 10 #[.slice A L c] w fun e w' => e = .returned (.int .i64 1) ∧ Below w.heap.size w w' := by
  have hlz2 : ¬ (L : Int) = 32 := by omega
  have hd2 : decide (L = 32) = false := decide_eq_false hl
  clear hl
  go_enter Tryd.func10, Tryd.ntmps10
  go_wp2_with fail
  go_ret
  exact ⟨rfl, (by (repeat (first | with_reducible exact (Below.refl _ _) | with_reducible refine below_pin ?_ ?_ | with_reducible refine Below.alloc ?_ ?_ _ | with_reducible refine Below.setCell ?_ ?_ _ | with_reducible refine Below.drew ?_)); all_goals (first | omega | (simp only [World.size_alloc, pin_size, World.size_drew, World.size_setCell] <;> omega)))⟩
set_option maxRecDepth 100000 in
set_option maxHeartbeats 2000000 in
theorem RTimes_ok (A0 : Option Addr) (c0 : Nat) (b0 : List Nat) (by0 : ∀ b ∈ b0, b < 256) (l0 : b0.length ≤ 32) (A1 : Option Addr) (c1 : Nat) (b1 : List Nat) (by1 : ∀ b ∈ b1, b < 256) (l1 : b1.length ≤ 32) (A2 : Option Addr) (c2 : Nat) (b2 : List Nat) (by2 : ∀ b ∈ b2, b < 256) (l2 : b2.length ≤ 32) (w : World) (r0 : Rd w .u8 A0 b0) (r1 : Rd w .u8 A1 b1) (r2 : Rd w .u8 A2 b2) :
    Calls Tryd.prog 13 #[.slice A0 b0.length c0, .slice A1 b1.length c1, .slice A2 b2.length c2] w fun e w' => (∃ b, e = .returned (.tuple #[.slice (some ⟨b, 0, none⟩) 32 32, .int .i64 0]) ∧ Rd w' .u8 (some ⟨b, 0, none⟩) (bytesN 32 ((leN b0 * leN b1 + leN b2) % LO))) ∧ Below w.heap.size w w' := by
  obtain ⟨L0, hL0⟩ : ∃ L, L = b0.length := ⟨_, rfl⟩
  obtain ⟨N0, hN0⟩ : ∃ N, N = leN b0 := ⟨_, rfl⟩
  have H0 := Lib.hid (show L0 = b0.length ∧ N0 = leN b0 ∧ N0 < WW ^ 4 ∧ b0.length ≤ 64 ∧ (dig N0).length ≤ 1000000 by rw [hL0, hN0]; exact ⟨rfl, rfl, w4_of by0 l0, by omega, dig512 (b64_lt by0 (by omega))⟩)
  have hlz0 : ¬ (32 : Int) < (L0 : Int) := by omega
  have hd0 : decide (32 < L0) = false := decide_eq_false (by omega)
  rw [← hL0, ← hN0]
  have HR0 := Lib.hid r0
  have HY0 := Lib.hid by0
  clear r0 by0 l0 hL0 hN0
  obtain ⟨L1, hL1⟩ : ∃ L, L = b1.length := ⟨_, rfl⟩
  obtain ⟨N1, hN1⟩ : ∃ N, N = leN b1 := ⟨_, rfl⟩
  have H1 := Lib.hid (show L1 = b1.length ∧ N1 = leN b1 ∧ N1 < WW ^ 4 ∧ b1.length ≤ 64 ∧ (dig N1).length ≤ 1000000 by rw [hL1, hN1]; exact ⟨rfl, rfl, w4_of by1 l1, by omega, dig512 (b64_lt by1 (by omega))⟩)
  have hlz1 : ¬ (32 : Int) < (L1 : Int) := by omega
  have hd1 : decide (32 < L1) = false := decide_eq_false (by omega)
  rw [← hL1, ← hN1]
  have HR1 := Lib.hid r1
  have HY1 := Lib.hid by1
  clear r1 by1 l1 hL1 hN1
  obtain ⟨L2, hL2⟩ : ∃ L, L = b2.length := ⟨_, rfl⟩
  obtain ⟨N2, hN2⟩ : ∃ N, N = leN b2 := ⟨_, rfl⟩
  have H2 := Lib.hid (show L2 = b2.length ∧ N2 = leN b2 ∧ N2 < WW ^ 4 ∧ b2.length ≤ 64 ∧ (dig N2).length ≤ 1000000 by rw [hL2, hN2]; exact ⟨rfl, rfl, w4_of by2 l2, by omega, dig512 (b64_lt by2 (by omega))⟩)
  have hlz2 : ¬ (32 : Int) < (L2 : Int) := by omega
  have hd2 : decide (32 < L2) = false := decide_eq_false (by omega)
  rw [← hL2, ← hN2]
  have HR2 := Lib.hid r2
  have HY2 := Lib.hid by2
  clear r2 by2 l2 hL2 hN2
  obtain ⟨P, hP⟩ : ∃ P, P = N0 * N1 := ⟨_, rfl⟩
  obtain ⟨M, hM⟩ : ∃ M, M = P + N2 := ⟨_, rfl⟩
  obtain ⟨R, hR⟩ : ∃ R, R = M % LO := ⟨_, rfl⟩
  have HP := Lib.hid (show P = N0 * N1 ∧ M = P + N2 ∧ R = M % LO ∧ (dig P).length ≤ 1000000 ∧ (dig M).length ≤ 1000000 ∧ R < BB ^ 16 by
    have h := times_lt H0.out.2.2.1 H1.out.2.2.1 H2.out.2.2.1
    rw [hR, hM, hP]
    exact ⟨rfl, rfl, rfl, dig513 (Nat.lt_of_le_of_lt (Nat.le_add_right _ _) h), dig513 h, lo_16 (Nat.mod_lt _ (by decide))⟩)
  rw [← hP, ← hM, ← hR]
  clear hP hM hR
  go_enter Tryd.func13, Tryd.ntmps13
  go_wp2_with fail
  refine (NumZ A0 c0 L0 N0 b0 HY0.out H0.out.2.2.2.1 H0.out.1 H0.out.2.1 _ (HR0.out.mono (by (repeat (first | with_reducible exact (Below.refl _ _) | with_reducible refine below_pin ?_ ?_ | with_reducible refine Below.alloc ?_ ?_ _ | with_reducible refine Below.setCell ?_ ?_ _ | with_reducible refine Below.drew ?_)); all_goals (first | omega | (simp only [World.size_alloc, pin_size, World.size_drew, World.size_setCell] <;> omega))) (Nat.le_refl _))).mono ?_
  rintro e x1 ⟨⟨B1, e1, rfl, hd1'⟩, hb1⟩
  have HB1 : Hid (Below w.heap.size w x1) := Below.trans (by (repeat (first | with_reducible exact (Below.refl _ _) | with_reducible refine below_pin ?_ ?_ | with_reducible refine Below.alloc ?_ ?_ _ | with_reducible refine Below.setCell ?_ ?_ _ | with_reducible refine Below.drew ?_)); all_goals (first | omega | (simp only [World.size_alloc, pin_size, World.size_drew, World.size_setCell] <;> omega))) (hb1.mono (by (first | omega | (simp only [World.size_alloc, pin_size, World.size_drew, World.size_setCell] <;> omega))))
  have hz1 := HB1.out.size
  clear hb1
  have HD1 := Lib.hid hd1'
  clear hd1'
  go_wp2_with fail
  refine (NumZ A1 c1 L1 N1 b1 HY1.out H1.out.2.2.2.1 H1.out.1 H1.out.2.1 _ (HR1.out.mono (by (repeat (first | with_reducible exact HB1.out | with_reducible refine below_pin ?_ ?_ | with_reducible refine Below.alloc ?_ ?_ _ | with_reducible refine Below.setCell ?_ ?_ _ | with_reducible refine Below.drew ?_)); all_goals (first | omega | (simp only [World.size_alloc, pin_size, World.size_drew, World.size_setCell] <;> omega))) (Nat.le_refl _))).mono ?_
  rintro e x2 ⟨⟨B2, e2, rfl, hd2'⟩, hb2⟩
  have HB2 : Hid (Below w.heap.size w x2) := Below.trans (by (repeat (first | with_reducible exact HB1.out | with_reducible refine below_pin ?_ ?_ | with_reducible refine Below.alloc ?_ ?_ _ | with_reducible refine Below.setCell ?_ ?_ _ | with_reducible refine Below.drew ?_)); all_goals (first | omega | (simp only [World.size_alloc, pin_size, World.size_drew, World.size_setCell] <;> omega))) (hb2.mono (by (first | omega | (simp only [World.size_alloc, pin_size, World.size_drew, World.size_setCell] <;> omega))))
  have hz2 := HB2.out.size
  have HD1n := Lib.hid (HD1.out.next (Below.trans (by (repeat (first | with_reducible exact (Below.refl _ _) | with_reducible refine below_pin ?_ ?_ | with_reducible refine Below.alloc ?_ ?_ _ | with_reducible refine Below.setCell ?_ ?_ _ | with_reducible refine Below.drew ?_)); all_goals (first | omega | (simp only [World.size_alloc, pin_size, World.size_drew, World.size_setCell] <;> omega))) (hb2.mono (by (first | omega | (simp only [World.size_alloc, pin_size, World.size_drew, World.size_setCell] <;> omega))))))
  clear HD1
  have HD1 := HD1n
  clear HD1n
  clear hb2
  have HD2 := Lib.hid hd2'
  clear hd2'
  go_wp2_with fail
  refine (timesY B1 B2 e1 e2 N0 N1 P H0.out.2.2.2.2 H1.out.2.2.2.2 HP.out.1 _ (HD1.out.next (by (repeat (first | with_reducible exact (Below.refl _ _) | with_reducible refine below_pin ?_ ?_ | with_reducible refine Below.alloc ?_ ?_ _ | with_reducible refine Below.setCell ?_ ?_ _ | with_reducible refine Below.drew ?_)); all_goals (first | omega | (simp only [World.size_alloc, pin_size, World.size_drew, World.size_setCell] <;> omega)))) (HD2.out.next (by (repeat (first | with_reducible exact (Below.refl _ _) | with_reducible refine below_pin ?_ ?_ | with_reducible refine Below.alloc ?_ ?_ _ | with_reducible refine Below.setCell ?_ ?_ _ | with_reducible refine Below.drew ?_)); all_goals (first | omega | (simp only [World.size_alloc, pin_size, World.size_drew, World.size_setCell] <;> omega))))).mono ?_
  rintro e x3 ⟨⟨B3, e3, rfl, hd3'⟩, hb3⟩
  have HB3 : Hid (Below w.heap.size w x3) := Below.trans (by (repeat (first | with_reducible exact HB2.out | with_reducible refine below_pin ?_ ?_ | with_reducible refine Below.alloc ?_ ?_ _ | with_reducible refine Below.setCell ?_ ?_ _ | with_reducible refine Below.drew ?_)); all_goals (first | omega | (simp only [World.size_alloc, pin_size, World.size_drew, World.size_setCell] <;> omega))) (hb3.mono (by (first | omega | (simp only [World.size_alloc, pin_size, World.size_drew, World.size_setCell] <;> omega))))
  have hz3 := HB3.out.size
  clear hb3
  have HD3 := Lib.hid hd3'
  clear hd3'
  go_wp2_with fail
  refine (NumZ A2 c2 L2 N2 b2 HY2.out H2.out.2.2.2.1 H2.out.1 H2.out.2.1 _ (HR2.out.mono (by (repeat (first | with_reducible exact HB3.out | with_reducible refine below_pin ?_ ?_ | with_reducible refine Below.alloc ?_ ?_ _ | with_reducible refine Below.setCell ?_ ?_ _ | with_reducible refine Below.drew ?_)); all_goals (first | omega | (simp only [World.size_alloc, pin_size, World.size_drew, World.size_setCell] <;> omega))) (Nat.le_refl _))).mono ?_
  rintro e x4 ⟨⟨B4, e4, rfl, hd4'⟩, hb4⟩
  have HB4 : Hid (Below w.heap.size w x4) := Below.trans (by (repeat (first | with_reducible exact HB3.out | with_reducible refine below_pin ?_ ?_ | with_reducible refine Below.alloc ?_ ?_ _ | with_reducible refine Below.setCell ?_ ?_ _ | with_reducible refine Below.drew ?_)); all_goals (first | omega | (simp only [World.size_alloc, pin_size, World.size_drew, World.size_setCell] <;> omega))) (hb4.mono (by (first | omega | (simp only [World.size_alloc, pin_size, World.size_drew, World.size_setCell] <;> omega))))
  have hz4 := HB4.out.size
  have HD3n := Lib.hid (HD3.out.next (Below.trans (by (repeat (first | with_reducible exact (Below.refl _ _) | with_reducible refine below_pin ?_ ?_ | with_reducible refine Below.alloc ?_ ?_ _ | with_reducible refine Below.setCell ?_ ?_ _ | with_reducible refine Below.drew ?_)); all_goals (first | omega | (simp only [World.size_alloc, pin_size, World.size_drew, World.size_setCell] <;> omega))) (hb4.mono (by (first | omega | (simp only [World.size_alloc, pin_size, World.size_drew, World.size_setCell] <;> omega))))))
  clear HD3
  have HD3 := HD3n
  clear HD3n
  clear hb4
  have HD4 := Lib.hid hd4'
  clear hd4'
  go_wp2_with fail
  refine (sumY B3 B4 e3 e4 P N2 M HP.out.2.2.2.1 H2.out.2.2.2.2 HP.out.2.1 _ (HD3.out.next (by (repeat (first | with_reducible exact (Below.refl _ _) | with_reducible refine below_pin ?_ ?_ | with_reducible refine Below.alloc ?_ ?_ _ | with_reducible refine Below.setCell ?_ ?_ _ | with_reducible refine Below.drew ?_)); all_goals (first | omega | (simp only [World.size_alloc, pin_size, World.size_drew, World.size_setCell] <;> omega)))) (HD4.out.next (by (repeat (first | with_reducible exact (Below.refl _ _) | with_reducible refine below_pin ?_ ?_ | with_reducible refine Below.alloc ?_ ?_ _ | with_reducible refine Below.setCell ?_ ?_ _ | with_reducible refine Below.drew ?_)); all_goals (first | omega | (simp only [World.size_alloc, pin_size, World.size_drew, World.size_setCell] <;> omega))))).mono ?_
  rintro e x5 ⟨⟨B5, e5, rfl, hd5'⟩, hb5⟩
  have HB5 : Hid (Below w.heap.size w x5) := Below.trans (by (repeat (first | with_reducible exact HB4.out | with_reducible refine below_pin ?_ ?_ | with_reducible refine Below.alloc ?_ ?_ _ | with_reducible refine Below.setCell ?_ ?_ _ | with_reducible refine Below.drew ?_)); all_goals (first | omega | (simp only [World.size_alloc, pin_size, World.size_drew, World.size_setCell] <;> omega))) (hb5.mono (by (first | omega | (simp only [World.size_alloc, pin_size, World.size_drew, World.size_setCell] <;> omega))))
  have hz5 := HB5.out.size
  clear hb5
  have HD5 := Lib.hid hd5'
  clear hd5'
  go_wp2_with fail
  refine (RestZ B5 e5 M R HP.out.2.2.2.2.1 HP.out.2.2.1 _ (HD5.out.next (by (repeat (first | with_reducible exact (Below.refl _ _) | with_reducible refine below_pin ?_ ?_ | with_reducible refine Below.alloc ?_ ?_ _ | with_reducible refine Below.setCell ?_ ?_ _ | with_reducible refine Below.drew ?_)); all_goals (first | omega | (simp only [World.size_alloc, pin_size, World.size_drew, World.size_setCell] <;> omega))))).mono ?_
  rintro e x6 ⟨⟨B6, e6, rfl, hd6'⟩, hb6⟩
  have HB6 : Hid (Below w.heap.size w x6) := Below.trans (by (repeat (first | with_reducible exact HB5.out | with_reducible refine below_pin ?_ ?_ | with_reducible refine Below.alloc ?_ ?_ _ | with_reducible refine Below.setCell ?_ ?_ _ | with_reducible refine Below.drew ?_)); all_goals (first | omega | (simp only [World.size_alloc, pin_size, World.size_drew, World.size_setCell] <;> omega))) (hb6.mono (by (first | omega | (simp only [World.size_alloc, pin_size, World.size_drew, World.size_setCell] <;> omega))))
  have hz6 := HB6.out.size
  clear hb6
  have HD6 := Lib.hid hd6'
  clear hd6'
  go_wp2_with fail
  refine (Bytes_any B6 e6 R HP.out.2.2.2.2.2 _ (HD6.out.next (by (repeat (first | with_reducible exact (Below.refl _ _) | with_reducible refine below_pin ?_ ?_ | with_reducible refine Below.alloc ?_ ?_ _ | with_reducible refine Below.setCell ?_ ?_ _ | with_reducible refine Below.drew ?_)); all_goals (first | omega | (simp only [World.size_alloc, pin_size, World.size_drew, World.size_setCell] <;> omega))))).mono ?_
  rintro e x7 ⟨⟨b, rfl, hrd⟩, hb7⟩
  have HB7 : Hid (Below w.heap.size w x7) := Below.trans (by (repeat (first | with_reducible exact HB6.out | with_reducible refine below_pin ?_ ?_ | with_reducible refine Below.alloc ?_ ?_ _ | with_reducible refine Below.setCell ?_ ?_ _ | with_reducible refine Below.drew ?_)); all_goals (first | omega | (simp only [World.size_alloc, pin_size, World.size_drew, World.size_setCell] <;> omega))) (hb7.mono (by (first | omega | (simp only [World.size_alloc, pin_size, World.size_drew, World.size_setCell] <;> omega))))
  have hz7 := HB7.out.size
  clear hb7
  have HRD := Lib.hid hrd
  clear hrd
  go_wp2_with fail
  refine bodyPost_ret (v := .tuple #[.slice (some ⟨b, 0, none⟩) 32 32, .int .i64 0]) ?_ rfl ⟨⟨b, rfl, HRD.out⟩, (by (repeat (first | with_reducible exact HB7.out | with_reducible refine below_pin ?_ ?_ | with_reducible refine Below.alloc ?_ ?_ _ | with_reducible refine Below.setCell ?_ ?_ _ | with_reducible refine Below.drew ?_)); all_goals (first | omega | (simp only [World.size_alloc, pin_size, World.size_drew, World.size_setCell] <;> omega)))⟩
  · simp [results, Tryd.results13, go_sem]
set_option maxRecDepth 100000 in
set_option maxHeartbeats 1000000 in
theorem RTimes_bad (A0 A1 A2 : Option Addr) (c0 c1 c2 L0 L1 L2 : Nat) (hl : ¬ (L0 ≤ 32 ∧ L1 ≤ 32 ∧ L2 ≤ 32)) (w : World) :
    Calls Tryd.prog 13 #[.slice A0 L0 c0, .slice A1 L1 c1, .slice A2 L2 c2] w fun e w' => e = .returned (.tuple #[.slice none 0 0, .int .i64 1]) ∧ Below w.heap.size w w' := by
  have hz0 : ((32 : Int) < (L0 : Int)) ∨ ((32 : Int) < (L1 : Int)) ∨ ((32 : Int) < (L2 : Int)) := by omega
  clear hl
  by_cases h0 : (32 : Int) < (L0 : Int)
  · have k0 : decide (32 < L0) = true := decide_eq_true (by omega)
    clear hz0
    go_enter Tryd.func13, Tryd.ntmps13
    go_wp2_with fail
    refine bodyPost_ret (v := .tuple #[.slice none 0 0, .int .i64 1]) ?_ rfl ⟨rfl, (by (repeat (first | with_reducible exact (Below.refl _ _) | with_reducible refine below_pin ?_ ?_ | with_reducible refine Below.alloc ?_ ?_ _ | with_reducible refine Below.setCell ?_ ?_ _ | with_reducible refine Below.drew ?_)); all_goals (first | omega | (simp only [World.size_alloc, pin_size, World.size_drew, World.size_setCell] <;> omega)))⟩
    · simp [results, Tryd.results13, go_sem]
  have k0 : decide (32 < L0) = false := decide_eq_false (by omega)
  by_cases h1 : (32 : Int) < (L1 : Int)
  · have k1 : decide (32 < L1) = true := decide_eq_true (by omega)
    clear hz0
    go_enter Tryd.func13, Tryd.ntmps13
    go_wp2_with fail
    refine bodyPost_ret (v := .tuple #[.slice none 0 0, .int .i64 1]) ?_ rfl ⟨rfl, (by (repeat (first | with_reducible exact (Below.refl _ _) | with_reducible refine below_pin ?_ ?_ | with_reducible refine Below.alloc ?_ ?_ _ | with_reducible refine Below.setCell ?_ ?_ _ | with_reducible refine Below.drew ?_)); all_goals (first | omega | (simp only [World.size_alloc, pin_size, World.size_drew, World.size_setCell] <;> omega)))⟩
    · simp [results, Tryd.results13, go_sem]
  have k1 : decide (32 < L1) = false := decide_eq_false (by omega)
  by_cases h2 : (32 : Int) < (L2 : Int)
  · have k2 : decide (32 < L2) = true := decide_eq_true (by omega)
    clear hz0
    go_enter Tryd.func13, Tryd.ntmps13
    go_wp2_with fail
    refine bodyPost_ret (v := .tuple #[.slice none 0 0, .int .i64 1]) ?_ rfl ⟨rfl, (by (repeat (first | with_reducible exact (Below.refl _ _) | with_reducible refine below_pin ?_ ?_ | with_reducible refine Below.alloc ?_ ?_ _ | with_reducible refine Below.setCell ?_ ?_ _ | with_reducible refine Below.drew ?_)); all_goals (first | omega | (simp only [World.size_alloc, pin_size, World.size_drew, World.size_setCell] <;> omega)))⟩
    · simp [results, Tryd.results13, go_sem]
  have k2 : decide (32 < L2) = false := decide_eq_false (by omega)
  exfalso; omega

end Go.Proofs.YtljolpdpblohcaaDoor
