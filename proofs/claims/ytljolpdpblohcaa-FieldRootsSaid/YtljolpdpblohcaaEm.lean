/-
  Walks: what the document says of bytes, and whether two are the same.
-/
import Derived.Test.YtljolpdpblohcaaEl
namespace Go.Proofs.Ytljolpdpblohcaa
open Go.RowKit Go.Proofs.YtljolpdpblohcaaW.PrintLast
set_option linter.unusedSimpArgs false

set_option linter.unusedVariables false
theorem small_cut {n : Nat} (h : n < Num.p) : cut51 (n % 2 ^ 255) = small n := by
  unfold small
  rw [Nat.mod_eq_of_lt h, Nat.mod_eq_of_lt (Nat.lt_of_lt_of_le h (by decide))]
theorem p_16 {n : Nat} (h : n < Num.p) : n < BB ^ 16 := Nat.lt_of_lt_of_le h (by decide)
theorem p_dig {n : Nat} (h : n < Num.p) : (dig n).length ≤ 1000000 := Nat.le_trans (dig_len_le (p_16 h)) (by decide)
theorem Elem_to (A : Option Addr) (c n : Nat) (s : Fn) (hn : n < Num.p) (hs : s = small n) (w : World) (hX : Dn w A c n) : Calls Try.prog 28 #[.slice A (dig n).length c] w fun e w' => e = .returned s.v ∧ Below w.heap.size w w' := by
  have h := Elem_any A c n (p_16 hn) w hX
  rw [small_cut hn, ← hs] at h
  exact h

set_option maxRecDepth 100000 in
set_option maxHeartbeats 2000000 in
theorem RSame_any (A B : Option Addr) (c d X Y : Nat) (hsx : (dig X).length ≤ 1000000) (hsy : (dig Y).length ≤ 1000000) (w : World) (hX : Dn w A c X) (hY : Dn w B d Y) :
    Calls Try.prog 24 #[.slice A (dig X).length c, .slice B (dig Y).length d] w fun e w' => e = .returned (.bool (decide (X = Y))) ∧ Below w.heap.size w w' := by
  have HX := Lib.hid hX
  have HY := Lib.hid hY
  have HSX := Lib.hid hsx
  have HSY := Lib.hid hsy
  clear hX hY hsx hsy
  by_cases h1 : X < Y
  · have d1 : decide (X < Y) = true := decide_eq_true h1
    have HE := Lib.hid (show decide (X = Y) = false from decide_eq_false (by omega))
    clear h1
    go_enter Try.func24, Try.ntmps24
    go_wp2_with fail
    refine (least_any A B c d X Y HSX.out _ HX.out HY.out).mono ?_
    rintro e x1 ⟨rfl, hb1⟩
    have HB1 : Hid (Below w.heap.size w x1) := Below.trans (by (repeat (first | with_reducible exact (Below.refl _ _) | with_reducible refine below_pin ?_ ?_ | with_reducible refine Below.alloc ?_ ?_ _ | with_reducible refine Below.setCell ?_ ?_ _ | with_reducible refine Below.drew ?_)); all_goals (first | omega | (simp only [World.size_alloc, pin_size, World.size_drew, World.size_setCell] <;> omega))) (hb1.mono (by (first | omega | (simp only [World.size_alloc, pin_size, World.size_drew, World.size_setCell] <;> omega))))
    have hz1 := HB1.out.size
    clear hb1
    go_wp2_with fail
    go_ret
    exact ⟨by rw [HE.out]; rfl, (by (repeat (first | with_reducible exact HB1.out | with_reducible refine below_pin ?_ ?_ | with_reducible refine Below.alloc ?_ ?_ _ | with_reducible refine Below.setCell ?_ ?_ _ | with_reducible refine Below.drew ?_)); all_goals (first | omega | (simp only [World.size_alloc, pin_size, World.size_drew, World.size_setCell] <;> omega)))⟩
  · have d1 : decide (X < Y) = false := decide_eq_false h1
    by_cases h2 : Y < X
    · have d2 : decide (Y < X) = true := decide_eq_true h2
      have HE := Lib.hid (show decide (X = Y) = false from decide_eq_false (by omega))
      clear h1 h2
      go_enter Try.func24, Try.ntmps24
      go_wp2_with fail
      refine (least_any A B c d X Y HSX.out _ HX.out HY.out).mono ?_
      rintro e x1 ⟨rfl, hb1⟩
      have HB1 : Hid (Below w.heap.size w x1) := Below.trans (by (repeat (first | with_reducible exact (Below.refl _ _) | with_reducible refine below_pin ?_ ?_ | with_reducible refine Below.alloc ?_ ?_ _ | with_reducible refine Below.setCell ?_ ?_ _ | with_reducible refine Below.drew ?_)); all_goals (first | omega | (simp only [World.size_alloc, pin_size, World.size_drew, World.size_setCell] <;> omega))) (hb1.mono (by (first | omega | (simp only [World.size_alloc, pin_size, World.size_drew, World.size_setCell] <;> omega))))
      have hz1 := HB1.out.size
      clear hb1
      go_wp2_with fail
      refine (least_any B A d c Y X HSY.out _ (HY.out.mono HB1.out (Nat.le_refl _)) (HX.out.mono HB1.out (Nat.le_refl _))).mono ?_
      rintro e x2 ⟨rfl, hb2⟩
      have HB2 : Hid (Below w.heap.size w x2) := Below.trans (by (repeat (first | with_reducible exact HB1.out | with_reducible refine below_pin ?_ ?_ | with_reducible refine Below.alloc ?_ ?_ _ | with_reducible refine Below.setCell ?_ ?_ _ | with_reducible refine Below.drew ?_)); all_goals (first | omega | (simp only [World.size_alloc, pin_size, World.size_drew, World.size_setCell] <;> omega))) (hb2.mono (by (first | omega | (simp only [World.size_alloc, pin_size, World.size_drew, World.size_setCell] <;> omega))))
      have hz2 := HB2.out.size
      clear hb2
      go_wp2_with fail
      go_ret
      exact ⟨by rw [HE.out]; rfl, (by (repeat (first | with_reducible exact HB2.out | with_reducible refine below_pin ?_ ?_ | with_reducible refine Below.alloc ?_ ?_ _ | with_reducible refine Below.setCell ?_ ?_ _ | with_reducible refine Below.drew ?_)); all_goals (first | omega | (simp only [World.size_alloc, pin_size, World.size_drew, World.size_setCell] <;> omega)))⟩
    · have d2 : decide (Y < X) = false := decide_eq_false h2
      have HE := Lib.hid (show decide (X = Y) = true from decide_eq_true (by omega))
      clear h1 h2
      go_enter Try.func24, Try.ntmps24
      go_wp2_with fail
      refine (least_any A B c d X Y HSX.out _ HX.out HY.out).mono ?_
      rintro e x1 ⟨rfl, hb1⟩
      have HB1 : Hid (Below w.heap.size w x1) := Below.trans (by (repeat (first | with_reducible exact (Below.refl _ _) | with_reducible refine below_pin ?_ ?_ | with_reducible refine Below.alloc ?_ ?_ _ | with_reducible refine Below.setCell ?_ ?_ _ | with_reducible refine Below.drew ?_)); all_goals (first | omega | (simp only [World.size_alloc, pin_size, World.size_drew, World.size_setCell] <;> omega))) (hb1.mono (by (first | omega | (simp only [World.size_alloc, pin_size, World.size_drew, World.size_setCell] <;> omega))))
      have hz1 := HB1.out.size
      clear hb1
      go_wp2_with fail
      refine (least_any B A d c Y X HSY.out _ (HY.out.mono HB1.out (Nat.le_refl _)) (HX.out.mono HB1.out (Nat.le_refl _))).mono ?_
      rintro e x2 ⟨rfl, hb2⟩
      have HB2 : Hid (Below w.heap.size w x2) := Below.trans (by (repeat (first | with_reducible exact HB1.out | with_reducible refine below_pin ?_ ?_ | with_reducible refine Below.alloc ?_ ?_ _ | with_reducible refine Below.setCell ?_ ?_ _ | with_reducible refine Below.drew ?_)); all_goals (first | omega | (simp only [World.size_alloc, pin_size, World.size_drew, World.size_setCell] <;> omega))) (hb2.mono (by (first | omega | (simp only [World.size_alloc, pin_size, World.size_drew, World.size_setCell] <;> omega))))
      have hz2 := HB2.out.size
      clear hb2
      go_wp2_with fail
      go_ret
      exact ⟨by rw [HE.out]; rfl, (by (repeat (first | with_reducible exact HB2.out | with_reducible refine below_pin ?_ ?_ | with_reducible refine Below.alloc ?_ ?_ _ | with_reducible refine Below.setCell ?_ ?_ _ | with_reducible refine Below.drew ?_)); all_goals (first | omega | (simp only [World.size_alloc, pin_size, World.size_drew, World.size_setCell] <;> omega)))⟩

set_option maxRecDepth 100000 in
set_option maxHeartbeats 2000000 in
theorem Is_to (s : Fn) (A : Option Addr) (c n : Nat) (hn : n < Num.p) (hs : s = small n) (w : World) (hX : Dn w A c n) :
    Calls Try.prog 19 #[s.v, .slice A (dig n).length c] w fun e w' => e = .returned (.bool true) ∧ Below w.heap.size w w' := by
  have HX := Lib.hid hX
  have HN := Lib.hid hn
  have HS0 := Lib.hid hs
  clear hX hn hs
  go_enter Try.func19, Try.ntmps19
  go_wp2_with fail
  refine start_ (S := Keeps w _) (ds := []) (n := 5) #[false, false, false, false, false] (by kernel_rfl) rfl rfl (keepsC (b := w.heap.size) (by (repeat (first | with_reducible exact pin_at (by assumption) | (with_reducible apply pin_at; (first | omega | (simp only [World.size_alloc, pin_size, World.size_drew, World.size_setCell] <;> omega))) | (with_reducible apply alloc_at; first | rfl | (simp only [World.size_alloc, pin_size, World.size_drew, World.size_setCell] <;> omega)) | with_reducible apply past_pin | with_reducible apply past_alloc | with_reducible apply past_drew)); all_goals (first | omega | (simp only [World.size_alloc, pin_size, World.size_drew, World.size_setCell] <;> omega))) (keeps0 (by (repeat (first | with_reducible exact (Below.refl _ _) | with_reducible refine below_pin ?_ ?_ | with_reducible refine Below.alloc ?_ ?_ _ | with_reducible refine Below.setCell ?_ ?_ _ | with_reducible refine Below.drew ?_)); all_goals (first | omega | (simp only [World.size_alloc, pin_size, World.size_drew, World.size_setCell] <;> omega))))) (fun HS => ?_)
  refine take_ #[true, false, false, false, false] (i := 0) (N := some 5) (v := ?v1) rfl rfl (by kernel_rfl) (fun _ _ _ h => h) (Or.inl ⟨by rfl, ?hy1⟩) HS rfl ?_
  case hy1 => (intro v hv; obtain ⟨x, rfl, _, _, n0⟩ := hv.pin1; go_simp; first | done | with_reducible rfl)
  simp only [Act.put, List.setIfInBounds_toArray, List.set_cons_zero, List.set_cons_succ]
  refine take_ #[true, true, false, false, false] (i := 1) (N := some 6) (v := ?v2) rfl rfl (by kernel_rfl) (fun _ _ _ h => h) (Or.inl ⟨by rfl, ?hy2⟩) HS rfl ?_
  case hy2 => (intro v hv; obtain ⟨x, rfl, _, _, n0⟩ := hv.pin1; go_simp; first | done | with_reducible rfl)
  simp only [Act.put, List.setIfInBounds_toArray, List.set_cons_zero, List.set_cons_succ]
  refine one_ #[true, true, true, false, false] (i := 2) (N := some 7) rfl rfl (by kernel_rfl) (by decide) (fun K hK => ?_)
  go_simp
  refine (Elem_to A c n s HN.out HS0.out _ (HX.out.mono HS.1 (Nat.le_refl _))).mono ?_
  rintro e y ⟨rfl, hb⟩
  refine hK.out _ _ (HS.step hb rfl) ?_
  clear HS hb
  intro HS
  refine take_ #[true, true, true, true, false] (i := 3) (N := some 8) (v := ?v3) rfl rfl (by kernel_rfl) (fun _ _ _ h => h) (Or.inl ⟨by rfl, ?hy3⟩) HS rfl ?_
  case hy3 => (intro v hv; obtain ⟨x, rfl, _, _, n0⟩ := hv.pin1; go_simp; first | done | with_reducible rfl)
  simp only [Act.put, List.setIfInBounds_toArray, List.set_cons_zero, List.set_cons_succ]
  refine take_ #[true, true, true, true, true] (i := 4) (N := some 4) (v := ?v4) rfl rfl (by kernel_rfl) (fun _ _ _ h => h) (Or.inl ⟨by rfl, ?hy4⟩) HS rfl ?_
  case hy4 => (intro v hv; obtain ⟨x, rfl, _, _, n0⟩ := hv.pin1; go_simp; first | done | with_reducible rfl)
  simp only [Act.put, List.setIfInBounds_toArray, List.set_cons_zero, List.set_cons_succ]
  obtain ⟨x1, rfl, hk1, hz1, l10⟩ := HS.pin1
  have HB1 : Hid (Below w.heap.size w x1) := hk1.below
  clear HS hk1
  refine done_ (by kernel_rfl) ?_
  go_wp2_with fail
  go_ret
  exact ⟨rfl, (by (repeat (first | with_reducible exact HB1.out | with_reducible refine below_pin ?_ ?_ | with_reducible refine Below.alloc ?_ ?_ _ | with_reducible refine Below.setCell ?_ ?_ _ | with_reducible refine Below.drew ?_)); all_goals (first | omega | (simp only [World.size_alloc, pin_size, World.size_drew, World.size_setCell] <;> omega)))⟩

set_option maxRecDepth 100000 in
set_option maxHeartbeats 2000000 in
theorem RDec_any (A : Option Addr) (c : Nat) (bs : List Nat) (hb : ∀ b ∈ bs, b < 256) (w : World) (hB : Rd w .u8 A bs) :
    Calls Try.prog 14 #[.slice A bs.length c] w fun e w' => e = .returned (.tuple #[(decF bs).v, .int .i64 (decE bs)]) ∧ Below w.heap.size w w' := by
  have HB := Lib.hid hB
  have HY := Lib.hid hb
  obtain ⟨N, hN⟩ : ∃ N, N = bs.length := ⟨_, rfl⟩
  clear hB hb
  by_cases hl : bs.length = 32
  · have HL := Lib.hid hl
    have hd : ((bs.length : Int) != 32) = false := by rw [hl]; rfl
    clear hl
    by_cases hp : leN bs < Num.p
    · have hpd : decide (leN bs < Num.p) = true := decide_eq_true hp
      have HP := Lib.hid hp
      clear hp
      go_enter Try.func14, Try.ntmps14
      go_wp2_with fail
      refine (Number_any A c bs HY.out (by rw [HL.out]; decide) _ (HB.out.mono (Below.alloc (Below.refl _ _) (Nat.le_refl _) _) (Nat.le_refl _))).mono ?_
      rintro e y1 ⟨⟨A1, c1, rfl, hd1⟩, hb1⟩
      obtain ⟨x1, rfl, hc1, hz1, l10⟩ := keep1 (b := w.heap.size) hb1 rfl (by (repeat (first | with_reducible exact pin_at (by assumption) | (with_reducible apply pin_at; (first | omega | (simp only [World.size_alloc, pin_size, World.size_drew, World.size_setCell] <;> omega))) | (with_reducible apply alloc_at; first | rfl | (simp only [World.size_alloc, pin_size, World.size_drew, World.size_setCell] <;> omega)) | with_reducible apply past_pin | with_reducible apply past_alloc | with_reducible apply past_drew)); all_goals (first | omega | (simp only [World.size_alloc, pin_size, World.size_drew, World.size_setCell] <;> omega)))
      have HB1 : Hid (Below w.heap.size w x1) := Below.trans (by (repeat (first | with_reducible exact (Below.refl _ _) | with_reducible refine below_pin ?_ ?_ | with_reducible refine Below.alloc ?_ ?_ _ | with_reducible refine Below.setCell ?_ ?_ _ | with_reducible refine Below.drew ?_)); all_goals (first | omega | (simp only [World.size_alloc, pin_size, World.size_drew, World.size_setCell] <;> omega))) (hc1.mono (by (first | omega | (simp only [World.size_alloc, pin_size, World.size_drew, World.size_setCell] <;> omega))))
      clear hb1 hc1
      try simp only [World.size_alloc, pin_size, World.size_drew, World.size_setCell] at hz1
      have HD1 := Lib.hid hd1
      clear hd1
      go_wp2_with fail
      refine (P_any _).mono ?_
      rintro e y2 ⟨⟨A2, c2, rfl, hd2⟩, hb2⟩
      have HD1b := Lib.hid (HD1.out.next hb2)
      obtain ⟨x2, rfl, hc2, hz2, l20⟩ := keep1 (b := w.heap.size) hb2 rfl (by (repeat (first | with_reducible exact pin_at (by assumption) | (with_reducible apply pin_at; (first | omega | (simp only [World.size_alloc, pin_size, World.size_drew, World.size_setCell] <;> omega))) | (with_reducible apply alloc_at; first | rfl | (simp only [World.size_alloc, pin_size, World.size_drew, World.size_setCell] <;> omega)) | with_reducible apply past_pin | with_reducible apply past_alloc | with_reducible apply past_drew)); all_goals (first | omega | (simp only [World.size_alloc, pin_size, World.size_drew, World.size_setCell] <;> omega)))
      have HB2 : Hid (Below w.heap.size w x2) := Below.trans (by (repeat (first | with_reducible exact HB1.out | with_reducible refine below_pin ?_ ?_ | with_reducible refine Below.alloc ?_ ?_ _ | with_reducible refine Below.setCell ?_ ?_ _ | with_reducible refine Below.drew ?_)); all_goals (first | omega | (simp only [World.size_alloc, pin_size, World.size_drew, World.size_setCell] <;> omega))) (hc2.mono (by (first | omega | (simp only [World.size_alloc, pin_size, World.size_drew, World.size_setCell] <;> omega))))
      clear hb2 hc2
      try simp only [World.size_alloc, pin_size, World.size_drew, World.size_setCell] at hz2
      have HD2 := Lib.hid hd2
      clear hd2
      go_wp2_with fail
      refine (least_any A1 A2 c1 c2 (leN bs) Num.p (Nat.le_trans (dig_len_le (k := 16) (Nat.lt_of_lt_of_eq (leN_lt bs HY.out) (by rw [HL.out]; decide))) (by decide)) _ HD1b.out HD2.out).mono ?_
      rintro e y3 ⟨rfl, hb3⟩
      obtain ⟨x3, rfl, hc3, hz3, l30⟩ := keep1 (b := w.heap.size) hb3 rfl (by (repeat (first | with_reducible exact pin_at (by assumption) | (with_reducible apply pin_at; (first | omega | (simp only [World.size_alloc, pin_size, World.size_drew, World.size_setCell] <;> omega))) | (with_reducible apply alloc_at; first | rfl | (simp only [World.size_alloc, pin_size, World.size_drew, World.size_setCell] <;> omega)) | with_reducible apply past_pin | with_reducible apply past_alloc | with_reducible apply past_drew)); all_goals (first | omega | (simp only [World.size_alloc, pin_size, World.size_drew, World.size_setCell] <;> omega)))
      have HB3 : Hid (Below w.heap.size w x3) := Below.trans (by (repeat (first | with_reducible exact HB2.out | with_reducible refine below_pin ?_ ?_ | with_reducible refine Below.alloc ?_ ?_ _ | with_reducible refine Below.setCell ?_ ?_ _ | with_reducible refine Below.drew ?_)); all_goals (first | omega | (simp only [World.size_alloc, pin_size, World.size_drew, World.size_setCell] <;> omega))) (hc3.mono (by (first | omega | (simp only [World.size_alloc, pin_size, World.size_drew, World.size_setCell] <;> omega))))
      clear hb3 hc3
      try simp only [World.size_alloc, pin_size, World.size_drew, World.size_setCell] at hz3
      go_wp2_with fail
      refine (Number_any A c bs HY.out (by rw [HL.out]; decide) _ (HB.out.mono (show Below w.heap.size w _ from (by (repeat (first | with_reducible exact HB3.out | with_reducible refine below_pin ?_ ?_ | with_reducible refine Below.alloc ?_ ?_ _ | with_reducible refine Below.setCell ?_ ?_ _ | with_reducible refine Below.drew ?_)); all_goals (first | omega | (simp only [World.size_alloc, pin_size, World.size_drew, World.size_setCell] <;> omega)))) (Nat.le_refl _))).mono ?_
      rintro e y4 ⟨⟨A4, c4, rfl, hd4⟩, hb4⟩
      obtain ⟨x4, rfl, hc4, hz4, l40⟩ := keep1 (b := w.heap.size) hb4 rfl (by (repeat (first | with_reducible exact pin_at (by assumption) | (with_reducible apply pin_at; (first | omega | (simp only [World.size_alloc, pin_size, World.size_drew, World.size_setCell] <;> omega))) | (with_reducible apply alloc_at; first | rfl | (simp only [World.size_alloc, pin_size, World.size_drew, World.size_setCell] <;> omega)) | with_reducible apply past_pin | with_reducible apply past_alloc | with_reducible apply past_drew)); all_goals (first | omega | (simp only [World.size_alloc, pin_size, World.size_drew, World.size_setCell] <;> omega)))
      have HB4 : Hid (Below w.heap.size w x4) := Below.trans (by (repeat (first | with_reducible exact HB3.out | with_reducible refine below_pin ?_ ?_ | with_reducible refine Below.alloc ?_ ?_ _ | with_reducible refine Below.setCell ?_ ?_ _ | with_reducible refine Below.drew ?_)); all_goals (first | omega | (simp only [World.size_alloc, pin_size, World.size_drew, World.size_setCell] <;> omega))) (hc4.mono (by (first | omega | (simp only [World.size_alloc, pin_size, World.size_drew, World.size_setCell] <;> omega))))
      clear hb4 hc4
      try simp only [World.size_alloc, pin_size, World.size_drew, World.size_setCell] at hz4
      have HD4 := Lib.hid hd4
      clear hd4
      go_wp2_with fail
      refine (Elem_to A4 c4 (leN bs) (small (leN bs)) HP.out rfl _ HD4.out).mono ?_
      rintro e y5 ⟨rfl, hb5⟩
      obtain ⟨x5, rfl, hc5, hz5, l50⟩ := keep1 (b := w.heap.size) hb5 rfl (by (repeat (first | with_reducible exact pin_at (by assumption) | (with_reducible apply pin_at; (first | omega | (simp only [World.size_alloc, pin_size, World.size_drew, World.size_setCell] <;> omega))) | (with_reducible apply alloc_at; first | rfl | (simp only [World.size_alloc, pin_size, World.size_drew, World.size_setCell] <;> omega)) | with_reducible apply past_pin | with_reducible apply past_alloc | with_reducible apply past_drew)); all_goals (first | omega | (simp only [World.size_alloc, pin_size, World.size_drew, World.size_setCell] <;> omega)))
      have HB5 : Hid (Below w.heap.size w x5) := Below.trans (by (repeat (first | with_reducible exact HB4.out | with_reducible refine below_pin ?_ ?_ | with_reducible refine Below.alloc ?_ ?_ _ | with_reducible refine Below.setCell ?_ ?_ _ | with_reducible refine Below.drew ?_)); all_goals (first | omega | (simp only [World.size_alloc, pin_size, World.size_drew, World.size_setCell] <;> omega))) (hc5.mono (by (first | omega | (simp only [World.size_alloc, pin_size, World.size_drew, World.size_setCell] <;> omega))))
      clear hb5 hc5
      try simp only [World.size_alloc, pin_size, World.size_drew, World.size_setCell] at hz5
      go_wp2_with fail
      refine bodyPost_ret (v := .tuple #[(small (leN bs)).v, .int .i64 0]) ?_ rfl ⟨by unfold decF decE; rw [if_pos ⟨HL.out, HP.out⟩, if_pos HL.out, if_pos HP.out], ?_⟩
      · simp [results, Try.results14, go_sem, l10, l20, l30, l40, l50]
      · exact (by (repeat (first | with_reducible exact HB5.out | with_reducible refine below_pin ?_ ?_ | with_reducible refine Below.alloc ?_ ?_ _ | with_reducible refine Below.setCell ?_ ?_ _ | with_reducible refine Below.drew ?_)); all_goals (first | omega | (simp only [World.size_alloc, pin_size, World.size_drew, World.size_setCell] <;> omega)))
    · have hpd : decide (leN bs < Num.p) = false := decide_eq_false hp
      have HP := Lib.hid hp
      clear hp
      go_enter Try.func14, Try.ntmps14
      go_wp2_with fail
      refine (Number_any A c bs HY.out (by rw [HL.out]; decide) _ (HB.out.mono (Below.alloc (Below.refl _ _) (Nat.le_refl _) _) (Nat.le_refl _))).mono ?_
      rintro e y1 ⟨⟨A1, c1, rfl, hd1⟩, hb1⟩
      obtain ⟨x1, rfl, hc1, hz1, l10⟩ := keep1 (b := w.heap.size) hb1 rfl (by (repeat (first | with_reducible exact pin_at (by assumption) | (with_reducible apply pin_at; (first | omega | (simp only [World.size_alloc, pin_size, World.size_drew, World.size_setCell] <;> omega))) | (with_reducible apply alloc_at; first | rfl | (simp only [World.size_alloc, pin_size, World.size_drew, World.size_setCell] <;> omega)) | with_reducible apply past_pin | with_reducible apply past_alloc | with_reducible apply past_drew)); all_goals (first | omega | (simp only [World.size_alloc, pin_size, World.size_drew, World.size_setCell] <;> omega)))
      have HB1 : Hid (Below w.heap.size w x1) := Below.trans (by (repeat (first | with_reducible exact (Below.refl _ _) | with_reducible refine below_pin ?_ ?_ | with_reducible refine Below.alloc ?_ ?_ _ | with_reducible refine Below.setCell ?_ ?_ _ | with_reducible refine Below.drew ?_)); all_goals (first | omega | (simp only [World.size_alloc, pin_size, World.size_drew, World.size_setCell] <;> omega))) (hc1.mono (by (first | omega | (simp only [World.size_alloc, pin_size, World.size_drew, World.size_setCell] <;> omega))))
      clear hb1 hc1
      try simp only [World.size_alloc, pin_size, World.size_drew, World.size_setCell] at hz1
      have HD1 := Lib.hid hd1
      clear hd1
      go_wp2_with fail
      refine (P_any _).mono ?_
      rintro e y2 ⟨⟨A2, c2, rfl, hd2⟩, hb2⟩
      have HD1b := Lib.hid (HD1.out.next hb2)
      obtain ⟨x2, rfl, hc2, hz2, l20⟩ := keep1 (b := w.heap.size) hb2 rfl (by (repeat (first | with_reducible exact pin_at (by assumption) | (with_reducible apply pin_at; (first | omega | (simp only [World.size_alloc, pin_size, World.size_drew, World.size_setCell] <;> omega))) | (with_reducible apply alloc_at; first | rfl | (simp only [World.size_alloc, pin_size, World.size_drew, World.size_setCell] <;> omega)) | with_reducible apply past_pin | with_reducible apply past_alloc | with_reducible apply past_drew)); all_goals (first | omega | (simp only [World.size_alloc, pin_size, World.size_drew, World.size_setCell] <;> omega)))
      have HB2 : Hid (Below w.heap.size w x2) := Below.trans (by (repeat (first | with_reducible exact HB1.out | with_reducible refine below_pin ?_ ?_ | with_reducible refine Below.alloc ?_ ?_ _ | with_reducible refine Below.setCell ?_ ?_ _ | with_reducible refine Below.drew ?_)); all_goals (first | omega | (simp only [World.size_alloc, pin_size, World.size_drew, World.size_setCell] <;> omega))) (hc2.mono (by (first | omega | (simp only [World.size_alloc, pin_size, World.size_drew, World.size_setCell] <;> omega))))
      clear hb2 hc2
      try simp only [World.size_alloc, pin_size, World.size_drew, World.size_setCell] at hz2
      have HD2 := Lib.hid hd2
      clear hd2
      go_wp2_with fail
      refine (least_any A1 A2 c1 c2 (leN bs) Num.p (Nat.le_trans (dig_len_le (k := 16) (Nat.lt_of_lt_of_eq (leN_lt bs HY.out) (by rw [HL.out]; decide))) (by decide)) _ HD1b.out HD2.out).mono ?_
      rintro e y3 ⟨rfl, hb3⟩
      obtain ⟨x3, rfl, hc3, hz3, l30⟩ := keep1 (b := w.heap.size) hb3 rfl (by (repeat (first | with_reducible exact pin_at (by assumption) | (with_reducible apply pin_at; (first | omega | (simp only [World.size_alloc, pin_size, World.size_drew, World.size_setCell] <;> omega))) | (with_reducible apply alloc_at; first | rfl | (simp only [World.size_alloc, pin_size, World.size_drew, World.size_setCell] <;> omega)) | with_reducible apply past_pin | with_reducible apply past_alloc | with_reducible apply past_drew)); all_goals (first | omega | (simp only [World.size_alloc, pin_size, World.size_drew, World.size_setCell] <;> omega)))
      have HB3 : Hid (Below w.heap.size w x3) := Below.trans (by (repeat (first | with_reducible exact HB2.out | with_reducible refine below_pin ?_ ?_ | with_reducible refine Below.alloc ?_ ?_ _ | with_reducible refine Below.setCell ?_ ?_ _ | with_reducible refine Below.drew ?_)); all_goals (first | omega | (simp only [World.size_alloc, pin_size, World.size_drew, World.size_setCell] <;> omega))) (hc3.mono (by (first | omega | (simp only [World.size_alloc, pin_size, World.size_drew, World.size_setCell] <;> omega))))
      clear hb3 hc3
      try simp only [World.size_alloc, pin_size, World.size_drew, World.size_setCell] at hz3
      go_wp2_with fail
      refine bodyPost_ret (v := .tuple #[(⟨0, 0, 0, 0, 0⟩ : Fn).v, .int .i64 30]) ?_ rfl ⟨by unfold decF decE; rw [if_neg (fun h => HP.out h.2), if_pos HL.out, if_neg HP.out], ?_⟩
      · simp [results, Try.results14, go_sem, l10, l20, l30]
      · exact (by (repeat (first | with_reducible exact HB3.out | with_reducible refine below_pin ?_ ?_ | with_reducible refine Below.alloc ?_ ?_ _ | with_reducible refine Below.setCell ?_ ?_ _ | with_reducible refine Below.drew ?_)); all_goals (first | omega | (simp only [World.size_alloc, pin_size, World.size_drew, World.size_setCell] <;> omega)))
  · have hd : ((bs.length : Int) != 32) = true := by rw [bne_iff_ne]; omega
    have HL := Lib.hid hl
    clear hl
    go_enter Try.func14, Try.ntmps14
    go_wp2_with fail
    refine bodyPost_ret (v := .tuple #[(⟨0, 0, 0, 0, 0⟩ : Fn).v, .int .i64 1]) ?_ rfl ⟨by unfold decF decE; rw [if_neg (fun h => HL.out h.1), if_neg HL.out], ?_⟩
    · simp [results, Try.results14, go_sem]
    · exact (by (repeat (first | with_reducible exact (Below.refl _ _) | with_reducible refine below_pin ?_ ?_ | with_reducible refine Below.alloc ?_ ?_ _ | with_reducible refine Below.setCell ?_ ?_ _ | with_reducible refine Below.drew ?_)); all_goals (first | omega | (simp only [World.size_alloc, pin_size, World.size_drew, World.size_setCell] <;> omega)))


end Go.Proofs.Ytljolpdpblohcaa
