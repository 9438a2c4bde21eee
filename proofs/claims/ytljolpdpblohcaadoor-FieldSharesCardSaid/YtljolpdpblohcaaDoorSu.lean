/-
  Walks: numbers as rows of digits: sums, differences, products.
-/
import Derived.Test.YtljolpdpblohcaaDoorTr
import Derived.Test.YtljolpdpblohcaaDoorDs
import Derived.Deep.OwnRows
namespace Go.Proofs.YtljolpdpblohcaaDoor
open Go.RowKit Go.Proofs.YtljolpdpblohcaaDoorW.PrintLast
set_option linter.unusedSimpArgs false

theorem made_row (n : Nat) : madeCells #[.int .u64 0] n = row n (fun _ => 0) := by
  apply Array.ext_getElem?
  intro i
  by_cases h : i < n
  · rw [row_get _ h]; simp [madeCells, h, Nat.mod_one]
  · simp [madeCells, row, h]
/-- A row of digits is made. -/
theorem make_row (n : Nat) (h : n ≤ 4000000) (w : World) : (Instr.makeSlice 48 (.int .i64 (n : Int)) (.int .i64 (n : Int))).run Tryd.prog w = .ok (.slice (some ⟨w.heap.size, 0, none⟩) n n) (w.alloc (.cells (row n fun _ => 0) 33)) := by
  have h1 := run_make_row' (P := Tryd.prog) 48 33 (.int .u64 0) 8 (by kernel_rfl) (by kernel_rfl) rfl .i64 .i64 n (by omega) (by omega) w
  rw [h1, made_row]

/-- What is left of a row of a call's own. -/
theorem trim_row (b n : Nat) (F : Nat → Nat) (w : World) (hw : w.heap[b]? = some (.cells (row n F) 33)) (hf : ∀ j, F j < BB) (hn : n ≤ 4000000) :
    Calls Tryd.prog 43 #[.slice (some ⟨b, 0, none⟩) n n] w fun e w' => (∃ A' c', e = .returned (.slice A' (dig (valF n F)).length c') ∧ Dn w' A' c' (valF n F)) ∧ Below w.heap.size w w' := by
  have hl : ((List.range n).map F).length = n := by simp
  have h := trim_any (some ⟨b, 0, none⟩) n ((List.range n).map F) (by intro d hd; obtain ⟨i, _, rfl⟩ := List.mem_map.mp hd; exact hf i) (by rw [hl]; exact hn) (by rw [hl]; exact Nat.le_refl _) w (row_rd hw)
  rw [hl, valF_row] at h
  exact h

set_option maxRecDepth 100000 in
set_option maxHeartbeats 2000000 in
theorem sum_ge (A B : Option Addr) (c d X Y : Nat) (hsz : (dig X).length ≤ 1000000) (hle : (dig Y).length ≤ (dig X).length) (w : World) (hX : Dn w A c X) (hY : Dn w B d Y) :
    Calls Tryd.prog 30 #[.slice A (dig X).length c, .slice B (dig Y).length d] w fun e w' => (∃ A' c', e = .returned (.slice A' (dig (X + Y)).length c') ∧ Dn w' A' c' (X + Y)) ∧ Below w.heap.size w w' := by
  have HX := Lib.hid hX
  have HY := Lib.hid hY
  have HLY := Lib.hid hle
  obtain ⟨L, hL⟩ : ∃ L, L = (dig X).length := ⟨_, rfl⟩
  obtain ⟨M, hM⟩ : ∃ M, M = (dig Y).length := ⟨_, rfl⟩
  have hmk : ∀ w, (Instr.makeSlice 48 (.int .i64 ((L : Int) + 1)) (.int .i64 ((L : Int) + 1))).run Tryd.prog w = .ok (.slice (some ⟨w.heap.size, 0, none⟩) (L + 1) (L + 1)) (w.alloc (.cells (row (L + 1) fun _ => 0) 33)) := fun w => make_row (L + 1) (by omega) w
  rw [← hL, ← hM]
  have hML : ¬ (L : Int) < (M : Int) := by omega
  have e0 : wrap64 ((L : Int) + 1) = (L : Int) + 1 := wr64 _ (by omega)
  have HL := Lib.hid hL
  have HM := Lib.hid hM
  have HS := Lib.hid hsz
  clear hX hY hle hL hM hsz
  go_enter Tryd.func30, Tryd.ntmps30
  go_wp2_with fail
  go_loopw [6, 7] (fun cv iv wr => ∃ (i cr : Nat) (fc : Nat → Nat) (x : World), cv = .int .u64 (cr : Int) ∧ iv = .int .i64 (i : Int) ∧ wr = x.pin w.heap.size (.cells (row (L + 1) fc) 33) ∧ w.heap.size < x.heap.size ∧ Hid (Below w.heap.size w x ∧ i ≤ L ∧ SumI X Y (L + 1) i fc cr)) (fun _ iv _ => (L - intOf iv).toNat)
  case atStart => exact ⟨0, 0, fun _ => 0, _, rfl, rfl, pins1 (by (repeat (first | with_reducible exact pin_at (by assumption) | (with_reducible apply pin_at; (first | omega | (simp only [World.size_alloc, pin_size, World.size_drew, World.size_setCell] <;> omega))) | (with_reducible apply alloc_at; first | rfl | (simp only [World.size_alloc, pin_size, World.size_drew, World.size_setCell] <;> omega)) | with_reducible apply past_pin | with_reducible apply past_alloc | with_reducible apply past_drew)); all_goals (first | omega | (simp only [World.size_alloc, pin_size, World.size_drew, World.size_setCell] <;> omega))), (by (first | omega | (simp only [World.size_alloc, pin_size, World.size_drew, World.size_setCell] <;> omega))), (by (repeat (first | with_reducible exact (Below.refl _ _) | with_reducible refine below_pin ?_ ?_ | with_reducible refine Below.alloc ?_ ?_ _ | with_reducible refine Below.setCell ?_ ?_ _ | with_reducible refine Below.drew ?_)); all_goals (first | omega | (simp only [World.size_alloc, pin_size, World.size_drew, World.size_setCell] <;> omega))), Nat.zero_le _, sum_start X Y _⟩
  case round =>
    obtain ⟨i, cr, fc, x, rfl, rfl, rfl, q0, H⟩ := hrel
    by_cases hi : i < L
    · obtain ⟨b, off, rfl, hbw, hcell⟩ := HX.out.cell (i := i) (by rw [← HL.out]; exact hi)
      obtain ⟨a, ha⟩ : ∃ a, a = dg X i := ⟨_, rfl⟩
      have hc : x.cell? ⟨b, off + i, none⟩ = some (.int .u64 (a : Int)) := by rw [ha]; exact (H.out.1.cell (p := ⟨b, off + i, none⟩) hbw).trans (hcell i (by rw [← HL.out]; exact hi))
      have HA := Lib.hid ha
      clear hcell ha
      by_cases hj : i < M
      · obtain ⟨b2, off2, rfl, hbw2, hcell2⟩ := HY.out.cell (i := i) (by rw [← HM.out]; exact hj)
        obtain ⟨a2, ha2⟩ : ∃ a, a = dg Y i := ⟨_, rfl⟩
        have hc2 : x.cell? ⟨b2, off2 + i, none⟩ = some (.int .u64 (a2 : Int)) := by rw [ha2]; exact (H.out.1.cell (p := ⟨b2, off2 + i, none⟩) hbw2).trans (hcell2 i (by rw [← HM.out]; exact hj))
        have HA2 := Lib.hid ha2
        clear hcell2 ha2
        have hb1 : a + cr + a2 < 131074 := by rw [HA.out, HA2.out]; exact sum_b H.out.2.2
        have v1 : IntKind.u64.wrap ((a : Int) + (cr : Int)) = ((a + cr : Nat) : Int) := u64_add _ _ (by omega)
        have v2 : IntKind.u64.wrap (((a + cr : Nat) : Int) + (a2 : Int)) = ((a + cr + a2 : Nat) : Int) := u64_add _ _ (by omega)
        have V3 := Lib.hid (i64s i (by have := HS.out; have := HL.out; omega))
        have hg := row_get fc (show i < L + 1 by omega)
        go_wp2
        refine ⟨⟨i + 1, _, _, x, vq3 _ _ _, vi1 _ (by have := HS.out; have := HL.out; omega), by rw [vr3, row_set], q0, H.out.1, by omega, by rw [HA.out, HA2.out]; exact sum_step H.out.2.2 (by omega)⟩, meas_up L i hi (by have := HS.out; have := HL.out; omega)⟩
      · have hb1 : a + cr < 131074 := by have := sum_b H.out.2.2; rw [← HA.out] at this; omega
        have v1 : IntKind.u64.wrap ((a : Int) + (cr : Int)) = ((a + cr : Nat) : Int) := u64_add _ _ (by omega)
        have V3 := Lib.hid (i64s i (by have := HS.out; have := HL.out; omega))
        have hg := row_get fc (show i < L + 1 by omega)
        go_wp2
        have hst := sum_step H.out.2.2 (show i < L + 1 by omega)
        rw [show dg Y i = 0 from dig_off Y i (by have := HM.out; omega), ← HA.out] at hst
        simp only [Nat.add_zero] at hst
        refine ⟨⟨i + 1, _, _, x, vq2 _ _, vi1 _ (by have := HS.out; have := HL.out; omega), by rw [vr2, row_set], q0, H.out.1, by omega, hst⟩, meas_up L i hi (by have := HS.out; have := HL.out; omega)⟩
    · have hi' : i = L := by have := H.out.2.1; omega
      subst hi'
      have hg := row_get fc (show i < i + 1 by omega)
      have HE := Lib.hid (sum_end H.out.2.2 (by have := HL.out; omega) (by have := HM.out; omega))
      go_wp2_with fail
      rw [row_set]
      refine (trim_row w.heap.size (i + 1) (upd fc i cr) _ (by (repeat (first | with_reducible exact pin_at (by assumption) | (with_reducible apply pin_at; (first | omega | (simp only [World.size_alloc, pin_size, World.size_drew, World.size_setCell] <;> omega))) | (with_reducible apply alloc_at; first | rfl | (simp only [World.size_alloc, pin_size, World.size_drew, World.size_setCell] <;> omega)) | with_reducible apply past_pin | with_reducible apply past_alloc | with_reducible apply past_drew)); all_goals (first | omega | (simp only [World.size_alloc, pin_size, World.size_drew, World.size_setCell] <;> omega))) (HE.out).2 (by have := HS.out; have := HL.out; omega)).mono ?_
      rintro e y ⟨⟨A', c', rfl, hd⟩, hb⟩
      rw [(HE.out).1] at hd ⊢
      have HB9 := Lib.hid hb
      have HD9 := Lib.hid hd
      clear hb hd
      go_wp2_with fail
      go_ret
      exact ⟨⟨A', c', rfl, HD9.out⟩, Below.trans (by (repeat (first | with_reducible exact H.out.1 | with_reducible refine below_pin ?_ ?_ | with_reducible refine Below.alloc ?_ ?_ _ | with_reducible refine Below.setCell ?_ ?_ _ | with_reducible refine Below.drew ?_)); all_goals (first | omega | (simp only [World.size_alloc, pin_size, World.size_drew, World.size_setCell] <;> omega))) (HB9.out.mono (by (first | omega | (simp only [World.size_alloc, pin_size, World.size_drew, World.size_setCell] <;> omega))))⟩


set_option maxRecDepth 100000 in
theorem sum_any (A B : Option Addr) (c d X Y : Nat) (hsx : (dig X).length ≤ 1000000) (hsy : (dig Y).length ≤ 1000000) (w : World) (hX : Dn w A c X) (hY : Dn w B d Y) :
    Calls Tryd.prog 30 #[.slice A (dig X).length c, .slice B (dig Y).length d] w fun e w' => (∃ A' c', e = .returned (.slice A' (dig (X + Y)).length c') ∧ Dn w' A' c' (X + Y)) ∧ Below w.heap.size w w' := by
  by_cases hle : (dig Y).length ≤ (dig X).length
  · exact sum_ge A B c d X Y hsx hle w hX hY
  · have hlt : ((dig X).length : Int) < ((dig Y).length : Int) := by omega
    have HX := Lib.hid hX
    have HY := Lib.hid hY
    clear hX hY
    go_enter Tryd.func30, Tryd.ntmps30
    go_wp2_with fail
    refine (sum_ge B A d c Y X hsy (by omega) _ HY.out HX.out).mono ?_
    rintro e y ⟨⟨A', c', rfl, hd⟩, hb⟩
    have HB := Lib.hid hb
    have HD := Lib.hid hd
    clear hb hd
    go_wp2_with fail
    go_ret
    exact ⟨⟨A', c', by rw [Nat.add_comm X Y]; rfl, by rw [Nat.add_comm X Y]; exact HD.out⟩, HB.out⟩
set_option maxRecDepth 100000 in
set_option maxHeartbeats 2000000 in
theorem minus_any (A B : Option Addr) (c d X Y : Nat) (hsz : (dig X).length ≤ 1000000) (hle : Y ≤ X) (w : World) (hX : Dn w A c X) (hY : Dn w B d Y) :
    Calls Tryd.prog 42 #[.slice A (dig X).length c, .slice B (dig Y).length d] w fun e w' => (∃ A' c', e = .returned (.slice A' (dig (X - Y)).length c') ∧ Dn w' A' c' (X - Y)) ∧ Below w.heap.size w w' := by
  have HX := Lib.hid hX
  have HY := Lib.hid hY
  have HLE := Lib.hid hle
  obtain ⟨L, hL⟩ : ∃ L, L = (dig X).length := ⟨_, rfl⟩
  obtain ⟨M, hM⟩ : ∃ M, M = (dig Y).length := ⟨_, rfl⟩
  have hmk : ∀ w, (Instr.makeSlice 48 (.int .i64 (L : Int)) (.int .i64 (L : Int))).run Tryd.prog w = .ok (.slice (some ⟨w.heap.size, 0, none⟩) L L) (w.alloc (.cells (row L fun _ => 0) 33)) := fun w => make_row L (by omega) w
  rw [← hL, ← hM]
  have HL := Lib.hid hL
  have HM := Lib.hid hM
  have HS := Lib.hid hsz
  clear hX hY hle hL hM hsz
  go_enter Tryd.func42, Tryd.ntmps42
  go_wp2_with fail
  go_loopw [6, 7] (fun cv iv wr => ∃ (i cr : Nat) (fc : Nat → Nat) (x : World), cv = .int .u64 (cr : Int) ∧ iv = .int .i64 (i : Int) ∧ wr = x.pin w.heap.size (.cells (row (L) fc) 33) ∧ w.heap.size < x.heap.size ∧ Hid (Below w.heap.size w x ∧ i ≤ L ∧ MinI X Y L i fc cr)) (fun _ iv _ => (L - intOf iv).toNat)
  case atStart => exact ⟨0, 0, fun _ => 0, _, rfl, rfl, pins1 (by (repeat (first | with_reducible exact pin_at (by assumption) | (with_reducible apply pin_at; (first | omega | (simp only [World.size_alloc, pin_size, World.size_drew, World.size_setCell] <;> omega))) | (with_reducible apply alloc_at; first | rfl | (simp only [World.size_alloc, pin_size, World.size_drew, World.size_setCell] <;> omega)) | with_reducible apply past_pin | with_reducible apply past_alloc | with_reducible apply past_drew)); all_goals (first | omega | (simp only [World.size_alloc, pin_size, World.size_drew, World.size_setCell] <;> omega))), (by (first | omega | (simp only [World.size_alloc, pin_size, World.size_drew, World.size_setCell] <;> omega))), (by (repeat (first | with_reducible exact (Below.refl _ _) | with_reducible refine below_pin ?_ ?_ | with_reducible refine Below.alloc ?_ ?_ _ | with_reducible refine Below.setCell ?_ ?_ _ | with_reducible refine Below.drew ?_)); all_goals (first | omega | (simp only [World.size_alloc, pin_size, World.size_drew, World.size_setCell] <;> omega))), Nat.zero_le _, min_start X Y _⟩
  case round =>
    obtain ⟨i, cr, fc, x, rfl, rfl, rfl, q0, H⟩ := hrel
    by_cases hi : i < L
    · obtain ⟨b, off, rfl, hbw, hcell⟩ := HX.out.cell (i := i) (by rw [← HL.out]; exact hi)
      obtain ⟨a, ha⟩ : ∃ a, a = dg X i := ⟨_, rfl⟩
      have hc : x.cell? ⟨b, off + i, none⟩ = some (.int .u64 (a : Int)) := by rw [ha]; exact (H.out.1.cell (p := ⟨b, off + i, none⟩) hbw).trans (hcell i (by rw [← HL.out]; exact hi))
      have HA := Lib.hid ha
      clear hcell ha
      have hcr : cr ≤ 1 := H.out.2.2.2.1
      have ha1 : a < 65536 := by rw [HA.out]; exact digit_lt X i
      obtain ⟨t, ht⟩ : ∃ t, t + cr = 65536 + a := ⟨65536 + a - cr, by omega⟩
      have v1 : IntKind.u64.wrap (65536 + (a : Int)) = 65536 + (a : Int) := by have := u64n (65536 + a) (by omega); rw [Int.natCast_add] at this; exact this
      have v2 : IntKind.u64.wrap (65536 + (a : Int) - (cr : Int)) = (t : Int) := by rw [show 65536 + (a : Int) - (cr : Int) = (t : Int) from by omega]; exact u64n t (by omega)
      have hg := row_get fc hi
      have HCR := Lib.hid (And.intro hcr (And.intro ha1 ht))
      clear hcr ha1 ht
      by_cases hj : i < M
      · obtain ⟨b2, off2, rfl, hbw2, hcell2⟩ := HY.out.cell (i := i) (by rw [← HM.out]; exact hj)
        obtain ⟨a2, ha2⟩ : ∃ a, a = dg Y i := ⟨_, rfl⟩
        have hc2 : x.cell? ⟨b2, off2 + i, none⟩ = some (.int .u64 (a2 : Int)) := by rw [ha2]; exact (H.out.1.cell (p := ⟨b2, off2 + i, none⟩) hbw2).trans (hcell2 i (by rw [← HM.out]; exact hj))
        have h2 : a2 < 65536 := by rw [ha2]; exact digit_lt Y i
        have HA2 := Lib.hid ha2
        clear hcell2 ha2
        obtain ⟨s, hs⟩ : ∃ s, s + a2 = t := ⟨t - a2, by have := HCR.out; omega⟩
        have v3 : IntKind.u64.wrap ((t : Int) - (a2 : Int)) = (s : Int) := by rw [show (t : Int) - (a2 : Int) = (s : Int) from by omega]; exact u64n s (by have := HCR.out; omega)
        have HS2 := Lib.hid (And.intro h2 hs)
        clear h2 hs
        go_wp2
        have es : s = BB + dg X i - cr - dg Y i := by
          rw [← HA.out, ← HA2.out]
          show s = 65536 + a - cr - a2
          have := HCR.out; have := HS2.out; omega
        have hst := min_step H.out.2.2 hi
        rw [← es] at hst
        exact ⟨⟨i + 1, _, _, x, vbo s (by have := HCR.out; have := HS2.out; omega), vi1 _ (by have := HS.out; have := HL.out; omega), by rw [vr1, row_set], q0, H.out.1, by omega, hst⟩, meas_up L i hi (by have := HS.out; have := HL.out; omega)⟩
      · go_wp2
        have es : t = BB + dg X i - cr - dg Y i := by
          rw [← HA.out, show dg Y i = 0 from dig_off Y i (by have := HM.out; omega)]
          show t = 65536 + a - cr - 0
          have := HCR.out; omega
        have hst := min_step H.out.2.2 hi
        rw [← es] at hst
        exact ⟨⟨i + 1, _, _, x, vbo t (by have := HCR.out; omega), vi1 _ (by have := HS.out; have := HL.out; omega), by rw [vr1, row_set], q0, H.out.1, by omega, hst⟩, meas_up L i hi (by have := HS.out; have := HL.out; omega)⟩
    · have hi' : i = L := by have := H.out.2.1; omega
      subst hi'
      have HE := Lib.hid (min_end H.out.2.2 (by have := HL.out; omega) HLE.out)
      go_wp2_with fail
      refine (trim_row w.heap.size (i) (fc) _ (by (repeat (first | with_reducible exact pin_at (by assumption) | (with_reducible apply pin_at; (first | omega | (simp only [World.size_alloc, pin_size, World.size_drew, World.size_setCell] <;> omega))) | (with_reducible apply alloc_at; first | rfl | (simp only [World.size_alloc, pin_size, World.size_drew, World.size_setCell] <;> omega)) | with_reducible apply past_pin | with_reducible apply past_alloc | with_reducible apply past_drew)); all_goals (first | omega | (simp only [World.size_alloc, pin_size, World.size_drew, World.size_setCell] <;> omega))) (HE.out).2 (by have := HS.out; have := HL.out; omega)).mono ?_
      rintro e y ⟨⟨A', c', rfl, hd⟩, hb⟩
      rw [(HE.out).1] at hd ⊢
      have HB9 := Lib.hid hb
      have HD9 := Lib.hid hd
      clear hb hd
      go_wp2_with fail
      go_ret
      exact ⟨⟨A', c', rfl, HD9.out⟩, Below.trans (by (repeat (first | with_reducible exact H.out.1 | with_reducible refine below_pin ?_ ?_ | with_reducible refine Below.alloc ?_ ?_ _ | with_reducible refine Below.setCell ?_ ?_ _ | with_reducible refine Below.drew ?_)); all_goals (first | omega | (simp only [World.size_alloc, pin_size, World.size_drew, World.size_setCell] <;> omega))) (HB9.out.mono (by (first | omega | (simp only [World.size_alloc, pin_size, World.size_drew, World.size_setCell] <;> omega))))⟩


end Go.Proofs.YtljolpdpblohcaaDoor
