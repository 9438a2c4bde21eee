/-
  Walks: numbers of bytes, the prime.
-/
import Derived.Test.YtljolpdpblohcaaDoorBy
import Derived.Test.YtljolpdpblohcaaDoorFr
namespace Go.Proofs.YtljolpdpblohcaaDoor
open Go.RowKit Go.Proofs.YtljolpdpblohcaaDoorW.PrintLast
set_option linter.unusedSimpArgs false

theorem num_v1 (q a : Nat) (h : q + a * 256 < 131072) : w64 ((q : Int) + w64 (w64 (a : Int) * 256)) = ((q + a * 256 : Nat) : Int) := by
  unfold w64; simp only [IntKind.wrap_u64]; omega
theorem num_v2 (q a : Nat) (h : q + a * 256 < 131072) : w64 ((q : Int) + w64 (a : Int)) = ((q + a : Nat) : Int) := by
  unfold w64; simp only [IntKind.wrap_u64]; omega

set_option maxRecDepth 100000 in
set_option maxHeartbeats 2000000 in
theorem Number_any (A : Option Addr) (c : Nat) (bs : List Nat) (hb : ∀ b ∈ bs, b < 256) (hsz : bs.length ≤ 1000000) (w : World) (hB : Rd w .u8 A bs) :
    Calls Tryd.prog 24 #[.slice A bs.length c] w fun e w' => (∃ A' c', e = .returned (.slice A' (dig (leN bs)).length c') ∧ Dn w' A' c' (leN bs)) ∧ Below w.heap.size w w' := by
  have HB := Lib.hid hB
  have HY := Lib.hid hb
  obtain ⟨N, hN⟩ : ∃ N, N = bs.length := ⟨_, rfl⟩
  obtain ⟨L, hL⟩ : ∃ L, L = N / 2 + 1 := ⟨_, rfl⟩
  rw [← hN] at hsz
  have hmk : ∀ w, (Instr.makeSlice 48 (.int .i64 (L : Int)) (.int .i64 (L : Int))).run Tryd.prog w = .ok (.slice (some ⟨w.heap.size, 0, none⟩) L L) (w.alloc (.cells (row L fun _ => 0) 33)) := fun w => make_row L (by omega) w
  have e0 : wrap64 ((N : Int) / 2) = ((N / 2 : Nat) : Int) := by rw [wr64 _ (by omega)]; omega
  have e1 : wrap64 ((N : Int) / 2 + 1) = (L : Int) := by rw [wr64 _ (by omega)]; omega
  rw [← hN]
  have HN := Lib.hid hN
  have HL := Lib.hid hL
  have HS := Lib.hid hsz
  clear hB hb hN hL hsz
  go_enter Tryd.func24, Tryd.ntmps24
  go_wp2_with fail
  go_loopw [4] (fun iv wr => ∃ (i : Nat) (fc : Nat → Nat) (x : World), iv = .int .i64 (i : Int) ∧ wr = x.pin w.heap.size (.cells (row (L) fc) 33) ∧ w.heap.size < x.heap.size ∧ Hid (Below w.heap.size w x ∧ i ≤ N ∧ NumI bs L i fc)) (fun iv _ => (N - intOf iv).toNat)
  case atStart => exact ⟨0, fun _ => 0, _, rfl, pins1 (by (repeat (first | with_reducible exact pin_at (by assumption) | (with_reducible apply pin_at; (first | omega | (simp only [World.size_alloc, pin_size, World.size_drew, World.size_setCell] <;> omega))) | (with_reducible apply alloc_at; first | rfl | (simp only [World.size_alloc, pin_size, World.size_drew, World.size_setCell] <;> omega)) | with_reducible apply past_pin | with_reducible apply past_alloc | with_reducible apply past_drew)); all_goals (first | omega | (simp only [World.size_alloc, pin_size, World.size_drew, World.size_setCell] <;> omega))), (by (first | omega | (simp only [World.size_alloc, pin_size, World.size_drew, World.size_setCell] <;> omega))), (by (repeat (first | with_reducible exact (Below.refl _ _) | with_reducible refine below_pin ?_ ?_ | with_reducible refine Below.alloc ?_ ?_ _ | with_reducible refine Below.setCell ?_ ?_ _ | with_reducible refine Below.drew ?_)); all_goals (first | omega | (simp only [World.size_alloc, pin_size, World.size_drew, World.size_setCell] <;> omega))), Nat.zero_le _, num_start bs _⟩
  case round =>
    obtain ⟨i, fc, x, rfl, rfl, q0, H⟩ := hrel
    by_cases hi : i < N
    · have hib : i < bs.length := by rw [← HN.out]; exact hi
      obtain ⟨b, off, rfl, hbw, hcell⟩ := HB.out.place (by omega)
      obtain ⟨a, ha⟩ : ∃ a, a = bs[i] := ⟨_, rfl⟩
      have hc : x.cell? ⟨b, off + i, none⟩ = some (.int .u8 (a : Int)) := by rw [ha]; exact (H.out.1.cell (p := ⟨b, off + i, none⟩) hbw).trans (hcell i hib)
      have ha2 : a < 256 := by rw [ha]; exact HY.out _ (List.getElem_mem _)
      have HA := Lib.hid (And.intro hib (And.intro (show bs[i]? = some a by rw [ha]; exact List.getElem?_eq_getElem hib) ha2))
      clear hcell ha hib ha2
      obtain ⟨j, hj⟩ : ∃ j, j = i / 2 := ⟨_, rfl⟩
      have hjL : j < L := by have := HL.out; omega
      have hjz : (j : Int) < (L : Int) := by omega
      have e2 : wrap64 ((i : Int) / 2) = (j : Int) := by rw [wr64 _ (by have := HS.out; omega)]; omega
      have hg := row_get fc hjL
      have HJ := Lib.hid hj
      clear hj
      by_cases ho : i % 2 = 1
      · have o1 : ((i : Int).tmod 2 == 1) = true := by rw [beq_iff_eq, Int.tmod_eq_emod_of_nonneg (by omega)]; omega
        have o2 : ((i : Int) % 2 == 1) = true := by rw [beq_iff_eq]; omega
        have HO := Lib.hid ho
        clear ho
        go_wp2
        have HB2 := Lib.hid (num_b H.out.2.2 a HA.out.2.2)
        obtain ⟨hib, hia⟩ := List.getElem?_eq_some_iff.mp HA.out.2.1
        have hst := num_odd H.out.2.2 hib (by rw [← HJ.out]; exact hjL) (by rw [hia]; exact HA.out.2.2) HO.out
        rw [hia, ← HJ.out] at hst
        have hb2 := HB2.out
        rw [← HJ.out] at hb2
        exact ⟨⟨i + 1, _, x, vi1 _ (by have := HS.out; omega), by rw [num_v1 _ _ hb2, row_set], q0, H.out.1, by omega, hst⟩, meas_up N i hi (by have := HS.out; omega)⟩
      · have o1 : ((i : Int).tmod 2 == 1) = false := by rw [beq_eq_false_iff_ne, Int.tmod_eq_emod_of_nonneg (by omega)]; omega
        have o2 : ((i : Int) % 2 == 1) = false := by rw [beq_eq_false_iff_ne]; omega
        have HO := Lib.hid ho
        clear ho
        go_wp2
        have HB2 := Lib.hid (num_b H.out.2.2 a HA.out.2.2)
        obtain ⟨hib, hia⟩ := List.getElem?_eq_some_iff.mp HA.out.2.1
        have hst := num_even H.out.2.2 hib (by rw [← HJ.out]; exact hjL) (by rw [hia]; exact HA.out.2.2) HO.out
        rw [hia, ← HJ.out] at hst
        have hb2 := HB2.out
        rw [← HJ.out] at hb2
        exact ⟨⟨i + 1, _, x, vi1 _ (by have := HS.out; omega), by rw [num_v2 _ _ hb2, row_set], q0, H.out.1, by omega, hst⟩, meas_up N i hi (by have := HS.out; omega)⟩
    · have hi' : i = N := by have := H.out.2.1; omega
      subst hi'
      have HE := Lib.hid (num_end (by have := H.out.2.2; rw [show i = bs.length from HN.out] at this; exact this))
      go_wp2_with fail
      refine (trim_row w.heap.size (L) (fc) _ (by (repeat (first | with_reducible exact pin_at (by assumption) | (with_reducible apply pin_at; (first | omega | (simp only [World.size_alloc, pin_size, World.size_drew, World.size_setCell] <;> omega))) | (with_reducible apply alloc_at; first | rfl | (simp only [World.size_alloc, pin_size, World.size_drew, World.size_setCell] <;> omega)) | with_reducible apply past_pin | with_reducible apply past_alloc | with_reducible apply past_drew)); all_goals (first | omega | (simp only [World.size_alloc, pin_size, World.size_drew, World.size_setCell] <;> omega))) (HE.out).2 (by have := HS.out; have := HL.out; omega)).mono ?_
      rintro e y ⟨⟨A', c', rfl, hd⟩, hb⟩
      rw [(HE.out).1] at hd ⊢
      have HB9 := Lib.hid hb
      have HD9 := Lib.hid hd
      clear hb hd
      go_wp2_with fail
      go_ret
      exact ⟨⟨A', c', rfl, HD9.out⟩, Below.trans (by (repeat (first | with_reducible exact H.out.1 | with_reducible refine below_pin ?_ ?_ | with_reducible refine Below.alloc ?_ ?_ _ | with_reducible refine Below.setCell ?_ ?_ _ | with_reducible refine Below.drew ?_)); all_goals (first | omega | (simp only [World.size_alloc, pin_size, World.size_drew, World.size_setCell] <;> omega))) (HB9.out.mono (by (first | omega | (simp only [World.size_alloc, pin_size, World.size_drew, World.size_setCell] <;> omega))))⟩

theorem digP : dig Num.p = [65517, 65535, 65535, 65535, 65535, 65535, 65535, 65535, 65535, 65535, 65535, 65535, 65535, 65535, 65535, 32767] := by
  have h := dig_of [65517, 65535, 65535, 65535, 65535, 65535, 65535, 65535, 65535, 65535, 65535, 65535, 65535, 65535, 65535, 32767] (by decide) (by decide)
  have e : leD [65517, 65535, 65535, 65535, 65535, 65535, 65535, 65535, 65535, 65535, 65535, 65535, 65535, 65535, 65535, 32767] = Num.p := by decide
  rw [e] at h
  exact h

end Go.Proofs.YtljolpdpblohcaaDoor
