/-
  Walks: numbers of bytes, bytes of numbers, the prime.
-/
import Derived.Test.YtljolpdpblohcaaDoorLe
import Derived.Test.YtljolpdpblohcaaDoorBn
namespace Go.Proofs.YtljolpdpblohcaaDoor
open Go.RowKit Go.Proofs.YtljolpdpblohcaaDoorW.PrintLast
set_option linter.unusedSimpArgs false

theorem make8 (w : World) : (Instr.makeSlice 22 (.int .i64 32) (.int .i64 32)).run Tryd.prog w = .ok (.slice (some ⟨w.heap.size, 0, none⟩) 32 32) (w.alloc (.cells (row8 32 fun _ => 0) 5)) := by kernel_rfl

set_option maxRecDepth 100000 in
set_option maxHeartbeats 2000000 in
theorem Bytes_any (A : Option Addr) (c X : Nat) (hx : X < BB ^ 16) (w : World) (hX : Dn w A c X) :
    Calls Tryd.prog 22 #[.slice A (dig X).length c, .int .i64 32] w fun e w' => (∃ b, e = .returned (.slice (some ⟨b, 0, none⟩) 32 32) ∧ Rd w' .u8 (some ⟨b, 0, none⟩) (bytesN 32 X)) ∧ Below w.heap.size w w' := by
  have HX := Lib.hid hX
  obtain ⟨L, hL⟩ : ∃ L, L = (dig X).length := ⟨_, rfl⟩
  have hmk := make8
  have h16 : L ≤ 16 := by rw [hL]; exact dig_len_le hx
  rw [← hL]
  have HL := Lib.hid hL
  clear hX hL hx
  go_enter Tryd.func22, Tryd.ntmps22
  go_wp2_with fail
  go_loopw [6] (fun iv wr => ∃ (i : Nat) (fc : Nat → Nat) (x : World), iv = .int .i64 (i : Int) ∧ wr = x.pin w.heap.size (.cells (row8 (32) fc) 5) ∧ w.heap.size < x.heap.size ∧ Hid (Below w.heap.size w x ∧ i ≤ L ∧ BytI X i fc)) (fun iv _ => (L - intOf iv).toNat)
  case atStart => exact ⟨0, fun _ => 0, _, rfl, pins1 (by (repeat (first | with_reducible exact pin_at (by assumption) | (with_reducible apply pin_at; (first | omega | (simp only [World.size_alloc, pin_size, World.size_drew, World.size_setCell] <;> omega))) | (with_reducible apply alloc_at; first | rfl | (simp only [World.size_alloc, pin_size, World.size_drew, World.size_setCell] <;> omega)) | with_reducible apply past_pin | with_reducible apply past_alloc | with_reducible apply past_drew)); all_goals (first | omega | (simp only [World.size_alloc, pin_size, World.size_drew, World.size_setCell] <;> omega))), (by (first | omega | (simp only [World.size_alloc, pin_size, World.size_drew, World.size_setCell] <;> omega))), (by (repeat (first | with_reducible exact (Below.refl _ _) | with_reducible refine below_pin ?_ ?_ | with_reducible refine Below.alloc ?_ ?_ _ | with_reducible refine Below.setCell ?_ ?_ _ | with_reducible refine Below.drew ?_)); all_goals (first | omega | (simp only [World.size_alloc, pin_size, World.size_drew, World.size_setCell] <;> omega))), Nat.zero_le _, byt_start X⟩
  case round =>
    obtain ⟨i, fc, x, rfl, rfl, q0, H⟩ := hrel
    by_cases hi : i < L
    · obtain ⟨b, off, rfl, hbw, hcell⟩ := HX.out.cell (i := i) (by rw [← HL.out]; exact hi)
      obtain ⟨a, ha⟩ : ∃ a, a = dg X i := ⟨_, rfl⟩
      have hc : x.cell? ⟨b, off + i, none⟩ = some (.int .u64 (a : Int)) := by rw [ha]; exact (H.out.1.cell (p := ⟨b, off + i, none⟩) hbw).trans (hcell i (by rw [← HL.out]; exact hi))
      have HA := Lib.hid ha
      clear hcell ha
      have g1 := row8_get fc (show 2 * i < 32 by omega)
      have g2 := row8_get fc (show 2 * i + 1 < 32 by omega)
      have HLT := Lib.hid (show a < 65536 by rw [HA.out]; exact digit_lt X i)
      go_wp2
      · have hst := byt_step H.out.2.2
        rw [← HA.out] at hst
        exact ⟨⟨i + 1, _, x, vi0 i, by rw [v8r, v8q a HLT.out, row8_set, row8_set], q0, H.out.1, by omega, hst⟩, meas_up0 L i hi⟩
      all_goals (exfalso; omega)
    · have hi' : i = L := by have := H.out.2.1; omega
      subst hi'
      go_wp2
      go_ret
      refine ⟨⟨w.heap.size, rfl, ?_⟩, (by (repeat (first | with_reducible exact H.out.1 | with_reducible refine below_pin ?_ ?_ | with_reducible refine Below.alloc ?_ ?_ _ | with_reducible refine Below.setCell ?_ ?_ _ | with_reducible refine Below.drew ?_)); all_goals (first | omega | (simp only [World.size_alloc, pin_size, World.size_drew, World.size_setCell] <;> omega)))⟩
      have h := row8_rd (pin_at (w := x) (b := w.heap.size) (o := .cells (row8 (32) fc) 5) q0)
      rw [byt_end H.out.2.2 (by have := HL.out; omega)] at h
      exact h


end Go.Proofs.YtljolpdpblohcaaDoor
