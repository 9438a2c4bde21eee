/-
  Walks: numbers as rows of digits: comparisons.
-/
import Derived.Test.YtljolpdpblohcaaDoorTi
namespace Go.Proofs.YtljolpdpblohcaaDoor
open Go.RowKit Go.Proofs.YtljolpdpblohcaaDoorW.PrintLast
set_option linter.unusedSimpArgs false

set_option maxRecDepth 100000 in
set_option maxHeartbeats 2000000 in
theorem least_any (A B : Option Addr) (c d X Y : Nat) (hsx : (dig X).length ≤ 1000000) (w : World) (hX : Dn w A c X) (hY : Dn w B d Y) :
    Calls Tryd.prog 26 #[.slice A (dig X).length c, .slice B (dig Y).length d] w fun e w' => e = .returned (.bool (decide (X < Y))) ∧ Below w.heap.size w w' := by
  have HX := Lib.hid hX
  have HY := Lib.hid hY
  obtain ⟨N, hN⟩ : ∃ N, N = (dig X).length := ⟨_, rfl⟩
  obtain ⟨M, hM⟩ : ∃ M, M = (dig Y).length := ⟨_, rfl⟩
  rw [← hN] at hsx
  rw [← hN, ← hM]
  have HN := Lib.hid hN
  have HM := Lib.hid hM
  have HS := Lib.hid hsx
  clear hX hY hN hM hsx
  by_cases hne : N = M
  rotate_left
  · have hd : ((N : Int) == (M : Int)) = false := by rw [beq_eq_false_iff_ne]; omega
    go_enter Tryd.func26, Tryd.ntmps26
    go_wp2_with fail
    go_ret
    exact ⟨congrArg (fun z => Ending.returned (.bool z)) (by have h1 := less_len (X := X) (Y := Y) (by rw [← HN.out, ← HM.out]; exact hne); rw [← HN.out, ← HM.out] at h1; rw [← h1, decide_eq_decide] <;> omega), Below.refl _ _⟩
  subst hne
  have e0 : wrap64 ((N : Int) - 1) = (N : Int) - 1 := wr64 _ (by have := HS.out; omega)
  go_enter Tryd.func26, Tryd.ntmps26
  go_wp2_with fail
  try simp only [e0]
  go_loopw [5] (fun iv wr => ∃ (k : Nat), iv = .int .i64 ((k : Int) - 1) ∧ Hid (Below w.heap.size w wr ∧ k ≤ N ∧ X / BB ^ k = Y / BB ^ k)) (fun iv _ => (intOf iv + 1).toNat)
  case atStart => exact ⟨N, rfl, Below.refl _ _, Nat.le_refl _, by have h1 := top_dg X; have h2 := top_dg Y; rw [← HN.out] at h1; rw [← HM.out] at h2; rw [h1, h2]⟩
  case round =>
    obtain ⟨k, rfl, H⟩ := hrel
    rcases k with _ | k
    · go_wp2_with fail
      go_ret
      exact ⟨congrArg (fun z => Ending.returned (.bool z)) (by have := H.out.2.2; simp only [Nat.pow_zero, Nat.div_one] at this; rw [this, decide_eq_false (Nat.lt_irrefl _)]), H.out.1⟩
    · rw [show (((k + 1 : Nat) : Int) - 1) = (k : Int) from by omega]
      obtain ⟨b, off, rfl, hbw, hcell⟩ := HX.out.cell (i := k) (by have := H.out.2.1; have := HN.out; omega)
      obtain ⟨b2, off2, rfl, hbw2, hcell2⟩ := HY.out.cell (i := k) (by have := H.out.2.1; have := HM.out; omega)
      obtain ⟨a, ha⟩ : ∃ a, a = dg X k := ⟨_, rfl⟩
      obtain ⟨a2, ha2⟩ : ∃ a, a = dg Y k := ⟨_, rfl⟩
      have hc : wr.cell? ⟨b, off + k, none⟩ = some (.int .u64 (a : Int)) := by rw [ha]; exact (H.out.1.cell (p := ⟨b, off + k, none⟩) hbw).trans (hcell k (by have := H.out.2.1; have := HN.out; omega))
      have hc2 : wr.cell? ⟨b2, off2 + k, none⟩ = some (.int .u64 (a2 : Int)) := by rw [ha2]; exact (H.out.1.cell (p := ⟨b2, off2 + k, none⟩) hbw2).trans (hcell2 k (by have := H.out.2.1; have := HM.out; omega))
      have hkN : k < N := by have := H.out.2.1; omega
      have HA := Lib.hid ha
      have HA2 := Lib.hid ha2
      clear hcell hcell2 ha ha2
      go_wp2
      refine wp_region_still_tail 8 (by kernel_rfl) (by kernel_rfl) ?_
      simp only [List.take_succ_cons, List.take_zero, List.drop_succ_cons, List.drop_zero, World.drew_eq]
      (repeat still_step)
      refine wpStill_nil ?_
      go_wp2
      · have hz : ((a : Int) != (a2 : Int)) = true := by assumption
        have hz' : a ≠ a2 := by intro h; subst h; simp at hz
        refine wp_region_still_tail 9 (by kernel_rfl) (by kernel_rfl) ?_
        simp only [List.take_succ_cons, List.take_zero, List.drop_succ_cons, List.drop_zero, World.drew_eq]
        (repeat still_step)
        refine wpStill_nil ?_
        go_wp2_with fail
        go_ret
        have hk' := less_dg H.out.2.2 (by rw [← HA.out, ← HA2.out]; exact hz')
        rw [← HA.out, ← HA2.out] at hk'
        exact ⟨congrArg (fun z => Ending.returned (.bool z)) (by rw [← hk', decide_eq_decide] <;> omega), H.out.1.drew.drew⟩
      · have hz : ((a : Int) != (a2 : Int)) = false := by assumption
        have hz1 : (a : Int) = (a2 : Int) := by simpa using hz
        have hz' : a = a2 := by omega
        have hk' := eq_dg H.out.2.2 (by rw [← HA.out, ← HA2.out]; exact hz')
        exact ⟨⟨k, vim k (by have := HS.out; omega), H.out.1.drew, by omega, hk'⟩, meas_down k (by have := HS.out; omega)⟩


end Go.Proofs.YtljolpdpblohcaaDoor
