/-
  Walks: package field, bytes of elements.
-/
import Derived.Test.YtljolpdpblohcaaDoorFf
import Derived.Test.YtljolpdpblohcaaDoorEnc
import Derived.StillTailTactics
import Derived.IntWalk
namespace Go.Proofs.YtljolpdpblohcaaDoor
open Go.RowKit Go.Proofs.YtljolpdpblohcaaDoorW.PrintLast
set_option linter.unusedSimpArgs false

theorem pins2e {w : World} {b0 b1 : Nat} {o0 o1 p0 p1 : Obj} (h0 : w.heap[b0]? = some o0) (h1 : w.heap[b1]? = some o1) (e0 : o0 = p0) (e1 : o1 = p1) : w = (w.pin b0 p0).pin b1 p1 := by
  subst e0
  subst e1
  exact pins2 h0 h1

set_option maxRecDepth 100000 in
set_option maxHeartbeats 4000000 in
theorem Encode_any (a : Fn) (ha : a.lt 18446744073709551616) (w : World) :
    Calls Tryd.prog 14 #[a.v] w fun e w' => (∃ b, e = .returned (.slice (some ⟨b, 0, none⟩) 32 32) ∧ Rd w' .u8 (some ⟨b, 0, none⟩) ((List.range 32).map fun j => byteAt (a.val % Num.p) 255 j)) ∧ Below w.heap.size w w' := by
  have CX := Lib.hid ha
  clear ha
  have hmk := make32
  go_enter Tryd.func14, Tryd.ntmps14
  go_wp2_with fail
  refine (reduce_nat a CX.out _).mono ?_
  rintro e y1 ⟨rfl, hb1⟩
  obtain ⟨x1, rfl, hc1, hz1, l10⟩ := keep1 (b := w.heap.size) hb1 rfl (by (repeat (first | with_reducible exact pin_at (by assumption) | (with_reducible apply pin_at; (first | omega | (simp only [World.size_alloc, pin_size, World.size_drew, World.size_setCell] <;> omega))) | (with_reducible apply alloc_at; first | rfl | (simp only [World.size_alloc, pin_size, World.size_drew, World.size_setCell] <;> omega)) | with_reducible apply past_pin | with_reducible apply past_alloc | with_reducible apply past_drew)); all_goals (first | omega | (simp only [World.size_alloc, pin_size, World.size_drew, World.size_setCell] <;> omega)))
  have HB1 : Hid (Below w.heap.size w x1) := Below.trans (by (repeat (first | with_reducible exact (Below.refl _ _) | with_reducible refine below_pin ?_ ?_ | with_reducible refine Below.alloc ?_ ?_ _ | with_reducible refine Below.setCell ?_ ?_ _ | with_reducible refine Below.drew ?_)); all_goals (first | omega | (simp only [World.size_alloc, pin_size, World.size_drew, World.size_setCell] <;> omega))) (hc1.mono (by (first | omega | (simp only [World.size_alloc, pin_size, World.size_drew, World.size_setCell] <;> omega))))
  clear hb1 hc1
  try simp only [World.size_alloc, pin_size, World.size_drew, World.size_setCell] at hz1
  go_wp2_with fail
  obtain ⟨s, hs⟩ : ∃ s, Hid (s = small a.val) := ⟨_, rfl⟩
  go_loopw [8] (fun iv wr => ∃ (i : Nat) (x : World), iv = .int .i64 (i : Int) ∧ wr = (x.pin w.heap.size (.cells (feA s) 35)).pin x1.heap.size (.cells (encA (a.val % Num.p) i) 5) ∧ w.heap.size < x.heap.size ∧ x1.heap.size < x.heap.size ∧ Hid (Below w.heap.size w x ∧ i ≤ 255)) (fun i _ => (255 - intOf i).toNat)
  case atStart => exact ⟨0, _, rfl, pins2e (by (repeat (first | with_reducible exact pin_at (by assumption) | (with_reducible apply pin_at; (first | omega | (simp only [World.size_alloc, pin_size, World.size_drew, World.size_setCell] <;> omega))) | (with_reducible apply alloc_at; first | rfl | (simp only [World.size_alloc, pin_size, World.size_drew, World.size_setCell] <;> omega)) | with_reducible apply past_pin | with_reducible apply past_alloc | with_reducible apply past_drew)); all_goals (first | omega | (simp only [World.size_alloc, pin_size, World.size_drew, World.size_setCell] <;> omega))) (by (repeat (first | with_reducible exact pin_at (by assumption) | (with_reducible apply pin_at; (first | omega | (simp only [World.size_alloc, pin_size, World.size_drew, World.size_setCell] <;> omega))) | (with_reducible apply alloc_at; first | rfl | (simp only [World.size_alloc, pin_size, World.size_drew, World.size_setCell] <;> omega)) | with_reducible apply past_pin | with_reducible apply past_alloc | with_reducible apply past_drew)); all_goals (first | omega | (simp only [World.size_alloc, pin_size, World.size_drew, World.size_setCell] <;> omega))) (by rw [hs.out]; rfl) (by rw [encA_zero]), (by (first | omega | (simp only [World.size_alloc, pin_size, World.size_drew, World.size_setCell] <;> omega))), (by (first | omega | (simp only [World.size_alloc, pin_size, World.size_drew, World.size_setCell] <;> omega))), (by (repeat (first | with_reducible exact HB1.out | with_reducible refine below_pin ?_ ?_ | with_reducible refine Below.alloc ?_ ?_ _ | with_reducible refine Below.setCell ?_ ?_ _ | with_reducible refine Below.drew ?_)); all_goals (first | omega | (simp only [World.size_alloc, pin_size, World.size_drew, World.size_setCell] <;> omega))), by omega⟩
  case round =>
    obtain ⟨i, x, rfl, rfl, q0, q1, H⟩ := hrel
    by_cases hlt : i < 255
    · obtain ⟨j, hj⟩ : ∃ j, j = i / 8 := ⟨_, rfl⟩
      obtain ⟨m, hm⟩ : ∃ m, m = i / 51 := ⟨_, rfl⟩
      obtain ⟨r, hr⟩ : ∃ r, r = i % 51 := ⟨_, rfl⟩
      obtain ⟨q, hq⟩ : ∃ q, q = i % 8 := ⟨_, rfl⟩
      obtain ⟨old, hold⟩ : ∃ b, b = byteAt (a.val % Num.p) i j := ⟨_, rfl⟩
      obtain ⟨lim, hlim⟩ : ∃ b, b = limbAt s m := ⟨_, rfl⟩
      have hA : (encA (a.val % Num.p) i)[j]? = some (.int .u8 old) := by rw [encA_get _ _ _ (by omega), hold]
      have hL : (feA s)[m]? = some (.int .u64 lim) := by rw [feA_get _ _ (by omega), hlim]
      have b1 : (j : Int) < 32 := by omega
      have b3 : (m : Int) < 5 := by omega
      have b4 : r < 64 := by omega
      have b5 : q < 8 := by omega
      have e1 : IntKind.i64.wrap ((i : Int) / 8) = (j : Int) := (IntWalk.i64_in _ (by omega)).trans (by omega)
      have e2 : IntKind.i64.wrap ((i : Int) / 51) = (m : Int) := (IntWalk.i64_in _ (by omega)).trans (by omega)
      have e3 : (i : Int).tmod 51 = (r : Int) := by rw [Int.tmod_eq_emod_of_nonneg (by omega)]; omega
      have e4 : (i : Int).tmod 8 = (q : Int) := by rw [Int.tmod_eq_emod_of_nonneg (by omega)]; omega
      have HH := Lib.hid (And.intro hj (And.intro hm (And.intro hr (And.intro hq (And.intro hold hlim)))))
      clear hj hm hr hq hold hlim
      go_wp2
      refine wp_region_still_tail 19 (by kernel_rfl) (by kernel_rfl) ?_
      simp only [List.take_succ_cons, List.take_zero, List.drop_succ_cons, List.drop_zero, World.drew_eq]
      (repeat still_step)
      refine wpStill_nil ?_
      go_wp2
      have hst : (encA (a.val % Num.p) i).setIfInBounds j (.int .u8 (bits .or .u8 (old : Int) (bits .and .u64 ((lim : Int) / 2 ^ r) 1 % 256 * 2 ^ q % 256))) = encA (a.val % Num.p) (i + 1) := by
        obtain ⟨h1, h2, h3, h4, h5, h6⟩ := HH.out
        have hs' : s = cut51 (a.val % Num.p) := hs.out
        have := enc_step (a.val % Num.p) i hlt
        rw [h5, h6, h1, h2, h3, h4, hs']
        exact this
      refine ⟨⟨i + 1, x.drew, by simp, by rw [hst]; rfl, q0, q1, H.out.1.drew, by omega⟩, ?_⟩
      first | (simp [intOf]; done) | (simp [intOf]; omega)
    · have hi : i = 255 := by have := H.out.2; omega
      subst hi
      go_wp2
      go_ret
      refine ⟨⟨x1.heap.size, rfl, rd_block (b := x1.heap.size) (by (repeat (first | with_reducible exact pin_at (by assumption) | (with_reducible apply pin_at; (first | omega | (simp only [World.size_alloc, pin_size, World.size_drew, World.size_setCell] <;> omega))) | (with_reducible apply alloc_at; first | rfl | (simp only [World.size_alloc, pin_size, World.size_drew, World.size_setCell] <;> omega)) | with_reducible apply past_pin | with_reducible apply past_alloc | with_reducible apply past_drew)); all_goals (first | omega | (simp only [World.size_alloc, pin_size, World.size_drew, World.size_setCell] <;> omega))) ?_⟩, (by (repeat (first | with_reducible exact H.out.1 | with_reducible refine below_pin ?_ ?_ | with_reducible refine Below.alloc ?_ ?_ _ | with_reducible refine Below.setCell ?_ ?_ _ | with_reducible refine Below.drew ?_)); all_goals (first | omega | (simp only [World.size_alloc, pin_size, World.size_drew, World.size_setCell] <;> omega)))⟩
      intro i hi
      have hi' : i < 32 := by simpa using hi
      rw [encA_get _ _ _ hi']
      simp


end Go.Proofs.YtljolpdpblohcaaDoor
