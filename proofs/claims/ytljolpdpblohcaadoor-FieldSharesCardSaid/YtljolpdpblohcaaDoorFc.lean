/-
  Walks: package field, what it hands out.
-/
import Derived.Test.YtljolpdpblohcaaDoorFb
import Derived.Test.YtljolpdpblohcaaDoorRd
import Derived.Test.YtljolpdpblohcaaDoorReg
import Derived.StillTailTactics
namespace Go.Proofs.YtljolpdpblohcaaDoor
open Go.RowKit Go.Proofs.YtljolpdpblohcaaDoorW.PrintLast
set_option linter.unusedSimpArgs false

theorem wk {x : Fn} (h : x.lt (2251799813685248 + 19)) : x.lt 4503599627370496 := Fn.lt_mono h (by decide)
theorem nweak_wk (x : Fn) (h : x.lt 18446744073709551616) : (nweak x).lt 4503599627370496 := wk (nweak_lt x h)
theorem u64_of {x : Fn} (h : x.lt 4503599627370496) : x.lt 18446744073709551616 := Fn.lt_mono h (by decide)
theorem small_wk (n : Nat) : (small n).lt 4503599627370496 := Fn.lt_mono (small_lt n) (by decide)
theorem small_u (n : Nat) : (small n).lt 18446744073709551616 := Fn.lt_mono (small_lt n) (by decide)
theorem small_congr {m n : Nat} (h : m % Num.p = n % Num.p) : small m = small n := by unfold small; rw [h]

set_option maxRecDepth 100000 in
set_option maxHeartbeats 1000000 in
theorem Small_any (n : Nat) (h : n < 18446744073709551616) (w : World) :
    Calls Tryd.prog 16 #[.int .u64 n] w fun e w' => e = .returned (small n).v ∧ Below w.heap.size w w' := by
  have K1 : lo51 (n : Int) = (((small n).a : Nat) : Int) := by rw [lo51_of n h]; unfold small cut51 Num.p; simp only; omega
  have K2 : hi51 (n : Int) = (((small n).b : Nat) : Int) := by rw [hi51_of n]; unfold small cut51 Num.p; simp only; omega
  have K3 := Lib.hid (show (small n).c = 0 ∧ (small n).d = 0 ∧ (small n).e = 0 by unfold small cut51 Num.p; simp only; omega)
  clear h
  go_enter Tryd.func16, Tryd.ntmps16
  go_wp2
  refine bodyPost_ret (v := .agg #[.int .u64 (small n).a, .int .u64 (small n).b, .int .u64 0, .int .u64 0, .int .u64 0]) ?_ rfl ⟨?_, ?_⟩
  · simp [results, Tryd.results16, go_sem]
  · obtain ⟨k1, k2, k3⟩ := K3.out
    simp only [Fn.v, k1, k2, k3]
    rfl
  · exact (by (repeat (first | with_reducible exact (Below.refl _ _) | with_reducible refine below_pin ?_ ?_ | with_reducible refine Below.alloc ?_ ?_ _ | with_reducible refine Below.setCell ?_ ?_ _ | with_reducible refine Below.drew ?_)); all_goals (first | omega | (simp only [World.size_alloc, pin_size, World.size_drew, World.size_setCell] <;> omega)))

set_option maxRecDepth 100000 in
set_option maxHeartbeats 1000000 in
theorem Sub_any0 (a b : Fn) (hx : a.lt 18446744073709551616) (hy : b.lt 18446744073709551616) (w : World) :
    Calls Tryd.prog 33 #[a.v, b.v] w fun e w' => e = .returned (small (nsub (nweak a) (nweak b)).val).v ∧ Below w.heap.size w w' := by
  have CX := Lib.hid (nweak_wk a hx)
  have CY := Lib.hid (nweak_wk b hy)
  have CX0 := Lib.hid hx
  have CY0 := Lib.hid hy
  clear hx hy
  go_enter Tryd.func33, Tryd.ntmps33
  go_wp2_with fail
  refine start_ (S := Keeps w _) (ds := [6]) (n := 7) #[false, false, false, false, false, false, false] (by kernel_rfl) rfl rfl (keepsC (b := w.heap.size) (by (repeat (first | with_reducible exact pin_at (by assumption) | (with_reducible apply pin_at; (first | omega | (simp only [World.size_alloc, pin_size, World.size_drew, World.size_setCell] <;> omega))) | (with_reducible apply alloc_at; first | rfl | (simp only [World.size_alloc, pin_size, World.size_drew, World.size_setCell] <;> omega)) | with_reducible apply past_pin | with_reducible apply past_alloc | with_reducible apply past_drew)); all_goals (first | omega | (simp only [World.size_alloc, pin_size, World.size_drew, World.size_setCell] <;> omega))) (keepsC (b := w.heap.size + 1) (by (repeat (first | with_reducible exact pin_at (by assumption) | (with_reducible apply pin_at; (first | omega | (simp only [World.size_alloc, pin_size, World.size_drew, World.size_setCell] <;> omega))) | (with_reducible apply alloc_at; first | rfl | (simp only [World.size_alloc, pin_size, World.size_drew, World.size_setCell] <;> omega)) | with_reducible apply past_pin | with_reducible apply past_alloc | with_reducible apply past_drew)); all_goals (first | omega | (simp only [World.size_alloc, pin_size, World.size_drew, World.size_setCell] <;> omega))) (keepsC (b := w.heap.size + 2) (by (repeat (first | with_reducible exact pin_at (by assumption) | (with_reducible apply pin_at; (first | omega | (simp only [World.size_alloc, pin_size, World.size_drew, World.size_setCell] <;> omega))) | (with_reducible apply alloc_at; first | rfl | (simp only [World.size_alloc, pin_size, World.size_drew, World.size_setCell] <;> omega)) | with_reducible apply past_pin | with_reducible apply past_alloc | with_reducible apply past_drew)); all_goals (first | omega | (simp only [World.size_alloc, pin_size, World.size_drew, World.size_setCell] <;> omega))) (keeps0 (by (repeat (first | with_reducible exact (Below.refl _ _) | with_reducible refine below_pin ?_ ?_ | with_reducible refine Below.alloc ?_ ?_ _ | with_reducible refine Below.setCell ?_ ?_ _ | with_reducible refine Below.drew ?_)); all_goals (first | omega | (simp only [World.size_alloc, pin_size, World.size_drew, World.size_setCell] <;> omega))))))) (fun HS => ?_)
  refine take_ #[true, false, false, false, false, false, false] (i := 0) (v := ?v1) rfl rfl (by kernel_rfl) (fun _ _ _ h => h) (Or.inl ⟨by rfl, ?hy1⟩) HS rfl ?_
  case hy1 => (intro v hv; obtain ⟨x, rfl, _, _, n0, n1, n2⟩ := hv.pin3; go_simp; first | done | with_reducible rfl)
  simp only [Act.put, List.setIfInBounds_toArray, List.set_cons_zero, List.set_cons_succ]
  refine take_ #[true, false, true, false, false, false, false] (i := 2) (v := ?v2) rfl rfl (by kernel_rfl) (fun _ _ _ h => h) (Or.inl ⟨by rfl, ?hy2⟩) HS rfl ?_
  case hy2 => (intro v hv; obtain ⟨x, rfl, _, _, n0, n1, n2⟩ := hv.pin3; go_simp; first | done | with_reducible rfl)
  simp only [Act.put, List.setIfInBounds_toArray, List.set_cons_zero, List.set_cons_succ]
  refine one_ #[true, true, true, false, false, false, false] (i := 1) rfl rfl (by kernel_rfl) (by decide) (fun K hK => ?_)
  go_simp
  refine (weak_nat a CX0.out _).mono ?_
  rintro e y ⟨rfl, hb⟩
  refine hK.out _ _ (HS.step hb rfl) ?_
  clear HS hb
  intro HS
  refine one_ #[true, true, true, true, false, false, false] (i := 3) rfl rfl (by kernel_rfl) (by decide) (fun K hK => ?_)
  go_simp
  refine (weak_nat b CY0.out _).mono ?_
  rintro e y ⟨rfl, hb⟩
  refine hK.out _ _ (HS.step hb rfl) ?_
  clear HS hb
  intro HS
  refine one_ #[true, true, true, true, true, false, false] (i := 4) rfl rfl (by kernel_rfl) (by decide) (fun K hK => ?_)
  go_simp
  refine (sub_nat _ _ CX.out CY.out _).mono ?_
  rintro e y ⟨rfl, hb⟩
  refine hK.out _ _ (HS.step hb rfl) ?_
  clear HS hb
  intro HS
  refine one_ #[true, true, true, true, true, true, false] (i := 5) rfl rfl (by kernel_rfl) (by decide) (fun K hK => ?_)
  go_simp
  refine (reduce_nat _ (nsub_lt _ _ CX.out) _).mono ?_
  rintro e y ⟨rfl, hb⟩
  refine hK.out _ _ (HS.step hb rfl) ?_
  clear HS hb
  intro HS
  obtain ⟨x1, rfl, hk1, hz1, l10, l11, l12⟩ := HS.pin3
  have HB1 : Hid (Below w.heap.size w x1) := hk1.below
  clear HS hk1
  refine last_ #[true, true, true, true, true, true, true] (i := 6) rfl rfl (by kernel_rfl) (by decide) (fun K hK => ?_)
  go_simp
  refine hK.out _ _ ?_
  refine done_ (by kernel_rfl) ?_
  go_wp2_with fail
  refine bodyPost_ret (v := (small (nsub (nweak a) (nweak b)).val).v) ?_ rfl ⟨rfl, ?_⟩
  · simp [results, Tryd.results33, go_sem, l10, l11, l12]
  · exact (by (repeat (first | with_reducible exact HB1.out | with_reducible refine below_pin ?_ ?_ | with_reducible refine Below.alloc ?_ ?_ _ | with_reducible refine Below.setCell ?_ ?_ _ | with_reducible refine Below.drew ?_)); all_goals (first | omega | (simp only [World.size_alloc, pin_size, World.size_drew, World.size_setCell] <;> omega)))
/-- A difference modulo the prime. -/
def subM (x y : Nat) : Nat := (x % Num.p + (Num.p - y % Num.p)) % Num.p
theorem sub_mod {x y s : Nat} (h : s + y = x + 4 * Num.p) : s % Num.p = subM x y % Num.p := by
  unfold subM Num.p at *
  omega
theorem Sub_any (a b : Fn) (hx : a.lt 18446744073709551616) (hy : b.lt 18446744073709551616) (w : World) : Calls Tryd.prog 33 #[a.v, b.v] w fun e w' => e = .returned (small (subM a.val b.val)).v ∧ Below w.heap.size w w' := by
  have h := Sub_any0 a b hx hy w
  rw [small_congr (n := subM a.val b.val) (by
    rw [sub_mod (nsub_val _ _ (nweak_wk b hy))]
    unfold subM
    rw [nweak_mod, nweak_mod])] at h
  exact h

end Go.Proofs.YtljolpdpblohcaaDoor
