/-
  Walks: package field, roots.
-/
import Derived.Test.YtljolpdpblohcaaDoorFh
import Derived.Test.YtljolpdpblohcaaDoorReh
import Derived.Test.YtljolpdpblohcaaDoorRo
namespace Go.Proofs.YtljolpdpblohcaaDoor
open Go.RowKit Go.Proofs.YtljolpdpblohcaaDoorW.PrintLast
set_option linter.unusedSimpArgs false

set_option maxRecDepth 100000 in
set_option maxHeartbeats 8000000 in
theorem Root_any (a b : Fn) (hx : a.lt 18446744073709551616) (hy : b.lt 18446744073709551616) (w : World) :
    Calls Tryd.prog 18 #[a.v, b.v] w fun e w' => e = .returned (.tuple #[(small (rootV (leN (nearL 253 15)) (leN (nearL 251 31)) a.val b.val)).v, .bool (decide (rootOk (leN (nearL 253 15)) (leN (nearL 251 31)) a.val b.val))]) ∧ Below w.heap.size w w' := by
  have CX0 := Lib.hid hx
  have CY0 := Lib.hid hy
  obtain ⟨u, hu⟩ : ∃ u, u = nweak a := ⟨_, rfl⟩
  obtain ⟨v0, hv0⟩ : ∃ v, v = nweak b := ⟨_, rfl⟩
  have CX := Lib.hid (show u.lt 4503599627370496 by rw [hu]; exact nweak_wk a hx)
  have CY := Lib.hid (show v0.lt 4503599627370496 by rw [hv0]; exact nweak_wk b hy)
  have HU := Lib.hid hu
  have HV := Lib.hid hv0
  have CWA : ∀ w, Calls Tryd.prog 34 #[a.v] w fun e w' => e = .returned u.v ∧ Below w.heap.size w w' := fun w => by rw [hu]; exact weak_nat a hx w
  have CWB : ∀ w, Calls Tryd.prog 34 #[b.v] w fun e w' => e = .returned v0.v ∧ Below w.heap.size w w' := fun w => by rw [hv0]; exact weak_nat b hy w
  have HCA := Lib.hid CWA
  have HCB := Lib.hid CWB
  clear hx hy hu hv0 CWA CWB
  go_enter Tryd.func18, Tryd.ntmps18
  go_wp2_with fail
  refine start_ (S := Keeps w _) (ds := [4, 5]) (n := 6) #[false, false, false, false, false, false] (by kernel_rfl) rfl rfl (keepsC (b := w.heap.size) (by (repeat (first | with_reducible exact pin_at (by assumption) | (with_reducible apply pin_at; (first | omega | (simp only [World.size_alloc, pin_size, World.size_drew, World.size_setCell] <;> omega))) | (with_reducible apply alloc_at; first | rfl | (simp only [World.size_alloc, pin_size, World.size_drew, World.size_setCell] <;> omega)) | with_reducible apply past_pin | with_reducible apply past_alloc | with_reducible apply past_drew)); all_goals (first | omega | (simp only [World.size_alloc, pin_size, World.size_drew, World.size_setCell] <;> omega))) (keepsC (b := w.heap.size + 1) (by (repeat (first | with_reducible exact pin_at (by assumption) | (with_reducible apply pin_at; (first | omega | (simp only [World.size_alloc, pin_size, World.size_drew, World.size_setCell] <;> omega))) | (with_reducible apply alloc_at; first | rfl | (simp only [World.size_alloc, pin_size, World.size_drew, World.size_setCell] <;> omega)) | with_reducible apply past_pin | with_reducible apply past_alloc | with_reducible apply past_drew)); all_goals (first | omega | (simp only [World.size_alloc, pin_size, World.size_drew, World.size_setCell] <;> omega))) (keepsC (b := w.heap.size + 2) (by (repeat (first | with_reducible exact pin_at (by assumption) | (with_reducible apply pin_at; (first | omega | (simp only [World.size_alloc, pin_size, World.size_drew, World.size_setCell] <;> omega))) | (with_reducible apply alloc_at; first | rfl | (simp only [World.size_alloc, pin_size, World.size_drew, World.size_setCell] <;> omega)) | with_reducible apply past_pin | with_reducible apply past_alloc | with_reducible apply past_drew)); all_goals (first | omega | (simp only [World.size_alloc, pin_size, World.size_drew, World.size_setCell] <;> omega))) (keeps0 (by (repeat (first | with_reducible exact (Below.refl _ _) | with_reducible refine below_pin ?_ ?_ | with_reducible refine Below.alloc ?_ ?_ _ | with_reducible refine Below.setCell ?_ ?_ _ | with_reducible refine Below.drew ?_)); all_goals (first | omega | (simp only [World.size_alloc, pin_size, World.size_drew, World.size_setCell] <;> omega))))))) (fun HS => ?_)
  refine take_ #[true, false, false, false, false, false] (i := 0) (N := some 9) (v := ?v1) rfl rfl (by kernel_rfl) (fun _ _ _ h => h) (Or.inl ⟨by rfl, ?hy1⟩) HS rfl ?_
  case hy1 => (intro v hv; obtain ⟨x, rfl, _, _, n0, n1, n2⟩ := hv.pin3; go_simp; first | done | with_reducible rfl)
  simp only [Act.put, List.setIfInBounds_toArray, List.set_cons_zero, List.set_cons_succ]
  refine take_ #[true, false, true, false, false, false] (i := 2) (N := some 11) (v := ?v2) rfl rfl (by kernel_rfl) (fun _ _ _ h => h) (Or.inl ⟨by rfl, ?hy2⟩) HS rfl ?_
  case hy2 => (intro v hv; obtain ⟨x, rfl, _, _, n0, n1, n2⟩ := hv.pin3; go_simp; first | done | with_reducible rfl)
  simp only [Act.put, List.setIfInBounds_toArray, List.set_cons_zero, List.set_cons_succ]
  refine one_ #[true, true, true, false, false, false] (i := 1) (N := some 10) rfl rfl (by kernel_rfl) (by decide) (fun K hK => ?_)
  go_simp
  refine (HCA.out _).mono ?_
  rintro e y ⟨rfl, hb⟩
  refine hK.out _ _ (HS.step hb rfl) ?_
  clear HS hb
  intro HS
  refine one_ #[true, true, true, true, false, false] (i := 3) (N := some 12) rfl rfl (by kernel_rfl) (by decide) (fun K hK => ?_)
  go_simp
  refine (HCB.out _).mono ?_
  rintro e y ⟨rfl, hb⟩
  refine hK.out _ _ (HS.step hb rfl) ?_
  clear HS hb
  intro HS
  obtain ⟨x1, rfl, hk1, hz1, l10, l11, l12⟩ := HS.pin3
  have HB1 : Hid (Below w.heap.size w x1) := hk1.below
  clear HS hk1
  refine last_ #[true, true, true, true, true, false] (i := 4) (N := none) rfl rfl (by kernel_rfl) (by decide) (fun K hK => ?_)
  go_simp
  refine hK.out _ _ ?_
  refine last_ #[true, true, true, true, true, true] (i := 5) (N := none) rfl rfl (by kernel_rfl) (by decide) (fun K hK => ?_)
  go_simp
  refine hK.out _ _ ?_
  refine done_ (by kernel_rfl) ?_
  go_wp2_with fail
  refine region_cut (σ := Fn × Fn × Nat) (fun s => match s with | (r1, r2, b6) => [(13, v0.v), (14, v0.v), (15, r1.v), (16, v0.v), (17, r2.v), (6, .pointer (some ⟨b6, 0, none⟩))]) (fun s v => match s with | (r1, r2, b6) => Hid (r2.lt (2251799813685248 + 19) ∧ r2.val % Num.p = v0.val * v0.val * v0.val % Num.p) ∧ w.heap.size < b6 ∧ w.heap.size + 1 < b6 ∧ w.heap.size + 2 < b6 ∧ Keeps w [(b6, .cells #[.int .u64 r2.a, .int .u64 r2.b, .int .u64 r2.c, .int .u64 r2.d, .int .u64 r2.e] 35), (w.heap.size, .cells #[.int .u64 u.a, .int .u64 u.b, .int .u64 u.c, .int .u64 u.d, .int .u64 u.e] 35), (w.heap.size + 1, .cells #[.int .u64 v0.a, .int .u64 v0.b, .int .u64 v0.c, .int .u64 v0.d, .int .u64 v0.e] 35), (w.heap.size + 2, .cells #[.int .u64 0, .int .u64 0, .int .u64 0, .int .u64 0, .int .u64 0] 35)] v) ?_ ?_
  · refine startV (S := Keeps w _) (ds := [6]) (n := 7) #[false, false, false, false, false, false, false] (by kernel_rfl) rfl rfl (keepsC (b := w.heap.size) (o := .cells #[.int .u64 u.a, .int .u64 u.b, .int .u64 u.c, .int .u64 u.d, .int .u64 u.e] 35) (by (repeat (first | with_reducible exact pin_at (by assumption) | (with_reducible apply pin_at; (first | omega | (simp only [World.size_alloc, pin_size, World.size_drew, World.size_setCell] <;> omega))) | (with_reducible apply alloc_at; first | rfl | (simp only [World.size_alloc, pin_size, World.size_drew, World.size_setCell] <;> omega)) | with_reducible apply past_pin | with_reducible apply past_alloc | with_reducible apply past_drew)); all_goals (first | omega | (simp only [World.size_alloc, pin_size, World.size_drew, World.size_setCell] <;> omega))) (keepsC (b := w.heap.size + 1) (o := .cells #[.int .u64 v0.a, .int .u64 v0.b, .int .u64 v0.c, .int .u64 v0.d, .int .u64 v0.e] 35) (by (repeat (first | with_reducible exact pin_at (by assumption) | (with_reducible apply pin_at; (first | omega | (simp only [World.size_alloc, pin_size, World.size_drew, World.size_setCell] <;> omega))) | (with_reducible apply alloc_at; first | rfl | (simp only [World.size_alloc, pin_size, World.size_drew, World.size_setCell] <;> omega)) | with_reducible apply past_pin | with_reducible apply past_alloc | with_reducible apply past_drew)); all_goals (first | omega | (simp only [World.size_alloc, pin_size, World.size_drew, World.size_setCell] <;> omega))) (keepsC (b := w.heap.size + 2) (o := .cells #[.int .u64 0, .int .u64 0, .int .u64 0, .int .u64 0, .int .u64 0] 35) (by (repeat (first | with_reducible exact pin_at (by assumption) | (with_reducible apply pin_at; (first | omega | (simp only [World.size_alloc, pin_size, World.size_drew, World.size_setCell] <;> omega))) | (with_reducible apply alloc_at; first | rfl | (simp only [World.size_alloc, pin_size, World.size_drew, World.size_setCell] <;> omega)) | with_reducible apply past_pin | with_reducible apply past_alloc | with_reducible apply past_drew)); all_goals (first | omega | (simp only [World.size_alloc, pin_size, World.size_drew, World.size_setCell] <;> omega))) (keeps0 (by (repeat (first | with_reducible exact HB1.out | with_reducible refine below_pin ?_ ?_ | with_reducible refine Below.alloc ?_ ?_ _ | with_reducible refine Below.setCell ?_ ?_ _ | with_reducible refine Below.drew ?_)); all_goals (first | omega | (simp only [World.size_alloc, pin_size, World.size_drew, World.size_setCell] <;> omega))))))) (fun y HS => ?_)
    refine take_ #[true, false, false, false, false, false, false] (i := 0) (N := some 13) (v := ?v3) rfl rfl (by kernel_rfl) (fun _ _ _ h => nomatch h.1) (Or.inl ⟨by rfl, ?hy3⟩) HS rfl ?_
    case hy3 => (intro v hv; obtain ⟨x, rfl, _, _, n0, n1, n2⟩ := hv.pin3; go_simp; first | done | with_reducible rfl)
    simp only [Act.put, List.setIfInBounds_toArray, List.set_cons_zero, List.set_cons_succ]
    refine take_ #[true, true, false, false, false, false, false] (i := 1) (N := some 14) (v := ?v4) rfl rfl (by kernel_rfl) (fun _ _ _ h => nomatch h.1) (Or.inl ⟨by rfl, ?hy4⟩) HS rfl ?_
    case hy4 => (intro v hv; obtain ⟨x, rfl, _, _, n0, n1, n2⟩ := hv.pin3; go_simp; first | done | with_reducible rfl)
    simp only [Act.put, List.setIfInBounds_toArray, List.set_cons_zero, List.set_cons_succ]
    refine take_ #[true, true, false, true, false, false, false] (i := 3) (N := some 16) (v := ?v5) rfl rfl (by kernel_rfl) (fun _ _ _ h => nomatch h.1) (Or.inl ⟨by rfl, ?hy5⟩) HS rfl ?_
    case hy5 => (intro v hv; obtain ⟨x, rfl, _, _, n0, n1, n2⟩ := hv.pin3; go_simp; first | done | with_reducible rfl)
    simp only [Act.put, List.setIfInBounds_toArray, List.set_cons_zero, List.set_cons_succ]
    refine two_ #[true, true, true, true, false, false, false] #[true, true, false, true, false, true, false] (i := 2) (j := 5) (Ni := some 15) (Nj := some 6) rfl rfl rfl rfl (by kernel_rfl) (by decide) (by decide) (fun K hK => ?_) (fun K hK => ?_)
    · go_simp
      refine (mul_any v0 v0 CY.out CY.out _).mono ?_
      rintro e y ⟨⟨r1, hr1l, hr1v, rfl⟩, hb⟩
      refine hK.out _ _ (HS.step hb rfl) ?_
      clear HS
      intro HS
      clear hb
      have Hr1 := Lib.hid (And.intro hr1l hr1v)
      clear hr1l hr1v
      refine two_ #[true, true, true, true, true, false, false] #[true, true, true, true, false, true, false] (i := 4) (j := 5) (Ni := some 17) (Nj := some 6) rfl rfl rfl rfl (by kernel_rfl) (by decide) (by decide) (fun K hK => ?_) (fun K hK => ?_)
      · go_simp
        refine (mul_any r1 v0 (wk Hr1.out.1) CY.out _).mono ?_
        rintro e y ⟨⟨r2, hr2l, hr2v, rfl⟩, hb⟩
        refine hK.out _ _ (HS.step hb rfl) ?_
        clear HS
        intro HS
        clear hb
        have Hr2 := Lib.hid (And.intro hr2l hr2v)
        clear hr2l hr2v
        refine one_ #[true, true, true, true, true, true, false] (i := 5) (N := some 6) rfl rfl (by kernel_rfl) (by decide) (fun K hK => ?_)
        go_simp
        obtain ⟨b6, hbn⟩ : ∃ b, b = y.heap.size := ⟨_, rfl⟩
        have hl0 : w.heap.size < b6 := by rw [hbn]; exact HS.lt _ (by exact List.mem_cons_self)
        have hl1 : w.heap.size + 1 < b6 := by rw [hbn]; exact HS.lt _ (by exact List.mem_cons_of_mem _ (List.mem_cons_self))
        have hl2 : w.heap.size + 2 < b6 := by rw [hbn]; exact HS.lt _ (by exact List.mem_cons_of_mem _ (List.mem_cons_of_mem _ (List.mem_cons_self)))
        obtain ⟨HS', HT⟩ := HS.new (o := .cells #[.int .u64 0, .int .u64 0, .int .u64 0, .int .u64 0, .int .u64 0] 35)
        refine hK.out _ _ HS' ?_
        clear HS HS'
        intro HS
        try replace HRD := Lib.hid (HRD.out.mono (Below.alloc (Below.refl y.heap.size y) (Nat.le_refl _) (.cells #[.int .u64 0, .int .u64 0, .int .u64 0, .int .u64 0, .int .u64 0] 35)) (Nat.le_refl _))
        rw [← hbn] at HT ⊢
        clear hbn
        obtain ⟨y2, hy2⟩ : ∃ z, z = y.alloc (.cells #[.int .u64 0, .int .u64 0, .int .u64 0, .int .u64 0, .int .u64 0] 35) := ⟨_, rfl⟩
        rw [← hy2] at HS HT ⊢
        try rw [← hy2] at HRD
        clear hy2
        obtain ⟨x, rfl, hk, hz, m0, m1, m2, m3⟩ := HT.pin4
        clear HS
        refine last_ #[true, true, true, true, true, true, true] (i := 6) (N := none) rfl rfl (by kernel_rfl) (by decide) (fun K hK => ?_)
        go_simp
        refine hK.out _ _ ?_
        refine done_ (by kernel_rfl) ?_
        refine ⟨rfl, (r1, r2, b6), by simp only [puts, Act.put, List.setIfInBounds_toArray, List.set_cons_zero, List.set_cons_succ], ⟨Hr2.out.1, mulm Hr1.out.2 rfl Hr2.out.2⟩, hl0, hl1, hl2, ?_⟩
        exact keepsC (b := b6) (by (repeat (first | with_reducible exact pin_at (by assumption) | (with_reducible apply pin_at; (first | omega | (simp only [World.size_alloc, pin_size, World.size_drew, World.size_setCell] <;> omega))) | (with_reducible apply alloc_at; first | rfl | (simp only [World.size_alloc, pin_size, World.size_drew, World.size_setCell] <;> omega)) | with_reducible apply past_pin | with_reducible apply past_alloc | with_reducible apply past_drew)); all_goals (first | omega | (simp only [World.size_alloc, pin_size, World.size_drew, World.size_setCell] <;> omega))) (keepsC (b := w.heap.size) (by (repeat (first | with_reducible exact pin_at (by assumption) | (with_reducible apply pin_at; (first | omega | (simp only [World.size_alloc, pin_size, World.size_drew, World.size_setCell] <;> omega))) | (with_reducible apply alloc_at; first | rfl | (simp only [World.size_alloc, pin_size, World.size_drew, World.size_setCell] <;> omega)) | with_reducible apply past_pin | with_reducible apply past_alloc | with_reducible apply past_drew)); all_goals (first | omega | (simp only [World.size_alloc, pin_size, World.size_drew, World.size_setCell] <;> omega))) (keepsC (b := w.heap.size + 1) (by (repeat (first | with_reducible exact pin_at (by assumption) | (with_reducible apply pin_at; (first | omega | (simp only [World.size_alloc, pin_size, World.size_drew, World.size_setCell] <;> omega))) | (with_reducible apply alloc_at; first | rfl | (simp only [World.size_alloc, pin_size, World.size_drew, World.size_setCell] <;> omega)) | with_reducible apply past_pin | with_reducible apply past_alloc | with_reducible apply past_drew)); all_goals (first | omega | (simp only [World.size_alloc, pin_size, World.size_drew, World.size_setCell] <;> omega))) (keepsC (b := w.heap.size + 2) (by (repeat (first | with_reducible exact pin_at (by assumption) | (with_reducible apply pin_at; (first | omega | (simp only [World.size_alloc, pin_size, World.size_drew, World.size_setCell] <;> omega))) | (with_reducible apply alloc_at; first | rfl | (simp only [World.size_alloc, pin_size, World.size_drew, World.size_setCell] <;> omega)) | with_reducible apply past_pin | with_reducible apply past_alloc | with_reducible apply past_drew)); all_goals (first | omega | (simp only [World.size_alloc, pin_size, World.size_drew, World.size_setCell] <;> omega))) (keeps0 (by (repeat (first | with_reducible exact hk.below | with_reducible refine below_pin ?_ ?_ | with_reducible refine Below.alloc ?_ ?_ _ | with_reducible refine Below.setCell ?_ ?_ _ | with_reducible refine Below.drew ?_)); all_goals (first | omega | (simp only [World.size_alloc, pin_size, World.size_drew, World.size_setCell] <;> omega)))))))
      · go_simp
        obtain ⟨b6, hbn⟩ : ∃ b, b = y.heap.size := ⟨_, rfl⟩
        have hl0 : w.heap.size < b6 := by rw [hbn]; exact HS.lt _ (by exact List.mem_cons_self)
        have hl1 : w.heap.size + 1 < b6 := by rw [hbn]; exact HS.lt _ (by exact List.mem_cons_of_mem _ (List.mem_cons_self))
        have hl2 : w.heap.size + 2 < b6 := by rw [hbn]; exact HS.lt _ (by exact List.mem_cons_of_mem _ (List.mem_cons_of_mem _ (List.mem_cons_self)))
        obtain ⟨HS', HT⟩ := HS.new (o := .cells #[.int .u64 0, .int .u64 0, .int .u64 0, .int .u64 0, .int .u64 0] 35)
        refine hK.out _ _ HS' ?_
        clear HS HS'
        intro HS
        try replace HRD := Lib.hid (HRD.out.mono (Below.alloc (Below.refl y.heap.size y) (Nat.le_refl _) (.cells #[.int .u64 0, .int .u64 0, .int .u64 0, .int .u64 0, .int .u64 0] 35)) (Nat.le_refl _))
        rw [← hbn] at HT ⊢
        clear hbn
        obtain ⟨y2, hy2⟩ : ∃ z, z = y.alloc (.cells #[.int .u64 0, .int .u64 0, .int .u64 0, .int .u64 0, .int .u64 0] 35) := ⟨_, rfl⟩
        rw [← hy2] at HS HT ⊢
        try rw [← hy2] at HRD
        clear hy2
        refine one_ #[true, true, true, true, true, true, false] (i := 4) (N := some 17) rfl rfl (by kernel_rfl) (by decide) (fun K hK => ?_)
        go_simp
        refine (mul_any r1 v0 (wk Hr1.out.1) CY.out _).mono ?_
        rintro e y ⟨⟨r2, hr2l, hr2v, rfl⟩, hb⟩
        refine hK.out _ _ (HS.step hb rfl) ?_
        clear HS
        intro HS
        replace HT := HT.step hb rfl
        clear hb
        have Hr2 := Lib.hid (And.intro hr2l hr2v)
        clear hr2l hr2v
        obtain ⟨x, rfl, hk, hz, m0, m1, m2, m3⟩ := HT.pin4
        clear HS
        refine last_ #[true, true, true, true, true, true, true] (i := 6) (N := none) rfl rfl (by kernel_rfl) (by decide) (fun K hK => ?_)
        go_simp
        refine hK.out _ _ ?_
        refine done_ (by kernel_rfl) ?_
        refine ⟨rfl, (r1, r2, b6), by simp only [puts, Act.put, List.setIfInBounds_toArray, List.set_cons_zero, List.set_cons_succ], ⟨Hr2.out.1, mulm Hr1.out.2 rfl Hr2.out.2⟩, hl0, hl1, hl2, ?_⟩
        exact keepsC (b := b6) (by (repeat (first | with_reducible exact pin_at (by assumption) | (with_reducible apply pin_at; (first | omega | (simp only [World.size_alloc, pin_size, World.size_drew, World.size_setCell] <;> omega))) | (with_reducible apply alloc_at; first | rfl | (simp only [World.size_alloc, pin_size, World.size_drew, World.size_setCell] <;> omega)) | with_reducible apply past_pin | with_reducible apply past_alloc | with_reducible apply past_drew)); all_goals (first | omega | (simp only [World.size_alloc, pin_size, World.size_drew, World.size_setCell] <;> omega))) (keepsC (b := w.heap.size) (by (repeat (first | with_reducible exact pin_at (by assumption) | (with_reducible apply pin_at; (first | omega | (simp only [World.size_alloc, pin_size, World.size_drew, World.size_setCell] <;> omega))) | (with_reducible apply alloc_at; first | rfl | (simp only [World.size_alloc, pin_size, World.size_drew, World.size_setCell] <;> omega)) | with_reducible apply past_pin | with_reducible apply past_alloc | with_reducible apply past_drew)); all_goals (first | omega | (simp only [World.size_alloc, pin_size, World.size_drew, World.size_setCell] <;> omega))) (keepsC (b := w.heap.size + 1) (by (repeat (first | with_reducible exact pin_at (by assumption) | (with_reducible apply pin_at; (first | omega | (simp only [World.size_alloc, pin_size, World.size_drew, World.size_setCell] <;> omega))) | (with_reducible apply alloc_at; first | rfl | (simp only [World.size_alloc, pin_size, World.size_drew, World.size_setCell] <;> omega)) | with_reducible apply past_pin | with_reducible apply past_alloc | with_reducible apply past_drew)); all_goals (first | omega | (simp only [World.size_alloc, pin_size, World.size_drew, World.size_setCell] <;> omega))) (keepsC (b := w.heap.size + 2) (by (repeat (first | with_reducible exact pin_at (by assumption) | (with_reducible apply pin_at; (first | omega | (simp only [World.size_alloc, pin_size, World.size_drew, World.size_setCell] <;> omega))) | (with_reducible apply alloc_at; first | rfl | (simp only [World.size_alloc, pin_size, World.size_drew, World.size_setCell] <;> omega)) | with_reducible apply past_pin | with_reducible apply past_alloc | with_reducible apply past_drew)); all_goals (first | omega | (simp only [World.size_alloc, pin_size, World.size_drew, World.size_setCell] <;> omega))) (keeps0 (by (repeat (first | with_reducible exact hk.below | with_reducible refine below_pin ?_ ?_ | with_reducible refine Below.alloc ?_ ?_ _ | with_reducible refine Below.setCell ?_ ?_ _ | with_reducible refine Below.drew ?_)); all_goals (first | omega | (simp only [World.size_alloc, pin_size, World.size_drew, World.size_setCell] <;> omega)))))))
    · go_simp
      obtain ⟨b6, hbn⟩ : ∃ b, b = y.heap.size := ⟨_, rfl⟩
      have hl0 : w.heap.size < b6 := by rw [hbn]; exact HS.lt _ (by exact List.mem_cons_self)
      have hl1 : w.heap.size + 1 < b6 := by rw [hbn]; exact HS.lt _ (by exact List.mem_cons_of_mem _ (List.mem_cons_self))
      have hl2 : w.heap.size + 2 < b6 := by rw [hbn]; exact HS.lt _ (by exact List.mem_cons_of_mem _ (List.mem_cons_of_mem _ (List.mem_cons_self)))
      obtain ⟨HS', HT⟩ := HS.new (o := .cells #[.int .u64 0, .int .u64 0, .int .u64 0, .int .u64 0, .int .u64 0] 35)
      refine hK.out _ _ HS' ?_
      clear HS HS'
      intro HS
      try replace HRD := Lib.hid (HRD.out.mono (Below.alloc (Below.refl y.heap.size y) (Nat.le_refl _) (.cells #[.int .u64 0, .int .u64 0, .int .u64 0, .int .u64 0, .int .u64 0] 35)) (Nat.le_refl _))
      rw [← hbn] at HT ⊢
      clear hbn
      obtain ⟨y2, hy2⟩ : ∃ z, z = y.alloc (.cells #[.int .u64 0, .int .u64 0, .int .u64 0, .int .u64 0, .int .u64 0] 35) := ⟨_, rfl⟩
      rw [← hy2] at HS HT ⊢
      try rw [← hy2] at HRD
      clear hy2
      refine one_ #[true, true, true, true, false, true, false] (i := 2) (N := some 15) rfl rfl (by kernel_rfl) (by decide) (fun K hK => ?_)
      go_simp
      refine (mul_any v0 v0 CY.out CY.out _).mono ?_
      rintro e y ⟨⟨r1, hr1l, hr1v, rfl⟩, hb⟩
      refine hK.out _ _ (HS.step hb rfl) ?_
      clear HS
      intro HS
      replace HT := HT.step hb rfl
      clear hb
      have Hr1 := Lib.hid (And.intro hr1l hr1v)
      clear hr1l hr1v
      refine one_ #[true, true, true, true, true, true, false] (i := 4) (N := some 17) rfl rfl (by kernel_rfl) (by decide) (fun K hK => ?_)
      go_simp
      refine (mul_any r1 v0 (wk Hr1.out.1) CY.out _).mono ?_
      rintro e y ⟨⟨r2, hr2l, hr2v, rfl⟩, hb⟩
      refine hK.out _ _ (HS.step hb rfl) ?_
      clear HS
      intro HS
      replace HT := HT.step hb rfl
      clear hb
      have Hr2 := Lib.hid (And.intro hr2l hr2v)
      clear hr2l hr2v
      obtain ⟨x, rfl, hk, hz, m0, m1, m2, m3⟩ := HT.pin4
      clear HS
      refine last_ #[true, true, true, true, true, true, true] (i := 6) (N := none) rfl rfl (by kernel_rfl) (by decide) (fun K hK => ?_)
      go_simp
      refine hK.out _ _ ?_
      refine done_ (by kernel_rfl) ?_
      refine ⟨rfl, (r1, r2, b6), by simp only [puts, Act.put, List.setIfInBounds_toArray, List.set_cons_zero, List.set_cons_succ], ⟨Hr2.out.1, mulm Hr1.out.2 rfl Hr2.out.2⟩, hl0, hl1, hl2, ?_⟩
      exact keepsC (b := b6) (by (repeat (first | with_reducible exact pin_at (by assumption) | (with_reducible apply pin_at; (first | omega | (simp only [World.size_alloc, pin_size, World.size_drew, World.size_setCell] <;> omega))) | (with_reducible apply alloc_at; first | rfl | (simp only [World.size_alloc, pin_size, World.size_drew, World.size_setCell] <;> omega)) | with_reducible apply past_pin | with_reducible apply past_alloc | with_reducible apply past_drew)); all_goals (first | omega | (simp only [World.size_alloc, pin_size, World.size_drew, World.size_setCell] <;> omega))) (keepsC (b := w.heap.size) (by (repeat (first | with_reducible exact pin_at (by assumption) | (with_reducible apply pin_at; (first | omega | (simp only [World.size_alloc, pin_size, World.size_drew, World.size_setCell] <;> omega))) | (with_reducible apply alloc_at; first | rfl | (simp only [World.size_alloc, pin_size, World.size_drew, World.size_setCell] <;> omega)) | with_reducible apply past_pin | with_reducible apply past_alloc | with_reducible apply past_drew)); all_goals (first | omega | (simp only [World.size_alloc, pin_size, World.size_drew, World.size_setCell] <;> omega))) (keepsC (b := w.heap.size + 1) (by (repeat (first | with_reducible exact pin_at (by assumption) | (with_reducible apply pin_at; (first | omega | (simp only [World.size_alloc, pin_size, World.size_drew, World.size_setCell] <;> omega))) | (with_reducible apply alloc_at; first | rfl | (simp only [World.size_alloc, pin_size, World.size_drew, World.size_setCell] <;> omega)) | with_reducible apply past_pin | with_reducible apply past_alloc | with_reducible apply past_drew)); all_goals (first | omega | (simp only [World.size_alloc, pin_size, World.size_drew, World.size_setCell] <;> omega))) (keepsC (b := w.heap.size + 2) (by (repeat (first | with_reducible exact pin_at (by assumption) | (with_reducible apply pin_at; (first | omega | (simp only [World.size_alloc, pin_size, World.size_drew, World.size_setCell] <;> omega))) | (with_reducible apply alloc_at; first | rfl | (simp only [World.size_alloc, pin_size, World.size_drew, World.size_setCell] <;> omega)) | with_reducible apply past_pin | with_reducible apply past_alloc | with_reducible apply past_drew)); all_goals (first | omega | (simp only [World.size_alloc, pin_size, World.size_drew, World.size_setCell] <;> omega))) (keeps0 (by (repeat (first | with_reducible exact hk.below | with_reducible refine below_pin ?_ ?_ | with_reducible refine Below.alloc ?_ ?_ _ | with_reducible refine Below.setCell ?_ ?_ _ | with_reducible refine Below.drew ?_)); all_goals (first | omega | (simp only [World.size_alloc, pin_size, World.size_drew, World.size_setCell] <;> omega)))))))
  rintro ⟨r1, r2, b6⟩ v ⟨hpr, hl20, hl21, hl22, HK⟩
  simp only [puts, Act.put, List.setIfInBounds_toArray, List.set_cons_zero, List.set_cons_succ]
  obtain ⟨x2, rfl, hk, hz2, l20, l21, l22, l23⟩ := HK.pin4
  have HB2 : Hid (Below w.heap.size w x2) := hk.below
  clear HK hk
  have HV3 := hpr
  clear hpr
  go_wp2_with fail
  refine region_cut (σ := Option Addr × Nat × Fn × Fn × Fn × Fn × Fn × Fn × Nat) (fun s => match s with | (A, c, q1, q2, q3, q4, q5, q6, b7) => [(18, u.v), (19, r2.v), (20, q1.v), (21, r2.v), (22, r2.v), (23, q2.v), (24, v0.v), (25, q3.v), (26, u.v), (27, q4.v), (28, .slice A 32 c), (29, q5.v), (30, q6.v), (7, .pointer (some ⟨b7, 0, none⟩))]) (fun s v => match s with | (A, c, q1, q2, q3, q4, q5, q6, b7) => Hid (q6.lt (2251799813685248 + 19) ∧ q6.val % Num.p = u.val * (v0.val * v0.val * v0.val) * ((v0.val * v0.val * v0.val) * (v0.val * v0.val * v0.val) * v0.val * u.val) ^ leN (nearL 253 15) % Num.p) ∧ w.heap.size < b7 ∧ w.heap.size + 1 < b7 ∧ w.heap.size + 2 < b7 ∧ b6 < b7 ∧ Keeps w [(b7, .cells #[.int .u64 q6.a, .int .u64 q6.b, .int .u64 q6.c, .int .u64 q6.d, .int .u64 q6.e] 35), (w.heap.size, .cells #[.int .u64 u.a, .int .u64 u.b, .int .u64 u.c, .int .u64 u.d, .int .u64 u.e] 35), (w.heap.size + 1, .cells #[.int .u64 v0.a, .int .u64 v0.b, .int .u64 v0.c, .int .u64 v0.d, .int .u64 v0.e] 35), (w.heap.size + 2, .cells #[.int .u64 0, .int .u64 0, .int .u64 0, .int .u64 0, .int .u64 0] 35), (b6, .cells #[.int .u64 r2.a, .int .u64 r2.b, .int .u64 r2.c, .int .u64 r2.d, .int .u64 r2.e] 35)] v) ?_ ?_
  · refine startV (S := Keeps w _) (ds := [14]) (n := 15) #[false, false, false, false, false, false, false, false, false, false, false, false, false, false, false] (by kernel_rfl) rfl rfl (keepsC (b := w.heap.size) (o := .cells #[.int .u64 u.a, .int .u64 u.b, .int .u64 u.c, .int .u64 u.d, .int .u64 u.e] 35) (by (repeat (first | with_reducible exact pin_at (by assumption) | (with_reducible apply pin_at; (first | omega | (simp only [World.size_alloc, pin_size, World.size_drew, World.size_setCell] <;> omega))) | (with_reducible apply alloc_at; first | rfl | (simp only [World.size_alloc, pin_size, World.size_drew, World.size_setCell] <;> omega)) | with_reducible apply past_pin | with_reducible apply past_alloc | with_reducible apply past_drew)); all_goals (first | omega | (simp only [World.size_alloc, pin_size, World.size_drew, World.size_setCell] <;> omega))) (keepsC (b := w.heap.size + 1) (o := .cells #[.int .u64 v0.a, .int .u64 v0.b, .int .u64 v0.c, .int .u64 v0.d, .int .u64 v0.e] 35) (by (repeat (first | with_reducible exact pin_at (by assumption) | (with_reducible apply pin_at; (first | omega | (simp only [World.size_alloc, pin_size, World.size_drew, World.size_setCell] <;> omega))) | (with_reducible apply alloc_at; first | rfl | (simp only [World.size_alloc, pin_size, World.size_drew, World.size_setCell] <;> omega)) | with_reducible apply past_pin | with_reducible apply past_alloc | with_reducible apply past_drew)); all_goals (first | omega | (simp only [World.size_alloc, pin_size, World.size_drew, World.size_setCell] <;> omega))) (keepsC (b := w.heap.size + 2) (o := .cells #[.int .u64 0, .int .u64 0, .int .u64 0, .int .u64 0, .int .u64 0] 35) (by (repeat (first | with_reducible exact pin_at (by assumption) | (with_reducible apply pin_at; (first | omega | (simp only [World.size_alloc, pin_size, World.size_drew, World.size_setCell] <;> omega))) | (with_reducible apply alloc_at; first | rfl | (simp only [World.size_alloc, pin_size, World.size_drew, World.size_setCell] <;> omega)) | with_reducible apply past_pin | with_reducible apply past_alloc | with_reducible apply past_drew)); all_goals (first | omega | (simp only [World.size_alloc, pin_size, World.size_drew, World.size_setCell] <;> omega))) (keepsC (b := b6) (o := .cells #[.int .u64 r2.a, .int .u64 r2.b, .int .u64 r2.c, .int .u64 r2.d, .int .u64 r2.e] 35) (by (repeat (first | with_reducible exact pin_at (by assumption) | (with_reducible apply pin_at; (first | omega | (simp only [World.size_alloc, pin_size, World.size_drew, World.size_setCell] <;> omega))) | (with_reducible apply alloc_at; first | rfl | (simp only [World.size_alloc, pin_size, World.size_drew, World.size_setCell] <;> omega)) | with_reducible apply past_pin | with_reducible apply past_alloc | with_reducible apply past_drew)); all_goals (first | omega | (simp only [World.size_alloc, pin_size, World.size_drew, World.size_setCell] <;> omega))) (keeps0 (by (repeat (first | with_reducible exact HB2.out | with_reducible refine below_pin ?_ ?_ | with_reducible refine Below.alloc ?_ ?_ _ | with_reducible refine Below.setCell ?_ ?_ _ | with_reducible refine Below.drew ?_)); all_goals (first | omega | (simp only [World.size_alloc, pin_size, World.size_drew, World.size_setCell] <;> omega)))))))) (fun y HS => ?_)
    refine take_ #[true, false, false, false, false, false, false, false, false, false, false, false, false, false, false] (i := 0) (N := some 18) (v := ?v6) rfl rfl (by kernel_rfl) (fun _ _ _ h => nomatch h.1) (Or.inl ⟨by rfl, ?hy6⟩) HS rfl ?_
    case hy6 => (intro v hv; obtain ⟨x, rfl, _, _, n0, n1, n2, n3⟩ := hv.pin4; go_simp; first | done | with_reducible rfl)
    simp only [Act.put, List.setIfInBounds_toArray, List.set_cons_zero, List.set_cons_succ]
    refine take_ #[true, true, false, false, false, false, false, false, false, false, false, false, false, false, false] (i := 1) (N := some 19) (v := ?v7) rfl rfl (by kernel_rfl) (fun _ _ _ h => nomatch h.1) (Or.inl ⟨by rfl, ?hy7⟩) HS rfl ?_
    case hy7 => (intro v hv; obtain ⟨x, rfl, _, _, n0, n1, n2, n3⟩ := hv.pin4; go_simp; first | done | with_reducible rfl)
    simp only [Act.put, List.setIfInBounds_toArray, List.set_cons_zero, List.set_cons_succ]
    refine take_ #[true, true, false, true, false, false, false, false, false, false, false, false, false, false, false] (i := 3) (N := some 21) (v := ?v8) rfl rfl (by kernel_rfl) (fun _ _ _ h => nomatch h.1) (Or.inl ⟨by rfl, ?hy8⟩) HS rfl ?_
    case hy8 => (intro v hv; obtain ⟨x, rfl, _, _, n0, n1, n2, n3⟩ := hv.pin4; go_simp; first | done | with_reducible rfl)
    simp only [Act.put, List.setIfInBounds_toArray, List.set_cons_zero, List.set_cons_succ]
    refine take_ #[true, true, false, true, true, false, false, false, false, false, false, false, false, false, false] (i := 4) (N := some 22) (v := ?v9) rfl rfl (by kernel_rfl) (fun _ _ _ h => nomatch h.1) (Or.inl ⟨by rfl, ?hy9⟩) HS rfl ?_
    case hy9 => (intro v hv; obtain ⟨x, rfl, _, _, n0, n1, n2, n3⟩ := hv.pin4; go_simp; first | done | with_reducible rfl)
    simp only [Act.put, List.setIfInBounds_toArray, List.set_cons_zero, List.set_cons_succ]
    refine take_ #[true, true, false, true, true, false, true, false, false, false, false, false, false, false, false] (i := 6) (N := some 24) (v := ?v10) rfl rfl (by kernel_rfl) (fun _ _ _ h => nomatch h.1) (Or.inl ⟨by rfl, ?hy10⟩) HS rfl ?_
    case hy10 => (intro v hv; obtain ⟨x, rfl, _, _, n0, n1, n2, n3⟩ := hv.pin4; go_simp; first | done | with_reducible rfl)
    simp only [Act.put, List.setIfInBounds_toArray, List.set_cons_zero, List.set_cons_succ]
    refine take_ #[true, true, false, true, true, false, true, false, true, false, false, false, false, false, false] (i := 8) (N := some 26) (v := ?v11) rfl rfl (by kernel_rfl) (fun _ _ _ h => nomatch h.1) (Or.inl ⟨by rfl, ?hy11⟩) HS rfl ?_
    case hy11 => (intro v hv; obtain ⟨x, rfl, _, _, n0, n1, n2, n3⟩ := hv.pin4; go_simp; first | done | with_reducible rfl)
    simp only [Act.put, List.setIfInBounds_toArray, List.set_cons_zero, List.set_cons_succ]
    refine two_ #[true, true, true, true, true, false, true, false, true, false, false, false, false, false, false] #[true, true, false, true, true, false, true, false, true, false, false, false, false, true, false] (i := 2) (j := 13) (Ni := some 20) (Nj := some 7) rfl rfl rfl rfl (by kernel_rfl) (by decide) (by decide) (fun K hK => ?_) (fun K hK => ?_)
    · go_simp
      refine (mul_any u r2 CX.out (wk HV3.out.1) _).mono ?_
      rintro e y ⟨⟨q1, hq1l, hq1v, rfl⟩, hb⟩
      refine hK.out _ _ (HS.step hb rfl) ?_
      clear HS
      intro HS
      clear hb
      have Hq1 := Lib.hid (And.intro hq1l hq1v)
      clear hq1l hq1v
      refine two_ #[true, true, true, true, true, true, true, false, true, false, false, false, false, false, false] #[true, true, true, true, true, false, true, false, true, false, false, false, false, true, false] (i := 5) (j := 13) (Ni := some 23) (Nj := some 7) rfl rfl rfl rfl (by kernel_rfl) (by decide) (by decide) (fun K hK => ?_) (fun K hK => ?_)
      · go_simp
        refine (mul_any r2 r2 (wk HV3.out.1) (wk HV3.out.1) _).mono ?_
        rintro e y ⟨⟨q2, hq2l, hq2v, rfl⟩, hb⟩
        refine hK.out _ _ (HS.step hb rfl) ?_
        clear HS
        intro HS
        clear hb
        have Hq2 := Lib.hid (And.intro hq2l hq2v)
        clear hq2l hq2v
        refine two_ #[true, true, true, true, true, true, true, true, true, false, false, false, false, false, false] #[true, true, true, true, true, true, true, false, true, false, false, false, false, true, false] (i := 7) (j := 13) (Ni := some 25) (Nj := some 7) rfl rfl rfl rfl (by kernel_rfl) (by decide) (by decide) (fun K hK => ?_) (fun K hK => ?_)
        · go_simp
          refine (mul_any q2 v0 (wk Hq2.out.1) CY.out _).mono ?_
          rintro e y ⟨⟨q3, hq3l, hq3v, rfl⟩, hb⟩
          refine hK.out _ _ (HS.step hb rfl) ?_
          clear HS
          intro HS
          clear hb
          have Hq3 := Lib.hid (And.intro hq3l hq3v)
          clear hq3l hq3v
          refine two_ #[true, true, true, true, true, true, true, true, true, true, false, false, false, false, false] #[true, true, true, true, true, true, true, true, true, false, false, false, false, true, false] (i := 9) (j := 13) (Ni := some 27) (Nj := some 7) rfl rfl rfl rfl (by kernel_rfl) (by decide) (by decide) (fun K hK => ?_) (fun K hK => ?_)
          · go_simp
            refine (mul_any q3 u (wk Hq3.out.1) CX.out _).mono ?_
            rintro e y ⟨⟨q4, hq4l, hq4v, rfl⟩, hb⟩
            refine hK.out _ _ (HS.step hb rfl) ?_
            clear HS
            intro HS
            clear hb
            have Hq4 := Lib.hid (And.intro hq4l hq4v)
            clear hq4l hq4v
            refine two_ #[true, true, true, true, true, true, true, true, true, true, true, false, false, false, false] #[true, true, true, true, true, true, true, true, true, true, false, false, false, true, false] (i := 10) (j := 13) (Ni := some 28) (Nj := some 7) rfl rfl rfl rfl (by kernel_rfl) (by decide) (by decide) (fun K hK => ?_) (fun K hK => ?_)
            · go_simp
              refine (near_any 253 15 _).mono ?_
              rintro e y ⟨⟨A, c, rfl, hrd⟩, hb⟩
              refine hK.out _ _ (HS.step hb rfl) ?_
              clear HS
              intro HS
              clear hb
              have HRD := Lib.hid hrd
              clear hrd
              refine two_ #[true, true, true, true, true, true, true, true, true, true, true, true, false, false, false] #[true, true, true, true, true, true, true, true, true, true, true, false, false, true, false] (i := 11) (j := 13) (Ni := some 29) (Nj := some 7) rfl rfl rfl rfl (by kernel_rfl) (by decide) (by decide) (fun K hK => ?_) (fun K hK => ?_)
              · go_simp
                refine (power_near q4 (wk Hq4.out.1) 253 15 (by decide) (by decide) A c _ HRD.out).mono ?_
                rintro e y ⟨⟨q5, hq5l, hq5v, rfl⟩, hb⟩
                refine hK.out _ _ (HS.step hb rfl) ?_
                clear HS
                intro HS
                clear hb
                have Hq5 := Lib.hid (And.intro hq5l hq5v)
                clear hq5l hq5v
                refine two_ #[true, true, true, true, true, true, true, true, true, true, true, true, true, false, false] #[true, true, true, true, true, true, true, true, true, true, true, true, false, true, false] (i := 12) (j := 13) (Ni := some 30) (Nj := some 7) rfl rfl rfl rfl (by kernel_rfl) (by decide) (by decide) (fun K hK => ?_) (fun K hK => ?_)
                · go_simp
                  refine (mul_any q1 q5 (wk Hq1.out.1) (wk Hq5.out.1) _).mono ?_
                  rintro e y ⟨⟨q6, hq6l, hq6v, rfl⟩, hb⟩
                  refine hK.out _ _ (HS.step hb rfl) ?_
                  clear HS
                  intro HS
                  clear hb
                  have Hq6 := Lib.hid (And.intro hq6l hq6v)
                  clear hq6l hq6v
                  refine one_ #[true, true, true, true, true, true, true, true, true, true, true, true, true, true, false] (i := 13) (N := some 7) rfl rfl (by kernel_rfl) (by decide) (fun K hK => ?_)
                  go_simp
                  obtain ⟨b7, hbn⟩ : ∃ b, b = y.heap.size := ⟨_, rfl⟩
                  have hl0 : w.heap.size < b7 := by rw [hbn]; exact HS.lt _ (by exact List.mem_cons_self)
                  have hl1 : w.heap.size + 1 < b7 := by rw [hbn]; exact HS.lt _ (by exact List.mem_cons_of_mem _ (List.mem_cons_self))
                  have hl2 : w.heap.size + 2 < b7 := by rw [hbn]; exact HS.lt _ (by exact List.mem_cons_of_mem _ (List.mem_cons_of_mem _ (List.mem_cons_self)))
                  have hl3 : b6 < b7 := by rw [hbn]; exact HS.lt _ (by exact List.mem_cons_of_mem _ (List.mem_cons_of_mem _ (List.mem_cons_of_mem _ (List.mem_cons_self))))
                  obtain ⟨HS', HT⟩ := HS.new (o := .cells #[.int .u64 0, .int .u64 0, .int .u64 0, .int .u64 0, .int .u64 0] 35)
                  refine hK.out _ _ HS' ?_
                  clear HS HS'
                  intro HS
                  try replace HRD := Lib.hid (HRD.out.mono (Below.alloc (Below.refl y.heap.size y) (Nat.le_refl _) (.cells #[.int .u64 0, .int .u64 0, .int .u64 0, .int .u64 0, .int .u64 0] 35)) (Nat.le_refl _))
                  rw [← hbn] at HT ⊢
                  clear hbn
                  obtain ⟨y2, hy2⟩ : ∃ z, z = y.alloc (.cells #[.int .u64 0, .int .u64 0, .int .u64 0, .int .u64 0, .int .u64 0] 35) := ⟨_, rfl⟩
                  rw [← hy2] at HS HT ⊢
                  try rw [← hy2] at HRD
                  clear hy2
                  obtain ⟨x, rfl, hk, hz, m0, m1, m2, m3, m4⟩ := HT.pin5
                  clear HS
                  refine last_ #[true, true, true, true, true, true, true, true, true, true, true, true, true, true, true] (i := 14) (N := none) rfl rfl (by kernel_rfl) (by decide) (fun K hK => ?_)
                  go_simp
                  refine hK.out _ _ ?_
                  refine done_ (by kernel_rfl) ?_
                  refine ⟨rfl, (A, c, q1, q2, q3, q4, q5, q6, b7), by simp only [puts, Act.put, List.setIfInBounds_toArray, List.set_cons_zero, List.set_cons_succ], ⟨Hq6.out.1, mulm (mulm rfl HV3.out.2 Hq1.out.2) (by rw [Hq5.out.2, Nat.pow_mod, mulm (mulm (mulm HV3.out.2 HV3.out.2 Hq2.out.2) rfl Hq3.out.2) rfl Hq4.out.2, ← Nat.pow_mod]) Hq6.out.2⟩, hl0, hl1, hl2, hl3, ?_⟩
                  exact keepsC (b := b7) (by (repeat (first | with_reducible exact pin_at (by assumption) | (with_reducible apply pin_at; (first | omega | (simp only [World.size_alloc, pin_size, World.size_drew, World.size_setCell] <;> omega))) | (with_reducible apply alloc_at; first | rfl | (simp only [World.size_alloc, pin_size, World.size_drew, World.size_setCell] <;> omega)) | with_reducible apply past_pin | with_reducible apply past_alloc | with_reducible apply past_drew)); all_goals (first | omega | (simp only [World.size_alloc, pin_size, World.size_drew, World.size_setCell] <;> omega))) (keepsC (b := w.heap.size) (by (repeat (first | with_reducible exact pin_at (by assumption) | (with_reducible apply pin_at; (first | omega | (simp only [World.size_alloc, pin_size, World.size_drew, World.size_setCell] <;> omega))) | (with_reducible apply alloc_at; first | rfl | (simp only [World.size_alloc, pin_size, World.size_drew, World.size_setCell] <;> omega)) | with_reducible apply past_pin | with_reducible apply past_alloc | with_reducible apply past_drew)); all_goals (first | omega | (simp only [World.size_alloc, pin_size, World.size_drew, World.size_setCell] <;> omega))) (keepsC (b := w.heap.size + 1) (by (repeat (first | with_reducible exact pin_at (by assumption) | (with_reducible apply pin_at; (first | omega | (simp only [World.size_alloc, pin_size, World.size_drew, World.size_setCell] <;> omega))) | (with_reducible apply alloc_at; first | rfl | (simp only [World.size_alloc, pin_size, World.size_drew, World.size_setCell] <;> omega)) | with_reducible apply past_pin | with_reducible apply past_alloc | with_reducible apply past_drew)); all_goals (first | omega | (simp only [World.size_alloc, pin_size, World.size_drew, World.size_setCell] <;> omega))) (keepsC (b := w.heap.size + 2) (by (repeat (first | with_reducible exact pin_at (by assumption) | (with_reducible apply pin_at; (first | omega | (simp only [World.size_alloc, pin_size, World.size_drew, World.size_setCell] <;> omega))) | (with_reducible apply alloc_at; first | rfl | (simp only [World.size_alloc, pin_size, World.size_drew, World.size_setCell] <;> omega)) | with_reducible apply past_pin | with_reducible apply past_alloc | with_reducible apply past_drew)); all_goals (first | omega | (simp only [World.size_alloc, pin_size, World.size_drew, World.size_setCell] <;> omega))) (keepsC (b := b6) (by (repeat (first | with_reducible exact pin_at (by assumption) | (with_reducible apply pin_at; (first | omega | (simp only [World.size_alloc, pin_size, World.size_drew, World.size_setCell] <;> omega))) | (with_reducible apply alloc_at; first | rfl | (simp only [World.size_alloc, pin_size, World.size_drew, World.size_setCell] <;> omega)) | with_reducible apply past_pin | with_reducible apply past_alloc | with_reducible apply past_drew)); all_goals (first | omega | (simp only [World.size_alloc, pin_size, World.size_drew, World.size_setCell] <;> omega))) (keeps0 (by (repeat (first | with_reducible exact hk.below | with_reducible refine below_pin ?_ ?_ | with_reducible refine Below.alloc ?_ ?_ _ | with_reducible refine Below.setCell ?_ ?_ _ | with_reducible refine Below.drew ?_)); all_goals (first | omega | (simp only [World.size_alloc, pin_size, World.size_drew, World.size_setCell] <;> omega))))))))
                · go_simp
                  obtain ⟨b7, hbn⟩ : ∃ b, b = y.heap.size := ⟨_, rfl⟩
                  have hl0 : w.heap.size < b7 := by rw [hbn]; exact HS.lt _ (by exact List.mem_cons_self)
                  have hl1 : w.heap.size + 1 < b7 := by rw [hbn]; exact HS.lt _ (by exact List.mem_cons_of_mem _ (List.mem_cons_self))
                  have hl2 : w.heap.size + 2 < b7 := by rw [hbn]; exact HS.lt _ (by exact List.mem_cons_of_mem _ (List.mem_cons_of_mem _ (List.mem_cons_self)))
                  have hl3 : b6 < b7 := by rw [hbn]; exact HS.lt _ (by exact List.mem_cons_of_mem _ (List.mem_cons_of_mem _ (List.mem_cons_of_mem _ (List.mem_cons_self))))
                  obtain ⟨HS', HT⟩ := HS.new (o := .cells #[.int .u64 0, .int .u64 0, .int .u64 0, .int .u64 0, .int .u64 0] 35)
                  refine hK.out _ _ HS' ?_
                  clear HS HS'
                  intro HS
                  try replace HRD := Lib.hid (HRD.out.mono (Below.alloc (Below.refl y.heap.size y) (Nat.le_refl _) (.cells #[.int .u64 0, .int .u64 0, .int .u64 0, .int .u64 0, .int .u64 0] 35)) (Nat.le_refl _))
                  rw [← hbn] at HT ⊢
                  clear hbn
                  obtain ⟨y2, hy2⟩ : ∃ z, z = y.alloc (.cells #[.int .u64 0, .int .u64 0, .int .u64 0, .int .u64 0, .int .u64 0] 35) := ⟨_, rfl⟩
                  rw [← hy2] at HS HT ⊢
                  try rw [← hy2] at HRD
                  clear hy2
                  refine one_ #[true, true, true, true, true, true, true, true, true, true, true, true, true, true, false] (i := 12) (N := some 30) rfl rfl (by kernel_rfl) (by decide) (fun K hK => ?_)
                  go_simp
                  refine (mul_any q1 q5 (wk Hq1.out.1) (wk Hq5.out.1) _).mono ?_
                  rintro e y ⟨⟨q6, hq6l, hq6v, rfl⟩, hb⟩
                  refine hK.out _ _ (HS.step hb rfl) ?_
                  clear HS
                  intro HS
                  replace HT := HT.step hb rfl
                  clear hb
                  have Hq6 := Lib.hid (And.intro hq6l hq6v)
                  clear hq6l hq6v
                  obtain ⟨x, rfl, hk, hz, m0, m1, m2, m3, m4⟩ := HT.pin5
                  clear HS
                  refine last_ #[true, true, true, true, true, true, true, true, true, true, true, true, true, true, true] (i := 14) (N := none) rfl rfl (by kernel_rfl) (by decide) (fun K hK => ?_)
                  go_simp
                  refine hK.out _ _ ?_
                  refine done_ (by kernel_rfl) ?_
                  refine ⟨rfl, (A, c, q1, q2, q3, q4, q5, q6, b7), by simp only [puts, Act.put, List.setIfInBounds_toArray, List.set_cons_zero, List.set_cons_succ], ⟨Hq6.out.1, mulm (mulm rfl HV3.out.2 Hq1.out.2) (by rw [Hq5.out.2, Nat.pow_mod, mulm (mulm (mulm HV3.out.2 HV3.out.2 Hq2.out.2) rfl Hq3.out.2) rfl Hq4.out.2, ← Nat.pow_mod]) Hq6.out.2⟩, hl0, hl1, hl2, hl3, ?_⟩
                  exact keepsC (b := b7) (by (repeat (first | with_reducible exact pin_at (by assumption) | (with_reducible apply pin_at; (first | omega | (simp only [World.size_alloc, pin_size, World.size_drew, World.size_setCell] <;> omega))) | (with_reducible apply alloc_at; first | rfl | (simp only [World.size_alloc, pin_size, World.size_drew, World.size_setCell] <;> omega)) | with_reducible apply past_pin | with_reducible apply past_alloc | with_reducible apply past_drew)); all_goals (first | omega | (simp only [World.size_alloc, pin_size, World.size_drew, World.size_setCell] <;> omega))) (keepsC (b := w.heap.size) (by (repeat (first | with_reducible exact pin_at (by assumption) | (with_reducible apply pin_at; (first | omega | (simp only [World.size_alloc, pin_size, World.size_drew, World.size_setCell] <;> omega))) | (with_reducible apply alloc_at; first | rfl | (simp only [World.size_alloc, pin_size, World.size_drew, World.size_setCell] <;> omega)) | with_reducible apply past_pin | with_reducible apply past_alloc | with_reducible apply past_drew)); all_goals (first | omega | (simp only [World.size_alloc, pin_size, World.size_drew, World.size_setCell] <;> omega))) (keepsC (b := w.heap.size + 1) (by (repeat (first | with_reducible exact pin_at (by assumption) | (with_reducible apply pin_at; (first | omega | (simp only [World.size_alloc, pin_size, World.size_drew, World.size_setCell] <;> omega))) | (with_reducible apply alloc_at; first | rfl | (simp only [World.size_alloc, pin_size, World.size_drew, World.size_setCell] <;> omega)) | with_reducible apply past_pin | with_reducible apply past_alloc | with_reducible apply past_drew)); all_goals (first | omega | (simp only [World.size_alloc, pin_size, World.size_drew, World.size_setCell] <;> omega))) (keepsC (b := w.heap.size + 2) (by (repeat (first | with_reducible exact pin_at (by assumption) | (with_reducible apply pin_at; (first | omega | (simp only [World.size_alloc, pin_size, World.size_drew, World.size_setCell] <;> omega))) | (with_reducible apply alloc_at; first | rfl | (simp only [World.size_alloc, pin_size, World.size_drew, World.size_setCell] <;> omega)) | with_reducible apply past_pin | with_reducible apply past_alloc | with_reducible apply past_drew)); all_goals (first | omega | (simp only [World.size_alloc, pin_size, World.size_drew, World.size_setCell] <;> omega))) (keepsC (b := b6) (by (repeat (first | with_reducible exact pin_at (by assumption) | (with_reducible apply pin_at; (first | omega | (simp only [World.size_alloc, pin_size, World.size_drew, World.size_setCell] <;> omega))) | (with_reducible apply alloc_at; first | rfl | (simp only [World.size_alloc, pin_size, World.size_drew, World.size_setCell] <;> omega)) | with_reducible apply past_pin | with_reducible apply past_alloc | with_reducible apply past_drew)); all_goals (first | omega | (simp only [World.size_alloc, pin_size, World.size_drew, World.size_setCell] <;> omega))) (keeps0 (by (repeat (first | with_reducible exact hk.below | with_reducible refine below_pin ?_ ?_ | with_reducible refine Below.alloc ?_ ?_ _ | with_reducible refine Below.setCell ?_ ?_ _ | with_reducible refine Below.drew ?_)); all_goals (first | omega | (simp only [World.size_alloc, pin_size, World.size_drew, World.size_setCell] <;> omega))))))))
              · go_simp
                obtain ⟨b7, hbn⟩ : ∃ b, b = y.heap.size := ⟨_, rfl⟩
                have hl0 : w.heap.size < b7 := by rw [hbn]; exact HS.lt _ (by exact List.mem_cons_self)
                have hl1 : w.heap.size + 1 < b7 := by rw [hbn]; exact HS.lt _ (by exact List.mem_cons_of_mem _ (List.mem_cons_self))
                have hl2 : w.heap.size + 2 < b7 := by rw [hbn]; exact HS.lt _ (by exact List.mem_cons_of_mem _ (List.mem_cons_of_mem _ (List.mem_cons_self)))
                have hl3 : b6 < b7 := by rw [hbn]; exact HS.lt _ (by exact List.mem_cons_of_mem _ (List.mem_cons_of_mem _ (List.mem_cons_of_mem _ (List.mem_cons_self))))
                obtain ⟨HS', HT⟩ := HS.new (o := .cells #[.int .u64 0, .int .u64 0, .int .u64 0, .int .u64 0, .int .u64 0] 35)
                refine hK.out _ _ HS' ?_
                clear HS HS'
                intro HS
                try replace HRD := Lib.hid (HRD.out.mono (Below.alloc (Below.refl y.heap.size y) (Nat.le_refl _) (.cells #[.int .u64 0, .int .u64 0, .int .u64 0, .int .u64 0, .int .u64 0] 35)) (Nat.le_refl _))
                rw [← hbn] at HT ⊢
                clear hbn
                obtain ⟨y2, hy2⟩ : ∃ z, z = y.alloc (.cells #[.int .u64 0, .int .u64 0, .int .u64 0, .int .u64 0, .int .u64 0] 35) := ⟨_, rfl⟩
                rw [← hy2] at HS HT ⊢
                try rw [← hy2] at HRD
                clear hy2
                refine one_ #[true, true, true, true, true, true, true, true, true, true, true, true, false, true, false] (i := 11) (N := some 29) rfl rfl (by kernel_rfl) (by decide) (fun K hK => ?_)
                go_simp
                refine (power_near q4 (wk Hq4.out.1) 253 15 (by decide) (by decide) A c _ HRD.out).mono ?_
                rintro e y ⟨⟨q5, hq5l, hq5v, rfl⟩, hb⟩
                refine hK.out _ _ (HS.step hb rfl) ?_
                clear HS
                intro HS
                replace HT := HT.step hb rfl
                clear hb
                have Hq5 := Lib.hid (And.intro hq5l hq5v)
                clear hq5l hq5v
                refine one_ #[true, true, true, true, true, true, true, true, true, true, true, true, true, true, false] (i := 12) (N := some 30) rfl rfl (by kernel_rfl) (by decide) (fun K hK => ?_)
                go_simp
                refine (mul_any q1 q5 (wk Hq1.out.1) (wk Hq5.out.1) _).mono ?_
                rintro e y ⟨⟨q6, hq6l, hq6v, rfl⟩, hb⟩
                refine hK.out _ _ (HS.step hb rfl) ?_
                clear HS
                intro HS
                replace HT := HT.step hb rfl
                clear hb
                have Hq6 := Lib.hid (And.intro hq6l hq6v)
                clear hq6l hq6v
                obtain ⟨x, rfl, hk, hz, m0, m1, m2, m3, m4⟩ := HT.pin5
                clear HS
                refine last_ #[true, true, true, true, true, true, true, true, true, true, true, true, true, true, true] (i := 14) (N := none) rfl rfl (by kernel_rfl) (by decide) (fun K hK => ?_)
                go_simp
                refine hK.out _ _ ?_
                refine done_ (by kernel_rfl) ?_
                refine ⟨rfl, (A, c, q1, q2, q3, q4, q5, q6, b7), by simp only [puts, Act.put, List.setIfInBounds_toArray, List.set_cons_zero, List.set_cons_succ], ⟨Hq6.out.1, mulm (mulm rfl HV3.out.2 Hq1.out.2) (by rw [Hq5.out.2, Nat.pow_mod, mulm (mulm (mulm HV3.out.2 HV3.out.2 Hq2.out.2) rfl Hq3.out.2) rfl Hq4.out.2, ← Nat.pow_mod]) Hq6.out.2⟩, hl0, hl1, hl2, hl3, ?_⟩
                exact keepsC (b := b7) (by (repeat (first | with_reducible exact pin_at (by assumption) | (with_reducible apply pin_at; (first | omega | (simp only [World.size_alloc, pin_size, World.size_drew, World.size_setCell] <;> omega))) | (with_reducible apply alloc_at; first | rfl | (simp only [World.size_alloc, pin_size, World.size_drew, World.size_setCell] <;> omega)) | with_reducible apply past_pin | with_reducible apply past_alloc | with_reducible apply past_drew)); all_goals (first | omega | (simp only [World.size_alloc, pin_size, World.size_drew, World.size_setCell] <;> omega))) (keepsC (b := w.heap.size) (by (repeat (first | with_reducible exact pin_at (by assumption) | (with_reducible apply pin_at; (first | omega | (simp only [World.size_alloc, pin_size, World.size_drew, World.size_setCell] <;> omega))) | (with_reducible apply alloc_at; first | rfl | (simp only [World.size_alloc, pin_size, World.size_drew, World.size_setCell] <;> omega)) | with_reducible apply past_pin | with_reducible apply past_alloc | with_reducible apply past_drew)); all_goals (first | omega | (simp only [World.size_alloc, pin_size, World.size_drew, World.size_setCell] <;> omega))) (keepsC (b := w.heap.size + 1) (by (repeat (first | with_reducible exact pin_at (by assumption) | (with_reducible apply pin_at; (first | omega | (simp only [World.size_alloc, pin_size, World.size_drew, World.size_setCell] <;> omega))) | (with_reducible apply alloc_at; first | rfl | (simp only [World.size_alloc, pin_size, World.size_drew, World.size_setCell] <;> omega)) | with_reducible apply past_pin | with_reducible apply past_alloc | with_reducible apply past_drew)); all_goals (first | omega | (simp only [World.size_alloc, pin_size, World.size_drew, World.size_setCell] <;> omega))) (keepsC (b := w.heap.size + 2) (by (repeat (first | with_reducible exact pin_at (by assumption) | (with_reducible apply pin_at; (first | omega | (simp only [World.size_alloc, pin_size, World.size_drew, World.size_setCell] <;> omega))) | (with_reducible apply alloc_at; first | rfl | (simp only [World.size_alloc, pin_size, World.size_drew, World.size_setCell] <;> omega)) | with_reducible apply past_pin | with_reducible apply past_alloc | with_reducible apply past_drew)); all_goals (first | omega | (simp only [World.size_alloc, pin_size, World.size_drew, World.size_setCell] <;> omega))) (keepsC (b := b6) (by (repeat (first | with_reducible exact pin_at (by assumption) | (with_reducible apply pin_at; (first | omega | (simp only [World.size_alloc, pin_size, World.size_drew, World.size_setCell] <;> omega))) | (with_reducible apply alloc_at; first | rfl | (simp only [World.size_alloc, pin_size, World.size_drew, World.size_setCell] <;> omega)) | with_reducible apply past_pin | with_reducible apply past_alloc | with_reducible apply past_drew)); all_goals (first | omega | (simp only [World.size_alloc, pin_size, World.size_drew, World.size_setCell] <;> omega))) (keeps0 (by (repeat (first | with_reducible exact hk.below | with_reducible refine below_pin ?_ ?_ | with_reducible refine Below.alloc ?_ ?_ _ | with_reducible refine Below.setCell ?_ ?_ _ | with_reducible refine Below.drew ?_)); all_goals (first | omega | (simp only [World.size_alloc, pin_size, World.size_drew, World.size_setCell] <;> omega))))))))
            · go_simp
              obtain ⟨b7, hbn⟩ : ∃ b, b = y.heap.size := ⟨_, rfl⟩
              have hl0 : w.heap.size < b7 := by rw [hbn]; exact HS.lt _ (by exact List.mem_cons_self)
              have hl1 : w.heap.size + 1 < b7 := by rw [hbn]; exact HS.lt _ (by exact List.mem_cons_of_mem _ (List.mem_cons_self))
              have hl2 : w.heap.size + 2 < b7 := by rw [hbn]; exact HS.lt _ (by exact List.mem_cons_of_mem _ (List.mem_cons_of_mem _ (List.mem_cons_self)))
              have hl3 : b6 < b7 := by rw [hbn]; exact HS.lt _ (by exact List.mem_cons_of_mem _ (List.mem_cons_of_mem _ (List.mem_cons_of_mem _ (List.mem_cons_self))))
              obtain ⟨HS', HT⟩ := HS.new (o := .cells #[.int .u64 0, .int .u64 0, .int .u64 0, .int .u64 0, .int .u64 0] 35)
              refine hK.out _ _ HS' ?_
              clear HS HS'
              intro HS
              try replace HRD := Lib.hid (HRD.out.mono (Below.alloc (Below.refl y.heap.size y) (Nat.le_refl _) (.cells #[.int .u64 0, .int .u64 0, .int .u64 0, .int .u64 0, .int .u64 0] 35)) (Nat.le_refl _))
              rw [← hbn] at HT ⊢
              clear hbn
              obtain ⟨y2, hy2⟩ : ∃ z, z = y.alloc (.cells #[.int .u64 0, .int .u64 0, .int .u64 0, .int .u64 0, .int .u64 0] 35) := ⟨_, rfl⟩
              rw [← hy2] at HS HT ⊢
              try rw [← hy2] at HRD
              clear hy2
              refine one_ #[true, true, true, true, true, true, true, true, true, true, true, false, false, true, false] (i := 10) (N := some 28) rfl rfl (by kernel_rfl) (by decide) (fun K hK => ?_)
              go_simp
              refine (near_any 253 15 _).mono ?_
              rintro e y ⟨⟨A, c, rfl, hrd⟩, hb⟩
              refine hK.out _ _ (HS.step hb rfl) ?_
              clear HS
              intro HS
              replace HT := HT.step hb rfl
              clear hb
              have HRD := Lib.hid hrd
              clear hrd
              refine one_ #[true, true, true, true, true, true, true, true, true, true, true, true, false, true, false] (i := 11) (N := some 29) rfl rfl (by kernel_rfl) (by decide) (fun K hK => ?_)
              go_simp
              refine (power_near q4 (wk Hq4.out.1) 253 15 (by decide) (by decide) A c _ HRD.out).mono ?_
              rintro e y ⟨⟨q5, hq5l, hq5v, rfl⟩, hb⟩
              refine hK.out _ _ (HS.step hb rfl) ?_
              clear HS
              intro HS
              replace HT := HT.step hb rfl
              clear hb
              have Hq5 := Lib.hid (And.intro hq5l hq5v)
              clear hq5l hq5v
              refine one_ #[true, true, true, true, true, true, true, true, true, true, true, true, true, true, false] (i := 12) (N := some 30) rfl rfl (by kernel_rfl) (by decide) (fun K hK => ?_)
              go_simp
              refine (mul_any q1 q5 (wk Hq1.out.1) (wk Hq5.out.1) _).mono ?_
              rintro e y ⟨⟨q6, hq6l, hq6v, rfl⟩, hb⟩
              refine hK.out _ _ (HS.step hb rfl) ?_
              clear HS
              intro HS
              replace HT := HT.step hb rfl
              clear hb
              have Hq6 := Lib.hid (And.intro hq6l hq6v)
              clear hq6l hq6v
              obtain ⟨x, rfl, hk, hz, m0, m1, m2, m3, m4⟩ := HT.pin5
              clear HS
              refine last_ #[true, true, true, true, true, true, true, true, true, true, true, true, true, true, true] (i := 14) (N := none) rfl rfl (by kernel_rfl) (by decide) (fun K hK => ?_)
              go_simp
              refine hK.out _ _ ?_
              refine done_ (by kernel_rfl) ?_
              refine ⟨rfl, (A, c, q1, q2, q3, q4, q5, q6, b7), by simp only [puts, Act.put, List.setIfInBounds_toArray, List.set_cons_zero, List.set_cons_succ], ⟨Hq6.out.1, mulm (mulm rfl HV3.out.2 Hq1.out.2) (by rw [Hq5.out.2, Nat.pow_mod, mulm (mulm (mulm HV3.out.2 HV3.out.2 Hq2.out.2) rfl Hq3.out.2) rfl Hq4.out.2, ← Nat.pow_mod]) Hq6.out.2⟩, hl0, hl1, hl2, hl3, ?_⟩
              exact keepsC (b := b7) (by (repeat (first | with_reducible exact pin_at (by assumption) | (with_reducible apply pin_at; (first | omega | (simp only [World.size_alloc, pin_size, World.size_drew, World.size_setCell] <;> omega))) | (with_reducible apply alloc_at; first | rfl | (simp only [World.size_alloc, pin_size, World.size_drew, World.size_setCell] <;> omega)) | with_reducible apply past_pin | with_reducible apply past_alloc | with_reducible apply past_drew)); all_goals (first | omega | (simp only [World.size_alloc, pin_size, World.size_drew, World.size_setCell] <;> omega))) (keepsC (b := w.heap.size) (by (repeat (first | with_reducible exact pin_at (by assumption) | (with_reducible apply pin_at; (first | omega | (simp only [World.size_alloc, pin_size, World.size_drew, World.size_setCell] <;> omega))) | (with_reducible apply alloc_at; first | rfl | (simp only [World.size_alloc, pin_size, World.size_drew, World.size_setCell] <;> omega)) | with_reducible apply past_pin | with_reducible apply past_alloc | with_reducible apply past_drew)); all_goals (first | omega | (simp only [World.size_alloc, pin_size, World.size_drew, World.size_setCell] <;> omega))) (keepsC (b := w.heap.size + 1) (by (repeat (first | with_reducible exact pin_at (by assumption) | (with_reducible apply pin_at; (first | omega | (simp only [World.size_alloc, pin_size, World.size_drew, World.size_setCell] <;> omega))) | (with_reducible apply alloc_at; first | rfl | (simp only [World.size_alloc, pin_size, World.size_drew, World.size_setCell] <;> omega)) | with_reducible apply past_pin | with_reducible apply past_alloc | with_reducible apply past_drew)); all_goals (first | omega | (simp only [World.size_alloc, pin_size, World.size_drew, World.size_setCell] <;> omega))) (keepsC (b := w.heap.size + 2) (by (repeat (first | with_reducible exact pin_at (by assumption) | (with_reducible apply pin_at; (first | omega | (simp only [World.size_alloc, pin_size, World.size_drew, World.size_setCell] <;> omega))) | (with_reducible apply alloc_at; first | rfl | (simp only [World.size_alloc, pin_size, World.size_drew, World.size_setCell] <;> omega)) | with_reducible apply past_pin | with_reducible apply past_alloc | with_reducible apply past_drew)); all_goals (first | omega | (simp only [World.size_alloc, pin_size, World.size_drew, World.size_setCell] <;> omega))) (keepsC (b := b6) (by (repeat (first | with_reducible exact pin_at (by assumption) | (with_reducible apply pin_at; (first | omega | (simp only [World.size_alloc, pin_size, World.size_drew, World.size_setCell] <;> omega))) | (with_reducible apply alloc_at; first | rfl | (simp only [World.size_alloc, pin_size, World.size_drew, World.size_setCell] <;> omega)) | with_reducible apply past_pin | with_reducible apply past_alloc | with_reducible apply past_drew)); all_goals (first | omega | (simp only [World.size_alloc, pin_size, World.size_drew, World.size_setCell] <;> omega))) (keeps0 (by (repeat (first | with_reducible exact hk.below | with_reducible refine below_pin ?_ ?_ | with_reducible refine Below.alloc ?_ ?_ _ | with_reducible refine Below.setCell ?_ ?_ _ | with_reducible refine Below.drew ?_)); all_goals (first | omega | (simp only [World.size_alloc, pin_size, World.size_drew, World.size_setCell] <;> omega))))))))
          · go_simp
            obtain ⟨b7, hbn⟩ : ∃ b, b = y.heap.size := ⟨_, rfl⟩
            have hl0 : w.heap.size < b7 := by rw [hbn]; exact HS.lt _ (by exact List.mem_cons_self)
            have hl1 : w.heap.size + 1 < b7 := by rw [hbn]; exact HS.lt _ (by exact List.mem_cons_of_mem _ (List.mem_cons_self))
            have hl2 : w.heap.size + 2 < b7 := by rw [hbn]; exact HS.lt _ (by exact List.mem_cons_of_mem _ (List.mem_cons_of_mem _ (List.mem_cons_self)))
            have hl3 : b6 < b7 := by rw [hbn]; exact HS.lt _ (by exact List.mem_cons_of_mem _ (List.mem_cons_of_mem _ (List.mem_cons_of_mem _ (List.mem_cons_self))))
            obtain ⟨HS', HT⟩ := HS.new (o := .cells #[.int .u64 0, .int .u64 0, .int .u64 0, .int .u64 0, .int .u64 0] 35)
            refine hK.out _ _ HS' ?_
            clear HS HS'
            intro HS
            try replace HRD := Lib.hid (HRD.out.mono (Below.alloc (Below.refl y.heap.size y) (Nat.le_refl _) (.cells #[.int .u64 0, .int .u64 0, .int .u64 0, .int .u64 0, .int .u64 0] 35)) (Nat.le_refl _))
            rw [← hbn] at HT ⊢
            clear hbn
            obtain ⟨y2, hy2⟩ : ∃ z, z = y.alloc (.cells #[.int .u64 0, .int .u64 0, .int .u64 0, .int .u64 0, .int .u64 0] 35) := ⟨_, rfl⟩
            rw [← hy2] at HS HT ⊢
            try rw [← hy2] at HRD
            clear hy2
            refine one_ #[true, true, true, true, true, true, true, true, true, true, false, false, false, true, false] (i := 9) (N := some 27) rfl rfl (by kernel_rfl) (by decide) (fun K hK => ?_)
            go_simp
            refine (mul_any q3 u (wk Hq3.out.1) CX.out _).mono ?_
            rintro e y ⟨⟨q4, hq4l, hq4v, rfl⟩, hb⟩
            refine hK.out _ _ (HS.step hb rfl) ?_
            clear HS
            intro HS
            replace HT := HT.step hb rfl
            clear hb
            have Hq4 := Lib.hid (And.intro hq4l hq4v)
            clear hq4l hq4v
            refine one_ #[true, true, true, true, true, true, true, true, true, true, true, false, false, true, false] (i := 10) (N := some 28) rfl rfl (by kernel_rfl) (by decide) (fun K hK => ?_)
            go_simp
            refine (near_any 253 15 _).mono ?_
            rintro e y ⟨⟨A, c, rfl, hrd⟩, hb⟩
            refine hK.out _ _ (HS.step hb rfl) ?_
            clear HS
            intro HS
            replace HT := HT.step hb rfl
            clear hb
            have HRD := Lib.hid hrd
            clear hrd
            refine one_ #[true, true, true, true, true, true, true, true, true, true, true, true, false, true, false] (i := 11) (N := some 29) rfl rfl (by kernel_rfl) (by decide) (fun K hK => ?_)
            go_simp
            refine (power_near q4 (wk Hq4.out.1) 253 15 (by decide) (by decide) A c _ HRD.out).mono ?_
            rintro e y ⟨⟨q5, hq5l, hq5v, rfl⟩, hb⟩
            refine hK.out _ _ (HS.step hb rfl) ?_
            clear HS
            intro HS
            replace HT := HT.step hb rfl
            clear hb
            have Hq5 := Lib.hid (And.intro hq5l hq5v)
            clear hq5l hq5v
            refine one_ #[true, true, true, true, true, true, true, true, true, true, true, true, true, true, false] (i := 12) (N := some 30) rfl rfl (by kernel_rfl) (by decide) (fun K hK => ?_)
            go_simp
            refine (mul_any q1 q5 (wk Hq1.out.1) (wk Hq5.out.1) _).mono ?_
            rintro e y ⟨⟨q6, hq6l, hq6v, rfl⟩, hb⟩
            refine hK.out _ _ (HS.step hb rfl) ?_
            clear HS
            intro HS
            replace HT := HT.step hb rfl
            clear hb
            have Hq6 := Lib.hid (And.intro hq6l hq6v)
            clear hq6l hq6v
            obtain ⟨x, rfl, hk, hz, m0, m1, m2, m3, m4⟩ := HT.pin5
            clear HS
            refine last_ #[true, true, true, true, true, true, true, true, true, true, true, true, true, true, true] (i := 14) (N := none) rfl rfl (by kernel_rfl) (by decide) (fun K hK => ?_)
            go_simp
            refine hK.out _ _ ?_
            refine done_ (by kernel_rfl) ?_
            refine ⟨rfl, (A, c, q1, q2, q3, q4, q5, q6, b7), by simp only [puts, Act.put, List.setIfInBounds_toArray, List.set_cons_zero, List.set_cons_succ], ⟨Hq6.out.1, mulm (mulm rfl HV3.out.2 Hq1.out.2) (by rw [Hq5.out.2, Nat.pow_mod, mulm (mulm (mulm HV3.out.2 HV3.out.2 Hq2.out.2) rfl Hq3.out.2) rfl Hq4.out.2, ← Nat.pow_mod]) Hq6.out.2⟩, hl0, hl1, hl2, hl3, ?_⟩
            exact keepsC (b := b7) (by (repeat (first | with_reducible exact pin_at (by assumption) | (with_reducible apply pin_at; (first | omega | (simp only [World.size_alloc, pin_size, World.size_drew, World.size_setCell] <;> omega))) | (with_reducible apply alloc_at; first | rfl | (simp only [World.size_alloc, pin_size, World.size_drew, World.size_setCell] <;> omega)) | with_reducible apply past_pin | with_reducible apply past_alloc | with_reducible apply past_drew)); all_goals (first | omega | (simp only [World.size_alloc, pin_size, World.size_drew, World.size_setCell] <;> omega))) (keepsC (b := w.heap.size) (by (repeat (first | with_reducible exact pin_at (by assumption) | (with_reducible apply pin_at; (first | omega | (simp only [World.size_alloc, pin_size, World.size_drew, World.size_setCell] <;> omega))) | (with_reducible apply alloc_at; first | rfl | (simp only [World.size_alloc, pin_size, World.size_drew, World.size_setCell] <;> omega)) | with_reducible apply past_pin | with_reducible apply past_alloc | with_reducible apply past_drew)); all_goals (first | omega | (simp only [World.size_alloc, pin_size, World.size_drew, World.size_setCell] <;> omega))) (keepsC (b := w.heap.size + 1) (by (repeat (first | with_reducible exact pin_at (by assumption) | (with_reducible apply pin_at; (first | omega | (simp only [World.size_alloc, pin_size, World.size_drew, World.size_setCell] <;> omega))) | (with_reducible apply alloc_at; first | rfl | (simp only [World.size_alloc, pin_size, World.size_drew, World.size_setCell] <;> omega)) | with_reducible apply past_pin | with_reducible apply past_alloc | with_reducible apply past_drew)); all_goals (first | omega | (simp only [World.size_alloc, pin_size, World.size_drew, World.size_setCell] <;> omega))) (keepsC (b := w.heap.size + 2) (by (repeat (first | with_reducible exact pin_at (by assumption) | (with_reducible apply pin_at; (first | omega | (simp only [World.size_alloc, pin_size, World.size_drew, World.size_setCell] <;> omega))) | (with_reducible apply alloc_at; first | rfl | (simp only [World.size_alloc, pin_size, World.size_drew, World.size_setCell] <;> omega)) | with_reducible apply past_pin | with_reducible apply past_alloc | with_reducible apply past_drew)); all_goals (first | omega | (simp only [World.size_alloc, pin_size, World.size_drew, World.size_setCell] <;> omega))) (keepsC (b := b6) (by (repeat (first | with_reducible exact pin_at (by assumption) | (with_reducible apply pin_at; (first | omega | (simp only [World.size_alloc, pin_size, World.size_drew, World.size_setCell] <;> omega))) | (with_reducible apply alloc_at; first | rfl | (simp only [World.size_alloc, pin_size, World.size_drew, World.size_setCell] <;> omega)) | with_reducible apply past_pin | with_reducible apply past_alloc | with_reducible apply past_drew)); all_goals (first | omega | (simp only [World.size_alloc, pin_size, World.size_drew, World.size_setCell] <;> omega))) (keeps0 (by (repeat (first | with_reducible exact hk.below | with_reducible refine below_pin ?_ ?_ | with_reducible refine Below.alloc ?_ ?_ _ | with_reducible refine Below.setCell ?_ ?_ _ | with_reducible refine Below.drew ?_)); all_goals (first | omega | (simp only [World.size_alloc, pin_size, World.size_drew, World.size_setCell] <;> omega))))))))
        · go_simp
          obtain ⟨b7, hbn⟩ : ∃ b, b = y.heap.size := ⟨_, rfl⟩
          have hl0 : w.heap.size < b7 := by rw [hbn]; exact HS.lt _ (by exact List.mem_cons_self)
          have hl1 : w.heap.size + 1 < b7 := by rw [hbn]; exact HS.lt _ (by exact List.mem_cons_of_mem _ (List.mem_cons_self))
          have hl2 : w.heap.size + 2 < b7 := by rw [hbn]; exact HS.lt _ (by exact List.mem_cons_of_mem _ (List.mem_cons_of_mem _ (List.mem_cons_self)))
          have hl3 : b6 < b7 := by rw [hbn]; exact HS.lt _ (by exact List.mem_cons_of_mem _ (List.mem_cons_of_mem _ (List.mem_cons_of_mem _ (List.mem_cons_self))))
          obtain ⟨HS', HT⟩ := HS.new (o := .cells #[.int .u64 0, .int .u64 0, .int .u64 0, .int .u64 0, .int .u64 0] 35)
          refine hK.out _ _ HS' ?_
          clear HS HS'
          intro HS
          try replace HRD := Lib.hid (HRD.out.mono (Below.alloc (Below.refl y.heap.size y) (Nat.le_refl _) (.cells #[.int .u64 0, .int .u64 0, .int .u64 0, .int .u64 0, .int .u64 0] 35)) (Nat.le_refl _))
          rw [← hbn] at HT ⊢
          clear hbn
          obtain ⟨y2, hy2⟩ : ∃ z, z = y.alloc (.cells #[.int .u64 0, .int .u64 0, .int .u64 0, .int .u64 0, .int .u64 0] 35) := ⟨_, rfl⟩
          rw [← hy2] at HS HT ⊢
          try rw [← hy2] at HRD
          clear hy2
          refine one_ #[true, true, true, true, true, true, true, true, true, false, false, false, false, true, false] (i := 7) (N := some 25) rfl rfl (by kernel_rfl) (by decide) (fun K hK => ?_)
          go_simp
          refine (mul_any q2 v0 (wk Hq2.out.1) CY.out _).mono ?_
          rintro e y ⟨⟨q3, hq3l, hq3v, rfl⟩, hb⟩
          refine hK.out _ _ (HS.step hb rfl) ?_
          clear HS
          intro HS
          replace HT := HT.step hb rfl
          clear hb
          have Hq3 := Lib.hid (And.intro hq3l hq3v)
          clear hq3l hq3v
          refine one_ #[true, true, true, true, true, true, true, true, true, true, false, false, false, true, false] (i := 9) (N := some 27) rfl rfl (by kernel_rfl) (by decide) (fun K hK => ?_)
          go_simp
          refine (mul_any q3 u (wk Hq3.out.1) CX.out _).mono ?_
          rintro e y ⟨⟨q4, hq4l, hq4v, rfl⟩, hb⟩
          refine hK.out _ _ (HS.step hb rfl) ?_
          clear HS
          intro HS
          replace HT := HT.step hb rfl
          clear hb
          have Hq4 := Lib.hid (And.intro hq4l hq4v)
          clear hq4l hq4v
          refine one_ #[true, true, true, true, true, true, true, true, true, true, true, false, false, true, false] (i := 10) (N := some 28) rfl rfl (by kernel_rfl) (by decide) (fun K hK => ?_)
          go_simp
          refine (near_any 253 15 _).mono ?_
          rintro e y ⟨⟨A, c, rfl, hrd⟩, hb⟩
          refine hK.out _ _ (HS.step hb rfl) ?_
          clear HS
          intro HS
          replace HT := HT.step hb rfl
          clear hb
          have HRD := Lib.hid hrd
          clear hrd
          refine one_ #[true, true, true, true, true, true, true, true, true, true, true, true, false, true, false] (i := 11) (N := some 29) rfl rfl (by kernel_rfl) (by decide) (fun K hK => ?_)
          go_simp
          refine (power_near q4 (wk Hq4.out.1) 253 15 (by decide) (by decide) A c _ HRD.out).mono ?_
          rintro e y ⟨⟨q5, hq5l, hq5v, rfl⟩, hb⟩
          refine hK.out _ _ (HS.step hb rfl) ?_
          clear HS
          intro HS
          replace HT := HT.step hb rfl
          clear hb
          have Hq5 := Lib.hid (And.intro hq5l hq5v)
          clear hq5l hq5v
          refine one_ #[true, true, true, true, true, true, true, true, true, true, true, true, true, true, false] (i := 12) (N := some 30) rfl rfl (by kernel_rfl) (by decide) (fun K hK => ?_)
          go_simp
          refine (mul_any q1 q5 (wk Hq1.out.1) (wk Hq5.out.1) _).mono ?_
          rintro e y ⟨⟨q6, hq6l, hq6v, rfl⟩, hb⟩
          refine hK.out _ _ (HS.step hb rfl) ?_
          clear HS
          intro HS
          replace HT := HT.step hb rfl
          clear hb
          have Hq6 := Lib.hid (And.intro hq6l hq6v)
          clear hq6l hq6v
          obtain ⟨x, rfl, hk, hz, m0, m1, m2, m3, m4⟩ := HT.pin5
          clear HS
          refine last_ #[true, true, true, true, true, true, true, true, true, true, true, true, true, true, true] (i := 14) (N := none) rfl rfl (by kernel_rfl) (by decide) (fun K hK => ?_)
          go_simp
          refine hK.out _ _ ?_
          refine done_ (by kernel_rfl) ?_
          refine ⟨rfl, (A, c, q1, q2, q3, q4, q5, q6, b7), by simp only [puts, Act.put, List.setIfInBounds_toArray, List.set_cons_zero, List.set_cons_succ], ⟨Hq6.out.1, mulm (mulm rfl HV3.out.2 Hq1.out.2) (by rw [Hq5.out.2, Nat.pow_mod, mulm (mulm (mulm HV3.out.2 HV3.out.2 Hq2.out.2) rfl Hq3.out.2) rfl Hq4.out.2, ← Nat.pow_mod]) Hq6.out.2⟩, hl0, hl1, hl2, hl3, ?_⟩
          exact keepsC (b := b7) (by (repeat (first | with_reducible exact pin_at (by assumption) | (with_reducible apply pin_at; (first | omega | (simp only [World.size_alloc, pin_size, World.size_drew, World.size_setCell] <;> omega))) | (with_reducible apply alloc_at; first | rfl | (simp only [World.size_alloc, pin_size, World.size_drew, World.size_setCell] <;> omega)) | with_reducible apply past_pin | with_reducible apply past_alloc | with_reducible apply past_drew)); all_goals (first | omega | (simp only [World.size_alloc, pin_size, World.size_drew, World.size_setCell] <;> omega))) (keepsC (b := w.heap.size) (by (repeat (first | with_reducible exact pin_at (by assumption) | (with_reducible apply pin_at; (first | omega | (simp only [World.size_alloc, pin_size, World.size_drew, World.size_setCell] <;> omega))) | (with_reducible apply alloc_at; first | rfl | (simp only [World.size_alloc, pin_size, World.size_drew, World.size_setCell] <;> omega)) | with_reducible apply past_pin | with_reducible apply past_alloc | with_reducible apply past_drew)); all_goals (first | omega | (simp only [World.size_alloc, pin_size, World.size_drew, World.size_setCell] <;> omega))) (keepsC (b := w.heap.size + 1) (by (repeat (first | with_reducible exact pin_at (by assumption) | (with_reducible apply pin_at; (first | omega | (simp only [World.size_alloc, pin_size, World.size_drew, World.size_setCell] <;> omega))) | (with_reducible apply alloc_at; first | rfl | (simp only [World.size_alloc, pin_size, World.size_drew, World.size_setCell] <;> omega)) | with_reducible apply past_pin | with_reducible apply past_alloc | with_reducible apply past_drew)); all_goals (first | omega | (simp only [World.size_alloc, pin_size, World.size_drew, World.size_setCell] <;> omega))) (keepsC (b := w.heap.size + 2) (by (repeat (first | with_reducible exact pin_at (by assumption) | (with_reducible apply pin_at; (first | omega | (simp only [World.size_alloc, pin_size, World.size_drew, World.size_setCell] <;> omega))) | (with_reducible apply alloc_at; first | rfl | (simp only [World.size_alloc, pin_size, World.size_drew, World.size_setCell] <;> omega)) | with_reducible apply past_pin | with_reducible apply past_alloc | with_reducible apply past_drew)); all_goals (first | omega | (simp only [World.size_alloc, pin_size, World.size_drew, World.size_setCell] <;> omega))) (keepsC (b := b6) (by (repeat (first | with_reducible exact pin_at (by assumption) | (with_reducible apply pin_at; (first | omega | (simp only [World.size_alloc, pin_size, World.size_drew, World.size_setCell] <;> omega))) | (with_reducible apply alloc_at; first | rfl | (simp only [World.size_alloc, pin_size, World.size_drew, World.size_setCell] <;> omega)) | with_reducible apply past_pin | with_reducible apply past_alloc | with_reducible apply past_drew)); all_goals (first | omega | (simp only [World.size_alloc, pin_size, World.size_drew, World.size_setCell] <;> omega))) (keeps0 (by (repeat (first | with_reducible exact hk.below | with_reducible refine below_pin ?_ ?_ | with_reducible refine Below.alloc ?_ ?_ _ | with_reducible refine Below.setCell ?_ ?_ _ | with_reducible refine Below.drew ?_)); all_goals (first | omega | (simp only [World.size_alloc, pin_size, World.size_drew, World.size_setCell] <;> omega))))))))
      · go_simp
        obtain ⟨b7, hbn⟩ : ∃ b, b = y.heap.size := ⟨_, rfl⟩
        have hl0 : w.heap.size < b7 := by rw [hbn]; exact HS.lt _ (by exact List.mem_cons_self)
        have hl1 : w.heap.size + 1 < b7 := by rw [hbn]; exact HS.lt _ (by exact List.mem_cons_of_mem _ (List.mem_cons_self))
        have hl2 : w.heap.size + 2 < b7 := by rw [hbn]; exact HS.lt _ (by exact List.mem_cons_of_mem _ (List.mem_cons_of_mem _ (List.mem_cons_self)))
        have hl3 : b6 < b7 := by rw [hbn]; exact HS.lt _ (by exact List.mem_cons_of_mem _ (List.mem_cons_of_mem _ (List.mem_cons_of_mem _ (List.mem_cons_self))))
        obtain ⟨HS', HT⟩ := HS.new (o := .cells #[.int .u64 0, .int .u64 0, .int .u64 0, .int .u64 0, .int .u64 0] 35)
        refine hK.out _ _ HS' ?_
        clear HS HS'
        intro HS
        try replace HRD := Lib.hid (HRD.out.mono (Below.alloc (Below.refl y.heap.size y) (Nat.le_refl _) (.cells #[.int .u64 0, .int .u64 0, .int .u64 0, .int .u64 0, .int .u64 0] 35)) (Nat.le_refl _))
        rw [← hbn] at HT ⊢
        clear hbn
        obtain ⟨y2, hy2⟩ : ∃ z, z = y.alloc (.cells #[.int .u64 0, .int .u64 0, .int .u64 0, .int .u64 0, .int .u64 0] 35) := ⟨_, rfl⟩
        rw [← hy2] at HS HT ⊢
        try rw [← hy2] at HRD
        clear hy2
        refine one_ #[true, true, true, true, true, true, true, false, true, false, false, false, false, true, false] (i := 5) (N := some 23) rfl rfl (by kernel_rfl) (by decide) (fun K hK => ?_)
        go_simp
        refine (mul_any r2 r2 (wk HV3.out.1) (wk HV3.out.1) _).mono ?_
        rintro e y ⟨⟨q2, hq2l, hq2v, rfl⟩, hb⟩
        refine hK.out _ _ (HS.step hb rfl) ?_
        clear HS
        intro HS
        replace HT := HT.step hb rfl
        clear hb
        have Hq2 := Lib.hid (And.intro hq2l hq2v)
        clear hq2l hq2v
        refine one_ #[true, true, true, true, true, true, true, true, true, false, false, false, false, true, false] (i := 7) (N := some 25) rfl rfl (by kernel_rfl) (by decide) (fun K hK => ?_)
        go_simp
        refine (mul_any q2 v0 (wk Hq2.out.1) CY.out _).mono ?_
        rintro e y ⟨⟨q3, hq3l, hq3v, rfl⟩, hb⟩
        refine hK.out _ _ (HS.step hb rfl) ?_
        clear HS
        intro HS
        replace HT := HT.step hb rfl
        clear hb
        have Hq3 := Lib.hid (And.intro hq3l hq3v)
        clear hq3l hq3v
        refine one_ #[true, true, true, true, true, true, true, true, true, true, false, false, false, true, false] (i := 9) (N := some 27) rfl rfl (by kernel_rfl) (by decide) (fun K hK => ?_)
        go_simp
        refine (mul_any q3 u (wk Hq3.out.1) CX.out _).mono ?_
        rintro e y ⟨⟨q4, hq4l, hq4v, rfl⟩, hb⟩
        refine hK.out _ _ (HS.step hb rfl) ?_
        clear HS
        intro HS
        replace HT := HT.step hb rfl
        clear hb
        have Hq4 := Lib.hid (And.intro hq4l hq4v)
        clear hq4l hq4v
        refine one_ #[true, true, true, true, true, true, true, true, true, true, true, false, false, true, false] (i := 10) (N := some 28) rfl rfl (by kernel_rfl) (by decide) (fun K hK => ?_)
        go_simp
        refine (near_any 253 15 _).mono ?_
        rintro e y ⟨⟨A, c, rfl, hrd⟩, hb⟩
        refine hK.out _ _ (HS.step hb rfl) ?_
        clear HS
        intro HS
        replace HT := HT.step hb rfl
        clear hb
        have HRD := Lib.hid hrd
        clear hrd
        refine one_ #[true, true, true, true, true, true, true, true, true, true, true, true, false, true, false] (i := 11) (N := some 29) rfl rfl (by kernel_rfl) (by decide) (fun K hK => ?_)
        go_simp
        refine (power_near q4 (wk Hq4.out.1) 253 15 (by decide) (by decide) A c _ HRD.out).mono ?_
        rintro e y ⟨⟨q5, hq5l, hq5v, rfl⟩, hb⟩
        refine hK.out _ _ (HS.step hb rfl) ?_
        clear HS
        intro HS
        replace HT := HT.step hb rfl
        clear hb
        have Hq5 := Lib.hid (And.intro hq5l hq5v)
        clear hq5l hq5v
        refine one_ #[true, true, true, true, true, true, true, true, true, true, true, true, true, true, false] (i := 12) (N := some 30) rfl rfl (by kernel_rfl) (by decide) (fun K hK => ?_)
        go_simp
        refine (mul_any q1 q5 (wk Hq1.out.1) (wk Hq5.out.1) _).mono ?_
        rintro e y ⟨⟨q6, hq6l, hq6v, rfl⟩, hb⟩
        refine hK.out _ _ (HS.step hb rfl) ?_
        clear HS
        intro HS
        replace HT := HT.step hb rfl
        clear hb
        have Hq6 := Lib.hid (And.intro hq6l hq6v)
        clear hq6l hq6v
        obtain ⟨x, rfl, hk, hz, m0, m1, m2, m3, m4⟩ := HT.pin5
        clear HS
        refine last_ #[true, true, true, true, true, true, true, true, true, true, true, true, true, true, true] (i := 14) (N := none) rfl rfl (by kernel_rfl) (by decide) (fun K hK => ?_)
        go_simp
        refine hK.out _ _ ?_
        refine done_ (by kernel_rfl) ?_
        refine ⟨rfl, (A, c, q1, q2, q3, q4, q5, q6, b7), by simp only [puts, Act.put, List.setIfInBounds_toArray, List.set_cons_zero, List.set_cons_succ], ⟨Hq6.out.1, mulm (mulm rfl HV3.out.2 Hq1.out.2) (by rw [Hq5.out.2, Nat.pow_mod, mulm (mulm (mulm HV3.out.2 HV3.out.2 Hq2.out.2) rfl Hq3.out.2) rfl Hq4.out.2, ← Nat.pow_mod]) Hq6.out.2⟩, hl0, hl1, hl2, hl3, ?_⟩
        exact keepsC (b := b7) (by (repeat (first | with_reducible exact pin_at (by assumption) | (with_reducible apply pin_at; (first | omega | (simp only [World.size_alloc, pin_size, World.size_drew, World.size_setCell] <;> omega))) | (with_reducible apply alloc_at; first | rfl | (simp only [World.size_alloc, pin_size, World.size_drew, World.size_setCell] <;> omega)) | with_reducible apply past_pin | with_reducible apply past_alloc | with_reducible apply past_drew)); all_goals (first | omega | (simp only [World.size_alloc, pin_size, World.size_drew, World.size_setCell] <;> omega))) (keepsC (b := w.heap.size) (by (repeat (first | with_reducible exact pin_at (by assumption) | (with_reducible apply pin_at; (first | omega | (simp only [World.size_alloc, pin_size, World.size_drew, World.size_setCell] <;> omega))) | (with_reducible apply alloc_at; first | rfl | (simp only [World.size_alloc, pin_size, World.size_drew, World.size_setCell] <;> omega)) | with_reducible apply past_pin | with_reducible apply past_alloc | with_reducible apply past_drew)); all_goals (first | omega | (simp only [World.size_alloc, pin_size, World.size_drew, World.size_setCell] <;> omega))) (keepsC (b := w.heap.size + 1) (by (repeat (first | with_reducible exact pin_at (by assumption) | (with_reducible apply pin_at; (first | omega | (simp only [World.size_alloc, pin_size, World.size_drew, World.size_setCell] <;> omega))) | (with_reducible apply alloc_at; first | rfl | (simp only [World.size_alloc, pin_size, World.size_drew, World.size_setCell] <;> omega)) | with_reducible apply past_pin | with_reducible apply past_alloc | with_reducible apply past_drew)); all_goals (first | omega | (simp only [World.size_alloc, pin_size, World.size_drew, World.size_setCell] <;> omega))) (keepsC (b := w.heap.size + 2) (by (repeat (first | with_reducible exact pin_at (by assumption) | (with_reducible apply pin_at; (first | omega | (simp only [World.size_alloc, pin_size, World.size_drew, World.size_setCell] <;> omega))) | (with_reducible apply alloc_at; first | rfl | (simp only [World.size_alloc, pin_size, World.size_drew, World.size_setCell] <;> omega)) | with_reducible apply past_pin | with_reducible apply past_alloc | with_reducible apply past_drew)); all_goals (first | omega | (simp only [World.size_alloc, pin_size, World.size_drew, World.size_setCell] <;> omega))) (keepsC (b := b6) (by (repeat (first | with_reducible exact pin_at (by assumption) | (with_reducible apply pin_at; (first | omega | (simp only [World.size_alloc, pin_size, World.size_drew, World.size_setCell] <;> omega))) | (with_reducible apply alloc_at; first | rfl | (simp only [World.size_alloc, pin_size, World.size_drew, World.size_setCell] <;> omega)) | with_reducible apply past_pin | with_reducible apply past_alloc | with_reducible apply past_drew)); all_goals (first | omega | (simp only [World.size_alloc, pin_size, World.size_drew, World.size_setCell] <;> omega))) (keeps0 (by (repeat (first | with_reducible exact hk.below | with_reducible refine below_pin ?_ ?_ | with_reducible refine Below.alloc ?_ ?_ _ | with_reducible refine Below.setCell ?_ ?_ _ | with_reducible refine Below.drew ?_)); all_goals (first | omega | (simp only [World.size_alloc, pin_size, World.size_drew, World.size_setCell] <;> omega))))))))
    · go_simp
      obtain ⟨b7, hbn⟩ : ∃ b, b = y.heap.size := ⟨_, rfl⟩
      have hl0 : w.heap.size < b7 := by rw [hbn]; exact HS.lt _ (by exact List.mem_cons_self)
      have hl1 : w.heap.size + 1 < b7 := by rw [hbn]; exact HS.lt _ (by exact List.mem_cons_of_mem _ (List.mem_cons_self))
      have hl2 : w.heap.size + 2 < b7 := by rw [hbn]; exact HS.lt _ (by exact List.mem_cons_of_mem _ (List.mem_cons_of_mem _ (List.mem_cons_self)))
      have hl3 : b6 < b7 := by rw [hbn]; exact HS.lt _ (by exact List.mem_cons_of_mem _ (List.mem_cons_of_mem _ (List.mem_cons_of_mem _ (List.mem_cons_self))))
      obtain ⟨HS', HT⟩ := HS.new (o := .cells #[.int .u64 0, .int .u64 0, .int .u64 0, .int .u64 0, .int .u64 0] 35)
      refine hK.out _ _ HS' ?_
      clear HS HS'
      intro HS
      try replace HRD := Lib.hid (HRD.out.mono (Below.alloc (Below.refl y.heap.size y) (Nat.le_refl _) (.cells #[.int .u64 0, .int .u64 0, .int .u64 0, .int .u64 0, .int .u64 0] 35)) (Nat.le_refl _))
      rw [← hbn] at HT ⊢
      clear hbn
      obtain ⟨y2, hy2⟩ : ∃ z, z = y.alloc (.cells #[.int .u64 0, .int .u64 0, .int .u64 0, .int .u64 0, .int .u64 0] 35) := ⟨_, rfl⟩
      rw [← hy2] at HS HT ⊢
      try rw [← hy2] at HRD
      clear hy2
      refine one_ #[true, true, true, true, true, false, true, false, true, false, false, false, false, true, false] (i := 2) (N := some 20) rfl rfl (by kernel_rfl) (by decide) (fun K hK => ?_)
      go_simp
      refine (mul_any u r2 CX.out (wk HV3.out.1) _).mono ?_
      rintro e y ⟨⟨q1, hq1l, hq1v, rfl⟩, hb⟩
      refine hK.out _ _ (HS.step hb rfl) ?_
      clear HS
      intro HS
      replace HT := HT.step hb rfl
      clear hb
      have Hq1 := Lib.hid (And.intro hq1l hq1v)
      clear hq1l hq1v
      refine one_ #[true, true, true, true, true, true, true, false, true, false, false, false, false, true, false] (i := 5) (N := some 23) rfl rfl (by kernel_rfl) (by decide) (fun K hK => ?_)
      go_simp
      refine (mul_any r2 r2 (wk HV3.out.1) (wk HV3.out.1) _).mono ?_
      rintro e y ⟨⟨q2, hq2l, hq2v, rfl⟩, hb⟩
      refine hK.out _ _ (HS.step hb rfl) ?_
      clear HS
      intro HS
      replace HT := HT.step hb rfl
      clear hb
      have Hq2 := Lib.hid (And.intro hq2l hq2v)
      clear hq2l hq2v
      refine one_ #[true, true, true, true, true, true, true, true, true, false, false, false, false, true, false] (i := 7) (N := some 25) rfl rfl (by kernel_rfl) (by decide) (fun K hK => ?_)
      go_simp
      refine (mul_any q2 v0 (wk Hq2.out.1) CY.out _).mono ?_
      rintro e y ⟨⟨q3, hq3l, hq3v, rfl⟩, hb⟩
      refine hK.out _ _ (HS.step hb rfl) ?_
      clear HS
      intro HS
      replace HT := HT.step hb rfl
      clear hb
      have Hq3 := Lib.hid (And.intro hq3l hq3v)
      clear hq3l hq3v
      refine one_ #[true, true, true, true, true, true, true, true, true, true, false, false, false, true, false] (i := 9) (N := some 27) rfl rfl (by kernel_rfl) (by decide) (fun K hK => ?_)
      go_simp
      refine (mul_any q3 u (wk Hq3.out.1) CX.out _).mono ?_
      rintro e y ⟨⟨q4, hq4l, hq4v, rfl⟩, hb⟩
      refine hK.out _ _ (HS.step hb rfl) ?_
      clear HS
      intro HS
      replace HT := HT.step hb rfl
      clear hb
      have Hq4 := Lib.hid (And.intro hq4l hq4v)
      clear hq4l hq4v
      refine one_ #[true, true, true, true, true, true, true, true, true, true, true, false, false, true, false] (i := 10) (N := some 28) rfl rfl (by kernel_rfl) (by decide) (fun K hK => ?_)
      go_simp
      refine (near_any 253 15 _).mono ?_
      rintro e y ⟨⟨A, c, rfl, hrd⟩, hb⟩
      refine hK.out _ _ (HS.step hb rfl) ?_
      clear HS
      intro HS
      replace HT := HT.step hb rfl
      clear hb
      have HRD := Lib.hid hrd
      clear hrd
      refine one_ #[true, true, true, true, true, true, true, true, true, true, true, true, false, true, false] (i := 11) (N := some 29) rfl rfl (by kernel_rfl) (by decide) (fun K hK => ?_)
      go_simp
      refine (power_near q4 (wk Hq4.out.1) 253 15 (by decide) (by decide) A c _ HRD.out).mono ?_
      rintro e y ⟨⟨q5, hq5l, hq5v, rfl⟩, hb⟩
      refine hK.out _ _ (HS.step hb rfl) ?_
      clear HS
      intro HS
      replace HT := HT.step hb rfl
      clear hb
      have Hq5 := Lib.hid (And.intro hq5l hq5v)
      clear hq5l hq5v
      refine one_ #[true, true, true, true, true, true, true, true, true, true, true, true, true, true, false] (i := 12) (N := some 30) rfl rfl (by kernel_rfl) (by decide) (fun K hK => ?_)
      go_simp
      refine (mul_any q1 q5 (wk Hq1.out.1) (wk Hq5.out.1) _).mono ?_
      rintro e y ⟨⟨q6, hq6l, hq6v, rfl⟩, hb⟩
      refine hK.out _ _ (HS.step hb rfl) ?_
      clear HS
      intro HS
      replace HT := HT.step hb rfl
      clear hb
      have Hq6 := Lib.hid (And.intro hq6l hq6v)
      clear hq6l hq6v
      obtain ⟨x, rfl, hk, hz, m0, m1, m2, m3, m4⟩ := HT.pin5
      clear HS
      refine last_ #[true, true, true, true, true, true, true, true, true, true, true, true, true, true, true] (i := 14) (N := none) rfl rfl (by kernel_rfl) (by decide) (fun K hK => ?_)
      go_simp
      refine hK.out _ _ ?_
      refine done_ (by kernel_rfl) ?_
      refine ⟨rfl, (A, c, q1, q2, q3, q4, q5, q6, b7), by simp only [puts, Act.put, List.setIfInBounds_toArray, List.set_cons_zero, List.set_cons_succ], ⟨Hq6.out.1, mulm (mulm rfl HV3.out.2 Hq1.out.2) (by rw [Hq5.out.2, Nat.pow_mod, mulm (mulm (mulm HV3.out.2 HV3.out.2 Hq2.out.2) rfl Hq3.out.2) rfl Hq4.out.2, ← Nat.pow_mod]) Hq6.out.2⟩, hl0, hl1, hl2, hl3, ?_⟩
      exact keepsC (b := b7) (by (repeat (first | with_reducible exact pin_at (by assumption) | (with_reducible apply pin_at; (first | omega | (simp only [World.size_alloc, pin_size, World.size_drew, World.size_setCell] <;> omega))) | (with_reducible apply alloc_at; first | rfl | (simp only [World.size_alloc, pin_size, World.size_drew, World.size_setCell] <;> omega)) | with_reducible apply past_pin | with_reducible apply past_alloc | with_reducible apply past_drew)); all_goals (first | omega | (simp only [World.size_alloc, pin_size, World.size_drew, World.size_setCell] <;> omega))) (keepsC (b := w.heap.size) (by (repeat (first | with_reducible exact pin_at (by assumption) | (with_reducible apply pin_at; (first | omega | (simp only [World.size_alloc, pin_size, World.size_drew, World.size_setCell] <;> omega))) | (with_reducible apply alloc_at; first | rfl | (simp only [World.size_alloc, pin_size, World.size_drew, World.size_setCell] <;> omega)) | with_reducible apply past_pin | with_reducible apply past_alloc | with_reducible apply past_drew)); all_goals (first | omega | (simp only [World.size_alloc, pin_size, World.size_drew, World.size_setCell] <;> omega))) (keepsC (b := w.heap.size + 1) (by (repeat (first | with_reducible exact pin_at (by assumption) | (with_reducible apply pin_at; (first | omega | (simp only [World.size_alloc, pin_size, World.size_drew, World.size_setCell] <;> omega))) | (with_reducible apply alloc_at; first | rfl | (simp only [World.size_alloc, pin_size, World.size_drew, World.size_setCell] <;> omega)) | with_reducible apply past_pin | with_reducible apply past_alloc | with_reducible apply past_drew)); all_goals (first | omega | (simp only [World.size_alloc, pin_size, World.size_drew, World.size_setCell] <;> omega))) (keepsC (b := w.heap.size + 2) (by (repeat (first | with_reducible exact pin_at (by assumption) | (with_reducible apply pin_at; (first | omega | (simp only [World.size_alloc, pin_size, World.size_drew, World.size_setCell] <;> omega))) | (with_reducible apply alloc_at; first | rfl | (simp only [World.size_alloc, pin_size, World.size_drew, World.size_setCell] <;> omega)) | with_reducible apply past_pin | with_reducible apply past_alloc | with_reducible apply past_drew)); all_goals (first | omega | (simp only [World.size_alloc, pin_size, World.size_drew, World.size_setCell] <;> omega))) (keepsC (b := b6) (by (repeat (first | with_reducible exact pin_at (by assumption) | (with_reducible apply pin_at; (first | omega | (simp only [World.size_alloc, pin_size, World.size_drew, World.size_setCell] <;> omega))) | (with_reducible apply alloc_at; first | rfl | (simp only [World.size_alloc, pin_size, World.size_drew, World.size_setCell] <;> omega)) | with_reducible apply past_pin | with_reducible apply past_alloc | with_reducible apply past_drew)); all_goals (first | omega | (simp only [World.size_alloc, pin_size, World.size_drew, World.size_setCell] <;> omega))) (keeps0 (by (repeat (first | with_reducible exact hk.below | with_reducible refine below_pin ?_ ?_ | with_reducible refine Below.alloc ?_ ?_ _ | with_reducible refine Below.setCell ?_ ?_ _ | with_reducible refine Below.drew ?_)); all_goals (first | omega | (simp only [World.size_alloc, pin_size, World.size_drew, World.size_setCell] <;> omega))))))))
  rintro ⟨A, c, q1, q2, q3, q4, q5, q6, b7⟩ v ⟨hpr, hl30, hl31, hl32, hl33, HK⟩
  simp only [puts, Act.put, List.setIfInBounds_toArray, List.set_cons_zero, List.set_cons_succ]
  obtain ⟨x3, rfl, hk, hz3, l30, l31, l32, l33, l34⟩ := HK.pin5
  have HB3 : Hid (Below w.heap.size w x3) := hk.below
  clear HK hk
  have HR := hpr
  clear hpr
  go_wp2_with fail
  refine region_cut (σ := Fn × Fn × Nat) (fun s => match s with | (s1, s2, b8) => [(31, q6.v), (32, q6.v), (33, s1.v), (34, v0.v), (35, s2.v), (8, .pointer (some ⟨b8, 0, none⟩))]) (fun s v => match s with | (s1, s2, b8) => Hid (s2.lt (2251799813685248 + 19) ∧ s2.val % Num.p = q6.val * q6.val * v0.val % Num.p) ∧ w.heap.size < b8 ∧ w.heap.size + 1 < b8 ∧ w.heap.size + 2 < b8 ∧ b7 < b8 ∧ Keeps w [(b8, .cells #[.int .u64 s2.a, .int .u64 s2.b, .int .u64 s2.c, .int .u64 s2.d, .int .u64 s2.e] 35), (w.heap.size, .cells #[.int .u64 u.a, .int .u64 u.b, .int .u64 u.c, .int .u64 u.d, .int .u64 u.e] 35), (w.heap.size + 1, .cells #[.int .u64 v0.a, .int .u64 v0.b, .int .u64 v0.c, .int .u64 v0.d, .int .u64 v0.e] 35), (w.heap.size + 2, .cells #[.int .u64 0, .int .u64 0, .int .u64 0, .int .u64 0, .int .u64 0] 35), (b7, .cells #[.int .u64 q6.a, .int .u64 q6.b, .int .u64 q6.c, .int .u64 q6.d, .int .u64 q6.e] 35)] v) ?_ ?_
  · refine startV (S := Keeps w _) (ds := [6]) (n := 7) #[false, false, false, false, false, false, false] (by kernel_rfl) rfl rfl (keepsC (b := w.heap.size) (o := .cells #[.int .u64 u.a, .int .u64 u.b, .int .u64 u.c, .int .u64 u.d, .int .u64 u.e] 35) (by (repeat (first | with_reducible exact pin_at (by assumption) | (with_reducible apply pin_at; (first | omega | (simp only [World.size_alloc, pin_size, World.size_drew, World.size_setCell] <;> omega))) | (with_reducible apply alloc_at; first | rfl | (simp only [World.size_alloc, pin_size, World.size_drew, World.size_setCell] <;> omega)) | with_reducible apply past_pin | with_reducible apply past_alloc | with_reducible apply past_drew)); all_goals (first | omega | (simp only [World.size_alloc, pin_size, World.size_drew, World.size_setCell] <;> omega))) (keepsC (b := w.heap.size + 1) (o := .cells #[.int .u64 v0.a, .int .u64 v0.b, .int .u64 v0.c, .int .u64 v0.d, .int .u64 v0.e] 35) (by (repeat (first | with_reducible exact pin_at (by assumption) | (with_reducible apply pin_at; (first | omega | (simp only [World.size_alloc, pin_size, World.size_drew, World.size_setCell] <;> omega))) | (with_reducible apply alloc_at; first | rfl | (simp only [World.size_alloc, pin_size, World.size_drew, World.size_setCell] <;> omega)) | with_reducible apply past_pin | with_reducible apply past_alloc | with_reducible apply past_drew)); all_goals (first | omega | (simp only [World.size_alloc, pin_size, World.size_drew, World.size_setCell] <;> omega))) (keepsC (b := w.heap.size + 2) (o := .cells #[.int .u64 0, .int .u64 0, .int .u64 0, .int .u64 0, .int .u64 0] 35) (by (repeat (first | with_reducible exact pin_at (by assumption) | (with_reducible apply pin_at; (first | omega | (simp only [World.size_alloc, pin_size, World.size_drew, World.size_setCell] <;> omega))) | (with_reducible apply alloc_at; first | rfl | (simp only [World.size_alloc, pin_size, World.size_drew, World.size_setCell] <;> omega)) | with_reducible apply past_pin | with_reducible apply past_alloc | with_reducible apply past_drew)); all_goals (first | omega | (simp only [World.size_alloc, pin_size, World.size_drew, World.size_setCell] <;> omega))) (keepsC (b := b7) (o := .cells #[.int .u64 q6.a, .int .u64 q6.b, .int .u64 q6.c, .int .u64 q6.d, .int .u64 q6.e] 35) (by (repeat (first | with_reducible exact pin_at (by assumption) | (with_reducible apply pin_at; (first | omega | (simp only [World.size_alloc, pin_size, World.size_drew, World.size_setCell] <;> omega))) | (with_reducible apply alloc_at; first | rfl | (simp only [World.size_alloc, pin_size, World.size_drew, World.size_setCell] <;> omega)) | with_reducible apply past_pin | with_reducible apply past_alloc | with_reducible apply past_drew)); all_goals (first | omega | (simp only [World.size_alloc, pin_size, World.size_drew, World.size_setCell] <;> omega))) (keeps0 (by (repeat (first | with_reducible exact HB3.out | with_reducible refine below_pin ?_ ?_ | with_reducible refine Below.alloc ?_ ?_ _ | with_reducible refine Below.setCell ?_ ?_ _ | with_reducible refine Below.drew ?_)); all_goals (first | omega | (simp only [World.size_alloc, pin_size, World.size_drew, World.size_setCell] <;> omega)))))))) (fun y HS => ?_)
    refine take_ #[true, false, false, false, false, false, false] (i := 0) (N := some 31) (v := ?v12) rfl rfl (by kernel_rfl) (fun _ _ _ h => nomatch h.1) (Or.inl ⟨by rfl, ?hy12⟩) HS rfl ?_
    case hy12 => (intro v hv; obtain ⟨x, rfl, _, _, n0, n1, n2, n3⟩ := hv.pin4; go_simp; first | done | with_reducible rfl)
    simp only [Act.put, List.setIfInBounds_toArray, List.set_cons_zero, List.set_cons_succ]
    refine take_ #[true, true, false, false, false, false, false] (i := 1) (N := some 32) (v := ?v13) rfl rfl (by kernel_rfl) (fun _ _ _ h => nomatch h.1) (Or.inl ⟨by rfl, ?hy13⟩) HS rfl ?_
    case hy13 => (intro v hv; obtain ⟨x, rfl, _, _, n0, n1, n2, n3⟩ := hv.pin4; go_simp; first | done | with_reducible rfl)
    simp only [Act.put, List.setIfInBounds_toArray, List.set_cons_zero, List.set_cons_succ]
    refine take_ #[true, true, false, true, false, false, false] (i := 3) (N := some 34) (v := ?v14) rfl rfl (by kernel_rfl) (fun _ _ _ h => nomatch h.1) (Or.inl ⟨by rfl, ?hy14⟩) HS rfl ?_
    case hy14 => (intro v hv; obtain ⟨x, rfl, _, _, n0, n1, n2, n3⟩ := hv.pin4; go_simp; first | done | with_reducible rfl)
    simp only [Act.put, List.setIfInBounds_toArray, List.set_cons_zero, List.set_cons_succ]
    refine two_ #[true, true, true, true, false, false, false] #[true, true, false, true, false, true, false] (i := 2) (j := 5) (Ni := some 33) (Nj := some 8) rfl rfl rfl rfl (by kernel_rfl) (by decide) (by decide) (fun K hK => ?_) (fun K hK => ?_)
    · go_simp
      refine (mul_any q6 q6 (wk HR.out.1) (wk HR.out.1) _).mono ?_
      rintro e y ⟨⟨s1, hs1l, hs1v, rfl⟩, hb⟩
      refine hK.out _ _ (HS.step hb rfl) ?_
      clear HS
      intro HS
      clear hb
      have Hs1 := Lib.hid (And.intro hs1l hs1v)
      clear hs1l hs1v
      refine two_ #[true, true, true, true, true, false, false] #[true, true, true, true, false, true, false] (i := 4) (j := 5) (Ni := some 35) (Nj := some 8) rfl rfl rfl rfl (by kernel_rfl) (by decide) (by decide) (fun K hK => ?_) (fun K hK => ?_)
      · go_simp
        refine (mul_any s1 v0 (wk Hs1.out.1) CY.out _).mono ?_
        rintro e y ⟨⟨s2, hs2l, hs2v, rfl⟩, hb⟩
        refine hK.out _ _ (HS.step hb rfl) ?_
        clear HS
        intro HS
        clear hb
        have Hs2 := Lib.hid (And.intro hs2l hs2v)
        clear hs2l hs2v
        refine one_ #[true, true, true, true, true, true, false] (i := 5) (N := some 8) rfl rfl (by kernel_rfl) (by decide) (fun K hK => ?_)
        go_simp
        obtain ⟨b8, hbn⟩ : ∃ b, b = y.heap.size := ⟨_, rfl⟩
        have hl0 : w.heap.size < b8 := by rw [hbn]; exact HS.lt _ (by exact List.mem_cons_self)
        have hl1 : w.heap.size + 1 < b8 := by rw [hbn]; exact HS.lt _ (by exact List.mem_cons_of_mem _ (List.mem_cons_self))
        have hl2 : w.heap.size + 2 < b8 := by rw [hbn]; exact HS.lt _ (by exact List.mem_cons_of_mem _ (List.mem_cons_of_mem _ (List.mem_cons_self)))
        have hl3 : b7 < b8 := by rw [hbn]; exact HS.lt _ (by exact List.mem_cons_of_mem _ (List.mem_cons_of_mem _ (List.mem_cons_of_mem _ (List.mem_cons_self))))
        obtain ⟨HS', HT⟩ := HS.new (o := .cells #[.int .u64 0, .int .u64 0, .int .u64 0, .int .u64 0, .int .u64 0] 35)
        refine hK.out _ _ HS' ?_
        clear HS HS'
        intro HS
        try replace HRD := Lib.hid (HRD.out.mono (Below.alloc (Below.refl y.heap.size y) (Nat.le_refl _) (.cells #[.int .u64 0, .int .u64 0, .int .u64 0, .int .u64 0, .int .u64 0] 35)) (Nat.le_refl _))
        rw [← hbn] at HT ⊢
        clear hbn
        obtain ⟨y2, hy2⟩ : ∃ z, z = y.alloc (.cells #[.int .u64 0, .int .u64 0, .int .u64 0, .int .u64 0, .int .u64 0] 35) := ⟨_, rfl⟩
        rw [← hy2] at HS HT ⊢
        try rw [← hy2] at HRD
        clear hy2
        obtain ⟨x, rfl, hk, hz, m0, m1, m2, m3, m4⟩ := HT.pin5
        clear HS
        refine last_ #[true, true, true, true, true, true, true] (i := 6) (N := none) rfl rfl (by kernel_rfl) (by decide) (fun K hK => ?_)
        go_simp
        refine hK.out _ _ ?_
        refine done_ (by kernel_rfl) ?_
        refine ⟨rfl, (s1, s2, b8), by simp only [puts, Act.put, List.setIfInBounds_toArray, List.set_cons_zero, List.set_cons_succ], ⟨Hs2.out.1, mulm Hs1.out.2 rfl Hs2.out.2⟩, hl0, hl1, hl2, hl3, ?_⟩
        exact keepsC (b := b8) (by (repeat (first | with_reducible exact pin_at (by assumption) | (with_reducible apply pin_at; (first | omega | (simp only [World.size_alloc, pin_size, World.size_drew, World.size_setCell] <;> omega))) | (with_reducible apply alloc_at; first | rfl | (simp only [World.size_alloc, pin_size, World.size_drew, World.size_setCell] <;> omega)) | with_reducible apply past_pin | with_reducible apply past_alloc | with_reducible apply past_drew)); all_goals (first | omega | (simp only [World.size_alloc, pin_size, World.size_drew, World.size_setCell] <;> omega))) (keepsC (b := w.heap.size) (by (repeat (first | with_reducible exact pin_at (by assumption) | (with_reducible apply pin_at; (first | omega | (simp only [World.size_alloc, pin_size, World.size_drew, World.size_setCell] <;> omega))) | (with_reducible apply alloc_at; first | rfl | (simp only [World.size_alloc, pin_size, World.size_drew, World.size_setCell] <;> omega)) | with_reducible apply past_pin | with_reducible apply past_alloc | with_reducible apply past_drew)); all_goals (first | omega | (simp only [World.size_alloc, pin_size, World.size_drew, World.size_setCell] <;> omega))) (keepsC (b := w.heap.size + 1) (by (repeat (first | with_reducible exact pin_at (by assumption) | (with_reducible apply pin_at; (first | omega | (simp only [World.size_alloc, pin_size, World.size_drew, World.size_setCell] <;> omega))) | (with_reducible apply alloc_at; first | rfl | (simp only [World.size_alloc, pin_size, World.size_drew, World.size_setCell] <;> omega)) | with_reducible apply past_pin | with_reducible apply past_alloc | with_reducible apply past_drew)); all_goals (first | omega | (simp only [World.size_alloc, pin_size, World.size_drew, World.size_setCell] <;> omega))) (keepsC (b := w.heap.size + 2) (by (repeat (first | with_reducible exact pin_at (by assumption) | (with_reducible apply pin_at; (first | omega | (simp only [World.size_alloc, pin_size, World.size_drew, World.size_setCell] <;> omega))) | (with_reducible apply alloc_at; first | rfl | (simp only [World.size_alloc, pin_size, World.size_drew, World.size_setCell] <;> omega)) | with_reducible apply past_pin | with_reducible apply past_alloc | with_reducible apply past_drew)); all_goals (first | omega | (simp only [World.size_alloc, pin_size, World.size_drew, World.size_setCell] <;> omega))) (keepsC (b := b7) (by (repeat (first | with_reducible exact pin_at (by assumption) | (with_reducible apply pin_at; (first | omega | (simp only [World.size_alloc, pin_size, World.size_drew, World.size_setCell] <;> omega))) | (with_reducible apply alloc_at; first | rfl | (simp only [World.size_alloc, pin_size, World.size_drew, World.size_setCell] <;> omega)) | with_reducible apply past_pin | with_reducible apply past_alloc | with_reducible apply past_drew)); all_goals (first | omega | (simp only [World.size_alloc, pin_size, World.size_drew, World.size_setCell] <;> omega))) (keeps0 (by (repeat (first | with_reducible exact hk.below | with_reducible refine below_pin ?_ ?_ | with_reducible refine Below.alloc ?_ ?_ _ | with_reducible refine Below.setCell ?_ ?_ _ | with_reducible refine Below.drew ?_)); all_goals (first | omega | (simp only [World.size_alloc, pin_size, World.size_drew, World.size_setCell] <;> omega))))))))
      · go_simp
        obtain ⟨b8, hbn⟩ : ∃ b, b = y.heap.size := ⟨_, rfl⟩
        have hl0 : w.heap.size < b8 := by rw [hbn]; exact HS.lt _ (by exact List.mem_cons_self)
        have hl1 : w.heap.size + 1 < b8 := by rw [hbn]; exact HS.lt _ (by exact List.mem_cons_of_mem _ (List.mem_cons_self))
        have hl2 : w.heap.size + 2 < b8 := by rw [hbn]; exact HS.lt _ (by exact List.mem_cons_of_mem _ (List.mem_cons_of_mem _ (List.mem_cons_self)))
        have hl3 : b7 < b8 := by rw [hbn]; exact HS.lt _ (by exact List.mem_cons_of_mem _ (List.mem_cons_of_mem _ (List.mem_cons_of_mem _ (List.mem_cons_self))))
        obtain ⟨HS', HT⟩ := HS.new (o := .cells #[.int .u64 0, .int .u64 0, .int .u64 0, .int .u64 0, .int .u64 0] 35)
        refine hK.out _ _ HS' ?_
        clear HS HS'
        intro HS
        try replace HRD := Lib.hid (HRD.out.mono (Below.alloc (Below.refl y.heap.size y) (Nat.le_refl _) (.cells #[.int .u64 0, .int .u64 0, .int .u64 0, .int .u64 0, .int .u64 0] 35)) (Nat.le_refl _))
        rw [← hbn] at HT ⊢
        clear hbn
        obtain ⟨y2, hy2⟩ : ∃ z, z = y.alloc (.cells #[.int .u64 0, .int .u64 0, .int .u64 0, .int .u64 0, .int .u64 0] 35) := ⟨_, rfl⟩
        rw [← hy2] at HS HT ⊢
        try rw [← hy2] at HRD
        clear hy2
        refine one_ #[true, true, true, true, true, true, false] (i := 4) (N := some 35) rfl rfl (by kernel_rfl) (by decide) (fun K hK => ?_)
        go_simp
        refine (mul_any s1 v0 (wk Hs1.out.1) CY.out _).mono ?_
        rintro e y ⟨⟨s2, hs2l, hs2v, rfl⟩, hb⟩
        refine hK.out _ _ (HS.step hb rfl) ?_
        clear HS
        intro HS
        replace HT := HT.step hb rfl
        clear hb
        have Hs2 := Lib.hid (And.intro hs2l hs2v)
        clear hs2l hs2v
        obtain ⟨x, rfl, hk, hz, m0, m1, m2, m3, m4⟩ := HT.pin5
        clear HS
        refine last_ #[true, true, true, true, true, true, true] (i := 6) (N := none) rfl rfl (by kernel_rfl) (by decide) (fun K hK => ?_)
        go_simp
        refine hK.out _ _ ?_
        refine done_ (by kernel_rfl) ?_
        refine ⟨rfl, (s1, s2, b8), by simp only [puts, Act.put, List.setIfInBounds_toArray, List.set_cons_zero, List.set_cons_succ], ⟨Hs2.out.1, mulm Hs1.out.2 rfl Hs2.out.2⟩, hl0, hl1, hl2, hl3, ?_⟩
        exact keepsC (b := b8) (by (repeat (first | with_reducible exact pin_at (by assumption) | (with_reducible apply pin_at; (first | omega | (simp only [World.size_alloc, pin_size, World.size_drew, World.size_setCell] <;> omega))) | (with_reducible apply alloc_at; first | rfl | (simp only [World.size_alloc, pin_size, World.size_drew, World.size_setCell] <;> omega)) | with_reducible apply past_pin | with_reducible apply past_alloc | with_reducible apply past_drew)); all_goals (first | omega | (simp only [World.size_alloc, pin_size, World.size_drew, World.size_setCell] <;> omega))) (keepsC (b := w.heap.size) (by (repeat (first | with_reducible exact pin_at (by assumption) | (with_reducible apply pin_at; (first | omega | (simp only [World.size_alloc, pin_size, World.size_drew, World.size_setCell] <;> omega))) | (with_reducible apply alloc_at; first | rfl | (simp only [World.size_alloc, pin_size, World.size_drew, World.size_setCell] <;> omega)) | with_reducible apply past_pin | with_reducible apply past_alloc | with_reducible apply past_drew)); all_goals (first | omega | (simp only [World.size_alloc, pin_size, World.size_drew, World.size_setCell] <;> omega))) (keepsC (b := w.heap.size + 1) (by (repeat (first | with_reducible exact pin_at (by assumption) | (with_reducible apply pin_at; (first | omega | (simp only [World.size_alloc, pin_size, World.size_drew, World.size_setCell] <;> omega))) | (with_reducible apply alloc_at; first | rfl | (simp only [World.size_alloc, pin_size, World.size_drew, World.size_setCell] <;> omega)) | with_reducible apply past_pin | with_reducible apply past_alloc | with_reducible apply past_drew)); all_goals (first | omega | (simp only [World.size_alloc, pin_size, World.size_drew, World.size_setCell] <;> omega))) (keepsC (b := w.heap.size + 2) (by (repeat (first | with_reducible exact pin_at (by assumption) | (with_reducible apply pin_at; (first | omega | (simp only [World.size_alloc, pin_size, World.size_drew, World.size_setCell] <;> omega))) | (with_reducible apply alloc_at; first | rfl | (simp only [World.size_alloc, pin_size, World.size_drew, World.size_setCell] <;> omega)) | with_reducible apply past_pin | with_reducible apply past_alloc | with_reducible apply past_drew)); all_goals (first | omega | (simp only [World.size_alloc, pin_size, World.size_drew, World.size_setCell] <;> omega))) (keepsC (b := b7) (by (repeat (first | with_reducible exact pin_at (by assumption) | (with_reducible apply pin_at; (first | omega | (simp only [World.size_alloc, pin_size, World.size_drew, World.size_setCell] <;> omega))) | (with_reducible apply alloc_at; first | rfl | (simp only [World.size_alloc, pin_size, World.size_drew, World.size_setCell] <;> omega)) | with_reducible apply past_pin | with_reducible apply past_alloc | with_reducible apply past_drew)); all_goals (first | omega | (simp only [World.size_alloc, pin_size, World.size_drew, World.size_setCell] <;> omega))) (keeps0 (by (repeat (first | with_reducible exact hk.below | with_reducible refine below_pin ?_ ?_ | with_reducible refine Below.alloc ?_ ?_ _ | with_reducible refine Below.setCell ?_ ?_ _ | with_reducible refine Below.drew ?_)); all_goals (first | omega | (simp only [World.size_alloc, pin_size, World.size_drew, World.size_setCell] <;> omega))))))))
    · go_simp
      obtain ⟨b8, hbn⟩ : ∃ b, b = y.heap.size := ⟨_, rfl⟩
      have hl0 : w.heap.size < b8 := by rw [hbn]; exact HS.lt _ (by exact List.mem_cons_self)
      have hl1 : w.heap.size + 1 < b8 := by rw [hbn]; exact HS.lt _ (by exact List.mem_cons_of_mem _ (List.mem_cons_self))
      have hl2 : w.heap.size + 2 < b8 := by rw [hbn]; exact HS.lt _ (by exact List.mem_cons_of_mem _ (List.mem_cons_of_mem _ (List.mem_cons_self)))
      have hl3 : b7 < b8 := by rw [hbn]; exact HS.lt _ (by exact List.mem_cons_of_mem _ (List.mem_cons_of_mem _ (List.mem_cons_of_mem _ (List.mem_cons_self))))
      obtain ⟨HS', HT⟩ := HS.new (o := .cells #[.int .u64 0, .int .u64 0, .int .u64 0, .int .u64 0, .int .u64 0] 35)
      refine hK.out _ _ HS' ?_
      clear HS HS'
      intro HS
      try replace HRD := Lib.hid (HRD.out.mono (Below.alloc (Below.refl y.heap.size y) (Nat.le_refl _) (.cells #[.int .u64 0, .int .u64 0, .int .u64 0, .int .u64 0, .int .u64 0] 35)) (Nat.le_refl _))
      rw [← hbn] at HT ⊢
      clear hbn
      obtain ⟨y2, hy2⟩ : ∃ z, z = y.alloc (.cells #[.int .u64 0, .int .u64 0, .int .u64 0, .int .u64 0, .int .u64 0] 35) := ⟨_, rfl⟩
      rw [← hy2] at HS HT ⊢
      try rw [← hy2] at HRD
      clear hy2
      refine one_ #[true, true, true, true, false, true, false] (i := 2) (N := some 33) rfl rfl (by kernel_rfl) (by decide) (fun K hK => ?_)
      go_simp
      refine (mul_any q6 q6 (wk HR.out.1) (wk HR.out.1) _).mono ?_
      rintro e y ⟨⟨s1, hs1l, hs1v, rfl⟩, hb⟩
      refine hK.out _ _ (HS.step hb rfl) ?_
      clear HS
      intro HS
      replace HT := HT.step hb rfl
      clear hb
      have Hs1 := Lib.hid (And.intro hs1l hs1v)
      clear hs1l hs1v
      refine one_ #[true, true, true, true, true, true, false] (i := 4) (N := some 35) rfl rfl (by kernel_rfl) (by decide) (fun K hK => ?_)
      go_simp
      refine (mul_any s1 v0 (wk Hs1.out.1) CY.out _).mono ?_
      rintro e y ⟨⟨s2, hs2l, hs2v, rfl⟩, hb⟩
      refine hK.out _ _ (HS.step hb rfl) ?_
      clear HS
      intro HS
      replace HT := HT.step hb rfl
      clear hb
      have Hs2 := Lib.hid (And.intro hs2l hs2v)
      clear hs2l hs2v
      obtain ⟨x, rfl, hk, hz, m0, m1, m2, m3, m4⟩ := HT.pin5
      clear HS
      refine last_ #[true, true, true, true, true, true, true] (i := 6) (N := none) rfl rfl (by kernel_rfl) (by decide) (fun K hK => ?_)
      go_simp
      refine hK.out _ _ ?_
      refine done_ (by kernel_rfl) ?_
      refine ⟨rfl, (s1, s2, b8), by simp only [puts, Act.put, List.setIfInBounds_toArray, List.set_cons_zero, List.set_cons_succ], ⟨Hs2.out.1, mulm Hs1.out.2 rfl Hs2.out.2⟩, hl0, hl1, hl2, hl3, ?_⟩
      exact keepsC (b := b8) (by (repeat (first | with_reducible exact pin_at (by assumption) | (with_reducible apply pin_at; (first | omega | (simp only [World.size_alloc, pin_size, World.size_drew, World.size_setCell] <;> omega))) | (with_reducible apply alloc_at; first | rfl | (simp only [World.size_alloc, pin_size, World.size_drew, World.size_setCell] <;> omega)) | with_reducible apply past_pin | with_reducible apply past_alloc | with_reducible apply past_drew)); all_goals (first | omega | (simp only [World.size_alloc, pin_size, World.size_drew, World.size_setCell] <;> omega))) (keepsC (b := w.heap.size) (by (repeat (first | with_reducible exact pin_at (by assumption) | (with_reducible apply pin_at; (first | omega | (simp only [World.size_alloc, pin_size, World.size_drew, World.size_setCell] <;> omega))) | (with_reducible apply alloc_at; first | rfl | (simp only [World.size_alloc, pin_size, World.size_drew, World.size_setCell] <;> omega)) | with_reducible apply past_pin | with_reducible apply past_alloc | with_reducible apply past_drew)); all_goals (first | omega | (simp only [World.size_alloc, pin_size, World.size_drew, World.size_setCell] <;> omega))) (keepsC (b := w.heap.size + 1) (by (repeat (first | with_reducible exact pin_at (by assumption) | (with_reducible apply pin_at; (first | omega | (simp only [World.size_alloc, pin_size, World.size_drew, World.size_setCell] <;> omega))) | (with_reducible apply alloc_at; first | rfl | (simp only [World.size_alloc, pin_size, World.size_drew, World.size_setCell] <;> omega)) | with_reducible apply past_pin | with_reducible apply past_alloc | with_reducible apply past_drew)); all_goals (first | omega | (simp only [World.size_alloc, pin_size, World.size_drew, World.size_setCell] <;> omega))) (keepsC (b := w.heap.size + 2) (by (repeat (first | with_reducible exact pin_at (by assumption) | (with_reducible apply pin_at; (first | omega | (simp only [World.size_alloc, pin_size, World.size_drew, World.size_setCell] <;> omega))) | (with_reducible apply alloc_at; first | rfl | (simp only [World.size_alloc, pin_size, World.size_drew, World.size_setCell] <;> omega)) | with_reducible apply past_pin | with_reducible apply past_alloc | with_reducible apply past_drew)); all_goals (first | omega | (simp only [World.size_alloc, pin_size, World.size_drew, World.size_setCell] <;> omega))) (keepsC (b := b7) (by (repeat (first | with_reducible exact pin_at (by assumption) | (with_reducible apply pin_at; (first | omega | (simp only [World.size_alloc, pin_size, World.size_drew, World.size_setCell] <;> omega))) | (with_reducible apply alloc_at; first | rfl | (simp only [World.size_alloc, pin_size, World.size_drew, World.size_setCell] <;> omega)) | with_reducible apply past_pin | with_reducible apply past_alloc | with_reducible apply past_drew)); all_goals (first | omega | (simp only [World.size_alloc, pin_size, World.size_drew, World.size_setCell] <;> omega))) (keeps0 (by (repeat (first | with_reducible exact hk.below | with_reducible refine below_pin ?_ ?_ | with_reducible refine Below.alloc ?_ ?_ _ | with_reducible refine Below.setCell ?_ ?_ _ | with_reducible refine Below.drew ?_)); all_goals (first | omega | (simp only [World.size_alloc, pin_size, World.size_drew, World.size_setCell] <;> omega))))))))
  rintro ⟨s1, s2, b8⟩ v ⟨hpr, hl40, hl41, hl42, hl43, HK⟩
  simp only [puts, Act.put, List.setIfInBounds_toArray, List.set_cons_zero, List.set_cons_succ]
  obtain ⟨x4, rfl, hk, hz4, l40, l41, l42, l43, l44⟩ := HK.pin5
  have HB4 : Hid (Below w.heap.size w x4) := hk.below
  clear HK hk
  have HS2 := hpr
  clear hpr
  go_wp2_with fail
  by_cases hc : s2.val % Num.p = (small (subM 0 u.val)).val % Num.p
  · have hd1 : decide (s2.val % Num.p = (small (subM 0 u.val)).val % Num.p) = true := decide_eq_true hc
    have HC1 := Lib.hid hc
    clear hc
    refine start_ (S := Keeps w _) (ds := []) (n := 4) #[false, false, false, false] (by kernel_rfl) rfl rfl (keepsC (b := w.heap.size) (by (repeat (first | with_reducible exact pin_at (by assumption) | (with_reducible apply pin_at; (first | omega | (simp only [World.size_alloc, pin_size, World.size_drew, World.size_setCell] <;> omega))) | (with_reducible apply alloc_at; first | rfl | (simp only [World.size_alloc, pin_size, World.size_drew, World.size_setCell] <;> omega)) | with_reducible apply past_pin | with_reducible apply past_alloc | with_reducible apply past_drew)); all_goals (first | omega | (simp only [World.size_alloc, pin_size, World.size_drew, World.size_setCell] <;> omega))) (keepsC (b := w.heap.size + 1) (by (repeat (first | with_reducible exact pin_at (by assumption) | (with_reducible apply pin_at; (first | omega | (simp only [World.size_alloc, pin_size, World.size_drew, World.size_setCell] <;> omega))) | (with_reducible apply alloc_at; first | rfl | (simp only [World.size_alloc, pin_size, World.size_drew, World.size_setCell] <;> omega)) | with_reducible apply past_pin | with_reducible apply past_alloc | with_reducible apply past_drew)); all_goals (first | omega | (simp only [World.size_alloc, pin_size, World.size_drew, World.size_setCell] <;> omega))) (keepsC (b := w.heap.size + 2) (by (repeat (first | with_reducible exact pin_at (by assumption) | (with_reducible apply pin_at; (first | omega | (simp only [World.size_alloc, pin_size, World.size_drew, World.size_setCell] <;> omega))) | (with_reducible apply alloc_at; first | rfl | (simp only [World.size_alloc, pin_size, World.size_drew, World.size_setCell] <;> omega)) | with_reducible apply past_pin | with_reducible apply past_alloc | with_reducible apply past_drew)); all_goals (first | omega | (simp only [World.size_alloc, pin_size, World.size_drew, World.size_setCell] <;> omega))) (keepsC (b := b7) (by (repeat (first | with_reducible exact pin_at (by assumption) | (with_reducible apply pin_at; (first | omega | (simp only [World.size_alloc, pin_size, World.size_drew, World.size_setCell] <;> omega))) | (with_reducible apply alloc_at; first | rfl | (simp only [World.size_alloc, pin_size, World.size_drew, World.size_setCell] <;> omega)) | with_reducible apply past_pin | with_reducible apply past_alloc | with_reducible apply past_drew)); all_goals (first | omega | (simp only [World.size_alloc, pin_size, World.size_drew, World.size_setCell] <;> omega))) (keepsC (b := b8) (by (repeat (first | with_reducible exact pin_at (by assumption) | (with_reducible apply pin_at; (first | omega | (simp only [World.size_alloc, pin_size, World.size_drew, World.size_setCell] <;> omega))) | (with_reducible apply alloc_at; first | rfl | (simp only [World.size_alloc, pin_size, World.size_drew, World.size_setCell] <;> omega)) | with_reducible apply past_pin | with_reducible apply past_alloc | with_reducible apply past_drew)); all_goals (first | omega | (simp only [World.size_alloc, pin_size, World.size_drew, World.size_setCell] <;> omega))) (keeps0 (by (repeat (first | with_reducible exact HB4.out | with_reducible refine below_pin ?_ ?_ | with_reducible refine Below.alloc ?_ ?_ _ | with_reducible refine Below.setCell ?_ ?_ _ | with_reducible refine Below.drew ?_)); all_goals (first | omega | (simp only [World.size_alloc, pin_size, World.size_drew, World.size_setCell] <;> omega))))))))) (fun HS => ?_)
    refine take_ #[true, false, false, false] (i := 0) (N := some 36) (v := ?v15) rfl rfl (by kernel_rfl) (fun _ _ _ h => h) (Or.inl ⟨by rfl, ?hy15⟩) HS rfl ?_
    case hy15 => (intro v hv; obtain ⟨x, rfl, _, _, n0, n1, n2, n3, n4⟩ := hv.pin5; go_simp; first | done | with_reducible rfl)
    simp only [Act.put, List.setIfInBounds_toArray, List.set_cons_zero, List.set_cons_succ]
    refine take_ #[true, true, false, false] (i := 1) (N := some 37) (v := ?v16) rfl rfl (by kernel_rfl) (fun _ _ _ h => h) (Or.inl ⟨by rfl, ?hy16⟩) HS rfl ?_
    case hy16 => (intro v hv; obtain ⟨x, rfl, _, _, n0, n1, n2, n3, n4⟩ := hv.pin5; go_simp; first | done | with_reducible rfl)
    simp only [Act.put, List.setIfInBounds_toArray, List.set_cons_zero, List.set_cons_succ]
    refine one_ #[true, true, true, false] (i := 2) (N := some 38) rfl rfl (by kernel_rfl) (by decide) (fun K hK => ?_)
    go_simp
    refine (Neg_any u (u64_of CX.out) _).mono ?_
    rintro e y ⟨rfl, hb⟩
    refine hK.out _ _ (HS.step hb rfl) ?_
    clear HS hb
    intro HS
    refine one_ #[true, true, true, true] (i := 3) (N := some 39) rfl rfl (by kernel_rfl) (by decide) (fun K hK => ?_)
    go_simp
    refine (Same_any s2 (small (subM 0 u.val)) (u64_of (wk HS2.out.1)) (small_u _) _).mono ?_
    rintro e y ⟨rfl, hb⟩
    refine hK.out _ _ (HS.step hb rfl) ?_
    clear HS hb
    intro HS
    obtain ⟨x5, rfl, hk5, hz5, l50, l51, l52, l53, l54⟩ := HS.pin5
    have HB5 : Hid (Below w.heap.size w x5) := hk5.below
    clear HS hk5
    refine done_ (by kernel_rfl) ?_
    go_wp2_with fail
    refine start_ (S := Keeps w _) (ds := [5]) (n := 6) #[false, false, false, false, false, false] (by kernel_rfl) rfl rfl (keepsC (b := w.heap.size) (by (repeat (first | with_reducible exact pin_at (by assumption) | (with_reducible apply pin_at; (first | omega | (simp only [World.size_alloc, pin_size, World.size_drew, World.size_setCell] <;> omega))) | (with_reducible apply alloc_at; first | rfl | (simp only [World.size_alloc, pin_size, World.size_drew, World.size_setCell] <;> omega)) | with_reducible apply past_pin | with_reducible apply past_alloc | with_reducible apply past_drew)); all_goals (first | omega | (simp only [World.size_alloc, pin_size, World.size_drew, World.size_setCell] <;> omega))) (keepsC (b := w.heap.size + 1) (by (repeat (first | with_reducible exact pin_at (by assumption) | (with_reducible apply pin_at; (first | omega | (simp only [World.size_alloc, pin_size, World.size_drew, World.size_setCell] <;> omega))) | (with_reducible apply alloc_at; first | rfl | (simp only [World.size_alloc, pin_size, World.size_drew, World.size_setCell] <;> omega)) | with_reducible apply past_pin | with_reducible apply past_alloc | with_reducible apply past_drew)); all_goals (first | omega | (simp only [World.size_alloc, pin_size, World.size_drew, World.size_setCell] <;> omega))) (keepsC (b := w.heap.size + 2) (by (repeat (first | with_reducible exact pin_at (by assumption) | (with_reducible apply pin_at; (first | omega | (simp only [World.size_alloc, pin_size, World.size_drew, World.size_setCell] <;> omega))) | (with_reducible apply alloc_at; first | rfl | (simp only [World.size_alloc, pin_size, World.size_drew, World.size_setCell] <;> omega)) | with_reducible apply past_pin | with_reducible apply past_alloc | with_reducible apply past_drew)); all_goals (first | omega | (simp only [World.size_alloc, pin_size, World.size_drew, World.size_setCell] <;> omega))) (keepsC (b := b7) (by (repeat (first | with_reducible exact pin_at (by assumption) | (with_reducible apply pin_at; (first | omega | (simp only [World.size_alloc, pin_size, World.size_drew, World.size_setCell] <;> omega))) | (with_reducible apply alloc_at; first | rfl | (simp only [World.size_alloc, pin_size, World.size_drew, World.size_setCell] <;> omega)) | with_reducible apply past_pin | with_reducible apply past_alloc | with_reducible apply past_drew)); all_goals (first | omega | (simp only [World.size_alloc, pin_size, World.size_drew, World.size_setCell] <;> omega))) (keepsC (b := b8) (by (repeat (first | with_reducible exact pin_at (by assumption) | (with_reducible apply pin_at; (first | omega | (simp only [World.size_alloc, pin_size, World.size_drew, World.size_setCell] <;> omega))) | (with_reducible apply alloc_at; first | rfl | (simp only [World.size_alloc, pin_size, World.size_drew, World.size_setCell] <;> omega)) | with_reducible apply past_pin | with_reducible apply past_alloc | with_reducible apply past_drew)); all_goals (first | omega | (simp only [World.size_alloc, pin_size, World.size_drew, World.size_setCell] <;> omega))) (keeps0 (by (repeat (first | with_reducible exact HB5.out | with_reducible refine below_pin ?_ ?_ | with_reducible refine Below.alloc ?_ ?_ _ | with_reducible refine Below.setCell ?_ ?_ _ | with_reducible refine Below.drew ?_)); all_goals (first | omega | (simp only [World.size_alloc, pin_size, World.size_drew, World.size_setCell] <;> omega))))))))) (fun HS => ?_)
    refine take_ #[true, false, false, false, false, false] (i := 0) (N := some 40) (v := ?v17) rfl rfl (by kernel_rfl) (fun _ _ _ h => h) (Or.inl ⟨by rfl, ?hy17⟩) HS rfl ?_
    case hy17 => (intro v hv; obtain ⟨x, rfl, _, _, n0, n1, n2, n3, n4⟩ := hv.pin5; go_simp; first | done | with_reducible rfl)
    simp only [Act.put, List.setIfInBounds_toArray, List.set_cons_zero, List.set_cons_succ]
    refine one_ #[true, true, false, false, false, false] (i := 1) (N := some 41) rfl rfl (by kernel_rfl) (by decide) (fun K hK => ?_)
    go_simp
    refine (Small_any 2 (by decide) _).mono ?_
    rintro e y ⟨rfl, hb⟩
    refine hK.out _ _ (HS.step hb rfl) ?_
    clear HS hb
    intro HS
    refine one_ #[true, true, true, false, false, false] (i := 2) (N := some 42) rfl rfl (by kernel_rfl) (by decide) (fun K hK => ?_)
    go_simp
    refine (near_any 251 31 _).mono ?_
    rintro e y ⟨⟨A2, c2, rfl, hrd2⟩, hb⟩
    refine hK.out _ _ (HS.step hb rfl) ?_
    clear HS hb
    intro HS
    refine one_ #[true, true, true, true, false, false] (i := 3) (N := some 43) rfl rfl (by kernel_rfl) (by decide) (fun K hK => ?_)
    go_simp
    refine (power_near (small 2) (small_wk 2) 251 31 (by decide) (by decide) A2 c2 _ hrd2).mono ?_
    rintro e y ⟨⟨t1, ht1l, ht1v, rfl⟩, hb⟩
    refine hK.out _ _ (HS.step hb rfl) ?_
    clear HS hb
    intro HS
    have Ht1 := Lib.hid (And.intro ht1l ht1v)
    clear ht1l ht1v
    refine one_ #[true, true, true, true, true, false] (i := 4) (N := some 44) rfl rfl (by kernel_rfl) (by decide) (fun K hK => ?_)
    go_simp
    refine (mul_any q6 t1 (wk HR.out.1) (wk Ht1.out.1) _).mono ?_
    rintro e y ⟨⟨r3, hr3l, hr3v, rfl⟩, hb⟩
    refine hK.out _ _ (HS.step hb rfl) ?_
    clear HS hb
    intro HS
    have Hr3 := Lib.hid (And.intro hr3l hr3v)
    clear hr3l hr3v
    obtain ⟨x6, rfl, hk6, hz6, l60, l61, l62, l63, l64⟩ := HS.pin5
    have HB6 : Hid (Below w.heap.size w x6) := hk6.below
    clear HS hk6
    refine last_ #[true, true, true, true, true, true] (i := 5) (N := none) rfl rfl (by kernel_rfl) (by decide) (fun K hK => ?_)
    go_simp
    refine hK.out _ _ ?_
    refine done_ (by kernel_rfl) ?_
    go_wp2_with fail
    refine start_ (S := Keeps w _) (ds := [5]) (n := 6) #[false, false, false, false, false, false] (by kernel_rfl) rfl rfl (keepsC (b := w.heap.size) (by (repeat (first | with_reducible exact pin_at (by assumption) | (with_reducible apply pin_at; (first | omega | (simp only [World.size_alloc, pin_size, World.size_drew, World.size_setCell] <;> omega))) | (with_reducible apply alloc_at; first | rfl | (simp only [World.size_alloc, pin_size, World.size_drew, World.size_setCell] <;> omega)) | with_reducible apply past_pin | with_reducible apply past_alloc | with_reducible apply past_drew)); all_goals (first | omega | (simp only [World.size_alloc, pin_size, World.size_drew, World.size_setCell] <;> omega))) (keepsC (b := w.heap.size + 1) (by (repeat (first | with_reducible exact pin_at (by assumption) | (with_reducible apply pin_at; (first | omega | (simp only [World.size_alloc, pin_size, World.size_drew, World.size_setCell] <;> omega))) | (with_reducible apply alloc_at; first | rfl | (simp only [World.size_alloc, pin_size, World.size_drew, World.size_setCell] <;> omega)) | with_reducible apply past_pin | with_reducible apply past_alloc | with_reducible apply past_drew)); all_goals (first | omega | (simp only [World.size_alloc, pin_size, World.size_drew, World.size_setCell] <;> omega))) (keepsC (b := w.heap.size + 2) (by (repeat (first | with_reducible exact pin_at (by assumption) | (with_reducible apply pin_at; (first | omega | (simp only [World.size_alloc, pin_size, World.size_drew, World.size_setCell] <;> omega))) | (with_reducible apply alloc_at; first | rfl | (simp only [World.size_alloc, pin_size, World.size_drew, World.size_setCell] <;> omega)) | with_reducible apply past_pin | with_reducible apply past_alloc | with_reducible apply past_drew)); all_goals (first | omega | (simp only [World.size_alloc, pin_size, World.size_drew, World.size_setCell] <;> omega))) (keepsC (b := b7) (by (repeat (first | with_reducible exact pin_at (by assumption) | (with_reducible apply pin_at; (first | omega | (simp only [World.size_alloc, pin_size, World.size_drew, World.size_setCell] <;> omega))) | (with_reducible apply alloc_at; first | rfl | (simp only [World.size_alloc, pin_size, World.size_drew, World.size_setCell] <;> omega)) | with_reducible apply past_pin | with_reducible apply past_alloc | with_reducible apply past_drew)); all_goals (first | omega | (simp only [World.size_alloc, pin_size, World.size_drew, World.size_setCell] <;> omega))) (keepsC (b := b8) (by (repeat (first | with_reducible exact pin_at (by assumption) | (with_reducible apply pin_at; (first | omega | (simp only [World.size_alloc, pin_size, World.size_drew, World.size_setCell] <;> omega))) | (with_reducible apply alloc_at; first | rfl | (simp only [World.size_alloc, pin_size, World.size_drew, World.size_setCell] <;> omega)) | with_reducible apply past_pin | with_reducible apply past_alloc | with_reducible apply past_drew)); all_goals (first | omega | (simp only [World.size_alloc, pin_size, World.size_drew, World.size_setCell] <;> omega))) (keeps0 (by (repeat (first | with_reducible exact HB6.out | with_reducible refine below_pin ?_ ?_ | with_reducible refine Below.alloc ?_ ?_ _ | with_reducible refine Below.setCell ?_ ?_ _ | with_reducible refine Below.drew ?_)); all_goals (first | omega | (simp only [World.size_alloc, pin_size, World.size_drew, World.size_setCell] <;> omega))))))))) (fun HS => ?_)
    refine take_ #[true, false, false, false, false, false] (i := 0) (N := some 45) (v := ?v18) rfl rfl (by kernel_rfl) (fun _ _ _ h => h) (Or.inl ⟨by rfl, ?hy18⟩) HS rfl ?_
    case hy18 => (intro v hv; obtain ⟨x, rfl, _, _, n0, n1, n2, n3, n4⟩ := hv.pin5; go_simp; first | done | with_reducible rfl)
    simp only [Act.put, List.setIfInBounds_toArray, List.set_cons_zero, List.set_cons_succ]
    refine take_ #[true, true, false, false, false, false] (i := 1) (N := some 46) (v := ?v19) rfl rfl (by kernel_rfl) (fun _ _ _ h => h) (Or.inl ⟨by rfl, ?hy19⟩) HS rfl ?_
    case hy19 => (intro v hv; obtain ⟨x, rfl, _, _, n0, n1, n2, n3, n4⟩ := hv.pin5; go_simp; first | done | with_reducible rfl)
    simp only [Act.put, List.setIfInBounds_toArray, List.set_cons_zero, List.set_cons_succ]
    refine take_ #[true, true, false, true, false, false] (i := 3) (N := some 48) (v := ?v20) rfl rfl (by kernel_rfl) (fun _ _ _ h => h) (Or.inl ⟨by rfl, ?hy20⟩) HS rfl ?_
    case hy20 => (intro v hv; obtain ⟨x, rfl, _, _, n0, n1, n2, n3, n4⟩ := hv.pin5; go_simp; first | done | with_reducible rfl)
    simp only [Act.put, List.setIfInBounds_toArray, List.set_cons_zero, List.set_cons_succ]
    refine one_ #[true, true, true, true, false, false] (i := 2) (N := some 47) rfl rfl (by kernel_rfl) (by decide) (fun K hK => ?_)
    go_simp
    refine (mul_any r3 r3 (wk Hr3.out.1) (wk Hr3.out.1) _).mono ?_
    rintro e y ⟨⟨t2, ht2l, ht2v, rfl⟩, hb⟩
    refine hK.out _ _ (HS.step hb rfl) ?_
    clear HS hb
    intro HS
    have Ht2 := Lib.hid (And.intro ht2l ht2v)
    clear ht2l ht2v
    refine one_ #[true, true, true, true, true, false] (i := 4) (N := some 49) rfl rfl (by kernel_rfl) (by decide) (fun K hK => ?_)
    go_simp
    refine (mul_any t2 v0 (wk Ht2.out.1) CY.out _).mono ?_
    rintro e y ⟨⟨s3, hs3l, hs3v, rfl⟩, hb⟩
    refine hK.out _ _ (HS.step hb rfl) ?_
    clear HS hb
    intro HS
    have Hs3 := Lib.hid (And.intro hs3l hs3v)
    clear hs3l hs3v
    obtain ⟨x7, rfl, hk7, hz7, l70, l71, l72, l73, l74⟩ := HS.pin5
    have HB7 : Hid (Below w.heap.size w x7) := hk7.below
    clear HS hk7
    refine last_ #[true, true, true, true, true, true] (i := 5) (N := none) rfl rfl (by kernel_rfl) (by decide) (fun K hK => ?_)
    go_simp
    refine hK.out _ _ ?_
    refine done_ (by kernel_rfl) ?_
    go_wp2_with fail
    have HE := Lib.hid (root_end (A := a.val) (V := b.val) (n := leN (nearL 253 15)) (m := leN (nearL 251 31))  (by rw [HU.out]; exact nweak_mod a) (by rw [HV.out]; exact nweak_mod b) HR.out.2 HS2.out.2 (root_r HC1.out Ht1.out.2 Hr3.out.2) (mulm Ht2.out.2 rfl Hs3.out.2))
    by_cases hc2 : s3.val % Num.p = u.val % Num.p
    · have hd2 : decide (s3.val % Num.p = u.val % Num.p) = true := decide_eq_true hc2
      have HC2 := Lib.hid hc2
      clear hc2
      go_wp2_with fail
      refine (Same_any s3 u (u64_of (wk Hs3.out.1)) (u64_of CX.out) _).mono ?_
      rintro e y8 ⟨rfl, hb8⟩
      obtain ⟨x8, rfl, hc8, hz8, l80, l81, l82, l83, l84⟩ := keep5 (b0 := w.heap.size) (b1 := w.heap.size + 1) (b2 := w.heap.size + 2) (b3 := b7) (b4 := b8) hb8 rfl (by (repeat (first | with_reducible exact pin_at (by assumption) | (with_reducible apply pin_at; (first | omega | (simp only [World.size_alloc, pin_size, World.size_drew, World.size_setCell] <;> omega))) | (with_reducible apply alloc_at; first | rfl | (simp only [World.size_alloc, pin_size, World.size_drew, World.size_setCell] <;> omega)) | with_reducible apply past_pin | with_reducible apply past_alloc | with_reducible apply past_drew)); all_goals (first | omega | (simp only [World.size_alloc, pin_size, World.size_drew, World.size_setCell] <;> omega))) (by (repeat (first | with_reducible exact pin_at (by assumption) | (with_reducible apply pin_at; (first | omega | (simp only [World.size_alloc, pin_size, World.size_drew, World.size_setCell] <;> omega))) | (with_reducible apply alloc_at; first | rfl | (simp only [World.size_alloc, pin_size, World.size_drew, World.size_setCell] <;> omega)) | with_reducible apply past_pin | with_reducible apply past_alloc | with_reducible apply past_drew)); all_goals (first | omega | (simp only [World.size_alloc, pin_size, World.size_drew, World.size_setCell] <;> omega))) (by (repeat (first | with_reducible exact pin_at (by assumption) | (with_reducible apply pin_at; (first | omega | (simp only [World.size_alloc, pin_size, World.size_drew, World.size_setCell] <;> omega))) | (with_reducible apply alloc_at; first | rfl | (simp only [World.size_alloc, pin_size, World.size_drew, World.size_setCell] <;> omega)) | with_reducible apply past_pin | with_reducible apply past_alloc | with_reducible apply past_drew)); all_goals (first | omega | (simp only [World.size_alloc, pin_size, World.size_drew, World.size_setCell] <;> omega))) (by (repeat (first | with_reducible exact pin_at (by assumption) | (with_reducible apply pin_at; (first | omega | (simp only [World.size_alloc, pin_size, World.size_drew, World.size_setCell] <;> omega))) | (with_reducible apply alloc_at; first | rfl | (simp only [World.size_alloc, pin_size, World.size_drew, World.size_setCell] <;> omega)) | with_reducible apply past_pin | with_reducible apply past_alloc | with_reducible apply past_drew)); all_goals (first | omega | (simp only [World.size_alloc, pin_size, World.size_drew, World.size_setCell] <;> omega))) (by (repeat (first | with_reducible exact pin_at (by assumption) | (with_reducible apply pin_at; (first | omega | (simp only [World.size_alloc, pin_size, World.size_drew, World.size_setCell] <;> omega))) | (with_reducible apply alloc_at; first | rfl | (simp only [World.size_alloc, pin_size, World.size_drew, World.size_setCell] <;> omega)) | with_reducible apply past_pin | with_reducible apply past_alloc | with_reducible apply past_drew)); all_goals (first | omega | (simp only [World.size_alloc, pin_size, World.size_drew, World.size_setCell] <;> omega)))
      have HB8 : Hid (Below w.heap.size w x8) := Below.trans (by (repeat (first | with_reducible exact HB7.out | with_reducible refine below_pin ?_ ?_ | with_reducible refine Below.alloc ?_ ?_ _ | with_reducible refine Below.setCell ?_ ?_ _ | with_reducible refine Below.drew ?_)); all_goals (first | omega | (simp only [World.size_alloc, pin_size, World.size_drew, World.size_setCell] <;> omega))) (hc8.mono (by (first | omega | (simp only [World.size_alloc, pin_size, World.size_drew, World.size_setCell] <;> omega))))
      clear hb8 hc8
      try simp only [World.size_alloc, pin_size, World.size_drew, World.size_setCell] at hz8
      go_wp2_with fail
      by_cases ho : r3.val % Num.p % 2 = 1
      · have hd3 : decide (r3.val % Num.p % 2 = 1) = true := decide_eq_true ho
        have HO := Lib.hid ho
        clear ho
        refine (Odd_any r3 (u64_of (wk Hr3.out.1)) _).mono ?_
        rintro e y9 ⟨rfl, hb9⟩
        obtain ⟨x9, rfl, hc9, hz9, l90, l91, l92, l93, l94⟩ := keep5 (b0 := w.heap.size) (b1 := w.heap.size + 1) (b2 := w.heap.size + 2) (b3 := b7) (b4 := b8) hb9 rfl (by (repeat (first | with_reducible exact pin_at (by assumption) | (with_reducible apply pin_at; (first | omega | (simp only [World.size_alloc, pin_size, World.size_drew, World.size_setCell] <;> omega))) | (with_reducible apply alloc_at; first | rfl | (simp only [World.size_alloc, pin_size, World.size_drew, World.size_setCell] <;> omega)) | with_reducible apply past_pin | with_reducible apply past_alloc | with_reducible apply past_drew)); all_goals (first | omega | (simp only [World.size_alloc, pin_size, World.size_drew, World.size_setCell] <;> omega))) (by (repeat (first | with_reducible exact pin_at (by assumption) | (with_reducible apply pin_at; (first | omega | (simp only [World.size_alloc, pin_size, World.size_drew, World.size_setCell] <;> omega))) | (with_reducible apply alloc_at; first | rfl | (simp only [World.size_alloc, pin_size, World.size_drew, World.size_setCell] <;> omega)) | with_reducible apply past_pin | with_reducible apply past_alloc | with_reducible apply past_drew)); all_goals (first | omega | (simp only [World.size_alloc, pin_size, World.size_drew, World.size_setCell] <;> omega))) (by (repeat (first | with_reducible exact pin_at (by assumption) | (with_reducible apply pin_at; (first | omega | (simp only [World.size_alloc, pin_size, World.size_drew, World.size_setCell] <;> omega))) | (with_reducible apply alloc_at; first | rfl | (simp only [World.size_alloc, pin_size, World.size_drew, World.size_setCell] <;> omega)) | with_reducible apply past_pin | with_reducible apply past_alloc | with_reducible apply past_drew)); all_goals (first | omega | (simp only [World.size_alloc, pin_size, World.size_drew, World.size_setCell] <;> omega))) (by (repeat (first | with_reducible exact pin_at (by assumption) | (with_reducible apply pin_at; (first | omega | (simp only [World.size_alloc, pin_size, World.size_drew, World.size_setCell] <;> omega))) | (with_reducible apply alloc_at; first | rfl | (simp only [World.size_alloc, pin_size, World.size_drew, World.size_setCell] <;> omega)) | with_reducible apply past_pin | with_reducible apply past_alloc | with_reducible apply past_drew)); all_goals (first | omega | (simp only [World.size_alloc, pin_size, World.size_drew, World.size_setCell] <;> omega))) (by (repeat (first | with_reducible exact pin_at (by assumption) | (with_reducible apply pin_at; (first | omega | (simp only [World.size_alloc, pin_size, World.size_drew, World.size_setCell] <;> omega))) | (with_reducible apply alloc_at; first | rfl | (simp only [World.size_alloc, pin_size, World.size_drew, World.size_setCell] <;> omega)) | with_reducible apply past_pin | with_reducible apply past_alloc | with_reducible apply past_drew)); all_goals (first | omega | (simp only [World.size_alloc, pin_size, World.size_drew, World.size_setCell] <;> omega)))
        have HB9 : Hid (Below w.heap.size w x9) := Below.trans (by (repeat (first | with_reducible exact HB8.out | with_reducible refine below_pin ?_ ?_ | with_reducible refine Below.alloc ?_ ?_ _ | with_reducible refine Below.setCell ?_ ?_ _ | with_reducible refine Below.drew ?_)); all_goals (first | omega | (simp only [World.size_alloc, pin_size, World.size_drew, World.size_setCell] <;> omega))) (hc9.mono (by (first | omega | (simp only [World.size_alloc, pin_size, World.size_drew, World.size_setCell] <;> omega))))
        clear hb9 hc9
        try simp only [World.size_alloc, pin_size, World.size_drew, World.size_setCell] at hz9
        go_wp2_with fail
        refine (Neg_any r3 (u64_of (wk Hr3.out.1)) _).mono ?_
        rintro e y10 ⟨rfl, hb10⟩
        obtain ⟨x10, rfl, hc10, hz10, l100, l101, l102, l103, l104⟩ := keep5 (b0 := w.heap.size) (b1 := w.heap.size + 1) (b2 := w.heap.size + 2) (b3 := b7) (b4 := b8) hb10 rfl (by (repeat (first | with_reducible exact pin_at (by assumption) | (with_reducible apply pin_at; (first | omega | (simp only [World.size_alloc, pin_size, World.size_drew, World.size_setCell] <;> omega))) | (with_reducible apply alloc_at; first | rfl | (simp only [World.size_alloc, pin_size, World.size_drew, World.size_setCell] <;> omega)) | with_reducible apply past_pin | with_reducible apply past_alloc | with_reducible apply past_drew)); all_goals (first | omega | (simp only [World.size_alloc, pin_size, World.size_drew, World.size_setCell] <;> omega))) (by (repeat (first | with_reducible exact pin_at (by assumption) | (with_reducible apply pin_at; (first | omega | (simp only [World.size_alloc, pin_size, World.size_drew, World.size_setCell] <;> omega))) | (with_reducible apply alloc_at; first | rfl | (simp only [World.size_alloc, pin_size, World.size_drew, World.size_setCell] <;> omega)) | with_reducible apply past_pin | with_reducible apply past_alloc | with_reducible apply past_drew)); all_goals (first | omega | (simp only [World.size_alloc, pin_size, World.size_drew, World.size_setCell] <;> omega))) (by (repeat (first | with_reducible exact pin_at (by assumption) | (with_reducible apply pin_at; (first | omega | (simp only [World.size_alloc, pin_size, World.size_drew, World.size_setCell] <;> omega))) | (with_reducible apply alloc_at; first | rfl | (simp only [World.size_alloc, pin_size, World.size_drew, World.size_setCell] <;> omega)) | with_reducible apply past_pin | with_reducible apply past_alloc | with_reducible apply past_drew)); all_goals (first | omega | (simp only [World.size_alloc, pin_size, World.size_drew, World.size_setCell] <;> omega))) (by (repeat (first | with_reducible exact pin_at (by assumption) | (with_reducible apply pin_at; (first | omega | (simp only [World.size_alloc, pin_size, World.size_drew, World.size_setCell] <;> omega))) | (with_reducible apply alloc_at; first | rfl | (simp only [World.size_alloc, pin_size, World.size_drew, World.size_setCell] <;> omega)) | with_reducible apply past_pin | with_reducible apply past_alloc | with_reducible apply past_drew)); all_goals (first | omega | (simp only [World.size_alloc, pin_size, World.size_drew, World.size_setCell] <;> omega))) (by (repeat (first | with_reducible exact pin_at (by assumption) | (with_reducible apply pin_at; (first | omega | (simp only [World.size_alloc, pin_size, World.size_drew, World.size_setCell] <;> omega))) | (with_reducible apply alloc_at; first | rfl | (simp only [World.size_alloc, pin_size, World.size_drew, World.size_setCell] <;> omega)) | with_reducible apply past_pin | with_reducible apply past_alloc | with_reducible apply past_drew)); all_goals (first | omega | (simp only [World.size_alloc, pin_size, World.size_drew, World.size_setCell] <;> omega)))
        have HB10 : Hid (Below w.heap.size w x10) := Below.trans (by (repeat (first | with_reducible exact HB9.out | with_reducible refine below_pin ?_ ?_ | with_reducible refine Below.alloc ?_ ?_ _ | with_reducible refine Below.setCell ?_ ?_ _ | with_reducible refine Below.drew ?_)); all_goals (first | omega | (simp only [World.size_alloc, pin_size, World.size_drew, World.size_setCell] <;> omega))) (hc10.mono (by (first | omega | (simp only [World.size_alloc, pin_size, World.size_drew, World.size_setCell] <;> omega))))
        clear hb10 hc10
        try simp only [World.size_alloc, pin_size, World.size_drew, World.size_setCell] at hz10
        go_wp2_with fail
        refine (reduce_nat (small (subM 0 r3.val)) (small_u _) _).mono ?_
        rintro e y11 ⟨rfl, hb11⟩
        obtain ⟨x11, rfl, hc11, hz11, l110, l111, l112, l113, l114⟩ := keep5 (b0 := w.heap.size) (b1 := w.heap.size + 1) (b2 := w.heap.size + 2) (b3 := b7) (b4 := b8) hb11 rfl (by (repeat (first | with_reducible exact pin_at (by assumption) | (with_reducible apply pin_at; (first | omega | (simp only [World.size_alloc, pin_size, World.size_drew, World.size_setCell] <;> omega))) | (with_reducible apply alloc_at; first | rfl | (simp only [World.size_alloc, pin_size, World.size_drew, World.size_setCell] <;> omega)) | with_reducible apply past_pin | with_reducible apply past_alloc | with_reducible apply past_drew)); all_goals (first | omega | (simp only [World.size_alloc, pin_size, World.size_drew, World.size_setCell] <;> omega))) (by (repeat (first | with_reducible exact pin_at (by assumption) | (with_reducible apply pin_at; (first | omega | (simp only [World.size_alloc, pin_size, World.size_drew, World.size_setCell] <;> omega))) | (with_reducible apply alloc_at; first | rfl | (simp only [World.size_alloc, pin_size, World.size_drew, World.size_setCell] <;> omega)) | with_reducible apply past_pin | with_reducible apply past_alloc | with_reducible apply past_drew)); all_goals (first | omega | (simp only [World.size_alloc, pin_size, World.size_drew, World.size_setCell] <;> omega))) (by (repeat (first | with_reducible exact pin_at (by assumption) | (with_reducible apply pin_at; (first | omega | (simp only [World.size_alloc, pin_size, World.size_drew, World.size_setCell] <;> omega))) | (with_reducible apply alloc_at; first | rfl | (simp only [World.size_alloc, pin_size, World.size_drew, World.size_setCell] <;> omega)) | with_reducible apply past_pin | with_reducible apply past_alloc | with_reducible apply past_drew)); all_goals (first | omega | (simp only [World.size_alloc, pin_size, World.size_drew, World.size_setCell] <;> omega))) (by (repeat (first | with_reducible exact pin_at (by assumption) | (with_reducible apply pin_at; (first | omega | (simp only [World.size_alloc, pin_size, World.size_drew, World.size_setCell] <;> omega))) | (with_reducible apply alloc_at; first | rfl | (simp only [World.size_alloc, pin_size, World.size_drew, World.size_setCell] <;> omega)) | with_reducible apply past_pin | with_reducible apply past_alloc | with_reducible apply past_drew)); all_goals (first | omega | (simp only [World.size_alloc, pin_size, World.size_drew, World.size_setCell] <;> omega))) (by (repeat (first | with_reducible exact pin_at (by assumption) | (with_reducible apply pin_at; (first | omega | (simp only [World.size_alloc, pin_size, World.size_drew, World.size_setCell] <;> omega))) | (with_reducible apply alloc_at; first | rfl | (simp only [World.size_alloc, pin_size, World.size_drew, World.size_setCell] <;> omega)) | with_reducible apply past_pin | with_reducible apply past_alloc | with_reducible apply past_drew)); all_goals (first | omega | (simp only [World.size_alloc, pin_size, World.size_drew, World.size_setCell] <;> omega)))
        have HB11 : Hid (Below w.heap.size w x11) := Below.trans (by (repeat (first | with_reducible exact HB10.out | with_reducible refine below_pin ?_ ?_ | with_reducible refine Below.alloc ?_ ?_ _ | with_reducible refine Below.setCell ?_ ?_ _ | with_reducible refine Below.drew ?_)); all_goals (first | omega | (simp only [World.size_alloc, pin_size, World.size_drew, World.size_setCell] <;> omega))) (hc11.mono (by (first | omega | (simp only [World.size_alloc, pin_size, World.size_drew, World.size_setCell] <;> omega))))
        clear hb11 hc11
        try simp only [World.size_alloc, pin_size, World.size_drew, World.size_setCell] at hz11
        go_wp2_with fail
        refine bodyPost_ret (v := .tuple #[(small (small (subM 0 r3.val)).val).v, .bool true]) ?_ rfl ?_
        · simp [results, Tryd.results18, go_sem, l10, l11, l12, l20, l21, l22, l23, hl20, hl21, hl22, l30, l31, l32, l33, l34, hl30, hl31, hl32, hl33, l40, l41, l42, l43, l44, hl40, hl41, hl42, hl43, l50, l51, l52, l53, l54, l60, l61, l62, l63, l64, l70, l71, l72, l73, l74, l80, l81, l82, l83, l84, l90, l91, l92, l93, l94, l100, l101, l102, l103, l104, l110, l111, l112, l113, l114]
        · exact ⟨root_odd HE.out HC2.out HO.out, (by (repeat (first | with_reducible exact HB11.out | with_reducible refine below_pin ?_ ?_ | with_reducible refine Below.alloc ?_ ?_ _ | with_reducible refine Below.setCell ?_ ?_ _ | with_reducible refine Below.drew ?_)); all_goals (first | omega | (simp only [World.size_alloc, pin_size, World.size_drew, World.size_setCell] <;> omega)))⟩
      · have hd3 : decide (r3.val % Num.p % 2 = 1) = false := decide_eq_false ho
        have HO := Lib.hid ho
        clear ho
        refine (Odd_any r3 (u64_of (wk Hr3.out.1)) _).mono ?_
        rintro e y9 ⟨rfl, hb9⟩
        obtain ⟨x9, rfl, hc9, hz9, l90, l91, l92, l93, l94⟩ := keep5 (b0 := w.heap.size) (b1 := w.heap.size + 1) (b2 := w.heap.size + 2) (b3 := b7) (b4 := b8) hb9 rfl (by (repeat (first | with_reducible exact pin_at (by assumption) | (with_reducible apply pin_at; (first | omega | (simp only [World.size_alloc, pin_size, World.size_drew, World.size_setCell] <;> omega))) | (with_reducible apply alloc_at; first | rfl | (simp only [World.size_alloc, pin_size, World.size_drew, World.size_setCell] <;> omega)) | with_reducible apply past_pin | with_reducible apply past_alloc | with_reducible apply past_drew)); all_goals (first | omega | (simp only [World.size_alloc, pin_size, World.size_drew, World.size_setCell] <;> omega))) (by (repeat (first | with_reducible exact pin_at (by assumption) | (with_reducible apply pin_at; (first | omega | (simp only [World.size_alloc, pin_size, World.size_drew, World.size_setCell] <;> omega))) | (with_reducible apply alloc_at; first | rfl | (simp only [World.size_alloc, pin_size, World.size_drew, World.size_setCell] <;> omega)) | with_reducible apply past_pin | with_reducible apply past_alloc | with_reducible apply past_drew)); all_goals (first | omega | (simp only [World.size_alloc, pin_size, World.size_drew, World.size_setCell] <;> omega))) (by (repeat (first | with_reducible exact pin_at (by assumption) | (with_reducible apply pin_at; (first | omega | (simp only [World.size_alloc, pin_size, World.size_drew, World.size_setCell] <;> omega))) | (with_reducible apply alloc_at; first | rfl | (simp only [World.size_alloc, pin_size, World.size_drew, World.size_setCell] <;> omega)) | with_reducible apply past_pin | with_reducible apply past_alloc | with_reducible apply past_drew)); all_goals (first | omega | (simp only [World.size_alloc, pin_size, World.size_drew, World.size_setCell] <;> omega))) (by (repeat (first | with_reducible exact pin_at (by assumption) | (with_reducible apply pin_at; (first | omega | (simp only [World.size_alloc, pin_size, World.size_drew, World.size_setCell] <;> omega))) | (with_reducible apply alloc_at; first | rfl | (simp only [World.size_alloc, pin_size, World.size_drew, World.size_setCell] <;> omega)) | with_reducible apply past_pin | with_reducible apply past_alloc | with_reducible apply past_drew)); all_goals (first | omega | (simp only [World.size_alloc, pin_size, World.size_drew, World.size_setCell] <;> omega))) (by (repeat (first | with_reducible exact pin_at (by assumption) | (with_reducible apply pin_at; (first | omega | (simp only [World.size_alloc, pin_size, World.size_drew, World.size_setCell] <;> omega))) | (with_reducible apply alloc_at; first | rfl | (simp only [World.size_alloc, pin_size, World.size_drew, World.size_setCell] <;> omega)) | with_reducible apply past_pin | with_reducible apply past_alloc | with_reducible apply past_drew)); all_goals (first | omega | (simp only [World.size_alloc, pin_size, World.size_drew, World.size_setCell] <;> omega)))
        have HB9 : Hid (Below w.heap.size w x9) := Below.trans (by (repeat (first | with_reducible exact HB8.out | with_reducible refine below_pin ?_ ?_ | with_reducible refine Below.alloc ?_ ?_ _ | with_reducible refine Below.setCell ?_ ?_ _ | with_reducible refine Below.drew ?_)); all_goals (first | omega | (simp only [World.size_alloc, pin_size, World.size_drew, World.size_setCell] <;> omega))) (hc9.mono (by (first | omega | (simp only [World.size_alloc, pin_size, World.size_drew, World.size_setCell] <;> omega))))
        clear hb9 hc9
        try simp only [World.size_alloc, pin_size, World.size_drew, World.size_setCell] at hz9
        go_wp2_with fail
        refine (reduce_nat r3 (u64_of (wk Hr3.out.1)) _).mono ?_
        rintro e y10 ⟨rfl, hb10⟩
        obtain ⟨x10, rfl, hc10, hz10, l100, l101, l102, l103, l104⟩ := keep5 (b0 := w.heap.size) (b1 := w.heap.size + 1) (b2 := w.heap.size + 2) (b3 := b7) (b4 := b8) hb10 rfl (by (repeat (first | with_reducible exact pin_at (by assumption) | (with_reducible apply pin_at; (first | omega | (simp only [World.size_alloc, pin_size, World.size_drew, World.size_setCell] <;> omega))) | (with_reducible apply alloc_at; first | rfl | (simp only [World.size_alloc, pin_size, World.size_drew, World.size_setCell] <;> omega)) | with_reducible apply past_pin | with_reducible apply past_alloc | with_reducible apply past_drew)); all_goals (first | omega | (simp only [World.size_alloc, pin_size, World.size_drew, World.size_setCell] <;> omega))) (by (repeat (first | with_reducible exact pin_at (by assumption) | (with_reducible apply pin_at; (first | omega | (simp only [World.size_alloc, pin_size, World.size_drew, World.size_setCell] <;> omega))) | (with_reducible apply alloc_at; first | rfl | (simp only [World.size_alloc, pin_size, World.size_drew, World.size_setCell] <;> omega)) | with_reducible apply past_pin | with_reducible apply past_alloc | with_reducible apply past_drew)); all_goals (first | omega | (simp only [World.size_alloc, pin_size, World.size_drew, World.size_setCell] <;> omega))) (by (repeat (first | with_reducible exact pin_at (by assumption) | (with_reducible apply pin_at; (first | omega | (simp only [World.size_alloc, pin_size, World.size_drew, World.size_setCell] <;> omega))) | (with_reducible apply alloc_at; first | rfl | (simp only [World.size_alloc, pin_size, World.size_drew, World.size_setCell] <;> omega)) | with_reducible apply past_pin | with_reducible apply past_alloc | with_reducible apply past_drew)); all_goals (first | omega | (simp only [World.size_alloc, pin_size, World.size_drew, World.size_setCell] <;> omega))) (by (repeat (first | with_reducible exact pin_at (by assumption) | (with_reducible apply pin_at; (first | omega | (simp only [World.size_alloc, pin_size, World.size_drew, World.size_setCell] <;> omega))) | (with_reducible apply alloc_at; first | rfl | (simp only [World.size_alloc, pin_size, World.size_drew, World.size_setCell] <;> omega)) | with_reducible apply past_pin | with_reducible apply past_alloc | with_reducible apply past_drew)); all_goals (first | omega | (simp only [World.size_alloc, pin_size, World.size_drew, World.size_setCell] <;> omega))) (by (repeat (first | with_reducible exact pin_at (by assumption) | (with_reducible apply pin_at; (first | omega | (simp only [World.size_alloc, pin_size, World.size_drew, World.size_setCell] <;> omega))) | (with_reducible apply alloc_at; first | rfl | (simp only [World.size_alloc, pin_size, World.size_drew, World.size_setCell] <;> omega)) | with_reducible apply past_pin | with_reducible apply past_alloc | with_reducible apply past_drew)); all_goals (first | omega | (simp only [World.size_alloc, pin_size, World.size_drew, World.size_setCell] <;> omega)))
        have HB10 : Hid (Below w.heap.size w x10) := Below.trans (by (repeat (first | with_reducible exact HB9.out | with_reducible refine below_pin ?_ ?_ | with_reducible refine Below.alloc ?_ ?_ _ | with_reducible refine Below.setCell ?_ ?_ _ | with_reducible refine Below.drew ?_)); all_goals (first | omega | (simp only [World.size_alloc, pin_size, World.size_drew, World.size_setCell] <;> omega))) (hc10.mono (by (first | omega | (simp only [World.size_alloc, pin_size, World.size_drew, World.size_setCell] <;> omega))))
        clear hb10 hc10
        try simp only [World.size_alloc, pin_size, World.size_drew, World.size_setCell] at hz10
        go_wp2_with fail
        refine bodyPost_ret (v := .tuple #[(small r3.val).v, .bool true]) ?_ rfl ?_
        · simp [results, Tryd.results18, go_sem, l10, l11, l12, l20, l21, l22, l23, hl20, hl21, hl22, l30, l31, l32, l33, l34, hl30, hl31, hl32, hl33, l40, l41, l42, l43, l44, hl40, hl41, hl42, hl43, l50, l51, l52, l53, l54, l60, l61, l62, l63, l64, l70, l71, l72, l73, l74, l80, l81, l82, l83, l84, l90, l91, l92, l93, l94, l100, l101, l102, l103, l104]
        · exact ⟨root_even HE.out HC2.out HO.out, (by (repeat (first | with_reducible exact HB10.out | with_reducible refine below_pin ?_ ?_ | with_reducible refine Below.alloc ?_ ?_ _ | with_reducible refine Below.setCell ?_ ?_ _ | with_reducible refine Below.drew ?_)); all_goals (first | omega | (simp only [World.size_alloc, pin_size, World.size_drew, World.size_setCell] <;> omega)))⟩
    · have hd2 : decide (s3.val % Num.p = u.val % Num.p) = false := decide_eq_false hc2
      have HC2 := Lib.hid hc2
      clear hc2
      go_wp2_with fail
      refine (Same_any s3 u (u64_of (wk Hs3.out.1)) (u64_of CX.out) _).mono ?_
      rintro e y8 ⟨rfl, hb8⟩
      obtain ⟨x8, rfl, hc8, hz8, l80, l81, l82, l83, l84⟩ := keep5 (b0 := w.heap.size) (b1 := w.heap.size + 1) (b2 := w.heap.size + 2) (b3 := b7) (b4 := b8) hb8 rfl (by (repeat (first | with_reducible exact pin_at (by assumption) | (with_reducible apply pin_at; (first | omega | (simp only [World.size_alloc, pin_size, World.size_drew, World.size_setCell] <;> omega))) | (with_reducible apply alloc_at; first | rfl | (simp only [World.size_alloc, pin_size, World.size_drew, World.size_setCell] <;> omega)) | with_reducible apply past_pin | with_reducible apply past_alloc | with_reducible apply past_drew)); all_goals (first | omega | (simp only [World.size_alloc, pin_size, World.size_drew, World.size_setCell] <;> omega))) (by (repeat (first | with_reducible exact pin_at (by assumption) | (with_reducible apply pin_at; (first | omega | (simp only [World.size_alloc, pin_size, World.size_drew, World.size_setCell] <;> omega))) | (with_reducible apply alloc_at; first | rfl | (simp only [World.size_alloc, pin_size, World.size_drew, World.size_setCell] <;> omega)) | with_reducible apply past_pin | with_reducible apply past_alloc | with_reducible apply past_drew)); all_goals (first | omega | (simp only [World.size_alloc, pin_size, World.size_drew, World.size_setCell] <;> omega))) (by (repeat (first | with_reducible exact pin_at (by assumption) | (with_reducible apply pin_at; (first | omega | (simp only [World.size_alloc, pin_size, World.size_drew, World.size_setCell] <;> omega))) | (with_reducible apply alloc_at; first | rfl | (simp only [World.size_alloc, pin_size, World.size_drew, World.size_setCell] <;> omega)) | with_reducible apply past_pin | with_reducible apply past_alloc | with_reducible apply past_drew)); all_goals (first | omega | (simp only [World.size_alloc, pin_size, World.size_drew, World.size_setCell] <;> omega))) (by (repeat (first | with_reducible exact pin_at (by assumption) | (with_reducible apply pin_at; (first | omega | (simp only [World.size_alloc, pin_size, World.size_drew, World.size_setCell] <;> omega))) | (with_reducible apply alloc_at; first | rfl | (simp only [World.size_alloc, pin_size, World.size_drew, World.size_setCell] <;> omega)) | with_reducible apply past_pin | with_reducible apply past_alloc | with_reducible apply past_drew)); all_goals (first | omega | (simp only [World.size_alloc, pin_size, World.size_drew, World.size_setCell] <;> omega))) (by (repeat (first | with_reducible exact pin_at (by assumption) | (with_reducible apply pin_at; (first | omega | (simp only [World.size_alloc, pin_size, World.size_drew, World.size_setCell] <;> omega))) | (with_reducible apply alloc_at; first | rfl | (simp only [World.size_alloc, pin_size, World.size_drew, World.size_setCell] <;> omega)) | with_reducible apply past_pin | with_reducible apply past_alloc | with_reducible apply past_drew)); all_goals (first | omega | (simp only [World.size_alloc, pin_size, World.size_drew, World.size_setCell] <;> omega)))
      have HB8 : Hid (Below w.heap.size w x8) := Below.trans (by (repeat (first | with_reducible exact HB7.out | with_reducible refine below_pin ?_ ?_ | with_reducible refine Below.alloc ?_ ?_ _ | with_reducible refine Below.setCell ?_ ?_ _ | with_reducible refine Below.drew ?_)); all_goals (first | omega | (simp only [World.size_alloc, pin_size, World.size_drew, World.size_setCell] <;> omega))) (hc8.mono (by (first | omega | (simp only [World.size_alloc, pin_size, World.size_drew, World.size_setCell] <;> omega))))
      clear hb8 hc8
      try simp only [World.size_alloc, pin_size, World.size_drew, World.size_setCell] at hz8
      go_wp2_with fail
      refine bodyPost_ret (v := .tuple #[(⟨0, 0, 0, 0, 0⟩ : Fn).v, .bool false]) ?_ rfl ?_
      · simp [results, Tryd.results18, go_sem, l10, l11, l12, l20, l21, l22, l23, hl20, hl21, hl22, l30, l31, l32, l33, l34, hl30, hl31, hl32, hl33, l40, l41, l42, l43, l44, hl40, hl41, hl42, hl43, l50, l51, l52, l53, l54, l60, l61, l62, l63, l64, l70, l71, l72, l73, l74, l80, l81, l82, l83, l84]
      · exact ⟨root_none HE.out HC2.out, (by (repeat (first | with_reducible exact HB8.out | with_reducible refine below_pin ?_ ?_ | with_reducible refine Below.alloc ?_ ?_ _ | with_reducible refine Below.setCell ?_ ?_ _ | with_reducible refine Below.drew ?_)); all_goals (first | omega | (simp only [World.size_alloc, pin_size, World.size_drew, World.size_setCell] <;> omega)))⟩
  · have hd1 : decide (s2.val % Num.p = (small (subM 0 u.val)).val % Num.p) = false := decide_eq_false hc
    have HC1 := Lib.hid hc
    clear hc
    refine start_ (S := Keeps w _) (ds := []) (n := 4) #[false, false, false, false] (by kernel_rfl) rfl rfl (keepsC (b := w.heap.size) (by (repeat (first | with_reducible exact pin_at (by assumption) | (with_reducible apply pin_at; (first | omega | (simp only [World.size_alloc, pin_size, World.size_drew, World.size_setCell] <;> omega))) | (with_reducible apply alloc_at; first | rfl | (simp only [World.size_alloc, pin_size, World.size_drew, World.size_setCell] <;> omega)) | with_reducible apply past_pin | with_reducible apply past_alloc | with_reducible apply past_drew)); all_goals (first | omega | (simp only [World.size_alloc, pin_size, World.size_drew, World.size_setCell] <;> omega))) (keepsC (b := w.heap.size + 1) (by (repeat (first | with_reducible exact pin_at (by assumption) | (with_reducible apply pin_at; (first | omega | (simp only [World.size_alloc, pin_size, World.size_drew, World.size_setCell] <;> omega))) | (with_reducible apply alloc_at; first | rfl | (simp only [World.size_alloc, pin_size, World.size_drew, World.size_setCell] <;> omega)) | with_reducible apply past_pin | with_reducible apply past_alloc | with_reducible apply past_drew)); all_goals (first | omega | (simp only [World.size_alloc, pin_size, World.size_drew, World.size_setCell] <;> omega))) (keepsC (b := w.heap.size + 2) (by (repeat (first | with_reducible exact pin_at (by assumption) | (with_reducible apply pin_at; (first | omega | (simp only [World.size_alloc, pin_size, World.size_drew, World.size_setCell] <;> omega))) | (with_reducible apply alloc_at; first | rfl | (simp only [World.size_alloc, pin_size, World.size_drew, World.size_setCell] <;> omega)) | with_reducible apply past_pin | with_reducible apply past_alloc | with_reducible apply past_drew)); all_goals (first | omega | (simp only [World.size_alloc, pin_size, World.size_drew, World.size_setCell] <;> omega))) (keepsC (b := b7) (by (repeat (first | with_reducible exact pin_at (by assumption) | (with_reducible apply pin_at; (first | omega | (simp only [World.size_alloc, pin_size, World.size_drew, World.size_setCell] <;> omega))) | (with_reducible apply alloc_at; first | rfl | (simp only [World.size_alloc, pin_size, World.size_drew, World.size_setCell] <;> omega)) | with_reducible apply past_pin | with_reducible apply past_alloc | with_reducible apply past_drew)); all_goals (first | omega | (simp only [World.size_alloc, pin_size, World.size_drew, World.size_setCell] <;> omega))) (keepsC (b := b8) (by (repeat (first | with_reducible exact pin_at (by assumption) | (with_reducible apply pin_at; (first | omega | (simp only [World.size_alloc, pin_size, World.size_drew, World.size_setCell] <;> omega))) | (with_reducible apply alloc_at; first | rfl | (simp only [World.size_alloc, pin_size, World.size_drew, World.size_setCell] <;> omega)) | with_reducible apply past_pin | with_reducible apply past_alloc | with_reducible apply past_drew)); all_goals (first | omega | (simp only [World.size_alloc, pin_size, World.size_drew, World.size_setCell] <;> omega))) (keeps0 (by (repeat (first | with_reducible exact HB4.out | with_reducible refine below_pin ?_ ?_ | with_reducible refine Below.alloc ?_ ?_ _ | with_reducible refine Below.setCell ?_ ?_ _ | with_reducible refine Below.drew ?_)); all_goals (first | omega | (simp only [World.size_alloc, pin_size, World.size_drew, World.size_setCell] <;> omega))))))))) (fun HS => ?_)
    refine take_ #[true, false, false, false] (i := 0) (N := some 36) (v := ?v21) rfl rfl (by kernel_rfl) (fun _ _ _ h => h) (Or.inl ⟨by rfl, ?hy21⟩) HS rfl ?_
    case hy21 => (intro v hv; obtain ⟨x, rfl, _, _, n0, n1, n2, n3, n4⟩ := hv.pin5; go_simp; first | done | with_reducible rfl)
    simp only [Act.put, List.setIfInBounds_toArray, List.set_cons_zero, List.set_cons_succ]
    refine take_ #[true, true, false, false] (i := 1) (N := some 37) (v := ?v22) rfl rfl (by kernel_rfl) (fun _ _ _ h => h) (Or.inl ⟨by rfl, ?hy22⟩) HS rfl ?_
    case hy22 => (intro v hv; obtain ⟨x, rfl, _, _, n0, n1, n2, n3, n4⟩ := hv.pin5; go_simp; first | done | with_reducible rfl)
    simp only [Act.put, List.setIfInBounds_toArray, List.set_cons_zero, List.set_cons_succ]
    refine one_ #[true, true, true, false] (i := 2) (N := some 38) rfl rfl (by kernel_rfl) (by decide) (fun K hK => ?_)
    go_simp
    refine (Neg_any u (u64_of CX.out) _).mono ?_
    rintro e y ⟨rfl, hb⟩
    refine hK.out _ _ (HS.step hb rfl) ?_
    clear HS hb
    intro HS
    refine one_ #[true, true, true, true] (i := 3) (N := some 39) rfl rfl (by kernel_rfl) (by decide) (fun K hK => ?_)
    go_simp
    refine (Same_any s2 (small (subM 0 u.val)) (u64_of (wk HS2.out.1)) (small_u _) _).mono ?_
    rintro e y ⟨rfl, hb⟩
    refine hK.out _ _ (HS.step hb rfl) ?_
    clear HS hb
    intro HS
    obtain ⟨x5, rfl, hk5, hz5, l50, l51, l52, l53, l54⟩ := HS.pin5
    have HB5 : Hid (Below w.heap.size w x5) := hk5.below
    clear HS hk5
    refine done_ (by kernel_rfl) ?_
    go_wp2_with fail
    have HE := Lib.hid (root_end (A := a.val) (V := b.val) (n := leN (nearL 253 15)) (m := leN (nearL 251 31))  (by rw [HU.out]; exact nweak_mod a) (by rw [HV.out]; exact nweak_mod b) HR.out.2 HS2.out.2 (root_r0 HC1.out) HS2.out.2)
    by_cases hc2 : s2.val % Num.p = u.val % Num.p
    · have hd2 : decide (s2.val % Num.p = u.val % Num.p) = true := decide_eq_true hc2
      have HC2 := Lib.hid hc2
      clear hc2
      go_wp2_with fail
      refine (Same_any s2 u (u64_of (wk HS2.out.1)) (u64_of CX.out) _).mono ?_
      rintro e y6 ⟨rfl, hb6⟩
      obtain ⟨x6, rfl, hc6, hz6, l60, l61, l62, l63, l64⟩ := keep5 (b0 := w.heap.size) (b1 := w.heap.size + 1) (b2 := w.heap.size + 2) (b3 := b7) (b4 := b8) hb6 rfl (by (repeat (first | with_reducible exact pin_at (by assumption) | (with_reducible apply pin_at; (first | omega | (simp only [World.size_alloc, pin_size, World.size_drew, World.size_setCell] <;> omega))) | (with_reducible apply alloc_at; first | rfl | (simp only [World.size_alloc, pin_size, World.size_drew, World.size_setCell] <;> omega)) | with_reducible apply past_pin | with_reducible apply past_alloc | with_reducible apply past_drew)); all_goals (first | omega | (simp only [World.size_alloc, pin_size, World.size_drew, World.size_setCell] <;> omega))) (by (repeat (first | with_reducible exact pin_at (by assumption) | (with_reducible apply pin_at; (first | omega | (simp only [World.size_alloc, pin_size, World.size_drew, World.size_setCell] <;> omega))) | (with_reducible apply alloc_at; first | rfl | (simp only [World.size_alloc, pin_size, World.size_drew, World.size_setCell] <;> omega)) | with_reducible apply past_pin | with_reducible apply past_alloc | with_reducible apply past_drew)); all_goals (first | omega | (simp only [World.size_alloc, pin_size, World.size_drew, World.size_setCell] <;> omega))) (by (repeat (first | with_reducible exact pin_at (by assumption) | (with_reducible apply pin_at; (first | omega | (simp only [World.size_alloc, pin_size, World.size_drew, World.size_setCell] <;> omega))) | (with_reducible apply alloc_at; first | rfl | (simp only [World.size_alloc, pin_size, World.size_drew, World.size_setCell] <;> omega)) | with_reducible apply past_pin | with_reducible apply past_alloc | with_reducible apply past_drew)); all_goals (first | omega | (simp only [World.size_alloc, pin_size, World.size_drew, World.size_setCell] <;> omega))) (by (repeat (first | with_reducible exact pin_at (by assumption) | (with_reducible apply pin_at; (first | omega | (simp only [World.size_alloc, pin_size, World.size_drew, World.size_setCell] <;> omega))) | (with_reducible apply alloc_at; first | rfl | (simp only [World.size_alloc, pin_size, World.size_drew, World.size_setCell] <;> omega)) | with_reducible apply past_pin | with_reducible apply past_alloc | with_reducible apply past_drew)); all_goals (first | omega | (simp only [World.size_alloc, pin_size, World.size_drew, World.size_setCell] <;> omega))) (by (repeat (first | with_reducible exact pin_at (by assumption) | (with_reducible apply pin_at; (first | omega | (simp only [World.size_alloc, pin_size, World.size_drew, World.size_setCell] <;> omega))) | (with_reducible apply alloc_at; first | rfl | (simp only [World.size_alloc, pin_size, World.size_drew, World.size_setCell] <;> omega)) | with_reducible apply past_pin | with_reducible apply past_alloc | with_reducible apply past_drew)); all_goals (first | omega | (simp only [World.size_alloc, pin_size, World.size_drew, World.size_setCell] <;> omega)))
      have HB6 : Hid (Below w.heap.size w x6) := Below.trans (by (repeat (first | with_reducible exact HB5.out | with_reducible refine below_pin ?_ ?_ | with_reducible refine Below.alloc ?_ ?_ _ | with_reducible refine Below.setCell ?_ ?_ _ | with_reducible refine Below.drew ?_)); all_goals (first | omega | (simp only [World.size_alloc, pin_size, World.size_drew, World.size_setCell] <;> omega))) (hc6.mono (by (first | omega | (simp only [World.size_alloc, pin_size, World.size_drew, World.size_setCell] <;> omega))))
      clear hb6 hc6
      try simp only [World.size_alloc, pin_size, World.size_drew, World.size_setCell] at hz6
      go_wp2_with fail
      by_cases ho : q6.val % Num.p % 2 = 1
      · have hd3 : decide (q6.val % Num.p % 2 = 1) = true := decide_eq_true ho
        have HO := Lib.hid ho
        clear ho
        refine (Odd_any q6 (u64_of (wk HR.out.1)) _).mono ?_
        rintro e y7 ⟨rfl, hb7⟩
        obtain ⟨x7, rfl, hc7, hz7, l70, l71, l72, l73, l74⟩ := keep5 (b0 := w.heap.size) (b1 := w.heap.size + 1) (b2 := w.heap.size + 2) (b3 := b7) (b4 := b8) hb7 rfl (by (repeat (first | with_reducible exact pin_at (by assumption) | (with_reducible apply pin_at; (first | omega | (simp only [World.size_alloc, pin_size, World.size_drew, World.size_setCell] <;> omega))) | (with_reducible apply alloc_at; first | rfl | (simp only [World.size_alloc, pin_size, World.size_drew, World.size_setCell] <;> omega)) | with_reducible apply past_pin | with_reducible apply past_alloc | with_reducible apply past_drew)); all_goals (first | omega | (simp only [World.size_alloc, pin_size, World.size_drew, World.size_setCell] <;> omega))) (by (repeat (first | with_reducible exact pin_at (by assumption) | (with_reducible apply pin_at; (first | omega | (simp only [World.size_alloc, pin_size, World.size_drew, World.size_setCell] <;> omega))) | (with_reducible apply alloc_at; first | rfl | (simp only [World.size_alloc, pin_size, World.size_drew, World.size_setCell] <;> omega)) | with_reducible apply past_pin | with_reducible apply past_alloc | with_reducible apply past_drew)); all_goals (first | omega | (simp only [World.size_alloc, pin_size, World.size_drew, World.size_setCell] <;> omega))) (by (repeat (first | with_reducible exact pin_at (by assumption) | (with_reducible apply pin_at; (first | omega | (simp only [World.size_alloc, pin_size, World.size_drew, World.size_setCell] <;> omega))) | (with_reducible apply alloc_at; first | rfl | (simp only [World.size_alloc, pin_size, World.size_drew, World.size_setCell] <;> omega)) | with_reducible apply past_pin | with_reducible apply past_alloc | with_reducible apply past_drew)); all_goals (first | omega | (simp only [World.size_alloc, pin_size, World.size_drew, World.size_setCell] <;> omega))) (by (repeat (first | with_reducible exact pin_at (by assumption) | (with_reducible apply pin_at; (first | omega | (simp only [World.size_alloc, pin_size, World.size_drew, World.size_setCell] <;> omega))) | (with_reducible apply alloc_at; first | rfl | (simp only [World.size_alloc, pin_size, World.size_drew, World.size_setCell] <;> omega)) | with_reducible apply past_pin | with_reducible apply past_alloc | with_reducible apply past_drew)); all_goals (first | omega | (simp only [World.size_alloc, pin_size, World.size_drew, World.size_setCell] <;> omega))) (by (repeat (first | with_reducible exact pin_at (by assumption) | (with_reducible apply pin_at; (first | omega | (simp only [World.size_alloc, pin_size, World.size_drew, World.size_setCell] <;> omega))) | (with_reducible apply alloc_at; first | rfl | (simp only [World.size_alloc, pin_size, World.size_drew, World.size_setCell] <;> omega)) | with_reducible apply past_pin | with_reducible apply past_alloc | with_reducible apply past_drew)); all_goals (first | omega | (simp only [World.size_alloc, pin_size, World.size_drew, World.size_setCell] <;> omega)))
        have HB7 : Hid (Below w.heap.size w x7) := Below.trans (by (repeat (first | with_reducible exact HB6.out | with_reducible refine below_pin ?_ ?_ | with_reducible refine Below.alloc ?_ ?_ _ | with_reducible refine Below.setCell ?_ ?_ _ | with_reducible refine Below.drew ?_)); all_goals (first | omega | (simp only [World.size_alloc, pin_size, World.size_drew, World.size_setCell] <;> omega))) (hc7.mono (by (first | omega | (simp only [World.size_alloc, pin_size, World.size_drew, World.size_setCell] <;> omega))))
        clear hb7 hc7
        try simp only [World.size_alloc, pin_size, World.size_drew, World.size_setCell] at hz7
        go_wp2_with fail
        refine (Neg_any q6 (u64_of (wk HR.out.1)) _).mono ?_
        rintro e y8 ⟨rfl, hb8⟩
        obtain ⟨x8, rfl, hc8, hz8, l80, l81, l82, l83, l84⟩ := keep5 (b0 := w.heap.size) (b1 := w.heap.size + 1) (b2 := w.heap.size + 2) (b3 := b7) (b4 := b8) hb8 rfl (by (repeat (first | with_reducible exact pin_at (by assumption) | (with_reducible apply pin_at; (first | omega | (simp only [World.size_alloc, pin_size, World.size_drew, World.size_setCell] <;> omega))) | (with_reducible apply alloc_at; first | rfl | (simp only [World.size_alloc, pin_size, World.size_drew, World.size_setCell] <;> omega)) | with_reducible apply past_pin | with_reducible apply past_alloc | with_reducible apply past_drew)); all_goals (first | omega | (simp only [World.size_alloc, pin_size, World.size_drew, World.size_setCell] <;> omega))) (by (repeat (first | with_reducible exact pin_at (by assumption) | (with_reducible apply pin_at; (first | omega | (simp only [World.size_alloc, pin_size, World.size_drew, World.size_setCell] <;> omega))) | (with_reducible apply alloc_at; first | rfl | (simp only [World.size_alloc, pin_size, World.size_drew, World.size_setCell] <;> omega)) | with_reducible apply past_pin | with_reducible apply past_alloc | with_reducible apply past_drew)); all_goals (first | omega | (simp only [World.size_alloc, pin_size, World.size_drew, World.size_setCell] <;> omega))) (by (repeat (first | with_reducible exact pin_at (by assumption) | (with_reducible apply pin_at; (first | omega | (simp only [World.size_alloc, pin_size, World.size_drew, World.size_setCell] <;> omega))) | (with_reducible apply alloc_at; first | rfl | (simp only [World.size_alloc, pin_size, World.size_drew, World.size_setCell] <;> omega)) | with_reducible apply past_pin | with_reducible apply past_alloc | with_reducible apply past_drew)); all_goals (first | omega | (simp only [World.size_alloc, pin_size, World.size_drew, World.size_setCell] <;> omega))) (by (repeat (first | with_reducible exact pin_at (by assumption) | (with_reducible apply pin_at; (first | omega | (simp only [World.size_alloc, pin_size, World.size_drew, World.size_setCell] <;> omega))) | (with_reducible apply alloc_at; first | rfl | (simp only [World.size_alloc, pin_size, World.size_drew, World.size_setCell] <;> omega)) | with_reducible apply past_pin | with_reducible apply past_alloc | with_reducible apply past_drew)); all_goals (first | omega | (simp only [World.size_alloc, pin_size, World.size_drew, World.size_setCell] <;> omega))) (by (repeat (first | with_reducible exact pin_at (by assumption) | (with_reducible apply pin_at; (first | omega | (simp only [World.size_alloc, pin_size, World.size_drew, World.size_setCell] <;> omega))) | (with_reducible apply alloc_at; first | rfl | (simp only [World.size_alloc, pin_size, World.size_drew, World.size_setCell] <;> omega)) | with_reducible apply past_pin | with_reducible apply past_alloc | with_reducible apply past_drew)); all_goals (first | omega | (simp only [World.size_alloc, pin_size, World.size_drew, World.size_setCell] <;> omega)))
        have HB8 : Hid (Below w.heap.size w x8) := Below.trans (by (repeat (first | with_reducible exact HB7.out | with_reducible refine below_pin ?_ ?_ | with_reducible refine Below.alloc ?_ ?_ _ | with_reducible refine Below.setCell ?_ ?_ _ | with_reducible refine Below.drew ?_)); all_goals (first | omega | (simp only [World.size_alloc, pin_size, World.size_drew, World.size_setCell] <;> omega))) (hc8.mono (by (first | omega | (simp only [World.size_alloc, pin_size, World.size_drew, World.size_setCell] <;> omega))))
        clear hb8 hc8
        try simp only [World.size_alloc, pin_size, World.size_drew, World.size_setCell] at hz8
        go_wp2_with fail
        refine (reduce_nat (small (subM 0 q6.val)) (small_u _) _).mono ?_
        rintro e y9 ⟨rfl, hb9⟩
        obtain ⟨x9, rfl, hc9, hz9, l90, l91, l92, l93, l94⟩ := keep5 (b0 := w.heap.size) (b1 := w.heap.size + 1) (b2 := w.heap.size + 2) (b3 := b7) (b4 := b8) hb9 rfl (by (repeat (first | with_reducible exact pin_at (by assumption) | (with_reducible apply pin_at; (first | omega | (simp only [World.size_alloc, pin_size, World.size_drew, World.size_setCell] <;> omega))) | (with_reducible apply alloc_at; first | rfl | (simp only [World.size_alloc, pin_size, World.size_drew, World.size_setCell] <;> omega)) | with_reducible apply past_pin | with_reducible apply past_alloc | with_reducible apply past_drew)); all_goals (first | omega | (simp only [World.size_alloc, pin_size, World.size_drew, World.size_setCell] <;> omega))) (by (repeat (first | with_reducible exact pin_at (by assumption) | (with_reducible apply pin_at; (first | omega | (simp only [World.size_alloc, pin_size, World.size_drew, World.size_setCell] <;> omega))) | (with_reducible apply alloc_at; first | rfl | (simp only [World.size_alloc, pin_size, World.size_drew, World.size_setCell] <;> omega)) | with_reducible apply past_pin | with_reducible apply past_alloc | with_reducible apply past_drew)); all_goals (first | omega | (simp only [World.size_alloc, pin_size, World.size_drew, World.size_setCell] <;> omega))) (by (repeat (first | with_reducible exact pin_at (by assumption) | (with_reducible apply pin_at; (first | omega | (simp only [World.size_alloc, pin_size, World.size_drew, World.size_setCell] <;> omega))) | (with_reducible apply alloc_at; first | rfl | (simp only [World.size_alloc, pin_size, World.size_drew, World.size_setCell] <;> omega)) | with_reducible apply past_pin | with_reducible apply past_alloc | with_reducible apply past_drew)); all_goals (first | omega | (simp only [World.size_alloc, pin_size, World.size_drew, World.size_setCell] <;> omega))) (by (repeat (first | with_reducible exact pin_at (by assumption) | (with_reducible apply pin_at; (first | omega | (simp only [World.size_alloc, pin_size, World.size_drew, World.size_setCell] <;> omega))) | (with_reducible apply alloc_at; first | rfl | (simp only [World.size_alloc, pin_size, World.size_drew, World.size_setCell] <;> omega)) | with_reducible apply past_pin | with_reducible apply past_alloc | with_reducible apply past_drew)); all_goals (first | omega | (simp only [World.size_alloc, pin_size, World.size_drew, World.size_setCell] <;> omega))) (by (repeat (first | with_reducible exact pin_at (by assumption) | (with_reducible apply pin_at; (first | omega | (simp only [World.size_alloc, pin_size, World.size_drew, World.size_setCell] <;> omega))) | (with_reducible apply alloc_at; first | rfl | (simp only [World.size_alloc, pin_size, World.size_drew, World.size_setCell] <;> omega)) | with_reducible apply past_pin | with_reducible apply past_alloc | with_reducible apply past_drew)); all_goals (first | omega | (simp only [World.size_alloc, pin_size, World.size_drew, World.size_setCell] <;> omega)))
        have HB9 : Hid (Below w.heap.size w x9) := Below.trans (by (repeat (first | with_reducible exact HB8.out | with_reducible refine below_pin ?_ ?_ | with_reducible refine Below.alloc ?_ ?_ _ | with_reducible refine Below.setCell ?_ ?_ _ | with_reducible refine Below.drew ?_)); all_goals (first | omega | (simp only [World.size_alloc, pin_size, World.size_drew, World.size_setCell] <;> omega))) (hc9.mono (by (first | omega | (simp only [World.size_alloc, pin_size, World.size_drew, World.size_setCell] <;> omega))))
        clear hb9 hc9
        try simp only [World.size_alloc, pin_size, World.size_drew, World.size_setCell] at hz9
        go_wp2_with fail
        refine bodyPost_ret (v := .tuple #[(small (small (subM 0 q6.val)).val).v, .bool true]) ?_ rfl ?_
        · simp [results, Tryd.results18, go_sem, l10, l11, l12, l20, l21, l22, l23, hl20, hl21, hl22, l30, l31, l32, l33, l34, hl30, hl31, hl32, hl33, l40, l41, l42, l43, l44, hl40, hl41, hl42, hl43, l50, l51, l52, l53, l54, l60, l61, l62, l63, l64, l70, l71, l72, l73, l74, l80, l81, l82, l83, l84, l90, l91, l92, l93, l94]
        · exact ⟨root_odd HE.out HC2.out HO.out, (by (repeat (first | with_reducible exact HB9.out | with_reducible refine below_pin ?_ ?_ | with_reducible refine Below.alloc ?_ ?_ _ | with_reducible refine Below.setCell ?_ ?_ _ | with_reducible refine Below.drew ?_)); all_goals (first | omega | (simp only [World.size_alloc, pin_size, World.size_drew, World.size_setCell] <;> omega)))⟩
      · have hd3 : decide (q6.val % Num.p % 2 = 1) = false := decide_eq_false ho
        have HO := Lib.hid ho
        clear ho
        refine (Odd_any q6 (u64_of (wk HR.out.1)) _).mono ?_
        rintro e y7 ⟨rfl, hb7⟩
        obtain ⟨x7, rfl, hc7, hz7, l70, l71, l72, l73, l74⟩ := keep5 (b0 := w.heap.size) (b1 := w.heap.size + 1) (b2 := w.heap.size + 2) (b3 := b7) (b4 := b8) hb7 rfl (by (repeat (first | with_reducible exact pin_at (by assumption) | (with_reducible apply pin_at; (first | omega | (simp only [World.size_alloc, pin_size, World.size_drew, World.size_setCell] <;> omega))) | (with_reducible apply alloc_at; first | rfl | (simp only [World.size_alloc, pin_size, World.size_drew, World.size_setCell] <;> omega)) | with_reducible apply past_pin | with_reducible apply past_alloc | with_reducible apply past_drew)); all_goals (first | omega | (simp only [World.size_alloc, pin_size, World.size_drew, World.size_setCell] <;> omega))) (by (repeat (first | with_reducible exact pin_at (by assumption) | (with_reducible apply pin_at; (first | omega | (simp only [World.size_alloc, pin_size, World.size_drew, World.size_setCell] <;> omega))) | (with_reducible apply alloc_at; first | rfl | (simp only [World.size_alloc, pin_size, World.size_drew, World.size_setCell] <;> omega)) | with_reducible apply past_pin | with_reducible apply past_alloc | with_reducible apply past_drew)); all_goals (first | omega | (simp only [World.size_alloc, pin_size, World.size_drew, World.size_setCell] <;> omega))) (by (repeat (first | with_reducible exact pin_at (by assumption) | (with_reducible apply pin_at; (first | omega | (simp only [World.size_alloc, pin_size, World.size_drew, World.size_setCell] <;> omega))) | (with_reducible apply alloc_at; first | rfl | (simp only [World.size_alloc, pin_size, World.size_drew, World.size_setCell] <;> omega)) | with_reducible apply past_pin | with_reducible apply past_alloc | with_reducible apply past_drew)); all_goals (first | omega | (simp only [World.size_alloc, pin_size, World.size_drew, World.size_setCell] <;> omega))) (by (repeat (first | with_reducible exact pin_at (by assumption) | (with_reducible apply pin_at; (first | omega | (simp only [World.size_alloc, pin_size, World.size_drew, World.size_setCell] <;> omega))) | (with_reducible apply alloc_at; first | rfl | (simp only [World.size_alloc, pin_size, World.size_drew, World.size_setCell] <;> omega)) | with_reducible apply past_pin | with_reducible apply past_alloc | with_reducible apply past_drew)); all_goals (first | omega | (simp only [World.size_alloc, pin_size, World.size_drew, World.size_setCell] <;> omega))) (by (repeat (first | with_reducible exact pin_at (by assumption) | (with_reducible apply pin_at; (first | omega | (simp only [World.size_alloc, pin_size, World.size_drew, World.size_setCell] <;> omega))) | (with_reducible apply alloc_at; first | rfl | (simp only [World.size_alloc, pin_size, World.size_drew, World.size_setCell] <;> omega)) | with_reducible apply past_pin | with_reducible apply past_alloc | with_reducible apply past_drew)); all_goals (first | omega | (simp only [World.size_alloc, pin_size, World.size_drew, World.size_setCell] <;> omega)))
        have HB7 : Hid (Below w.heap.size w x7) := Below.trans (by (repeat (first | with_reducible exact HB6.out | with_reducible refine below_pin ?_ ?_ | with_reducible refine Below.alloc ?_ ?_ _ | with_reducible refine Below.setCell ?_ ?_ _ | with_reducible refine Below.drew ?_)); all_goals (first | omega | (simp only [World.size_alloc, pin_size, World.size_drew, World.size_setCell] <;> omega))) (hc7.mono (by (first | omega | (simp only [World.size_alloc, pin_size, World.size_drew, World.size_setCell] <;> omega))))
        clear hb7 hc7
        try simp only [World.size_alloc, pin_size, World.size_drew, World.size_setCell] at hz7
        go_wp2_with fail
        refine (reduce_nat q6 (u64_of (wk HR.out.1)) _).mono ?_
        rintro e y8 ⟨rfl, hb8⟩
        obtain ⟨x8, rfl, hc8, hz8, l80, l81, l82, l83, l84⟩ := keep5 (b0 := w.heap.size) (b1 := w.heap.size + 1) (b2 := w.heap.size + 2) (b3 := b7) (b4 := b8) hb8 rfl (by (repeat (first | with_reducible exact pin_at (by assumption) | (with_reducible apply pin_at; (first | omega | (simp only [World.size_alloc, pin_size, World.size_drew, World.size_setCell] <;> omega))) | (with_reducible apply alloc_at; first | rfl | (simp only [World.size_alloc, pin_size, World.size_drew, World.size_setCell] <;> omega)) | with_reducible apply past_pin | with_reducible apply past_alloc | with_reducible apply past_drew)); all_goals (first | omega | (simp only [World.size_alloc, pin_size, World.size_drew, World.size_setCell] <;> omega))) (by (repeat (first | with_reducible exact pin_at (by assumption) | (with_reducible apply pin_at; (first | omega | (simp only [World.size_alloc, pin_size, World.size_drew, World.size_setCell] <;> omega))) | (with_reducible apply alloc_at; first | rfl | (simp only [World.size_alloc, pin_size, World.size_drew, World.size_setCell] <;> omega)) | with_reducible apply past_pin | with_reducible apply past_alloc | with_reducible apply past_drew)); all_goals (first | omega | (simp only [World.size_alloc, pin_size, World.size_drew, World.size_setCell] <;> omega))) (by (repeat (first | with_reducible exact pin_at (by assumption) | (with_reducible apply pin_at; (first | omega | (simp only [World.size_alloc, pin_size, World.size_drew, World.size_setCell] <;> omega))) | (with_reducible apply alloc_at; first | rfl | (simp only [World.size_alloc, pin_size, World.size_drew, World.size_setCell] <;> omega)) | with_reducible apply past_pin | with_reducible apply past_alloc | with_reducible apply past_drew)); all_goals (first | omega | (simp only [World.size_alloc, pin_size, World.size_drew, World.size_setCell] <;> omega))) (by (repeat (first | with_reducible exact pin_at (by assumption) | (with_reducible apply pin_at; (first | omega | (simp only [World.size_alloc, pin_size, World.size_drew, World.size_setCell] <;> omega))) | (with_reducible apply alloc_at; first | rfl | (simp only [World.size_alloc, pin_size, World.size_drew, World.size_setCell] <;> omega)) | with_reducible apply past_pin | with_reducible apply past_alloc | with_reducible apply past_drew)); all_goals (first | omega | (simp only [World.size_alloc, pin_size, World.size_drew, World.size_setCell] <;> omega))) (by (repeat (first | with_reducible exact pin_at (by assumption) | (with_reducible apply pin_at; (first | omega | (simp only [World.size_alloc, pin_size, World.size_drew, World.size_setCell] <;> omega))) | (with_reducible apply alloc_at; first | rfl | (simp only [World.size_alloc, pin_size, World.size_drew, World.size_setCell] <;> omega)) | with_reducible apply past_pin | with_reducible apply past_alloc | with_reducible apply past_drew)); all_goals (first | omega | (simp only [World.size_alloc, pin_size, World.size_drew, World.size_setCell] <;> omega)))
        have HB8 : Hid (Below w.heap.size w x8) := Below.trans (by (repeat (first | with_reducible exact HB7.out | with_reducible refine below_pin ?_ ?_ | with_reducible refine Below.alloc ?_ ?_ _ | with_reducible refine Below.setCell ?_ ?_ _ | with_reducible refine Below.drew ?_)); all_goals (first | omega | (simp only [World.size_alloc, pin_size, World.size_drew, World.size_setCell] <;> omega))) (hc8.mono (by (first | omega | (simp only [World.size_alloc, pin_size, World.size_drew, World.size_setCell] <;> omega))))
        clear hb8 hc8
        try simp only [World.size_alloc, pin_size, World.size_drew, World.size_setCell] at hz8
        go_wp2_with fail
        refine bodyPost_ret (v := .tuple #[(small q6.val).v, .bool true]) ?_ rfl ?_
        · simp [results, Tryd.results18, go_sem, l10, l11, l12, l20, l21, l22, l23, hl20, hl21, hl22, l30, l31, l32, l33, l34, hl30, hl31, hl32, hl33, l40, l41, l42, l43, l44, hl40, hl41, hl42, hl43, l50, l51, l52, l53, l54, l60, l61, l62, l63, l64, l70, l71, l72, l73, l74, l80, l81, l82, l83, l84]
        · exact ⟨root_even HE.out HC2.out HO.out, (by (repeat (first | with_reducible exact HB8.out | with_reducible refine below_pin ?_ ?_ | with_reducible refine Below.alloc ?_ ?_ _ | with_reducible refine Below.setCell ?_ ?_ _ | with_reducible refine Below.drew ?_)); all_goals (first | omega | (simp only [World.size_alloc, pin_size, World.size_drew, World.size_setCell] <;> omega)))⟩
    · have hd2 : decide (s2.val % Num.p = u.val % Num.p) = false := decide_eq_false hc2
      have HC2 := Lib.hid hc2
      clear hc2
      go_wp2_with fail
      refine (Same_any s2 u (u64_of (wk HS2.out.1)) (u64_of CX.out) _).mono ?_
      rintro e y6 ⟨rfl, hb6⟩
      obtain ⟨x6, rfl, hc6, hz6, l60, l61, l62, l63, l64⟩ := keep5 (b0 := w.heap.size) (b1 := w.heap.size + 1) (b2 := w.heap.size + 2) (b3 := b7) (b4 := b8) hb6 rfl (by (repeat (first | with_reducible exact pin_at (by assumption) | (with_reducible apply pin_at; (first | omega | (simp only [World.size_alloc, pin_size, World.size_drew, World.size_setCell] <;> omega))) | (with_reducible apply alloc_at; first | rfl | (simp only [World.size_alloc, pin_size, World.size_drew, World.size_setCell] <;> omega)) | with_reducible apply past_pin | with_reducible apply past_alloc | with_reducible apply past_drew)); all_goals (first | omega | (simp only [World.size_alloc, pin_size, World.size_drew, World.size_setCell] <;> omega))) (by (repeat (first | with_reducible exact pin_at (by assumption) | (with_reducible apply pin_at; (first | omega | (simp only [World.size_alloc, pin_size, World.size_drew, World.size_setCell] <;> omega))) | (with_reducible apply alloc_at; first | rfl | (simp only [World.size_alloc, pin_size, World.size_drew, World.size_setCell] <;> omega)) | with_reducible apply past_pin | with_reducible apply past_alloc | with_reducible apply past_drew)); all_goals (first | omega | (simp only [World.size_alloc, pin_size, World.size_drew, World.size_setCell] <;> omega))) (by (repeat (first | with_reducible exact pin_at (by assumption) | (with_reducible apply pin_at; (first | omega | (simp only [World.size_alloc, pin_size, World.size_drew, World.size_setCell] <;> omega))) | (with_reducible apply alloc_at; first | rfl | (simp only [World.size_alloc, pin_size, World.size_drew, World.size_setCell] <;> omega)) | with_reducible apply past_pin | with_reducible apply past_alloc | with_reducible apply past_drew)); all_goals (first | omega | (simp only [World.size_alloc, pin_size, World.size_drew, World.size_setCell] <;> omega))) (by (repeat (first | with_reducible exact pin_at (by assumption) | (with_reducible apply pin_at; (first | omega | (simp only [World.size_alloc, pin_size, World.size_drew, World.size_setCell] <;> omega))) | (with_reducible apply alloc_at; first | rfl | (simp only [World.size_alloc, pin_size, World.size_drew, World.size_setCell] <;> omega)) | with_reducible apply past_pin | with_reducible apply past_alloc | with_reducible apply past_drew)); all_goals (first | omega | (simp only [World.size_alloc, pin_size, World.size_drew, World.size_setCell] <;> omega))) (by (repeat (first | with_reducible exact pin_at (by assumption) | (with_reducible apply pin_at; (first | omega | (simp only [World.size_alloc, pin_size, World.size_drew, World.size_setCell] <;> omega))) | (with_reducible apply alloc_at; first | rfl | (simp only [World.size_alloc, pin_size, World.size_drew, World.size_setCell] <;> omega)) | with_reducible apply past_pin | with_reducible apply past_alloc | with_reducible apply past_drew)); all_goals (first | omega | (simp only [World.size_alloc, pin_size, World.size_drew, World.size_setCell] <;> omega)))
      have HB6 : Hid (Below w.heap.size w x6) := Below.trans (by (repeat (first | with_reducible exact HB5.out | with_reducible refine below_pin ?_ ?_ | with_reducible refine Below.alloc ?_ ?_ _ | with_reducible refine Below.setCell ?_ ?_ _ | with_reducible refine Below.drew ?_)); all_goals (first | omega | (simp only [World.size_alloc, pin_size, World.size_drew, World.size_setCell] <;> omega))) (hc6.mono (by (first | omega | (simp only [World.size_alloc, pin_size, World.size_drew, World.size_setCell] <;> omega))))
      clear hb6 hc6
      try simp only [World.size_alloc, pin_size, World.size_drew, World.size_setCell] at hz6
      go_wp2_with fail
      refine bodyPost_ret (v := .tuple #[(⟨0, 0, 0, 0, 0⟩ : Fn).v, .bool false]) ?_ rfl ?_
      · simp [results, Tryd.results18, go_sem, l10, l11, l12, l20, l21, l22, l23, hl20, hl21, hl22, l30, l31, l32, l33, l34, hl30, hl31, hl32, hl33, l40, l41, l42, l43, l44, hl40, hl41, hl42, hl43, l50, l51, l52, l53, l54, l60, l61, l62, l63, l64]
      · exact ⟨root_none HE.out HC2.out, (by (repeat (first | with_reducible exact HB6.out | with_reducible refine below_pin ?_ ?_ | with_reducible refine Below.alloc ?_ ?_ _ | with_reducible refine Below.setCell ?_ ?_ _ | with_reducible refine Below.drew ?_)); all_goals (first | omega | (simp only [World.size_alloc, pin_size, World.size_drew, World.size_setCell] <;> omega)))⟩

end Go.Proofs.YtljolpdpblohcaaDoor
