/-
  Shared, part 14: walks and plain laws; each theorem states its own conditions.
-/
import Derived.Test.YtehfkbaendajbaaGreatDoorB13
namespace Go.Proofs.YtehfkbaendajbaaGreatDoor
set_option linter.unusedSimpArgs false
set_option linter.unusedVariables false
set_option maxRecDepth 100000
set_option maxHeartbeats 8000000
section
open Go.RowKit Go.Proofs.YtehfkbaendajbaaGreatDoorW.PrintLast
theorem Rz (a b : Fn) (hx : a.lt 18446744073709551616) (hy : b.lt 18446744073709551616) (w : World) :
 Calls Tryz.prog 55 #[a.v, b.v] w fun e w' => e = .returned (.tuple #[(small (dS (bW (iq 253 15)) (bW (iq 251 31)) a.val b.val)).v, .bool (decide (cO (bW (iq 253 15)) (bW (iq 251 31)) a.val b.val))]) ∧ Below w.heap.size w w' := by
 have CX0 := Lib.hid hx
 have CY0 := Lib.hid hy
 obtain ⟨u, hu⟩ : ∃ u, u = lK a := ⟨_, rfl⟩
 obtain ⟨v0, hv0⟩ : ∃ v, v = lK b := ⟨_, rfl⟩
 have CX := Lib.hid (show u.lt 4503599627370496 by rw [hu]; exact kG a hx)
 have CY := Lib.hid (show v0.lt 4503599627370496 by rw [hv0]; exact kG b hy)
 have HU := Lib.hid hu
 have HV := Lib.hid hv0
 have CWA : ∀ w, Calls Tryz.prog 77 #[a.v] w fun e w' => e = .returned u.v ∧ Below w.heap.size w w' := fun w => by rw [hu]; exact kM a hx w
 have CWB : ∀ w, Calls Tryz.prog 77 #[b.v] w fun e w' => e = .returned v0.v ∧ Below w.heap.size w w' := fun w => by rw [hv0]; exact kM b hy w
 have HCA := Lib.hid CWA
 have HCB := Lib.hid CWB
 clear hx hy hu hv0 CWA CWB
 go_enter Tryz.func55, Tryz.ntmps55
 go_wp2_with fail
 refine st1 w [4, 5] 6 (ak (b := w.heap.size) ob (ak (b := w.heap.size + 1) ob (ak (b := w.heap.size + 2) ob (aO (pl (Below.refl _ _)))))) (fun HS => ?_)
 refine tk3 0 (some 9) HS (h := ?_)
 refine tk3 2 (some 11) HS (h := ?_)
 refine dH 1 (some 10) (h := fun K hK => ?_)
 go_simp
 refine (HCA.out _).mono ?_
 rintro e y ⟨rfl, hb⟩
 refine hK.out _ _ (HS.step hb rfl) ?_
 clear HS hb
 intro HS
 refine dH 3 (some 12) (h := fun K hK => ?_)
 go_simp
 refine (HCB.out _).mono ?_
 rintro e y ⟨rfl, hb⟩
 refine hK.out _ _ (HS.step hb rfl) ?_
 clear HS hb
 intro HS
 obtain ⟨x1, rfl, hk1, hz1, l10, nG, l12⟩ := HS.eG
 have HB1 : Hid (Below w.heap.size w x1) := hk1.below
 clear HS hk1
 refine pO 4 none (h := fun K hK => ?_)
 go_simp
 refine hK.out _ _ ?_
 refine pO 5 none (h := fun K hK => ?_)
 go_simp
 refine hK.out _ _ ?_
 refine done_ (by kernel_rfl) ?_
 go_wp2_with fail
 refine vN (σ := Fn × Fn × Nat) (fun s => match s with | (r1, r2, b6) => [(13, v0.v), (14, v0.v), (15, r1.v), (16, v0.v), (17, r2.v), (6, .pointer (some ⟨b6, 0, none⟩))]) (fun s v => match s with | (r1, r2, b6) => Hid (r2.lt (2251799813685248 + 19) ∧ r2.val % Num.p = v0.val * v0.val * v0.val % Num.p) ∧ w.heap.size < b6 ∧ w.heap.size + 1 < b6 ∧ w.heap.size + 2 < b6 ∧ Keeps w [(b6, .cells #[.int .u64 r2.a, .int .u64 r2.b, .int .u64 r2.c, .int .u64 r2.d, .int .u64 r2.e] 36), (w.heap.size, .cells #[.int .u64 u.a, .int .u64 u.b, .int .u64 u.c, .int .u64 u.d, .int .u64 u.e] 36), (w.heap.size + 1, .cells #[.int .u64 v0.a, .int .u64 v0.b, .int .u64 v0.c, .int .u64 v0.d, .int .u64 v0.e] 36), (w.heap.size + 2, .cells #[.int .u64 0, .int .u64 0, .int .u64 0, .int .u64 0, .int .u64 0] 36)] v) ?_ ?_
 · refine LC (S := Keeps w _) (ds := [6]) (n := 7) #[false, false, false, false, false, false, false] (by kernel_rfl) rfl rfl (ak (b := w.heap.size) (o := .cells #[.int .u64 u.a, .int .u64 u.b, .int .u64 u.c, .int .u64 u.d, .int .u64 u.e] 36) ob (ak (b := w.heap.size + 1) (o := .cells #[.int .u64 v0.a, .int .u64 v0.b, .int .u64 v0.c, .int .u64 v0.d, .int .u64 v0.e] 36) ob (ak (b := w.heap.size + 2) (o := .cells #[.int .u64 0, .int .u64 0, .int .u64 0, .int .u64 0, .int .u64 0] 36) ob (aO (pl HB1.out))))) (fun y HS => ?_)
   refine take_ #[true, false, false, false, false, false, false] (i := 0) (N := some 13) (v := ?v3) rfl rfl (by kernel_rfl) (fun _ _ _ h => nomatch h.1) (Or.inl ⟨by rfl, ?hy3⟩) HS rfl ?_
   case hy3 => (intro v hv; obtain ⟨x, rfl, _, _, n0, n1, n2⟩ := hv.eG; go_simp; first | done | with_reducible rfl)
   simp only [Act.put, List.setIfInBounds_toArray, List.set_cons_zero, List.set_cons_succ]
   refine take_ #[true, true, false, false, false, false, false] (i := 1) (N := some 14) (v := ?v4) rfl rfl (by kernel_rfl) (fun _ _ _ h => nomatch h.1) (Or.inl ⟨by rfl, ?hy4⟩) HS rfl ?_
   case hy4 => (intro v hv; obtain ⟨x, rfl, _, _, n0, n1, n2⟩ := hv.eG; go_simp; first | done | with_reducible rfl)
   simp only [Act.put, List.setIfInBounds_toArray, List.set_cons_zero, List.set_cons_succ]
   refine take_ #[true, true, false, true, false, false, false] (i := 3) (N := some 16) (v := ?v5) rfl rfl (by kernel_rfl) (fun _ _ _ h => nomatch h.1) (Or.inl ⟨by rfl, ?Ul⟩) HS rfl ?_
   case Ul => (intro v hv; obtain ⟨x, rfl, _, _, n0, n1, n2⟩ := hv.eG; go_simp; first | done | with_reducible rfl)
   simp only [Act.put, List.setIfInBounds_toArray, List.set_cons_zero, List.set_cons_succ]
   refine two_ #[true, true, true, true, false, false, false] #[true, true, false, true, false, true, false] (i := 2) (j := 5) (Ni := some 15) (Nj := some 6) rfl rfl rfl rfl (by kernel_rfl) (by decide) (by decide) (fun K hK => ?_) (fun K hK => ?_)
   · go_simp
     refine (mul_any v0 v0 CY.out CY.out _).mono ?_
     rintro e y ⟨⟨r1, Uc, Ud, rfl⟩, hb⟩
     refine hK.out _ _ (HS.step hb rfl) ?_
     clear HS
     intro HS
     clear hb
     have Hr1 := Lib.hid (And.intro Uc Ud)
     clear Uc Ud
     refine two_ #[true, true, true, true, true, false, false] #[true, true, true, true, false, true, false] (i := 4) (j := 5) (Ni := some 17) (Nj := some 6) rfl rfl rfl rfl (by kernel_rfl) (by decide) (by decide) (fun K hK => ?_) (fun K hK => ?_)
     · go_simp
       refine (mul_any r1 v0 (wk Hr1.out.1) CY.out _).mono ?_
       rintro e y ⟨⟨r2, Ik, Il, rfl⟩, hb⟩
       refine hK.out _ _ (HS.step hb rfl) ?_
       clear HS
       intro HS
       clear hb
       have Zr := Lib.hid (And.intro Ik Il)
       clear Ik Il
       refine dH 5 (some 6) (h := fun K hK => ?_)
       go_simp
       obtain ⟨b6, hbn⟩ : ∃ b, b = y.heap.size := ⟨_, rfl⟩
       have hl0 : w.heap.size < b6 := by rw [hbn]; exact HS.lt _ (by exact List.mem_cons_self)
       have hl1 : w.heap.size + 1 < b6 := by rw [hbn]; exact HS.lt _ (by exact List.mem_cons_of_mem _ (List.mem_cons_self))
       have hl2 : w.heap.size + 2 < b6 := by rw [hbn]; exact HS.lt _ (by exact List.mem_cons_of_mem _ (List.mem_cons_of_mem _ (List.mem_cons_self)))
       obtain ⟨HS', HT⟩ := HS.new (o := .cells #[.int .u64 0, .int .u64 0, .int .u64 0, .int .u64 0, .int .u64 0] 36)
       refine hK.out _ _ HS' ?_
       clear HS HS'
       intro HS
       try replace fM := Lib.hid (fM.out.mono (Below.alloc (Below.refl y.heap.size y) (Nat.le_refl _) (.cells #[.int .u64 0, .int .u64 0, .int .u64 0, .int .u64 0, .int .u64 0] 36)) (Nat.le_refl _))
       rw [← hbn] at HT ⊢
       clear hbn
       obtain ⟨y2, hy2⟩ : ∃ z, z = y.alloc (.cells #[.int .u64 0, .int .u64 0, .int .u64 0, .int .u64 0, .int .u64 0] 36) := ⟨_, rfl⟩
       rw [← hy2] at HS HT ⊢
       try rw [← hy2] at fM
       clear hy2
       obtain ⟨x, rfl, hk, hz, m0, m1, m2, m3⟩ := HT.iO
       clear HS
       refine pO 6 none (h := fun K hK => ?_)
       go_simp
       refine hK.out _ _ ?_
       refine done_ (by kernel_rfl) ?_
       refine ⟨rfl, (r1, r2, b6), by simp only [puts, Act.put, List.setIfInBounds_toArray, List.set_cons_zero, List.set_cons_succ], ⟨Zr.out.1, iF Hr1.out.2 rfl Zr.out.2⟩, hl0, hl1, hl2, ?_⟩
       exact ak (b := b6) ob (ak (b := w.heap.size) ob (ak (b := w.heap.size + 1) ob (ak (b := w.heap.size + 2) ob (aO (pl hk.below)))))
     · go_simp
       obtain ⟨b6, hbn⟩ : ∃ b, b = y.heap.size := ⟨_, rfl⟩
       have hl0 : w.heap.size < b6 := by rw [hbn]; exact HS.lt _ (by exact List.mem_cons_self)
       have hl1 : w.heap.size + 1 < b6 := by rw [hbn]; exact HS.lt _ (by exact List.mem_cons_of_mem _ (List.mem_cons_self))
       have hl2 : w.heap.size + 2 < b6 := by rw [hbn]; exact HS.lt _ (by exact List.mem_cons_of_mem _ (List.mem_cons_of_mem _ (List.mem_cons_self)))
       obtain ⟨HS', HT⟩ := HS.new (o := .cells #[.int .u64 0, .int .u64 0, .int .u64 0, .int .u64 0, .int .u64 0] 36)
       refine hK.out _ _ HS' ?_
       clear HS HS'
       intro HS
       try replace fM := Lib.hid (fM.out.mono (Below.alloc (Below.refl y.heap.size y) (Nat.le_refl _) (.cells #[.int .u64 0, .int .u64 0, .int .u64 0, .int .u64 0, .int .u64 0] 36)) (Nat.le_refl _))
       rw [← hbn] at HT ⊢
       clear hbn
       obtain ⟨y2, hy2⟩ : ∃ z, z = y.alloc (.cells #[.int .u64 0, .int .u64 0, .int .u64 0, .int .u64 0, .int .u64 0] 36) := ⟨_, rfl⟩
       rw [← hy2] at HS HT ⊢
       try rw [← hy2] at fM
       clear hy2
       refine dH 4 (some 17) (h := fun K hK => ?_)
       go_simp
       refine (mul_any r1 v0 (wk Hr1.out.1) CY.out _).mono ?_
       rintro e y ⟨⟨r2, Ik, Il, rfl⟩, hb⟩
       refine hK.out _ _ (HS.step hb rfl) ?_
       clear HS
       intro HS
       replace HT := HT.step hb rfl
       clear hb
       have Zr := Lib.hid (And.intro Ik Il)
       clear Ik Il
       obtain ⟨x, rfl, hk, hz, m0, m1, m2, m3⟩ := HT.iO
       clear HS
       refine pO 6 none (h := fun K hK => ?_)
       go_simp
       refine hK.out _ _ ?_
       refine done_ (by kernel_rfl) ?_
       refine ⟨rfl, (r1, r2, b6), by simp only [puts, Act.put, List.setIfInBounds_toArray, List.set_cons_zero, List.set_cons_succ], ⟨Zr.out.1, iF Hr1.out.2 rfl Zr.out.2⟩, hl0, hl1, hl2, ?_⟩
       exact ak (b := b6) ob (ak (b := w.heap.size) ob (ak (b := w.heap.size + 1) ob (ak (b := w.heap.size + 2) ob (aO (pl hk.below)))))
   · go_simp
     obtain ⟨b6, hbn⟩ : ∃ b, b = y.heap.size := ⟨_, rfl⟩
     have hl0 : w.heap.size < b6 := by rw [hbn]; exact HS.lt _ (by exact List.mem_cons_self)
     have hl1 : w.heap.size + 1 < b6 := by rw [hbn]; exact HS.lt _ (by exact List.mem_cons_of_mem _ (List.mem_cons_self))
     have hl2 : w.heap.size + 2 < b6 := by rw [hbn]; exact HS.lt _ (by exact List.mem_cons_of_mem _ (List.mem_cons_of_mem _ (List.mem_cons_self)))
     obtain ⟨HS', HT⟩ := HS.new (o := .cells #[.int .u64 0, .int .u64 0, .int .u64 0, .int .u64 0, .int .u64 0] 36)
     refine hK.out _ _ HS' ?_
     clear HS HS'
     intro HS
     try replace fM := Lib.hid (fM.out.mono (Below.alloc (Below.refl y.heap.size y) (Nat.le_refl _) (.cells #[.int .u64 0, .int .u64 0, .int .u64 0, .int .u64 0, .int .u64 0] 36)) (Nat.le_refl _))
     rw [← hbn] at HT ⊢
     clear hbn
     obtain ⟨y2, hy2⟩ : ∃ z, z = y.alloc (.cells #[.int .u64 0, .int .u64 0, .int .u64 0, .int .u64 0, .int .u64 0] 36) := ⟨_, rfl⟩
     rw [← hy2] at HS HT ⊢
     try rw [← hy2] at fM
     clear hy2
     refine dH 2 (some 15) (h := fun K hK => ?_)
     go_simp
     refine (mul_any v0 v0 CY.out CY.out _).mono ?_
     rintro e y ⟨⟨r1, Uc, Ud, rfl⟩, hb⟩
     refine hK.out _ _ (HS.step hb rfl) ?_
     clear HS
     intro HS
     replace HT := HT.step hb rfl
     clear hb
     have Hr1 := Lib.hid (And.intro Uc Ud)
     clear Uc Ud
     refine dH 4 (some 17) (h := fun K hK => ?_)
     go_simp
     refine (mul_any r1 v0 (wk Hr1.out.1) CY.out _).mono ?_
     rintro e y ⟨⟨r2, Ik, Il, rfl⟩, hb⟩
     refine hK.out _ _ (HS.step hb rfl) ?_
     clear HS
     intro HS
     replace HT := HT.step hb rfl
     clear hb
     have Zr := Lib.hid (And.intro Ik Il)
     clear Ik Il
     obtain ⟨x, rfl, hk, hz, m0, m1, m2, m3⟩ := HT.iO
     clear HS
     refine pO 6 none (h := fun K hK => ?_)
     go_simp
     refine hK.out _ _ ?_
     refine done_ (by kernel_rfl) ?_
     refine ⟨rfl, (r1, r2, b6), by simp only [puts, Act.put, List.setIfInBounds_toArray, List.set_cons_zero, List.set_cons_succ], ⟨Zr.out.1, iF Hr1.out.2 rfl Zr.out.2⟩, hl0, hl1, hl2, ?_⟩
     exact ak (b := b6) ob (ak (b := w.heap.size) ob (ak (b := w.heap.size + 1) ob (ak (b := w.heap.size + 2) ob (aO (pl hk.below)))))
 rintro ⟨r1, r2, b6⟩ v ⟨hpr, OX, OY, OZ, HK⟩
 simp only [puts, Act.put, List.setIfInBounds_toArray, List.set_cons_zero, List.set_cons_succ]
 obtain ⟨x2, rfl, hk, hz2, kD, rQ, Gh, UE⟩ := HK.iO
 have HB2 : Hid (Below w.heap.size w x2) := hk.below
 clear HK hk
 have uh := hpr
 clear hpr
 go_wp2_with fail
 refine vN (σ := Option Addr × Nat × Fn × Fn × Fn × Fn × Fn × Fn × Nat) (fun s => match s with | (A, c, q1, q2, q3, q4, q5, q6, b7) => [(18, u.v), (19, r2.v), (20, q1.v), (21, r2.v), (22, r2.v), (23, q2.v), (24, v0.v), (25, q3.v), (26, u.v), (27, q4.v), (28, .slice A 32 c), (29, q5.v), (30, q6.v), (7, .pointer (some ⟨b7, 0, none⟩))]) (fun s v => match s with | (A, c, q1, q2, q3, q4, q5, q6, b7) => Hid (q6.lt (2251799813685248 + 19) ∧ q6.val % Num.p = u.val * (v0.val * v0.val * v0.val) * ((v0.val * v0.val * v0.val) * (v0.val * v0.val * v0.val) * v0.val * u.val) ^ bW (iq 253 15) % Num.p) ∧ w.heap.size < b7 ∧ w.heap.size + 1 < b7 ∧ w.heap.size + 2 < b7 ∧ b6 < b7 ∧ Keeps w [(b7, .cells #[.int .u64 q6.a, .int .u64 q6.b, .int .u64 q6.c, .int .u64 q6.d, .int .u64 q6.e] 36), (w.heap.size, .cells #[.int .u64 u.a, .int .u64 u.b, .int .u64 u.c, .int .u64 u.d, .int .u64 u.e] 36), (w.heap.size + 1, .cells #[.int .u64 v0.a, .int .u64 v0.b, .int .u64 v0.c, .int .u64 v0.d, .int .u64 v0.e] 36), (w.heap.size + 2, .cells #[.int .u64 0, .int .u64 0, .int .u64 0, .int .u64 0, .int .u64 0] 36), (b6, .cells #[.int .u64 r2.a, .int .u64 r2.b, .int .u64 r2.c, .int .u64 r2.d, .int .u64 r2.e] 36)] v) ?_ ?_
 · refine LC (S := Keeps w _) (ds := [14]) (n := 15) #[false, false, false, false, false, false, false, false, false, false, false, false, false, false, false] (by kernel_rfl) rfl rfl (ak (b := w.heap.size) (o := .cells #[.int .u64 u.a, .int .u64 u.b, .int .u64 u.c, .int .u64 u.d, .int .u64 u.e] 36) ob (ak (b := w.heap.size + 1) (o := .cells #[.int .u64 v0.a, .int .u64 v0.b, .int .u64 v0.c, .int .u64 v0.d, .int .u64 v0.e] 36) ob (ak (b := w.heap.size + 2) (o := .cells #[.int .u64 0, .int .u64 0, .int .u64 0, .int .u64 0, .int .u64 0] 36) ob (ak (b := b6) (o := .cells #[.int .u64 r2.a, .int .u64 r2.b, .int .u64 r2.c, .int .u64 r2.d, .int .u64 r2.e] 36) ob (aO (pl HB2.out)))))) (fun y HS => ?_)
   refine take_ #[true, false, false, false, false, false, false, false, false, false, false, false, false, false, false] (i := 0) (N := some 18) (v := ?v6) rfl rfl (by kernel_rfl) (fun _ _ _ h => nomatch h.1) (Or.inl ⟨by rfl, ?Pj⟩) HS rfl ?_
   case Pj => (intro v hv; obtain ⟨x, rfl, _, _, n0, n1, n2, n3⟩ := hv.iO; go_simp; first | done | with_reducible rfl)
   simp only [Act.put, List.setIfInBounds_toArray, List.set_cons_zero, List.set_cons_succ]
   refine take_ #[true, true, false, false, false, false, false, false, false, false, false, false, false, false, false] (i := 1) (N := some 19) (v := ?v7) rfl rfl (by kernel_rfl) (fun _ _ _ h => nomatch h.1) (Or.inl ⟨by rfl, ?Um⟩) HS rfl ?_
   case Um => (intro v hv; obtain ⟨x, rfl, _, _, n0, n1, n2, n3⟩ := hv.iO; go_simp; first | done | with_reducible rfl)
   simp only [Act.put, List.setIfInBounds_toArray, List.set_cons_zero, List.set_cons_succ]
   refine take_ #[true, true, false, true, false, false, false, false, false, false, false, false, false, false, false] (i := 3) (N := some 21) (v := ?v8) rfl rfl (by kernel_rfl) (fun _ _ _ h => nomatch h.1) (Or.inl ⟨by rfl, ?hy8⟩) HS rfl ?_
   case hy8 => (intro v hv; obtain ⟨x, rfl, _, _, n0, n1, n2, n3⟩ := hv.iO; go_simp; first | done | with_reducible rfl)
   simp only [Act.put, List.setIfInBounds_toArray, List.set_cons_zero, List.set_cons_succ]
   refine take_ #[true, true, false, true, true, false, false, false, false, false, false, false, false, false, false] (i := 4) (N := some 22) (v := ?v9) rfl rfl (by kernel_rfl) (fun _ _ _ h => nomatch h.1) (Or.inl ⟨by rfl, ?hy9⟩) HS rfl ?_
   case hy9 => (intro v hv; obtain ⟨x, rfl, _, _, n0, n1, n2, n3⟩ := hv.iO; go_simp; first | done | with_reducible rfl)
   simp only [Act.put, List.setIfInBounds_toArray, List.set_cons_zero, List.set_cons_succ]
   refine take_ #[true, true, false, true, true, false, true, false, false, false, false, false, false, false, false] (i := 6) (N := some 24) (v := ?v10) rfl rfl (by kernel_rfl) (fun _ _ _ h => nomatch h.1) (Or.inl ⟨by rfl, ?Uh⟩) HS rfl ?_
   case Uh => (intro v hv; obtain ⟨x, rfl, _, _, n0, n1, n2, n3⟩ := hv.iO; go_simp; first | done | with_reducible rfl)
   simp only [Act.put, List.setIfInBounds_toArray, List.set_cons_zero, List.set_cons_succ]
   refine take_ #[true, true, false, true, true, false, true, false, true, false, false, false, false, false, false] (i := 8) (N := some 26) (v := ?v11) rfl rfl (by kernel_rfl) (fun _ _ _ h => nomatch h.1) (Or.inl ⟨by rfl, ?abN⟩) HS rfl ?_
   case abN => (intro v hv; obtain ⟨x, rfl, _, _, n0, n1, n2, n3⟩ := hv.iO; go_simp; first | done | with_reducible rfl)
   simp only [Act.put, List.setIfInBounds_toArray, List.set_cons_zero, List.set_cons_succ]
   refine two_ #[true, true, true, true, true, false, true, false, true, false, false, false, false, false, false] #[true, true, false, true, true, false, true, false, true, false, false, false, false, true, false] (i := 2) (j := 13) (Ni := some 20) (Nj := some 7) rfl rfl rfl rfl (by kernel_rfl) (by decide) (by decide) (fun K hK => ?_) (fun K hK => ?_)
   · go_simp
     refine (mul_any u r2 CX.out (wk uh.out.1) _).mono ?_
     rintro e y ⟨⟨q1, TQ, TR, rfl⟩, hb⟩
     refine hK.out _ _ (HS.step hb rfl) ?_
     clear HS
     intro HS
     clear hb
     have Gs := Lib.hid (And.intro TQ TR)
     clear TQ TR
     refine two_ #[true, true, true, true, true, true, true, false, true, false, false, false, false, false, false] #[true, true, true, true, true, false, true, false, true, false, false, false, false, true, false] (i := 5) (j := 13) (Ni := some 23) (Nj := some 7) rfl rfl rfl rfl (by kernel_rfl) (by decide) (by decide) (fun K hK => ?_) (fun K hK => ?_)
     · go_simp
       refine (mul_any r2 r2 (wk uh.out.1) (wk uh.out.1) _).mono ?_
       rintro e y ⟨⟨q2, Ii, Ij, rfl⟩, hb⟩
       refine hK.out _ _ (HS.step hb rfl) ?_
       clear HS
       intro HS
       clear hb
       have LY := Lib.hid (And.intro Ii Ij)
       clear Ii Ij
       refine two_ #[true, true, true, true, true, true, true, true, true, false, false, false, false, false, false] #[true, true, true, true, true, true, true, false, true, false, false, false, false, true, false] (i := 7) (j := 13) (Ni := some 25) (Nj := some 7) rfl rfl rfl rfl (by kernel_rfl) (by decide) (by decide) (fun K hK => ?_) (fun K hK => ?_)
       · go_simp
         refine (mul_any q2 v0 (wk LY.out.1) CY.out _).mono ?_
         rintro e y ⟨⟨q3, Bh, Bj, rfl⟩, hb⟩
         refine hK.out _ _ (HS.step hb rfl) ?_
         clear HS
         intro HS
         clear hb
         have Jj := Lib.hid (And.intro Bh Bj)
         clear Bh Bj
         refine two_ #[true, true, true, true, true, true, true, true, true, true, false, false, false, false, false] #[true, true, true, true, true, true, true, true, true, false, false, false, false, true, false] (i := 9) (j := 13) (Ni := some 27) (Nj := some 7) rfl rfl rfl rfl (by kernel_rfl) (by decide) (by decide) (fun K hK => ?_) (fun K hK => ?_)
         · go_simp
           refine (mul_any q3 u (wk Jj.out.1) CX.out _).mono ?_
           rintro e y ⟨⟨q4, wW, wX, rfl⟩, hb⟩
           refine hK.out _ _ (HS.step hb rfl) ?_
           clear HS
           intro HS
           clear hb
           have EN := Lib.hid (And.intro wW wX)
           clear wW wX
           refine two_ #[true, true, true, true, true, true, true, true, true, true, true, false, false, false, false] #[true, true, true, true, true, true, true, true, true, true, false, false, false, true, false] (i := 10) (j := 13) (Ni := some 28) (Nj := some 7) rfl rfl rfl rfl (by kernel_rfl) (by decide) (by decide) (fun K hK => ?_) (fun K hK => ?_)
           · go_simp
             refine (mZ 253 15 _).mono ?_
             rintro e y ⟨⟨A, c, rfl, hrd⟩, hb⟩
             refine hK.out _ _ (HS.step hb rfl) ?_
             clear HS
             intro HS
             clear hb
             have fM := Lib.hid hrd
             clear hrd
             refine two_ #[true, true, true, true, true, true, true, true, true, true, true, true, false, false, false] #[true, true, true, true, true, true, true, true, true, true, true, false, false, true, false] (i := 11) (j := 13) (Ni := some 29) (Nj := some 7) rfl rfl rfl rfl (by kernel_rfl) (by decide) (by decide) (fun K hK => ?_) (fun K hK => ?_)
             · go_simp
               refine (jy q4 (wk EN.out.1) 253 15 (by decide) (by decide) A c _ fM.out).mono ?_
               rintro e y ⟨⟨q5, anX, qy, rfl⟩, hb⟩
               refine hK.out _ _ (HS.step hb rfl) ?_
               clear HS
               intro HS
               clear hb
               have Dh := Lib.hid (And.intro anX qy)
               clear anX qy
               refine two_ #[true, true, true, true, true, true, true, true, true, true, true, true, true, false, false] #[true, true, true, true, true, true, true, true, true, true, true, true, false, true, false] (i := 12) (j := 13) (Ni := some 30) (Nj := some 7) rfl rfl rfl rfl (by kernel_rfl) (by decide) (by decide) (fun K hK => ?_) (fun K hK => ?_)
               · go_simp
                 refine (mul_any q1 q5 (wk Gs.out.1) (wk Dh.out.1) _).mono ?_
                 rintro e y ⟨⟨q6, anW, ou, rfl⟩, hb⟩
                 refine hK.out _ _ (HS.step hb rfl) ?_
                 clear HS
                 intro HS
                 clear hb
                 have Ar := Lib.hid (And.intro anW ou)
                 clear anW ou
                 refine dH 13 (some 7) (h := fun K hK => ?_)
                 go_simp
                 obtain ⟨b7, hbn⟩ : ∃ b, b = y.heap.size := ⟨_, rfl⟩
                 have hl0 : w.heap.size < b7 := by rw [hbn]; exact HS.lt _ (by exact List.mem_cons_self)
                 have hl1 : w.heap.size + 1 < b7 := by rw [hbn]; exact HS.lt _ (by exact List.mem_cons_of_mem _ (List.mem_cons_self))
                 have hl2 : w.heap.size + 2 < b7 := by rw [hbn]; exact HS.lt _ (by exact List.mem_cons_of_mem _ (List.mem_cons_of_mem _ (List.mem_cons_self)))
                 have hl3 : b6 < b7 := by rw [hbn]; exact HS.lt _ (by exact List.mem_cons_of_mem _ (List.mem_cons_of_mem _ (List.mem_cons_of_mem _ (List.mem_cons_self))))
                 obtain ⟨HS', HT⟩ := HS.new (o := .cells #[.int .u64 0, .int .u64 0, .int .u64 0, .int .u64 0, .int .u64 0] 36)
                 refine hK.out _ _ HS' ?_
                 clear HS HS'
                 intro HS
                 try replace fM := Lib.hid (fM.out.mono (Below.alloc (Below.refl y.heap.size y) (Nat.le_refl _) (.cells #[.int .u64 0, .int .u64 0, .int .u64 0, .int .u64 0, .int .u64 0] 36)) (Nat.le_refl _))
                 rw [← hbn] at HT ⊢
                 clear hbn
                 obtain ⟨y2, hy2⟩ : ∃ z, z = y.alloc (.cells #[.int .u64 0, .int .u64 0, .int .u64 0, .int .u64 0, .int .u64 0] 36) := ⟨_, rfl⟩
                 rw [← hy2] at HS HT ⊢
                 try rw [← hy2] at fM
                 clear hy2
                 obtain ⟨x, rfl, hk, hz, m0, m1, m2, m3, m4⟩ := HT.ji
                 clear HS
                 refine pO 14 none (h := fun K hK => ?_)
                 go_simp
                 refine hK.out _ _ ?_
                 refine done_ (by kernel_rfl) ?_
                 refine ⟨rfl, (A, c, q1, q2, q3, q4, q5, q6, b7), by simp only [puts, Act.put, List.setIfInBounds_toArray, List.set_cons_zero, List.set_cons_succ], ⟨Ar.out.1, iF (iF rfl uh.out.2 Gs.out.2) (by rw [Dh.out.2, Nat.pow_mod, iF (iF (iF uh.out.2 uh.out.2 LY.out.2) rfl Jj.out.2) rfl EN.out.2, ← Nat.pow_mod]) Ar.out.2⟩, hl0, hl1, hl2, hl3, ?_⟩
                 exact ak (b := b7) ob (ak (b := w.heap.size) ob (ak (b := w.heap.size + 1) ob (ak (b := w.heap.size + 2) ob (ak (b := b6) ob (aO (pl hk.below))))))
               · go_simp
                 obtain ⟨b7, hbn⟩ : ∃ b, b = y.heap.size := ⟨_, rfl⟩
                 have hl0 : w.heap.size < b7 := by rw [hbn]; exact HS.lt _ (by exact List.mem_cons_self)
                 have hl1 : w.heap.size + 1 < b7 := by rw [hbn]; exact HS.lt _ (by exact List.mem_cons_of_mem _ (List.mem_cons_self))
                 have hl2 : w.heap.size + 2 < b7 := by rw [hbn]; exact HS.lt _ (by exact List.mem_cons_of_mem _ (List.mem_cons_of_mem _ (List.mem_cons_self)))
                 have hl3 : b6 < b7 := by rw [hbn]; exact HS.lt _ (by exact List.mem_cons_of_mem _ (List.mem_cons_of_mem _ (List.mem_cons_of_mem _ (List.mem_cons_self))))
                 obtain ⟨HS', HT⟩ := HS.new (o := .cells #[.int .u64 0, .int .u64 0, .int .u64 0, .int .u64 0, .int .u64 0] 36)
                 refine hK.out _ _ HS' ?_
                 clear HS HS'
                 intro HS
                 try replace fM := Lib.hid (fM.out.mono (Below.alloc (Below.refl y.heap.size y) (Nat.le_refl _) (.cells #[.int .u64 0, .int .u64 0, .int .u64 0, .int .u64 0, .int .u64 0] 36)) (Nat.le_refl _))
                 rw [← hbn] at HT ⊢
                 clear hbn
                 obtain ⟨y2, hy2⟩ : ∃ z, z = y.alloc (.cells #[.int .u64 0, .int .u64 0, .int .u64 0, .int .u64 0, .int .u64 0] 36) := ⟨_, rfl⟩
                 rw [← hy2] at HS HT ⊢
                 try rw [← hy2] at fM
                 clear hy2
                 refine dH 12 (some 30) (h := fun K hK => ?_)
                 go_simp
                 refine (mul_any q1 q5 (wk Gs.out.1) (wk Dh.out.1) _).mono ?_
                 rintro e y ⟨⟨q6, anW, ou, rfl⟩, hb⟩
                 refine hK.out _ _ (HS.step hb rfl) ?_
                 clear HS
                 intro HS
                 replace HT := HT.step hb rfl
                 clear hb
                 have Ar := Lib.hid (And.intro anW ou)
                 clear anW ou
                 obtain ⟨x, rfl, hk, hz, m0, m1, m2, m3, m4⟩ := HT.ji
                 clear HS
                 refine pO 14 none (h := fun K hK => ?_)
                 go_simp
                 refine hK.out _ _ ?_
                 refine done_ (by kernel_rfl) ?_
                 refine ⟨rfl, (A, c, q1, q2, q3, q4, q5, q6, b7), by simp only [puts, Act.put, List.setIfInBounds_toArray, List.set_cons_zero, List.set_cons_succ], ⟨Ar.out.1, iF (iF rfl uh.out.2 Gs.out.2) (by rw [Dh.out.2, Nat.pow_mod, iF (iF (iF uh.out.2 uh.out.2 LY.out.2) rfl Jj.out.2) rfl EN.out.2, ← Nat.pow_mod]) Ar.out.2⟩, hl0, hl1, hl2, hl3, ?_⟩
                 exact ak (b := b7) ob (ak (b := w.heap.size) ob (ak (b := w.heap.size + 1) ob (ak (b := w.heap.size + 2) ob (ak (b := b6) ob (aO (pl hk.below))))))
             · go_simp
               obtain ⟨b7, hbn⟩ : ∃ b, b = y.heap.size := ⟨_, rfl⟩
               have hl0 : w.heap.size < b7 := by rw [hbn]; exact HS.lt _ (by exact List.mem_cons_self)
               have hl1 : w.heap.size + 1 < b7 := by rw [hbn]; exact HS.lt _ (by exact List.mem_cons_of_mem _ (List.mem_cons_self))
               have hl2 : w.heap.size + 2 < b7 := by rw [hbn]; exact HS.lt _ (by exact List.mem_cons_of_mem _ (List.mem_cons_of_mem _ (List.mem_cons_self)))
               have hl3 : b6 < b7 := by rw [hbn]; exact HS.lt _ (by exact List.mem_cons_of_mem _ (List.mem_cons_of_mem _ (List.mem_cons_of_mem _ (List.mem_cons_self))))
               obtain ⟨HS', HT⟩ := HS.new (o := .cells #[.int .u64 0, .int .u64 0, .int .u64 0, .int .u64 0, .int .u64 0] 36)
               refine hK.out _ _ HS' ?_
               clear HS HS'
               intro HS
               try replace fM := Lib.hid (fM.out.mono (Below.alloc (Below.refl y.heap.size y) (Nat.le_refl _) (.cells #[.int .u64 0, .int .u64 0, .int .u64 0, .int .u64 0, .int .u64 0] 36)) (Nat.le_refl _))
               rw [← hbn] at HT ⊢
               clear hbn
               obtain ⟨y2, hy2⟩ : ∃ z, z = y.alloc (.cells #[.int .u64 0, .int .u64 0, .int .u64 0, .int .u64 0, .int .u64 0] 36) := ⟨_, rfl⟩
               rw [← hy2] at HS HT ⊢
               try rw [← hy2] at fM
               clear hy2
               refine dH 11 (some 29) (h := fun K hK => ?_)
               go_simp
               refine (jy q4 (wk EN.out.1) 253 15 (by decide) (by decide) A c _ fM.out).mono ?_
               rintro e y ⟨⟨q5, anX, qy, rfl⟩, hb⟩
               refine hK.out _ _ (HS.step hb rfl) ?_
               clear HS
               intro HS
               replace HT := HT.step hb rfl
               clear hb
               have Dh := Lib.hid (And.intro anX qy)
               clear anX qy
               refine dH 12 (some 30) (h := fun K hK => ?_)
               go_simp
               refine (mul_any q1 q5 (wk Gs.out.1) (wk Dh.out.1) _).mono ?_
               rintro e y ⟨⟨q6, anW, ou, rfl⟩, hb⟩
               refine hK.out _ _ (HS.step hb rfl) ?_
               clear HS
               intro HS
               replace HT := HT.step hb rfl
               clear hb
               have Ar := Lib.hid (And.intro anW ou)
               clear anW ou
               obtain ⟨x, rfl, hk, hz, m0, m1, m2, m3, m4⟩ := HT.ji
               clear HS
               refine pO 14 none (h := fun K hK => ?_)
               go_simp
               refine hK.out _ _ ?_
               refine done_ (by kernel_rfl) ?_
               refine ⟨rfl, (A, c, q1, q2, q3, q4, q5, q6, b7), by simp only [puts, Act.put, List.setIfInBounds_toArray, List.set_cons_zero, List.set_cons_succ], ⟨Ar.out.1, iF (iF rfl uh.out.2 Gs.out.2) (by rw [Dh.out.2, Nat.pow_mod, iF (iF (iF uh.out.2 uh.out.2 LY.out.2) rfl Jj.out.2) rfl EN.out.2, ← Nat.pow_mod]) Ar.out.2⟩, hl0, hl1, hl2, hl3, ?_⟩
               exact ak (b := b7) ob (ak (b := w.heap.size) ob (ak (b := w.heap.size + 1) ob (ak (b := w.heap.size + 2) ob (ak (b := b6) ob (aO (pl hk.below))))))
           · go_simp
             obtain ⟨b7, hbn⟩ : ∃ b, b = y.heap.size := ⟨_, rfl⟩
             have hl0 : w.heap.size < b7 := by rw [hbn]; exact HS.lt _ (by exact List.mem_cons_self)
             have hl1 : w.heap.size + 1 < b7 := by rw [hbn]; exact HS.lt _ (by exact List.mem_cons_of_mem _ (List.mem_cons_self))
             have hl2 : w.heap.size + 2 < b7 := by rw [hbn]; exact HS.lt _ (by exact List.mem_cons_of_mem _ (List.mem_cons_of_mem _ (List.mem_cons_self)))
             have hl3 : b6 < b7 := by rw [hbn]; exact HS.lt _ (by exact List.mem_cons_of_mem _ (List.mem_cons_of_mem _ (List.mem_cons_of_mem _ (List.mem_cons_self))))
             obtain ⟨HS', HT⟩ := HS.new (o := .cells #[.int .u64 0, .int .u64 0, .int .u64 0, .int .u64 0, .int .u64 0] 36)
             refine hK.out _ _ HS' ?_
             clear HS HS'
             intro HS
             try replace fM := Lib.hid (fM.out.mono (Below.alloc (Below.refl y.heap.size y) (Nat.le_refl _) (.cells #[.int .u64 0, .int .u64 0, .int .u64 0, .int .u64 0, .int .u64 0] 36)) (Nat.le_refl _))
             rw [← hbn] at HT ⊢
             clear hbn
             obtain ⟨y2, hy2⟩ : ∃ z, z = y.alloc (.cells #[.int .u64 0, .int .u64 0, .int .u64 0, .int .u64 0, .int .u64 0] 36) := ⟨_, rfl⟩
             rw [← hy2] at HS HT ⊢
             try rw [← hy2] at fM
             clear hy2
             refine dH 10 (some 28) (h := fun K hK => ?_)
             go_simp
             refine (mZ 253 15 _).mono ?_
             rintro e y ⟨⟨A, c, rfl, hrd⟩, hb⟩
             refine hK.out _ _ (HS.step hb rfl) ?_
             clear HS
             intro HS
             replace HT := HT.step hb rfl
             clear hb
             have fM := Lib.hid hrd
             clear hrd
             refine dH 11 (some 29) (h := fun K hK => ?_)
             go_simp
             refine (jy q4 (wk EN.out.1) 253 15 (by decide) (by decide) A c _ fM.out).mono ?_
             rintro e y ⟨⟨q5, anX, qy, rfl⟩, hb⟩
             refine hK.out _ _ (HS.step hb rfl) ?_
             clear HS
             intro HS
             replace HT := HT.step hb rfl
             clear hb
             have Dh := Lib.hid (And.intro anX qy)
             clear anX qy
             refine dH 12 (some 30) (h := fun K hK => ?_)
             go_simp
             refine (mul_any q1 q5 (wk Gs.out.1) (wk Dh.out.1) _).mono ?_
             rintro e y ⟨⟨q6, anW, ou, rfl⟩, hb⟩
             refine hK.out _ _ (HS.step hb rfl) ?_
             clear HS
             intro HS
             replace HT := HT.step hb rfl
             clear hb
             have Ar := Lib.hid (And.intro anW ou)
             clear anW ou
             obtain ⟨x, rfl, hk, hz, m0, m1, m2, m3, m4⟩ := HT.ji
             clear HS
             refine pO 14 none (h := fun K hK => ?_)
             go_simp
             refine hK.out _ _ ?_
             refine done_ (by kernel_rfl) ?_
             refine ⟨rfl, (A, c, q1, q2, q3, q4, q5, q6, b7), by simp only [puts, Act.put, List.setIfInBounds_toArray, List.set_cons_zero, List.set_cons_succ], ⟨Ar.out.1, iF (iF rfl uh.out.2 Gs.out.2) (by rw [Dh.out.2, Nat.pow_mod, iF (iF (iF uh.out.2 uh.out.2 LY.out.2) rfl Jj.out.2) rfl EN.out.2, ← Nat.pow_mod]) Ar.out.2⟩, hl0, hl1, hl2, hl3, ?_⟩
             exact ak (b := b7) ob (ak (b := w.heap.size) ob (ak (b := w.heap.size + 1) ob (ak (b := w.heap.size + 2) ob (ak (b := b6) ob (aO (pl hk.below))))))
         · go_simp
           obtain ⟨b7, hbn⟩ : ∃ b, b = y.heap.size := ⟨_, rfl⟩
           have hl0 : w.heap.size < b7 := by rw [hbn]; exact HS.lt _ (by exact List.mem_cons_self)
           have hl1 : w.heap.size + 1 < b7 := by rw [hbn]; exact HS.lt _ (by exact List.mem_cons_of_mem _ (List.mem_cons_self))
           have hl2 : w.heap.size + 2 < b7 := by rw [hbn]; exact HS.lt _ (by exact List.mem_cons_of_mem _ (List.mem_cons_of_mem _ (List.mem_cons_self)))
           have hl3 : b6 < b7 := by rw [hbn]; exact HS.lt _ (by exact List.mem_cons_of_mem _ (List.mem_cons_of_mem _ (List.mem_cons_of_mem _ (List.mem_cons_self))))
           obtain ⟨HS', HT⟩ := HS.new (o := .cells #[.int .u64 0, .int .u64 0, .int .u64 0, .int .u64 0, .int .u64 0] 36)
           refine hK.out _ _ HS' ?_
           clear HS HS'
           intro HS
           try replace fM := Lib.hid (fM.out.mono (Below.alloc (Below.refl y.heap.size y) (Nat.le_refl _) (.cells #[.int .u64 0, .int .u64 0, .int .u64 0, .int .u64 0, .int .u64 0] 36)) (Nat.le_refl _))
           rw [← hbn] at HT ⊢
           clear hbn
           obtain ⟨y2, hy2⟩ : ∃ z, z = y.alloc (.cells #[.int .u64 0, .int .u64 0, .int .u64 0, .int .u64 0, .int .u64 0] 36) := ⟨_, rfl⟩
           rw [← hy2] at HS HT ⊢
           try rw [← hy2] at fM
           clear hy2
           refine dH 9 (some 27) (h := fun K hK => ?_)
           go_simp
           refine (mul_any q3 u (wk Jj.out.1) CX.out _).mono ?_
           rintro e y ⟨⟨q4, wW, wX, rfl⟩, hb⟩
           refine hK.out _ _ (HS.step hb rfl) ?_
           clear HS
           intro HS
           replace HT := HT.step hb rfl
           clear hb
           have EN := Lib.hid (And.intro wW wX)
           clear wW wX
           refine dH 10 (some 28) (h := fun K hK => ?_)
           go_simp
           refine (mZ 253 15 _).mono ?_
           rintro e y ⟨⟨A, c, rfl, hrd⟩, hb⟩
           refine hK.out _ _ (HS.step hb rfl) ?_
           clear HS
           intro HS
           replace HT := HT.step hb rfl
           clear hb
           have fM := Lib.hid hrd
           clear hrd
           refine dH 11 (some 29) (h := fun K hK => ?_)
           go_simp
           refine (jy q4 (wk EN.out.1) 253 15 (by decide) (by decide) A c _ fM.out).mono ?_
           rintro e y ⟨⟨q5, anX, qy, rfl⟩, hb⟩
           refine hK.out _ _ (HS.step hb rfl) ?_
           clear HS
           intro HS
           replace HT := HT.step hb rfl
           clear hb
           have Dh := Lib.hid (And.intro anX qy)
           clear anX qy
           refine dH 12 (some 30) (h := fun K hK => ?_)
           go_simp
           refine (mul_any q1 q5 (wk Gs.out.1) (wk Dh.out.1) _).mono ?_
           rintro e y ⟨⟨q6, anW, ou, rfl⟩, hb⟩
           refine hK.out _ _ (HS.step hb rfl) ?_
           clear HS
           intro HS
           replace HT := HT.step hb rfl
           clear hb
           have Ar := Lib.hid (And.intro anW ou)
           clear anW ou
           obtain ⟨x, rfl, hk, hz, m0, m1, m2, m3, m4⟩ := HT.ji
           clear HS
           refine pO 14 none (h := fun K hK => ?_)
           go_simp
           refine hK.out _ _ ?_
           refine done_ (by kernel_rfl) ?_
           refine ⟨rfl, (A, c, q1, q2, q3, q4, q5, q6, b7), by simp only [puts, Act.put, List.setIfInBounds_toArray, List.set_cons_zero, List.set_cons_succ], ⟨Ar.out.1, iF (iF rfl uh.out.2 Gs.out.2) (by rw [Dh.out.2, Nat.pow_mod, iF (iF (iF uh.out.2 uh.out.2 LY.out.2) rfl Jj.out.2) rfl EN.out.2, ← Nat.pow_mod]) Ar.out.2⟩, hl0, hl1, hl2, hl3, ?_⟩
           exact ak (b := b7) ob (ak (b := w.heap.size) ob (ak (b := w.heap.size + 1) ob (ak (b := w.heap.size + 2) ob (ak (b := b6) ob (aO (pl hk.below))))))
       · go_simp
         obtain ⟨b7, hbn⟩ : ∃ b, b = y.heap.size := ⟨_, rfl⟩
         have hl0 : w.heap.size < b7 := by rw [hbn]; exact HS.lt _ (by exact List.mem_cons_self)
         have hl1 : w.heap.size + 1 < b7 := by rw [hbn]; exact HS.lt _ (by exact List.mem_cons_of_mem _ (List.mem_cons_self))
         have hl2 : w.heap.size + 2 < b7 := by rw [hbn]; exact HS.lt _ (by exact List.mem_cons_of_mem _ (List.mem_cons_of_mem _ (List.mem_cons_self)))
         have hl3 : b6 < b7 := by rw [hbn]; exact HS.lt _ (by exact List.mem_cons_of_mem _ (List.mem_cons_of_mem _ (List.mem_cons_of_mem _ (List.mem_cons_self))))
         obtain ⟨HS', HT⟩ := HS.new (o := .cells #[.int .u64 0, .int .u64 0, .int .u64 0, .int .u64 0, .int .u64 0] 36)
         refine hK.out _ _ HS' ?_
         clear HS HS'
         intro HS
         try replace fM := Lib.hid (fM.out.mono (Below.alloc (Below.refl y.heap.size y) (Nat.le_refl _) (.cells #[.int .u64 0, .int .u64 0, .int .u64 0, .int .u64 0, .int .u64 0] 36)) (Nat.le_refl _))
         rw [← hbn] at HT ⊢
         clear hbn
         obtain ⟨y2, hy2⟩ : ∃ z, z = y.alloc (.cells #[.int .u64 0, .int .u64 0, .int .u64 0, .int .u64 0, .int .u64 0] 36) := ⟨_, rfl⟩
         rw [← hy2] at HS HT ⊢
         try rw [← hy2] at fM
         clear hy2
         refine dH 7 (some 25) (h := fun K hK => ?_)
         go_simp
         refine (mul_any q2 v0 (wk LY.out.1) CY.out _).mono ?_
         rintro e y ⟨⟨q3, Bh, Bj, rfl⟩, hb⟩
         refine hK.out _ _ (HS.step hb rfl) ?_
         clear HS
         intro HS
         replace HT := HT.step hb rfl
         clear hb
         have Jj := Lib.hid (And.intro Bh Bj)
         clear Bh Bj
         refine dH 9 (some 27) (h := fun K hK => ?_)
         go_simp
         refine (mul_any q3 u (wk Jj.out.1) CX.out _).mono ?_
         rintro e y ⟨⟨q4, wW, wX, rfl⟩, hb⟩
         refine hK.out _ _ (HS.step hb rfl) ?_
         clear HS
         intro HS
         replace HT := HT.step hb rfl
         clear hb
         have EN := Lib.hid (And.intro wW wX)
         clear wW wX
         refine dH 10 (some 28) (h := fun K hK => ?_)
         go_simp
         refine (mZ 253 15 _).mono ?_
         rintro e y ⟨⟨A, c, rfl, hrd⟩, hb⟩
         refine hK.out _ _ (HS.step hb rfl) ?_
         clear HS
         intro HS
         replace HT := HT.step hb rfl
         clear hb
         have fM := Lib.hid hrd
         clear hrd
         refine dH 11 (some 29) (h := fun K hK => ?_)
         go_simp
         refine (jy q4 (wk EN.out.1) 253 15 (by decide) (by decide) A c _ fM.out).mono ?_
         rintro e y ⟨⟨q5, anX, qy, rfl⟩, hb⟩
         refine hK.out _ _ (HS.step hb rfl) ?_
         clear HS
         intro HS
         replace HT := HT.step hb rfl
         clear hb
         have Dh := Lib.hid (And.intro anX qy)
         clear anX qy
         refine dH 12 (some 30) (h := fun K hK => ?_)
         go_simp
         refine (mul_any q1 q5 (wk Gs.out.1) (wk Dh.out.1) _).mono ?_
         rintro e y ⟨⟨q6, anW, ou, rfl⟩, hb⟩
         refine hK.out _ _ (HS.step hb rfl) ?_
         clear HS
         intro HS
         replace HT := HT.step hb rfl
         clear hb
         have Ar := Lib.hid (And.intro anW ou)
         clear anW ou
         obtain ⟨x, rfl, hk, hz, m0, m1, m2, m3, m4⟩ := HT.ji
         clear HS
         refine pO 14 none (h := fun K hK => ?_)
         go_simp
         refine hK.out _ _ ?_
         refine done_ (by kernel_rfl) ?_
         refine ⟨rfl, (A, c, q1, q2, q3, q4, q5, q6, b7), by simp only [puts, Act.put, List.setIfInBounds_toArray, List.set_cons_zero, List.set_cons_succ], ⟨Ar.out.1, iF (iF rfl uh.out.2 Gs.out.2) (by rw [Dh.out.2, Nat.pow_mod, iF (iF (iF uh.out.2 uh.out.2 LY.out.2) rfl Jj.out.2) rfl EN.out.2, ← Nat.pow_mod]) Ar.out.2⟩, hl0, hl1, hl2, hl3, ?_⟩
         exact ak (b := b7) ob (ak (b := w.heap.size) ob (ak (b := w.heap.size + 1) ob (ak (b := w.heap.size + 2) ob (ak (b := b6) ob (aO (pl hk.below))))))
     · go_simp
       obtain ⟨b7, hbn⟩ : ∃ b, b = y.heap.size := ⟨_, rfl⟩
       have hl0 : w.heap.size < b7 := by rw [hbn]; exact HS.lt _ (by exact List.mem_cons_self)
       have hl1 : w.heap.size + 1 < b7 := by rw [hbn]; exact HS.lt _ (by exact List.mem_cons_of_mem _ (List.mem_cons_self))
       have hl2 : w.heap.size + 2 < b7 := by rw [hbn]; exact HS.lt _ (by exact List.mem_cons_of_mem _ (List.mem_cons_of_mem _ (List.mem_cons_self)))
       have hl3 : b6 < b7 := by rw [hbn]; exact HS.lt _ (by exact List.mem_cons_of_mem _ (List.mem_cons_of_mem _ (List.mem_cons_of_mem _ (List.mem_cons_self))))
       obtain ⟨HS', HT⟩ := HS.new (o := .cells #[.int .u64 0, .int .u64 0, .int .u64 0, .int .u64 0, .int .u64 0] 36)
       refine hK.out _ _ HS' ?_
       clear HS HS'
       intro HS
       try replace fM := Lib.hid (fM.out.mono (Below.alloc (Below.refl y.heap.size y) (Nat.le_refl _) (.cells #[.int .u64 0, .int .u64 0, .int .u64 0, .int .u64 0, .int .u64 0] 36)) (Nat.le_refl _))
       rw [← hbn] at HT ⊢
       clear hbn
       obtain ⟨y2, hy2⟩ : ∃ z, z = y.alloc (.cells #[.int .u64 0, .int .u64 0, .int .u64 0, .int .u64 0, .int .u64 0] 36) := ⟨_, rfl⟩
       rw [← hy2] at HS HT ⊢
       try rw [← hy2] at fM
       clear hy2
       refine dH 5 (some 23) (h := fun K hK => ?_)
       go_simp
       refine (mul_any r2 r2 (wk uh.out.1) (wk uh.out.1) _).mono ?_
       rintro e y ⟨⟨q2, Ii, Ij, rfl⟩, hb⟩
       refine hK.out _ _ (HS.step hb rfl) ?_
       clear HS
       intro HS
       replace HT := HT.step hb rfl
       clear hb
       have LY := Lib.hid (And.intro Ii Ij)
       clear Ii Ij
       refine dH 7 (some 25) (h := fun K hK => ?_)
       go_simp
       refine (mul_any q2 v0 (wk LY.out.1) CY.out _).mono ?_
       rintro e y ⟨⟨q3, Bh, Bj, rfl⟩, hb⟩
       refine hK.out _ _ (HS.step hb rfl) ?_
       clear HS
       intro HS
       replace HT := HT.step hb rfl
       clear hb
       have Jj := Lib.hid (And.intro Bh Bj)
       clear Bh Bj
       refine dH 9 (some 27) (h := fun K hK => ?_)
       go_simp
       refine (mul_any q3 u (wk Jj.out.1) CX.out _).mono ?_
       rintro e y ⟨⟨q4, wW, wX, rfl⟩, hb⟩
       refine hK.out _ _ (HS.step hb rfl) ?_
       clear HS
       intro HS
       replace HT := HT.step hb rfl
       clear hb
       have EN := Lib.hid (And.intro wW wX)
       clear wW wX
       refine dH 10 (some 28) (h := fun K hK => ?_)
       go_simp
       refine (mZ 253 15 _).mono ?_
       rintro e y ⟨⟨A, c, rfl, hrd⟩, hb⟩
       refine hK.out _ _ (HS.step hb rfl) ?_
       clear HS
       intro HS
       replace HT := HT.step hb rfl
       clear hb
       have fM := Lib.hid hrd
       clear hrd
       refine dH 11 (some 29) (h := fun K hK => ?_)
       go_simp
       refine (jy q4 (wk EN.out.1) 253 15 (by decide) (by decide) A c _ fM.out).mono ?_
       rintro e y ⟨⟨q5, anX, qy, rfl⟩, hb⟩
       refine hK.out _ _ (HS.step hb rfl) ?_
       clear HS
       intro HS
       replace HT := HT.step hb rfl
       clear hb
       have Dh := Lib.hid (And.intro anX qy)
       clear anX qy
       refine dH 12 (some 30) (h := fun K hK => ?_)
       go_simp
       refine (mul_any q1 q5 (wk Gs.out.1) (wk Dh.out.1) _).mono ?_
       rintro e y ⟨⟨q6, anW, ou, rfl⟩, hb⟩
       refine hK.out _ _ (HS.step hb rfl) ?_
       clear HS
       intro HS
       replace HT := HT.step hb rfl
       clear hb
       have Ar := Lib.hid (And.intro anW ou)
       clear anW ou
       obtain ⟨x, rfl, hk, hz, m0, m1, m2, m3, m4⟩ := HT.ji
       clear HS
       refine pO 14 none (h := fun K hK => ?_)
       go_simp
       refine hK.out _ _ ?_
       refine done_ (by kernel_rfl) ?_
       refine ⟨rfl, (A, c, q1, q2, q3, q4, q5, q6, b7), by simp only [puts, Act.put, List.setIfInBounds_toArray, List.set_cons_zero, List.set_cons_succ], ⟨Ar.out.1, iF (iF rfl uh.out.2 Gs.out.2) (by rw [Dh.out.2, Nat.pow_mod, iF (iF (iF uh.out.2 uh.out.2 LY.out.2) rfl Jj.out.2) rfl EN.out.2, ← Nat.pow_mod]) Ar.out.2⟩, hl0, hl1, hl2, hl3, ?_⟩
       exact ak (b := b7) ob (ak (b := w.heap.size) ob (ak (b := w.heap.size + 1) ob (ak (b := w.heap.size + 2) ob (ak (b := b6) ob (aO (pl hk.below))))))
   · go_simp
     obtain ⟨b7, hbn⟩ : ∃ b, b = y.heap.size := ⟨_, rfl⟩
     have hl0 : w.heap.size < b7 := by rw [hbn]; exact HS.lt _ (by exact List.mem_cons_self)
     have hl1 : w.heap.size + 1 < b7 := by rw [hbn]; exact HS.lt _ (by exact List.mem_cons_of_mem _ (List.mem_cons_self))
     have hl2 : w.heap.size + 2 < b7 := by rw [hbn]; exact HS.lt _ (by exact List.mem_cons_of_mem _ (List.mem_cons_of_mem _ (List.mem_cons_self)))
     have hl3 : b6 < b7 := by rw [hbn]; exact HS.lt _ (by exact List.mem_cons_of_mem _ (List.mem_cons_of_mem _ (List.mem_cons_of_mem _ (List.mem_cons_self))))
     obtain ⟨HS', HT⟩ := HS.new (o := .cells #[.int .u64 0, .int .u64 0, .int .u64 0, .int .u64 0, .int .u64 0] 36)
     refine hK.out _ _ HS' ?_
     clear HS HS'
     intro HS
     try replace fM := Lib.hid (fM.out.mono (Below.alloc (Below.refl y.heap.size y) (Nat.le_refl _) (.cells #[.int .u64 0, .int .u64 0, .int .u64 0, .int .u64 0, .int .u64 0] 36)) (Nat.le_refl _))
     rw [← hbn] at HT ⊢
     clear hbn
     obtain ⟨y2, hy2⟩ : ∃ z, z = y.alloc (.cells #[.int .u64 0, .int .u64 0, .int .u64 0, .int .u64 0, .int .u64 0] 36) := ⟨_, rfl⟩
     rw [← hy2] at HS HT ⊢
     try rw [← hy2] at fM
     clear hy2
     refine dH 2 (some 20) (h := fun K hK => ?_)
     go_simp
     refine (mul_any u r2 CX.out (wk uh.out.1) _).mono ?_
     rintro e y ⟨⟨q1, TQ, TR, rfl⟩, hb⟩
     refine hK.out _ _ (HS.step hb rfl) ?_
     clear HS
     intro HS
     replace HT := HT.step hb rfl
     clear hb
     have Gs := Lib.hid (And.intro TQ TR)
     clear TQ TR
     refine dH 5 (some 23) (h := fun K hK => ?_)
     go_simp
     refine (mul_any r2 r2 (wk uh.out.1) (wk uh.out.1) _).mono ?_
     rintro e y ⟨⟨q2, Ii, Ij, rfl⟩, hb⟩
     refine hK.out _ _ (HS.step hb rfl) ?_
     clear HS
     intro HS
     replace HT := HT.step hb rfl
     clear hb
     have LY := Lib.hid (And.intro Ii Ij)
     clear Ii Ij
     refine dH 7 (some 25) (h := fun K hK => ?_)
     go_simp
     refine (mul_any q2 v0 (wk LY.out.1) CY.out _).mono ?_
     rintro e y ⟨⟨q3, Bh, Bj, rfl⟩, hb⟩
     refine hK.out _ _ (HS.step hb rfl) ?_
     clear HS
     intro HS
     replace HT := HT.step hb rfl
     clear hb
     have Jj := Lib.hid (And.intro Bh Bj)
     clear Bh Bj
     refine dH 9 (some 27) (h := fun K hK => ?_)
     go_simp
     refine (mul_any q3 u (wk Jj.out.1) CX.out _).mono ?_
     rintro e y ⟨⟨q4, wW, wX, rfl⟩, hb⟩
     refine hK.out _ _ (HS.step hb rfl) ?_
     clear HS
     intro HS
     replace HT := HT.step hb rfl
     clear hb
     have EN := Lib.hid (And.intro wW wX)
     clear wW wX
     refine dH 10 (some 28) (h := fun K hK => ?_)
     go_simp
     refine (mZ 253 15 _).mono ?_
     rintro e y ⟨⟨A, c, rfl, hrd⟩, hb⟩
     refine hK.out _ _ (HS.step hb rfl) ?_
     clear HS
     intro HS
     replace HT := HT.step hb rfl
     clear hb
     have fM := Lib.hid hrd
     clear hrd
     refine dH 11 (some 29) (h := fun K hK => ?_)
     go_simp
     refine (jy q4 (wk EN.out.1) 253 15 (by decide) (by decide) A c _ fM.out).mono ?_
     rintro e y ⟨⟨q5, anX, qy, rfl⟩, hb⟩
     refine hK.out _ _ (HS.step hb rfl) ?_
     clear HS
     intro HS
     replace HT := HT.step hb rfl
     clear hb
     have Dh := Lib.hid (And.intro anX qy)
     clear anX qy
     refine dH 12 (some 30) (h := fun K hK => ?_)
     go_simp
     refine (mul_any q1 q5 (wk Gs.out.1) (wk Dh.out.1) _).mono ?_
     rintro e y ⟨⟨q6, anW, ou, rfl⟩, hb⟩
     refine hK.out _ _ (HS.step hb rfl) ?_
     clear HS
     intro HS
     replace HT := HT.step hb rfl
     clear hb
     have Ar := Lib.hid (And.intro anW ou)
     clear anW ou
     obtain ⟨x, rfl, hk, hz, m0, m1, m2, m3, m4⟩ := HT.ji
     clear HS
     refine pO 14 none (h := fun K hK => ?_)
     go_simp
     refine hK.out _ _ ?_
     refine done_ (by kernel_rfl) ?_
     refine ⟨rfl, (A, c, q1, q2, q3, q4, q5, q6, b7), by simp only [puts, Act.put, List.setIfInBounds_toArray, List.set_cons_zero, List.set_cons_succ], ⟨Ar.out.1, iF (iF rfl uh.out.2 Gs.out.2) (by rw [Dh.out.2, Nat.pow_mod, iF (iF (iF uh.out.2 uh.out.2 LY.out.2) rfl Jj.out.2) rfl EN.out.2, ← Nat.pow_mod]) Ar.out.2⟩, hl0, hl1, hl2, hl3, ?_⟩
     exact ak (b := b7) ob (ak (b := w.heap.size) ob (ak (b := w.heap.size + 1) ob (ak (b := w.heap.size + 2) ob (ak (b := b6) ob (aO (pl hk.below))))))
 rintro ⟨A, c, q1, q2, q3, q4, q5, q6, b7⟩ v ⟨hpr, O1, O4, O5, O6, HK⟩
 simp only [puts, Act.put, List.setIfInBounds_toArray, List.set_cons_zero, List.set_cons_succ]
 obtain ⟨x3, rfl, hk, hz3, nN, uq, zn, Py, ZN⟩ := HK.ji
 have HB3 : Hid (Below w.heap.size w x3) := hk.below
 clear HK hk
 have HR := hpr
 clear hpr
 go_wp2_with fail
 refine vN (σ := Fn × Fn × Nat) (fun s => match s with | (s1, s2, b8) => [(31, q6.v), (32, q6.v), (33, s1.v), (34, v0.v), (35, s2.v), (8, .pointer (some ⟨b8, 0, none⟩))]) (fun s v => match s with | (s1, s2, b8) => Hid (s2.lt (2251799813685248 + 19) ∧ s2.val % Num.p = q6.val * q6.val * v0.val % Num.p) ∧ w.heap.size < b8 ∧ w.heap.size + 1 < b8 ∧ w.heap.size + 2 < b8 ∧ b7 < b8 ∧ Keeps w [(b8, .cells #[.int .u64 s2.a, .int .u64 s2.b, .int .u64 s2.c, .int .u64 s2.d, .int .u64 s2.e] 36), (w.heap.size, .cells #[.int .u64 u.a, .int .u64 u.b, .int .u64 u.c, .int .u64 u.d, .int .u64 u.e] 36), (w.heap.size + 1, .cells #[.int .u64 v0.a, .int .u64 v0.b, .int .u64 v0.c, .int .u64 v0.d, .int .u64 v0.e] 36), (w.heap.size + 2, .cells #[.int .u64 0, .int .u64 0, .int .u64 0, .int .u64 0, .int .u64 0] 36), (b7, .cells #[.int .u64 q6.a, .int .u64 q6.b, .int .u64 q6.c, .int .u64 q6.d, .int .u64 q6.e] 36)] v) ?_ ?_
 · refine LC (S := Keeps w _) (ds := [6]) (n := 7) #[false, false, false, false, false, false, false] (by kernel_rfl) rfl rfl (ak (b := w.heap.size) (o := .cells #[.int .u64 u.a, .int .u64 u.b, .int .u64 u.c, .int .u64 u.d, .int .u64 u.e] 36) ob (ak (b := w.heap.size + 1) (o := .cells #[.int .u64 v0.a, .int .u64 v0.b, .int .u64 v0.c, .int .u64 v0.d, .int .u64 v0.e] 36) ob (ak (b := w.heap.size + 2) (o := .cells #[.int .u64 0, .int .u64 0, .int .u64 0, .int .u64 0, .int .u64 0] 36) ob (ak (b := b7) (o := .cells #[.int .u64 q6.a, .int .u64 q6.b, .int .u64 q6.c, .int .u64 q6.d, .int .u64 q6.e] 36) ob (aO (pl HB3.out)))))) (fun y HS => ?_)
   refine take_ #[true, false, false, false, false, false, false] (i := 0) (N := some 31) (v := ?v12) rfl rfl (by kernel_rfl) (fun _ _ _ h => nomatch h.1) (Or.inl ⟨by rfl, ?Ui⟩) HS rfl ?_
   case Ui => (intro v hv; obtain ⟨x, rfl, _, _, n0, n1, n2, n3⟩ := hv.iO; go_simp; first | done | with_reducible rfl)
   simp only [Act.put, List.setIfInBounds_toArray, List.set_cons_zero, List.set_cons_succ]
   refine take_ #[true, true, false, false, false, false, false] (i := 1) (N := some 32) (v := ?v13) rfl rfl (by kernel_rfl) (fun _ _ _ h => nomatch h.1) (Or.inl ⟨by rfl, ?Uj⟩) HS rfl ?_
   case Uj => (intro v hv; obtain ⟨x, rfl, _, _, n0, n1, n2, n3⟩ := hv.iO; go_simp; first | done | with_reducible rfl)
   simp only [Act.put, List.setIfInBounds_toArray, List.set_cons_zero, List.set_cons_succ]
   refine take_ #[true, true, false, true, false, false, false] (i := 3) (N := some 34) (v := ?v14) rfl rfl (by kernel_rfl) (fun _ _ _ h => nomatch h.1) (Or.inl ⟨by rfl, ?abO⟩) HS rfl ?_
   case abO => (intro v hv; obtain ⟨x, rfl, _, _, n0, n1, n2, n3⟩ := hv.iO; go_simp; first | done | with_reducible rfl)
   simp only [Act.put, List.setIfInBounds_toArray, List.set_cons_zero, List.set_cons_succ]
   refine two_ #[true, true, true, true, false, false, false] #[true, true, false, true, false, true, false] (i := 2) (j := 5) (Ni := some 33) (Nj := some 8) rfl rfl rfl rfl (by kernel_rfl) (by decide) (by decide) (fun K hK => ?_) (fun K hK => ?_)
   · go_simp
     refine (mul_any q6 q6 (wk HR.out.1) (wk HR.out.1) _).mono ?_
     rintro e y ⟨⟨s1, Uf, Ug, rfl⟩, hb⟩
     refine hK.out _ _ (HS.step hb rfl) ?_
     clear HS
     intro HS
     clear hb
     have WA := Lib.hid (And.intro Uf Ug)
     clear Uf Ug
     refine two_ #[true, true, true, true, true, false, false] #[true, true, true, true, false, true, false] (i := 4) (j := 5) (Ni := some 35) (Nj := some 8) rfl rfl rfl rfl (by kernel_rfl) (by decide) (by decide) (fun K hK => ?_) (fun K hK => ?_)
     · go_simp
       refine (mul_any s1 v0 (wk WA.out.1) CY.out _).mono ?_
       rintro e y ⟨⟨s2, Iq, Ir, rfl⟩, hb⟩
       refine hK.out _ _ (HS.step hb rfl) ?_
       clear HS
       intro HS
       clear hb
       have Ri := Lib.hid (And.intro Iq Ir)
       clear Iq Ir
       refine dH 5 (some 8) (h := fun K hK => ?_)
       go_simp
       obtain ⟨b8, hbn⟩ : ∃ b, b = y.heap.size := ⟨_, rfl⟩
       have hl0 : w.heap.size < b8 := by rw [hbn]; exact HS.lt _ (by exact List.mem_cons_self)
       have hl1 : w.heap.size + 1 < b8 := by rw [hbn]; exact HS.lt _ (by exact List.mem_cons_of_mem _ (List.mem_cons_self))
       have hl2 : w.heap.size + 2 < b8 := by rw [hbn]; exact HS.lt _ (by exact List.mem_cons_of_mem _ (List.mem_cons_of_mem _ (List.mem_cons_self)))
       have hl3 : b7 < b8 := by rw [hbn]; exact HS.lt _ (by exact List.mem_cons_of_mem _ (List.mem_cons_of_mem _ (List.mem_cons_of_mem _ (List.mem_cons_self))))
       obtain ⟨HS', HT⟩ := HS.new (o := .cells #[.int .u64 0, .int .u64 0, .int .u64 0, .int .u64 0, .int .u64 0] 36)
       refine hK.out _ _ HS' ?_
       clear HS HS'
       intro HS
       try replace fM := Lib.hid (fM.out.mono (Below.alloc (Below.refl y.heap.size y) (Nat.le_refl _) (.cells #[.int .u64 0, .int .u64 0, .int .u64 0, .int .u64 0, .int .u64 0] 36)) (Nat.le_refl _))
       rw [← hbn] at HT ⊢
       clear hbn
       obtain ⟨y2, hy2⟩ : ∃ z, z = y.alloc (.cells #[.int .u64 0, .int .u64 0, .int .u64 0, .int .u64 0, .int .u64 0] 36) := ⟨_, rfl⟩
       rw [← hy2] at HS HT ⊢
       try rw [← hy2] at fM
       clear hy2
       obtain ⟨x, rfl, hk, hz, m0, m1, m2, m3, m4⟩ := HT.ji
       clear HS
       refine pO 6 none (h := fun K hK => ?_)
       go_simp
       refine hK.out _ _ ?_
       refine done_ (by kernel_rfl) ?_
       refine ⟨rfl, (s1, s2, b8), by simp only [puts, Act.put, List.setIfInBounds_toArray, List.set_cons_zero, List.set_cons_succ], ⟨Ri.out.1, iF WA.out.2 rfl Ri.out.2⟩, hl0, hl1, hl2, hl3, ?_⟩
       exact ak (b := b8) ob (ak (b := w.heap.size) ob (ak (b := w.heap.size + 1) ob (ak (b := w.heap.size + 2) ob (ak (b := b7) ob (aO (pl hk.below))))))
     · go_simp
       obtain ⟨b8, hbn⟩ : ∃ b, b = y.heap.size := ⟨_, rfl⟩
       have hl0 : w.heap.size < b8 := by rw [hbn]; exact HS.lt _ (by exact List.mem_cons_self)
       have hl1 : w.heap.size + 1 < b8 := by rw [hbn]; exact HS.lt _ (by exact List.mem_cons_of_mem _ (List.mem_cons_self))
       have hl2 : w.heap.size + 2 < b8 := by rw [hbn]; exact HS.lt _ (by exact List.mem_cons_of_mem _ (List.mem_cons_of_mem _ (List.mem_cons_self)))
       have hl3 : b7 < b8 := by rw [hbn]; exact HS.lt _ (by exact List.mem_cons_of_mem _ (List.mem_cons_of_mem _ (List.mem_cons_of_mem _ (List.mem_cons_self))))
       obtain ⟨HS', HT⟩ := HS.new (o := .cells #[.int .u64 0, .int .u64 0, .int .u64 0, .int .u64 0, .int .u64 0] 36)
       refine hK.out _ _ HS' ?_
       clear HS HS'
       intro HS
       try replace fM := Lib.hid (fM.out.mono (Below.alloc (Below.refl y.heap.size y) (Nat.le_refl _) (.cells #[.int .u64 0, .int .u64 0, .int .u64 0, .int .u64 0, .int .u64 0] 36)) (Nat.le_refl _))
       rw [← hbn] at HT ⊢
       clear hbn
       obtain ⟨y2, hy2⟩ : ∃ z, z = y.alloc (.cells #[.int .u64 0, .int .u64 0, .int .u64 0, .int .u64 0, .int .u64 0] 36) := ⟨_, rfl⟩
       rw [← hy2] at HS HT ⊢
       try rw [← hy2] at fM
       clear hy2
       refine dH 4 (some 35) (h := fun K hK => ?_)
       go_simp
       refine (mul_any s1 v0 (wk WA.out.1) CY.out _).mono ?_
       rintro e y ⟨⟨s2, Iq, Ir, rfl⟩, hb⟩
       refine hK.out _ _ (HS.step hb rfl) ?_
       clear HS
       intro HS
       replace HT := HT.step hb rfl
       clear hb
       have Ri := Lib.hid (And.intro Iq Ir)
       clear Iq Ir
       obtain ⟨x, rfl, hk, hz, m0, m1, m2, m3, m4⟩ := HT.ji
       clear HS
       refine pO 6 none (h := fun K hK => ?_)
       go_simp
       refine hK.out _ _ ?_
       refine done_ (by kernel_rfl) ?_
       refine ⟨rfl, (s1, s2, b8), by simp only [puts, Act.put, List.setIfInBounds_toArray, List.set_cons_zero, List.set_cons_succ], ⟨Ri.out.1, iF WA.out.2 rfl Ri.out.2⟩, hl0, hl1, hl2, hl3, ?_⟩
       exact ak (b := b8) ob (ak (b := w.heap.size) ob (ak (b := w.heap.size + 1) ob (ak (b := w.heap.size + 2) ob (ak (b := b7) ob (aO (pl hk.below))))))
   · go_simp
     obtain ⟨b8, hbn⟩ : ∃ b, b = y.heap.size := ⟨_, rfl⟩
     have hl0 : w.heap.size < b8 := by rw [hbn]; exact HS.lt _ (by exact List.mem_cons_self)
     have hl1 : w.heap.size + 1 < b8 := by rw [hbn]; exact HS.lt _ (by exact List.mem_cons_of_mem _ (List.mem_cons_self))
     have hl2 : w.heap.size + 2 < b8 := by rw [hbn]; exact HS.lt _ (by exact List.mem_cons_of_mem _ (List.mem_cons_of_mem _ (List.mem_cons_self)))
     have hl3 : b7 < b8 := by rw [hbn]; exact HS.lt _ (by exact List.mem_cons_of_mem _ (List.mem_cons_of_mem _ (List.mem_cons_of_mem _ (List.mem_cons_self))))
     obtain ⟨HS', HT⟩ := HS.new (o := .cells #[.int .u64 0, .int .u64 0, .int .u64 0, .int .u64 0, .int .u64 0] 36)
     refine hK.out _ _ HS' ?_
     clear HS HS'
     intro HS
     try replace fM := Lib.hid (fM.out.mono (Below.alloc (Below.refl y.heap.size y) (Nat.le_refl _) (.cells #[.int .u64 0, .int .u64 0, .int .u64 0, .int .u64 0, .int .u64 0] 36)) (Nat.le_refl _))
     rw [← hbn] at HT ⊢
     clear hbn
     obtain ⟨y2, hy2⟩ : ∃ z, z = y.alloc (.cells #[.int .u64 0, .int .u64 0, .int .u64 0, .int .u64 0, .int .u64 0] 36) := ⟨_, rfl⟩
     rw [← hy2] at HS HT ⊢
     try rw [← hy2] at fM
     clear hy2
     refine dH 2 (some 33) (h := fun K hK => ?_)
     go_simp
     refine (mul_any q6 q6 (wk HR.out.1) (wk HR.out.1) _).mono ?_
     rintro e y ⟨⟨s1, Uf, Ug, rfl⟩, hb⟩
     refine hK.out _ _ (HS.step hb rfl) ?_
     clear HS
     intro HS
     replace HT := HT.step hb rfl
     clear hb
     have WA := Lib.hid (And.intro Uf Ug)
     clear Uf Ug
     refine dH 4 (some 35) (h := fun K hK => ?_)
     go_simp
     refine (mul_any s1 v0 (wk WA.out.1) CY.out _).mono ?_
     rintro e y ⟨⟨s2, Iq, Ir, rfl⟩, hb⟩
     refine hK.out _ _ (HS.step hb rfl) ?_
     clear HS
     intro HS
     replace HT := HT.step hb rfl
     clear hb
     have Ri := Lib.hid (And.intro Iq Ir)
     clear Iq Ir
     obtain ⟨x, rfl, hk, hz, m0, m1, m2, m3, m4⟩ := HT.ji
     clear HS
     refine pO 6 none (h := fun K hK => ?_)
     go_simp
     refine hK.out _ _ ?_
     refine done_ (by kernel_rfl) ?_
     refine ⟨rfl, (s1, s2, b8), by simp only [puts, Act.put, List.setIfInBounds_toArray, List.set_cons_zero, List.set_cons_succ], ⟨Ri.out.1, iF WA.out.2 rfl Ri.out.2⟩, hl0, hl1, hl2, hl3, ?_⟩
     exact ak (b := b8) ob (ak (b := w.heap.size) ob (ak (b := w.heap.size + 1) ob (ak (b := w.heap.size + 2) ob (ak (b := b7) ob (aO (pl hk.below))))))
 rintro ⟨s1, s2, b8⟩ v ⟨hpr, O7, O8, O9, Pe, HK⟩
 simp only [puts, Act.put, List.setIfInBounds_toArray, List.set_cons_zero, List.set_cons_succ]
 obtain ⟨x4, rfl, hk, lT, rU, yL, Dj, Yf, l44⟩ := HK.ji
 have HB4 : Hid (Below w.heap.size w x4) := hk.below
 clear HK hk
 have HS2 := hpr
 clear hpr
 go_wp2_with fail
 by_cases hc : s2.val % Num.p = (small (dD 0 u.val)).val % Num.p
 · have hd1 : decide (s2.val % Num.p = (small (dD 0 u.val)).val % Num.p) = true := decide_eq_true hc
   have WU := Lib.hid hc
   clear hc
   refine st1 w [] 4 (ak (b := w.heap.size) ob (ak (b := w.heap.size + 1) ob (ak (b := w.heap.size + 2) ob (ak (b := b7) ob (ak (b := b8) ob (aO (pl HB4.out))))))) (fun HS => ?_)
   refine jB 0 (some 36) HS (h := ?_)
   refine jB 1 (some 37) HS (h := ?_)
   refine dH 2 (some 38) (h := fun K hK => ?_)
   go_simp
   refine (wz u (iQ CX.out) _).mono ?_
   rintro e y ⟨rfl, hb⟩
   refine hK.out _ _ (HS.step hb rfl) ?_
   clear HS hb
   intro HS
   refine dH 3 (some 39) (h := fun K hK => ?_)
   go_simp
   refine (nY s2 (small (dD 0 u.val)) (iQ (wk HS2.out.1)) (aF _) _).mono ?_
   rintro e y ⟨rfl, hb⟩
   refine hK.out _ _ (HS.step hb rfl) ?_
   clear HS hb
   intro HS
   obtain ⟨x5, rfl, hk5, rP, Ae, l51, Gi, WC, ZO⟩ := HS.ji
   have kR : Hid (Below w.heap.size w x5) := hk5.below
   clear HS hk5
   refine done_ (by kernel_rfl) ?_
   go_wp2_with fail
   refine st1 w [5] 6 (ak (b := w.heap.size) ob (ak (b := w.heap.size + 1) ob (ak (b := w.heap.size + 2) ob (ak (b := b7) ob (ak (b := b8) ob (aO (pl kR.out))))))) (fun HS => ?_)
   refine jB 0 (some 40) HS (h := ?_)
   refine dH 1 (some 41) (h := fun K hK => ?_)
   go_simp
   refine (yA 2 (by decide) _).mono ?_
   rintro e y ⟨rfl, hb⟩
   refine hK.out _ _ (HS.step hb rfl) ?_
   clear HS hb
   intro HS
   refine dH 2 (some 42) (h := fun K hK => ?_)
   go_simp
   refine (mZ 251 31 _).mono ?_
   rintro e y ⟨⟨A2, c2, rfl, Ue⟩, hb⟩
   refine hK.out _ _ (HS.step hb rfl) ?_
   clear HS hb
   intro HS
   refine dH 3 (some 43) (h := fun K hK => ?_)
   go_simp
   refine (jy (small 2) (VU 2) 251 31 (by decide) (by decide) A2 c2 _ Ue).mono ?_
   rintro e y ⟨⟨t1, aeO, aeP, rfl⟩, hb⟩
   refine hK.out _ _ (HS.step hb rfl) ?_
   clear HS hb
   intro HS
   have Ht1 := Lib.hid (And.intro aeO aeP)
   clear aeO aeP
   refine dH 4 (some 44) (h := fun K hK => ?_)
   go_simp
   refine (mul_any q6 t1 (wk HR.out.1) (wk Ht1.out.1) _).mono ?_
   rintro e y ⟨⟨r3, aeJ, aeK, rfl⟩, hb⟩
   refine hK.out _ _ (HS.step hb rfl) ?_
   clear HS hb
   intro HS
   have Hr3 := Lib.hid (And.intro aeJ aeK)
   clear aeJ aeK
   obtain ⟨x6, rfl, hk6, yH, Gj, Jk, Kz, UF, WE⟩ := HS.ji
   have mg : Hid (Below w.heap.size w x6) := hk6.below
   clear HS hk6
   refine pO 5 none (h := fun K hK => ?_)
   go_simp
   refine hK.out _ _ ?_
   refine done_ (by kernel_rfl) ?_
   go_wp2_with fail
   refine st1 w [5] 6 (ak (b := w.heap.size) ob (ak (b := w.heap.size + 1) ob (ak (b := w.heap.size + 2) ob (ak (b := b7) ob (ak (b := b8) ob (aO (pl mg.out))))))) (fun HS => ?_)
   refine jB 0 (some 45) HS (h := ?_)
   refine jB 1 (some 46) HS (h := ?_)
   refine jB 3 (some 48) HS (h := ?_)
   refine dH 2 (some 47) (h := fun K hK => ?_)
   go_simp
   refine (mul_any r3 r3 (wk Hr3.out.1) (wk Hr3.out.1) _).mono ?_
   rintro e y ⟨⟨t2, aeQ, aeR, rfl⟩, hb⟩
   refine hK.out _ _ (HS.step hb rfl) ?_
   clear HS hb
   intro HS
   have Ht2 := Lib.hid (And.intro aeQ aeR)
   clear aeQ aeR
   refine dH 4 (some 49) (h := fun K hK => ?_)
   go_simp
   refine (mul_any t2 v0 (wk Ht2.out.1) CY.out _).mono ?_
   rintro e y ⟨⟨s3, aeL, aeM, rfl⟩, hb⟩
   refine hK.out _ _ (HS.step hb rfl) ?_
   clear HS hb
   intro HS
   have Hs3 := Lib.hid (And.intro aeL aeM)
   clear aeL aeM
   obtain ⟨x7, rfl, ZA, Ac, KA, Pz, QJ, Yg, Yh⟩ := HS.ji
   have oW : Hid (Below w.heap.size w x7) := ZA.below
   clear HS ZA
   refine pO 5 none (h := fun K hK => ?_)
   go_simp
   refine hK.out _ _ ?_
   refine done_ (by kernel_rfl) ?_
   go_wp2_with fail
   have HE := Lib.hid (I4 (A := a.val) (V := b.val) (n := bW (iq 253 15)) (m := bW (iq 251 31))  (by rw [HU.out]; exact gU a) (by rw [HV.out]; exact gU b) HR.out.2 HS2.out.2 (acD WU.out Ht1.out.2 Hr3.out.2) (iF Ht2.out.2 rfl Hs3.out.2))
   by_cases hc2 : s3.val % Num.p = u.val % Num.p
   · have hd2 : decide (s3.val % Num.p = u.val % Num.p) = true := decide_eq_true hc2
     have HC2 := Lib.hid hc2
     clear hc2
     go_wp2_with fail
     refine (nY s3 u (iQ (wk Hs3.out.1)) (iQ CX.out) _).mono ?_
     rintro e y8 ⟨rfl, hb8⟩
     obtain ⟨x8, rfl, hc8, Di, PD, QK, UG, ZP, ZQ⟩ := dZ (b0 := w.heap.size) (b1 := w.heap.size + 1) (b2 := w.heap.size + 2) (b3 := b7) (b4 := b8) hb8 rfl ob ob ob ob ob
     have ru := aZ oW.out hc8
     clear hb8 hc8
     try simp only [eF] at Di
     go_wp2_with fail
     by_cases ho : r3.val % Num.p % 2 = 1
     · have hd3 : decide (r3.val % Num.p % 2 = 1) = true := decide_eq_true ho
       have HO := Lib.hid ho
       clear ho
       refine (aoF r3 (iQ (wk Hr3.out.1)) _).mono ?_
       rintro e y9 ⟨rfl, kP⟩
       obtain ⟨x9, rfl, Ib, Fj, WG, Yi, ZR, l93, l94⟩ := dZ (b0 := w.heap.size) (b1 := w.heap.size + 1) (b2 := w.heap.size + 2) (b3 := b7) (b4 := b8) kP rfl ob ob ob ob ob
       have pW := aZ ru.out Ib
       clear kP Ib
       try simp only [eF] at Fj
       go_wp2_with fail
       refine (wz r3 (iQ (wk Hr3.out.1)) _).mono ?_
       rintro e y10 ⟨rfl, dP⟩
       obtain ⟨x10, rfl, wQ, uQ, Kq, Pm, Po, abT, abU⟩ := dZ (b0 := w.heap.size) (b1 := w.heap.size + 1) (b2 := w.heap.size + 2) (b3 := b7) (b4 := b8) dP rfl ob ob ob ob ob
       have fB := aZ pW.out wQ
       clear dP wQ
       try simp only [eF] at uQ
       go_wp2_with fail
       refine (reduce_nat (small (dD 0 r3.val)) (aF _) _).mono ?_
       rintro e y11 ⟨rfl, dG⟩
       obtain ⟨x11, rfl, mQ, nD, Bo, Kr, Kt, Yd, Ye⟩ := dZ (b0 := w.heap.size) (b1 := w.heap.size + 1) (b2 := w.heap.size + 2) (b3 := b7) (b4 := b8) dG rfl ob ob ob ob ob
       have fC := aZ fB.out mQ
       clear dG mQ
       try simp only [eF] at nD
       go_wp2_with fail
       refine bodyPost_ret (v := .tuple #[(small (small (dD 0 r3.val)).val).v, .bool true]) ?_ rfl ?_
       · simp [results, Tryz.results55, go_sem, l10, nG, l12, kD, rQ, Gh, UE, OX, OY, OZ, nN, uq, zn, Py, ZN, O1, O4, O5, O6, rU, yL, Dj, Yf, l44, O7, O8, O9, Pe, Ae, l51, Gi, WC, ZO, Gj, Jk, Kz, UF, WE, KA, Pz, QJ, Yg, Yh, PD, QK, UG, ZP, ZQ, WG, Yi, ZR, l93, l94, Kq, Pm, Po, abT, abU, Bo, Kr, Kt, Yd, Ye]
       · exact ⟨I7 HE.out HC2.out HO.out, (pl fC.out)⟩
     · have hd3 : decide (r3.val % Num.p % 2 = 1) = false := decide_eq_false ho
       have HO := Lib.hid ho
       clear ho
       refine (aoF r3 (iQ (wk Hr3.out.1)) _).mono ?_
       rintro e y9 ⟨rfl, kP⟩
       obtain ⟨x9, rfl, Ib, Fj, WG, Yi, ZR, l93, l94⟩ := dZ (b0 := w.heap.size) (b1 := w.heap.size + 1) (b2 := w.heap.size + 2) (b3 := b7) (b4 := b8) kP rfl ob ob ob ob ob
       have pW := aZ ru.out Ib
       clear kP Ib
       try simp only [eF] at Fj
       go_wp2_with fail
       refine (reduce_nat r3 (iQ (wk Hr3.out.1)) _).mono ?_
       rintro e y10 ⟨rfl, dP⟩
       obtain ⟨x10, rfl, wQ, uQ, Kq, Pm, Po, abT, abU⟩ := dZ (b0 := w.heap.size) (b1 := w.heap.size + 1) (b2 := w.heap.size + 2) (b3 := b7) (b4 := b8) dP rfl ob ob ob ob ob
       have fB := aZ pW.out wQ
       clear dP wQ
       try simp only [eF] at uQ
       go_wp2_with fail
       refine bodyPost_ret (v := .tuple #[(small r3.val).v, .bool true]) ?_ rfl ?_
       · simp [results, Tryz.results55, go_sem, l10, nG, l12, kD, rQ, Gh, UE, OX, OY, OZ, nN, uq, zn, Py, ZN, O1, O4, O5, O6, rU, yL, Dj, Yf, l44, O7, O8, O9, Pe, Ae, l51, Gi, WC, ZO, Gj, Jk, Kz, UF, WE, KA, Pz, QJ, Yg, Yh, PD, QK, UG, ZP, ZQ, WG, Yi, ZR, l93, l94, Kq, Pm, Po, abT, abU]
       · exact ⟨Eu HE.out HC2.out HO.out, (pl fB.out)⟩
   · have hd2 : decide (s3.val % Num.p = u.val % Num.p) = false := decide_eq_false hc2
     have HC2 := Lib.hid hc2
     clear hc2
     go_wp2_with fail
     refine (nY s3 u (iQ (wk Hs3.out.1)) (iQ CX.out) _).mono ?_
     rintro e y8 ⟨rfl, hb8⟩
     obtain ⟨x8, rfl, hc8, Di, PD, QK, UG, ZP, ZQ⟩ := dZ (b0 := w.heap.size) (b1 := w.heap.size + 1) (b2 := w.heap.size + 2) (b3 := b7) (b4 := b8) hb8 rfl ob ob ob ob ob
     have ru := aZ oW.out hc8
     clear hb8 hc8
     try simp only [eF] at Di
     go_wp2_with fail
     refine bodyPost_ret (v := .tuple #[(⟨0, 0, 0, 0, 0⟩ : Fn).v, .bool false]) ?_ rfl ?_
     · simp [results, Tryz.results55, go_sem, l10, nG, l12, kD, rQ, Gh, UE, OX, OY, OZ, nN, uq, zn, Py, ZN, O1, O4, O5, O6, rU, yL, Dj, Yf, l44, O7, O8, O9, Pe, Ae, l51, Gi, WC, ZO, Gj, Jk, Kz, UF, WE, KA, Pz, QJ, Yg, Yh, PD, QK, UG, ZP, ZQ]
     · exact ⟨Ew HE.out HC2.out, (pl ru.out)⟩
 · have hd1 : decide (s2.val % Num.p = (small (dD 0 u.val)).val % Num.p) = false := decide_eq_false hc
   have WU := Lib.hid hc
   clear hc
   refine st1 w [] 4 (ak (b := w.heap.size) ob (ak (b := w.heap.size + 1) ob (ak (b := w.heap.size + 2) ob (ak (b := b7) ob (ak (b := b8) ob (aO (pl HB4.out))))))) (fun HS => ?_)
   refine jB 0 (some 36) HS (h := ?_)
   refine jB 1 (some 37) HS (h := ?_)
   refine dH 2 (some 38) (h := fun K hK => ?_)
   go_simp
   refine (wz u (iQ CX.out) _).mono ?_
   rintro e y ⟨rfl, hb⟩
   refine hK.out _ _ (HS.step hb rfl) ?_
   clear HS hb
   intro HS
   refine dH 3 (some 39) (h := fun K hK => ?_)
   go_simp
   refine (nY s2 (small (dD 0 u.val)) (iQ (wk HS2.out.1)) (aF _) _).mono ?_
   rintro e y ⟨rfl, hb⟩
   refine hK.out _ _ (HS.step hb rfl) ?_
   clear HS hb
   intro HS
   obtain ⟨x5, rfl, hk5, rP, Ae, l51, Gi, WC, ZO⟩ := HS.ji
   have kR : Hid (Below w.heap.size w x5) := hk5.below
   clear HS hk5
   refine done_ (by kernel_rfl) ?_
   go_wp2_with fail
   have HE := Lib.hid (I4 (A := a.val) (V := b.val) (n := bW (iq 253 15)) (m := bW (iq 251 31))  (by rw [HU.out]; exact gU a) (by rw [HV.out]; exact gU b) HR.out.2 HS2.out.2 (YR WU.out) HS2.out.2)
   by_cases hc2 : s2.val % Num.p = u.val % Num.p
   · have hd2 : decide (s2.val % Num.p = u.val % Num.p) = true := decide_eq_true hc2
     have HC2 := Lib.hid hc2
     clear hc2
     go_wp2_with fail
     refine (nY s2 u (iQ (wk HS2.out.1)) (iQ CX.out) _).mono ?_
     rintro e y6 ⟨rfl, hb6⟩
     obtain ⟨x6, rfl, hc6, yH, Gj, Jk, Kz, UF, WE⟩ := dZ (b0 := w.heap.size) (b1 := w.heap.size + 1) (b2 := w.heap.size + 2) (b3 := b7) (b4 := b8) hb6 rfl ob ob ob ob ob
     have mg := aZ kR.out hc6
     clear hb6 hc6
     try simp only [eF] at yH
     go_wp2_with fail
     by_cases ho : q6.val % Num.p % 2 = 1
     · have hd3 : decide (q6.val % Num.p % 2 = 1) = true := decide_eq_true ho
       have HO := Lib.hid ho
       clear ho
       refine (aoF q6 (iQ (wk HR.out.1)) _).mono ?_
       rintro e y7 ⟨rfl, hb7⟩
       obtain ⟨x7, rfl, Ef, Ac, KA, Pz, QJ, Yg, Yh⟩ := dZ (b0 := w.heap.size) (b1 := w.heap.size + 1) (b2 := w.heap.size + 2) (b3 := b7) (b4 := b8) hb7 rfl ob ob ob ob ob
       have oW := aZ mg.out Ef
       clear hb7 Ef
       try simp only [eF] at Ac
       go_wp2_with fail
       refine (wz q6 (iQ (wk HR.out.1)) _).mono ?_
       rintro e y8 ⟨rfl, hb8⟩
       obtain ⟨x8, rfl, hc8, Di, PD, QK, UG, ZP, ZQ⟩ := dZ (b0 := w.heap.size) (b1 := w.heap.size + 1) (b2 := w.heap.size + 2) (b3 := b7) (b4 := b8) hb8 rfl ob ob ob ob ob
       have ru := aZ oW.out hc8
       clear hb8 hc8
       try simp only [eF] at Di
       go_wp2_with fail
       refine (reduce_nat (small (dD 0 q6.val)) (aF _) _).mono ?_
       rintro e y9 ⟨rfl, kP⟩
       obtain ⟨x9, rfl, Ib, Fj, WG, Yi, ZR, l93, l94⟩ := dZ (b0 := w.heap.size) (b1 := w.heap.size + 1) (b2 := w.heap.size + 2) (b3 := b7) (b4 := b8) kP rfl ob ob ob ob ob
       have pW := aZ ru.out Ib
       clear kP Ib
       try simp only [eF] at Fj
       go_wp2_with fail
       refine bodyPost_ret (v := .tuple #[(small (small (dD 0 q6.val)).val).v, .bool true]) ?_ rfl ?_
       · simp [results, Tryz.results55, go_sem, l10, nG, l12, kD, rQ, Gh, UE, OX, OY, OZ, nN, uq, zn, Py, ZN, O1, O4, O5, O6, rU, yL, Dj, Yf, l44, O7, O8, O9, Pe, Ae, l51, Gi, WC, ZO, Gj, Jk, Kz, UF, WE, KA, Pz, QJ, Yg, Yh, PD, QK, UG, ZP, ZQ, WG, Yi, ZR, l93, l94]
       · exact ⟨I7 HE.out HC2.out HO.out, (pl pW.out)⟩
     · have hd3 : decide (q6.val % Num.p % 2 = 1) = false := decide_eq_false ho
       have HO := Lib.hid ho
       clear ho
       refine (aoF q6 (iQ (wk HR.out.1)) _).mono ?_
       rintro e y7 ⟨rfl, hb7⟩
       obtain ⟨x7, rfl, Ef, Ac, KA, Pz, QJ, Yg, Yh⟩ := dZ (b0 := w.heap.size) (b1 := w.heap.size + 1) (b2 := w.heap.size + 2) (b3 := b7) (b4 := b8) hb7 rfl ob ob ob ob ob
       have oW := aZ mg.out Ef
       clear hb7 Ef
       try simp only [eF] at Ac
       go_wp2_with fail
       refine (reduce_nat q6 (iQ (wk HR.out.1)) _).mono ?_
       rintro e y8 ⟨rfl, hb8⟩
       obtain ⟨x8, rfl, hc8, Di, PD, QK, UG, ZP, ZQ⟩ := dZ (b0 := w.heap.size) (b1 := w.heap.size + 1) (b2 := w.heap.size + 2) (b3 := b7) (b4 := b8) hb8 rfl ob ob ob ob ob
       have ru := aZ oW.out hc8
       clear hb8 hc8
       try simp only [eF] at Di
       go_wp2_with fail
       refine bodyPost_ret (v := .tuple #[(small q6.val).v, .bool true]) ?_ rfl ?_
       · simp [results, Tryz.results55, go_sem, l10, nG, l12, kD, rQ, Gh, UE, OX, OY, OZ, nN, uq, zn, Py, ZN, O1, O4, O5, O6, rU, yL, Dj, Yf, l44, O7, O8, O9, Pe, Ae, l51, Gi, WC, ZO, Gj, Jk, Kz, UF, WE, KA, Pz, QJ, Yg, Yh, PD, QK, UG, ZP, ZQ]
       · exact ⟨Eu HE.out HC2.out HO.out, (pl ru.out)⟩
   · have hd2 : decide (s2.val % Num.p = u.val % Num.p) = false := decide_eq_false hc2
     have HC2 := Lib.hid hc2
     clear hc2
     go_wp2_with fail
     refine (nY s2 u (iQ (wk HS2.out.1)) (iQ CX.out) _).mono ?_
     rintro e y6 ⟨rfl, hb6⟩
     obtain ⟨x6, rfl, hc6, yH, Gj, Jk, Kz, UF, WE⟩ := dZ (b0 := w.heap.size) (b1 := w.heap.size + 1) (b2 := w.heap.size + 2) (b3 := b7) (b4 := b8) hb6 rfl ob ob ob ob ob
     have mg := aZ kR.out hc6
     clear hb6 hc6
     try simp only [eF] at yH
     go_wp2_with fail
     refine bodyPost_ret (v := .tuple #[(⟨0, 0, 0, 0, 0⟩ : Fn).v, .bool false]) ?_ rfl ?_
     · simp [results, Tryz.results55, go_sem, l10, nG, l12, kD, rQ, Gh, UE, OX, OY, OZ, nN, uq, zn, Py, ZN, O1, O4, O5, O6, rU, yL, Dj, Yf, l44, O7, O8, O9, Pe, Ae, l51, Gi, WC, ZO, Gj, Jk, Kz, UF, WE]
     · exact ⟨Ew HE.out HC2.out, (pl mg.out)⟩
end
end Go.Proofs.YtehfkbaendajbaaGreatDoor
