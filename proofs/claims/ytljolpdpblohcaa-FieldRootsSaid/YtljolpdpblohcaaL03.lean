/-
  The statement FieldRoots.
-/
import Derived.Test.YtljolpdpblohcaaRows
import Derived.Test.YtljolpdpblohcaaTo
import Derived.Test.YtljolpdpblohcaaRr
import Derived.Test.YtljolpdpblohcaaFr
namespace Go.Proofs.Ytljolpdpblohcaa
open Go.RowKit Go.ChangeShapes Go.WideShapes Go.ChangeAt Go.Proofs.YtljolpdpblohcaaW.PrintLast
set_option linter.unusedSimpArgs false

set_option linter.unusedVariables false
theorem expoR : Expo (leN (nearL 253 15)) (leN (nearL 251 31)) HP := by
  rw [rootE1_eq, rootE2_eq]
  exact ⟨by decide +kernel, by decide +kernel, HP2, two_HP⟩
set_option maxRecDepth 100000 in
set_option maxHeartbeats 8000000 in
theorem fieldRoots_walk (a0 : Fn) (w0 : a0.lt 18446744073709551616) (a1 : Fn) (w1 : a1.lt 18446744073709551616) (w : World)  :
    Calls Try.prog 5 #[a0.v, a1.v] w fun e w' => e = .returned (.bool true) ∧ Below w.heap.size w w' := by
  have A0 := Lib.hid w0
  have A1 := Lib.hid w1
  clear w0 w1
  obtain ⟨n, hn⟩ : ∃ n, n = a0.val % Num.p := ⟨_, rfl⟩
  obtain ⟨m, hm⟩ : ∃ m, m = a1.val % Num.p := ⟨_, rfl⟩
  have HNM := Lib.hid (show n < Num.p ∧ m < Num.p by rw [hn, hm]; exact ⟨Nat.mod_lt _ p_pos, Nat.mod_lt _ p_pos⟩)
  have CO0 := Of_any a0 A0.out
  have CO1 := Of_any a1 A1.out
  rw [← hn] at CO0
  rw [← hm] at CO1
  have HC0 := Lib.hid CO0
  have HC1 := Lib.hid CO1
  clear CO0 CO1
  obtain ⟨N, hN⟩ : ∃ n, n = leN (nearL 253 15) := ⟨_, rfl⟩
  obtain ⟨M, hM⟩ : ∃ m, m = leN (nearL 251 31) := ⟨_, rfl⟩
  have EX : Hid (Expo N M HP) := Lib.hid (by rw [hN, hM]; exact expoR)
  obtain ⟨r, hr⟩ : ∃ r, r = small (rootV N M n m) := ⟨_, rfl⟩
  obtain ⟨ok, hok⟩ : ∃ b, b = decide (rootOk N M n m) := ⟨_, rfl⟩
  have CRt : ∀ w, Calls Try.prog 26 #[a0.v, a1.v] w fun e w' => e = .returned (.tuple #[r.v, .bool ok]) ∧ Below w.heap.size w w' := fun w => by
    have h := Root_any a0 a1 A0.out A1.out w
    have e1 : a0.val % Num.p = n % Num.p := by rw [hn, Nat.mod_mod]
    have e2 : a1.val % Num.p = m % Num.p := by rw [hm, Nat.mod_mod]
    rw [← hN, ← hM, rootV_congr e1 e2, ← hr, decide_eq_decide.mpr (root_congr (n := N) (m := M) e1 e2).1, ← hok] at h
    exact h
  have HRt := Lib.hid CRt
  have HR := Lib.hid (And.intro hr hok)
  clear CRt hn hm hN hM hr hok
  go_enter Try.func5, Try.ntmps5
  go_wp2_with fail
  refine (HRt.out _).mono ?_
  rintro e y1 ⟨rfl, hb1⟩
  obtain ⟨x1, rfl, hc1, hz1, l10, l11⟩ := keep2 (b0 := w.heap.size) (b1 := w.heap.size + 1) hb1 rfl (by (repeat (first | with_reducible exact pin_at (by assumption) | (with_reducible apply pin_at; (first | omega | (simp only [World.size_alloc, pin_size, World.size_drew, World.size_setCell] <;> omega))) | (with_reducible apply alloc_at; first | rfl | (simp only [World.size_alloc, pin_size, World.size_drew, World.size_setCell] <;> omega)) | with_reducible apply past_pin | with_reducible apply past_alloc | with_reducible apply past_drew)); all_goals (first | omega | (simp only [World.size_alloc, pin_size, World.size_drew, World.size_setCell] <;> omega))) (by (repeat (first | with_reducible exact pin_at (by assumption) | (with_reducible apply pin_at; (first | omega | (simp only [World.size_alloc, pin_size, World.size_drew, World.size_setCell] <;> omega))) | (with_reducible apply alloc_at; first | rfl | (simp only [World.size_alloc, pin_size, World.size_drew, World.size_setCell] <;> omega)) | with_reducible apply past_pin | with_reducible apply past_alloc | with_reducible apply past_drew)); all_goals (first | omega | (simp only [World.size_alloc, pin_size, World.size_drew, World.size_setCell] <;> omega)))
  have HB1 : Hid (Below w.heap.size w x1) := Below.trans (by (repeat (first | with_reducible exact (Below.refl _ _) | with_reducible refine below_pin ?_ ?_ | with_reducible refine Below.alloc ?_ ?_ _ | with_reducible refine Below.setCell ?_ ?_ _ | with_reducible refine Below.drew ?_)); all_goals (first | omega | (simp only [World.size_alloc, pin_size, World.size_drew, World.size_setCell] <;> omega))) (hc1.mono (by (first | omega | (simp only [World.size_alloc, pin_size, World.size_drew, World.size_setCell] <;> omega))))
  clear hb1 hc1
  try simp only [World.size_alloc, pin_size, World.size_drew, World.size_setCell] at hz1
  go_wp2_with fail
  refine start_ (S := Keeps w _) (ds := []) (n := 10) #[false, false, false, false, false, false, false, false, false, false] (by kernel_rfl) rfl rfl (keepsC (b := w.heap.size) (by (repeat (first | with_reducible exact pin_at (by assumption) | (with_reducible apply pin_at; (first | omega | (simp only [World.size_alloc, pin_size, World.size_drew, World.size_setCell] <;> omega))) | (with_reducible apply alloc_at; first | rfl | (simp only [World.size_alloc, pin_size, World.size_drew, World.size_setCell] <;> omega)) | with_reducible apply past_pin | with_reducible apply past_alloc | with_reducible apply past_drew)); all_goals (first | omega | (simp only [World.size_alloc, pin_size, World.size_drew, World.size_setCell] <;> omega))) (keepsC (b := w.heap.size + 1) (by (repeat (first | with_reducible exact pin_at (by assumption) | (with_reducible apply pin_at; (first | omega | (simp only [World.size_alloc, pin_size, World.size_drew, World.size_setCell] <;> omega))) | (with_reducible apply alloc_at; first | rfl | (simp only [World.size_alloc, pin_size, World.size_drew, World.size_setCell] <;> omega)) | with_reducible apply past_pin | with_reducible apply past_alloc | with_reducible apply past_drew)); all_goals (first | omega | (simp only [World.size_alloc, pin_size, World.size_drew, World.size_setCell] <;> omega))) (keepsC (b := x1.heap.size) (by (repeat (first | with_reducible exact pin_at (by assumption) | (with_reducible apply pin_at; (first | omega | (simp only [World.size_alloc, pin_size, World.size_drew, World.size_setCell] <;> omega))) | (with_reducible apply alloc_at; first | rfl | (simp only [World.size_alloc, pin_size, World.size_drew, World.size_setCell] <;> omega)) | with_reducible apply past_pin | with_reducible apply past_alloc | with_reducible apply past_drew)); all_goals (first | omega | (simp only [World.size_alloc, pin_size, World.size_drew, World.size_setCell] <;> omega))) (keeps0 (by (repeat (first | with_reducible exact HB1.out | with_reducible refine below_pin ?_ ?_ | with_reducible refine Below.alloc ?_ ?_ _ | with_reducible refine Below.setCell ?_ ?_ _ | with_reducible refine Below.drew ?_)); all_goals (first | omega | (simp only [World.size_alloc, pin_size, World.size_drew, World.size_setCell] <;> omega))))))) (fun HS => ?_)
  refine take_ #[true, false, false, false, false, false, false, false, false, false] (i := 0) (N := some 16) (v := ?v1) rfl rfl (by kernel_rfl) (fun _ _ _ h => h) (Or.inl ⟨by rfl, ?hy1⟩) HS rfl ?_
  case hy1 => (intro v hv; obtain ⟨x, rfl, _, _, n0, n1, n2⟩ := hv.pin3; go_simp; first | done | with_reducible rfl)
  simp only [Act.put, List.setIfInBounds_toArray, List.set_cons_zero, List.set_cons_succ]
  refine take_ #[true, false, true, false, false, false, false, false, false, false] (i := 2) (N := some 18) (v := ?v2) rfl rfl (by kernel_rfl) (fun _ _ _ h => h) (Or.inl ⟨by rfl, ?hy2⟩) HS rfl ?_
  case hy2 => (intro v hv; obtain ⟨x, rfl, _, _, n0, n1, n2⟩ := hv.pin3; go_simp; first | done | with_reducible rfl)
  simp only [Act.put, List.setIfInBounds_toArray, List.set_cons_zero, List.set_cons_succ]
  refine one_ #[true, true, true, false, false, false, false, false, false, false] (i := 1) (N := some 17) rfl rfl (by kernel_rfl) (by decide) (fun K hK => ?_)
  go_simp
  refine (HC0.out _).mono ?_
  rintro e y ⟨⟨Ak, ck, rfl, hdk⟩, hb⟩
  refine hK.out _ _ (HS.step hb rfl) ?_
  clear HS hb
  intro HS
  have HDK := Lib.hid hdk
  clear hdk
  refine one_ #[true, true, true, true, false, false, false, false, false, false] (i := 3) (N := some 19) rfl rfl (by kernel_rfl) (by decide) (fun K hK => ?_)
  go_simp
  refine (HC1.out _).mono ?_
  rintro e y ⟨⟨Am, cm, rfl, hdm⟩, hb⟩
  refine hK.out _ _ (HS.step hb rfl) ?_
  have HDKn := Lib.hid (HDK.out.next hb)
  clear HDK
  have HDK := HDKn
  clear HDKn
  clear HS hb
  intro HS
  have HDM := Lib.hid hdm
  clear hdm
  refine one_ #[true, true, true, true, true, false, false, false, false, false] (i := 4) (N := some 20) rfl rfl (by kernel_rfl) (by decide) (fun K hK => ?_)
  go_simp
  refine (RRoot_any Ak Am ck cm n m N M EX.out HNM.out.1 HNM.out.2 _ HDK.out HDM.out).mono ?_
  rintro e y ⟨⟨A3, c3, rt, ok2, rfl, hd3, hr3, ho3, hs3⟩, hb⟩
  refine hK.out _ _ (HS.step hb rfl) ?_
  have HDKn := Lib.hid (HDK.out.next hb)
  clear HDK
  have HDK := HDKn
  clear HDKn
  have HDMn := Lib.hid (HDM.out.next hb)
  clear HDM
  have HDM := HDMn
  clear HDMn
  clear HS hb
  intro HS
  obtain rfl : ok2 = ok := ho3.trans HR.out.2.symm
  have HD3 := Lib.hid hd3
  have HR3 := Lib.hid (And.intro hr3 (show r = small rt by rw [HR.out.1, hs3]))
  clear hd3 hr3 ho3 hs3
  refine take_ #[true, true, true, true, true, true, false, false, false, false] (i := 5) (N := some 15) (v := ?v3) rfl rfl (by kernel_rfl) (fun _ _ _ h => h) (Or.inl ⟨by rfl, ?hy3⟩) HS rfl ?_
  case hy3 => (intro v hv; obtain ⟨x, rfl, _, _, n0, n1, n2⟩ := hv.pin3; go_simp; first | done | with_reducible rfl)
  simp only [Act.put, List.setIfInBounds_toArray, List.set_cons_zero, List.set_cons_succ]
  refine take_ #[true, true, true, true, true, true, true, false, false, false] (i := 6) (N := some 21) (v := ?v4) rfl rfl (by kernel_rfl) (fun _ _ _ h => h) (Or.inl ⟨by rfl, ?hy4⟩) HS rfl ?_
  case hy4 => (intro v hv; obtain ⟨x, rfl, _, _, n0, n1, n2⟩ := hv.pin3; go_simp; first | done | with_reducible rfl)
  simp only [Act.put, List.setIfInBounds_toArray, List.set_cons_zero, List.set_cons_succ]
  refine take_ #[true, true, true, true, true, true, true, true, false, false] (i := 7) (N := some 22) (v := ?v5) rfl rfl (by kernel_rfl) (fun _ _ _ h => h) (Or.inl ⟨by rfl, ?hy5⟩) HS rfl ?_
  case hy5 => (intro v hv; obtain ⟨x, rfl, _, _, n0, n1, n2⟩ := hv.pin3; go_simp; first | done | with_reducible rfl)
  simp only [Act.put, List.setIfInBounds_toArray, List.set_cons_zero, List.set_cons_succ]
  refine take_ #[true, true, true, true, true, true, true, true, true, false] (i := 8) (N := some 7) (v := ?v6) rfl rfl (by kernel_rfl) (fun _ _ _ h => h) (Or.inl ⟨by rfl, ?hy6⟩) HS rfl ?_
  case hy6 => (intro v hv; obtain ⟨x, rfl, _, _, n0, n1, n2⟩ := hv.pin3; go_simp; first | done | with_reducible rfl)
  simp only [Act.put, List.setIfInBounds_toArray, List.set_cons_zero, List.set_cons_succ]
  refine take_ #[true, true, true, true, true, true, true, true, true, true] (i := 9) (N := some 8) (v := ?v7) rfl rfl (by kernel_rfl) (fun _ _ _ h => h) (Or.inl ⟨by rfl, ?hy7⟩) HS rfl ?_
  case hy7 => (intro v hv; obtain ⟨x, rfl, _, _, n0, n1, n2⟩ := hv.pin3; go_simp; first | done | with_reducible rfl)
  simp only [Act.put, List.setIfInBounds_toArray, List.set_cons_zero, List.set_cons_succ]
  obtain ⟨x2, rfl, hk2, hz2, l20, l21, l22⟩ := HS.pin3
  have HB2 : Hid (Below w.heap.size w x2) := hk2.below
  clear HS hk2
  refine done_ (by kernel_rfl) ?_
  go_wp2_with fail
  obtain ⟨wi, hwi⟩ : ∃ z, z = (((x2.pin w.heap.size (.cells #[.int .u64 a0.a, .int .u64 a0.b, .int .u64 a0.c, .int .u64 a0.d, .int .u64 a0.e] 25)).pin (w.heap.size + 1) (.cells #[.int .u64 a1.a, .int .u64 a1.b, .int .u64 a1.c, .int .u64 a1.d, .int .u64 a1.e] 25)).pin x1.heap.size (.cells #[.int .u64 r.a, .int .u64 r.b, .int .u64 r.c, .int .u64 r.d, .int .u64 r.e] 25)) := ⟨_, rfl⟩
  have HBW : Hid (Below w.heap.size w wi) := Lib.hid (by rw [hwi]; exact (by (repeat (first | with_reducible exact HB2.out | with_reducible refine below_pin ?_ ?_ | with_reducible refine Below.alloc ?_ ?_ _ | with_reducible refine Below.setCell ?_ ?_ _ | with_reducible refine Below.drew ?_)); all_goals (first | omega | (simp only [World.size_alloc, pin_size, World.size_drew, World.size_setCell] <;> omega))))
  have HO0 : Hid (wi.heap[w.heap.size]? = some (.cells #[.int .u64 a0.a, .int .u64 a0.b, .int .u64 a0.c, .int .u64 a0.d, .int .u64 a0.e] 25)) := Lib.hid (by rw [hwi]; exact (by (repeat (first | with_reducible exact pin_at (by assumption) | (with_reducible apply pin_at; (first | omega | (simp only [World.size_alloc, pin_size, World.size_drew, World.size_setCell] <;> omega))) | (with_reducible apply alloc_at; first | rfl | (simp only [World.size_alloc, pin_size, World.size_drew, World.size_setCell] <;> omega)) | with_reducible apply past_pin | with_reducible apply past_alloc | with_reducible apply past_drew)); all_goals (first | omega | (simp only [World.size_alloc, pin_size, World.size_drew, World.size_setCell] <;> omega))))
  have HO1 : Hid (wi.heap[w.heap.size + 1]? = some (.cells #[.int .u64 a1.a, .int .u64 a1.b, .int .u64 a1.c, .int .u64 a1.d, .int .u64 a1.e] 25)) := Lib.hid (by rw [hwi]; exact (by (repeat (first | with_reducible exact pin_at (by assumption) | (with_reducible apply pin_at; (first | omega | (simp only [World.size_alloc, pin_size, World.size_drew, World.size_setCell] <;> omega))) | (with_reducible apply alloc_at; first | rfl | (simp only [World.size_alloc, pin_size, World.size_drew, World.size_setCell] <;> omega)) | with_reducible apply past_pin | with_reducible apply past_alloc | with_reducible apply past_drew)); all_goals (first | omega | (simp only [World.size_alloc, pin_size, World.size_drew, World.size_setCell] <;> omega))))
  have HO2 : Hid (wi.heap[x1.heap.size]? = some (.cells #[.int .u64 r.a, .int .u64 r.b, .int .u64 r.c, .int .u64 r.d, .int .u64 r.e] 25)) := Lib.hid (by rw [hwi]; exact (by (repeat (first | with_reducible exact pin_at (by assumption) | (with_reducible apply pin_at; (first | omega | (simp only [World.size_alloc, pin_size, World.size_drew, World.size_setCell] <;> omega))) | (with_reducible apply alloc_at; first | rfl | (simp only [World.size_alloc, pin_size, World.size_drew, World.size_setCell] <;> omega)) | with_reducible apply past_pin | with_reducible apply past_alloc | with_reducible apply past_drew)); all_goals (first | omega | (simp only [World.size_alloc, pin_size, World.size_drew, World.size_setCell] <;> omega))))
  rw [← hwi] at HD3 ⊢
  clear HDK HDM
  clear hwi HB2 hz2 l20 l21 l22
  have HB2 : Hid (Below wi.heap.size wi wi) := Lib.hid (Below.refl _ _)
  refine start_ (S := Keeps wi _) (ds := []) (n := 13) #[false, false, false, false, false, false, false, false, false, false, false, false, false] (by kernel_rfl) rfl rfl (keepsC (b := w.heap.size) (past_drew HO0.out) (keepsC (b := w.heap.size + 1) (past_drew HO1.out) (keepsC (b := x1.heap.size) (past_drew HO2.out) (keeps0 (by (repeat (first | with_reducible exact HB2.out | with_reducible refine below_pin ?_ ?_ | with_reducible refine Below.alloc ?_ ?_ _ | with_reducible refine Below.setCell ?_ ?_ _ | with_reducible refine Below.drew ?_)); all_goals (first | omega | (simp only [World.size_alloc, pin_size, World.size_drew, World.size_setCell] <;> omega))))))) (fun HS => ?_)
  refine take_ #[true, false, false, false, false, false, false, false, false, false, false, false, false] (i := 0) (N := some 23) (v := ?v8) rfl rfl (by kernel_rfl) (fun _ _ _ h => h) (Or.inl ⟨by rfl, ?hy8⟩) HS rfl ?_
  case hy8 => (intro v hv; obtain ⟨x, rfl, _, _, n0, n1, n2⟩ := hv.pin3; go_simp; first | done | with_reducible rfl)
  simp only [Act.put, List.setIfInBounds_toArray, List.set_cons_zero, List.set_cons_succ]
  refine take_ #[true, true, false, false, false, false, false, false, false, false, false, false, false] (i := 1) (N := some 24) (v := ?v9) rfl rfl (by kernel_rfl) (fun _ _ _ h => h) (Or.inl ⟨by rfl, ?hy9⟩) HS rfl ?_
  case hy9 => (intro v hv; obtain ⟨x, rfl, _, _, n0, n1, n2⟩ := hv.pin3; go_simp; first | done | with_reducible rfl)
  simp only [Act.put, List.setIfInBounds_toArray, List.set_cons_zero, List.set_cons_succ]
  refine one_ #[true, true, true, false, false, false, false, false, false, false, false, false, false] (i := 2) (N := some 25) rfl rfl (by kernel_rfl) (by decide) (fun K hK => ?_)
  go_simp
  refine (Elem_to A3 c3 rt r HR3.out.1 HR3.out.2 _ (HD3.out.next HS.1)).mono ?_
  rintro e y ⟨rfl, hb⟩
  refine hK.out _ _ (HS.step hb rfl) ?_
  clear HS hb
  intro HS
  refine take_ #[true, true, true, true, false, false, false, false, false, false, false, false, false] (i := 3) (N := some 26) (v := ?v10) rfl rfl (by kernel_rfl) (fun _ _ _ h => h) (Or.inl ⟨by rfl, ?hy10⟩) HS rfl ?_
  case hy10 => (intro v hv; obtain ⟨x, rfl, _, _, n0, n1, n2⟩ := hv.pin3; go_simp; first | done | with_reducible rfl)
  simp only [Act.put, List.setIfInBounds_toArray, List.set_cons_zero, List.set_cons_succ]
  refine take_ #[true, true, true, true, true, false, false, false, false, false, false, false, false] (i := 4) (N := some 27) (v := ?v11) rfl rfl (by kernel_rfl) (fun _ _ _ h => h) (Or.inl ⟨by rfl, ?hy11⟩) HS rfl ?_
  case hy11 => (intro v hv; obtain ⟨x, rfl, _, _, n0, n1, n2⟩ := hv.pin3; go_simp; first | done | with_reducible rfl)
  simp only [Act.put, List.setIfInBounds_toArray, List.set_cons_zero, List.set_cons_succ]
  refine take_ #[true, true, true, true, true, true, false, false, false, false, false, false, false] (i := 5) (N := some 28) (v := ?v12) rfl rfl (by kernel_rfl) (fun _ _ _ h => h) (Or.inl ⟨by rfl, ?hy12⟩) HS rfl ?_
  case hy12 => (intro v hv; obtain ⟨x, rfl, _, _, n0, n1, n2⟩ := hv.pin3; go_simp; first | done | with_reducible rfl)
  simp only [Act.put, List.setIfInBounds_toArray, List.set_cons_zero, List.set_cons_succ]
  refine take_ #[true, true, true, true, true, true, true, false, false, false, false, false, false] (i := 6) (N := some 29) (v := ?v13) rfl rfl (by kernel_rfl) (fun _ _ _ h => h) (Or.inl ⟨by rfl, ?hy13⟩) HS rfl ?_
  case hy13 => (intro v hv; obtain ⟨x, rfl, _, _, n0, n1, n2⟩ := hv.pin3; go_simp; first | done | with_reducible rfl)
  simp only [Act.put, List.setIfInBounds_toArray, List.set_cons_zero, List.set_cons_succ]
  refine take_ #[true, true, true, true, true, true, true, true, false, false, false, false, false] (i := 7) (N := some 30) (v := ?v14) rfl rfl (by kernel_rfl) (fun _ _ _ h => h) (Or.inl ⟨by rfl, ?hy14⟩) HS rfl ?_
  case hy14 => (intro v hv; obtain ⟨x, rfl, _, _, n0, n1, n2⟩ := hv.pin3; go_simp; first | done | with_reducible rfl)
  simp only [Act.put, List.setIfInBounds_toArray, List.set_cons_zero, List.set_cons_succ]
  refine take_ #[true, true, true, true, true, true, true, true, true, false, false, false, false] (i := 8) (N := some 31) (v := ?v15) rfl rfl (by kernel_rfl) (fun _ _ _ h => h) (Or.inl ⟨by rfl, ?hy15⟩) HS rfl ?_
  case hy15 => (intro v hv; obtain ⟨x, rfl, _, _, n0, n1, n2⟩ := hv.pin3; go_simp; first | done | with_reducible rfl)
  simp only [Act.put, List.setIfInBounds_toArray, List.set_cons_zero, List.set_cons_succ]
  refine take_ #[true, true, true, true, true, true, true, true, true, true, false, false, false] (i := 9) (N := some 32) (v := ?v16) rfl rfl (by kernel_rfl) (fun _ _ _ h => h) (Or.inl ⟨by rfl, ?hy16⟩) HS rfl ?_
  case hy16 => (intro v hv; obtain ⟨x, rfl, _, _, n0, n1, n2⟩ := hv.pin3; go_simp; first | done | with_reducible rfl)
  simp only [Act.put, List.setIfInBounds_toArray, List.set_cons_zero, List.set_cons_succ]
  refine one_ #[true, true, true, true, true, true, true, true, true, true, true, false, false] (i := 10) (N := some 33) rfl rfl (by kernel_rfl) (by decide) (fun K hK => ?_)
  go_simp
  refine (known_any _).mono ?_
  rintro e y ⟨rfl, hb⟩
  refine hK.out _ _ (HS.step hb rfl) ?_
  clear HS hb
  intro HS
  refine take_ #[true, true, true, true, true, true, true, true, true, true, true, true, false] (i := 11) (N := some 34) (v := ?v17) rfl rfl (by kernel_rfl) (fun _ _ _ h => h) (Or.inl ⟨by rfl, ?hy17⟩) HS rfl ?_
  case hy17 => (intro v hv; obtain ⟨x, rfl, _, _, n0, n1, n2⟩ := hv.pin3; go_simp; first | done | with_reducible rfl)
  simp only [Act.put, List.setIfInBounds_toArray, List.set_cons_zero, List.set_cons_succ]
  refine take_ #[true, true, true, true, true, true, true, true, true, true, true, true, true] (i := 12) (N := some 4) (v := ?v18) rfl rfl (by kernel_rfl) (fun _ _ _ h => h) (Or.inl ⟨by rfl, ?hy18⟩) HS rfl ?_
  case hy18 => (intro v hv; obtain ⟨x, rfl, _, _, n0, n1, n2⟩ := hv.pin3; go_simp; first | done | with_reducible rfl)
  simp only [Act.put, List.setIfInBounds_toArray, List.set_cons_zero, List.set_cons_succ]
  obtain ⟨x3, rfl, hk3, hz3, l30, l31, l32⟩ := HS.pin3
  have HB3 : Hid (Below wi.heap.size wi x3) := hk3.below
  clear HS hk3
  refine done_ (by kernel_rfl) ?_
  go_wp2_with fail
  go_ret
  exact ⟨rfl, Below.trans HBW.out ((below_pin_same (below_pin_same (below_pin_same HB3.out HO0.out l30) HO1.out (by rw [pin_size]; exact l31)) HO2.out (by rw [pin_size, pin_size]; exact l32)).mono HBW.out.size)⟩

set_option maxRecDepth 100000 in
theorem fieldRoots_lifted (os : Os) (started : os.Started) (H : Type) (enc : TypeId × Value → H) :
    ReturnsInHanded {} Try.checked os 5 .any (Rows.fieldRootsSpec.pre6 enc Try.prog Try.f5 Rows.fieldRootsRow.domain false) (Rows.fieldRootsSpec.post enc Try.prog Try.f5 false true false false) := by
  refine returnsInHanded_of_change (C := Try.checked) own started (by kernel_rfl) Try.func5
    (ChangeSpec.witness6 (enc := enc) (C := Try.checked) false ⟨#[], #[.agg #[.int .u64 0, .int .u64 0, .int .u64 0, .int .u64 0, .int .u64 0], .agg #[.int .u64 0, .int .u64 0, .int .u64 0, .int .u64 0, .int .u64 0]], []⟩ 8 (by kernel_rfl) (by kernel_rfl) (by kernel_rfl) (by kernel_rfl)) ?_
  intro W base args ds gs before hval0 hW hcnd _
  have hval : ∀ (j : Nat) t v, Try.f5.params[j]? = some t → args[j]? = some v → Value.okWide Try.prog W .any base t v := hval0
  have hW' := hW
  obtain ⟨p, q, hA0, hV, rfl, hfz, hnd⟩ := hW
  have hA : DataW.TrodAll enc Try.prog W 0 (fun _ => true) true Try.f5.params.toList args.toList ds p := hA0
  rw [Try.params5] at hA hval
  obtain ⟨v0, vs0, d0, ds0, p0, q0, hargs, rfl, rfl, h0, r0⟩ := trodAll_cons hA
  obtain ⟨v1, vs1, d1, ds1, p1, q1, rfl, rfl, rfl, h1, r1⟩ := trodAll_cons r0
  obtain ⟨rfl, rfl, rfl⟩ := trodAll_nil r1
  obtain rfl : args = #[v0, v1] := by cases args; simp_all
  obtain ⟨rfl, rfl⟩ := trodVars_none hV
  have k0 := h0
  have lt0 : ∀ x ∈ p0, x.block < W.heap.size := by obtain ⟨m, hm⟩ := k0; exact DataW.trod_lt m _ _ _ hm
  obtain ⟨a0, rfl, w0⟩ := open_elem (hval 0 25 v0 rfl rfl) h0
  have k1 := h1
  have lt1 : ∀ x ∈ p1, x.block < W.heap.size := by obtain ⟨m, hm⟩ := k1; exact DataW.trod_lt m _ _ _ hm
  obtain ⟨a1, rfl, w1⟩ := open_elem (hval 1 25 v1 rfl rfl) h1
  clear hA0 hval0
  refine (fieldRoots_walk a0 w0 a1 w1 W ).mono fun e W' ⟨he, bel⟩ => ?_
  subst he
  exact ⟨_, rfl, _, _, _, [], _, [], hW', trodAll_mk1 (shut_bool Try.underlying4 _), (trodAll_cons_mk (Below.trod laidOut (by kernel_rfl) (of_decide_eq_true (by kernel_rfl)) k0 bel lt0) (trodAll_cons_mk (Below.trod laidOut (by kernel_rfl) (of_decide_eq_true (by kernel_rfl)) k1 bel lt1) trodAll_mk0)), rfl, bel.frame _, fun h => by cases h⟩

theorem fieldRoots_holds : Rows.FieldRootsSaid :=
  OpenClaim.holds_of_wide 5 Try.f5 rfl rfl rfl rfl rfl rfl rfl ⟨rfl, rfl, rfl, rfl, rfl⟩ rfl rfl rfl rfl rfl (by kernel_rfl) Try.func5 (by kernel_rfl)
    (of_decide_eq_true (by kernel_rfl)) (by unfold Func.isWrapper; first | (rw [if_pos (by decide +kernel)]; kernel_rfl) | (rw [if_neg (by decide +kernel)]; exact ⟨rfl, rfl⟩))
    (fun os started H enc _ => fieldRoots_lifted os started H enc)

end Go.Proofs.Ytljolpdpblohcaa
