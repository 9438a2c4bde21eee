/-
  The statement FieldSame.
-/
import Derived.Test.YtljolpdpblohcaaRows
import Derived.Test.YtljolpdpblohcaaEm
import Derived.Test.YtljolpdpblohcaaFr
namespace Go.Proofs.Ytljolpdpblohcaa
open Go.RowKit Go.ChangeShapes Go.WideShapes Go.ChangeAt Go.Proofs.YtljolpdpblohcaaW.PrintLast
set_option linter.unusedSimpArgs false

set_option linter.unusedVariables false
theorem zero_odd {n : Nat} (h : (dig n).length = 0) : decide (n % 2 = 1) = false := by
  have h1 := lt_dig n
  rw [h, Nat.pow_zero] at h1
  exact decide_eq_false (by omega)
theorem odd_dig {n : Nat} : dg n 0 % 2 = n % 2 := by
  simp only [dg, Nat.pow_zero, Nat.div_one, BB]; omega
set_option maxRecDepth 100000 in
set_option maxHeartbeats 8000000 in
theorem fieldSame_walk (a0 : Fn) (w0 : a0.lt 18446744073709551616) (a1 : Fn) (w1 : a1.lt 18446744073709551616) (w : World)  :
    Calls Try.prog 4 #[a0.v, a1.v] w fun e w' => e = .returned (.bool true) ∧ Below w.heap.size w w' := by
  have A0 := Lib.hid w0
  have A1 := Lib.hid w1
  clear w0 w1
  obtain ⟨sm, hsm⟩ : ∃ b, b = decide (a0.val % Num.p = a1.val % Num.p) := ⟨_, rfl⟩
  have CS := Lib.hid (Same_to a0 a1 sm A0.out A1.out hsm.symm)
  have HSM := Lib.hid hsm
  clear hsm
  obtain ⟨s, hs⟩ : ∃ s, s = small a0.val := ⟨_, rfl⟩
  have CR := Lib.hid (Red_to a0 s _ A0.out hs rfl)
  have CS2 := Lib.hid (Same_to a0 s true A0.out (by rw [hs]; exact small_u _) (by rw [hs]; exact decide_eq_true (sv _).symm))
  clear hs
  obtain ⟨n, hn⟩ : ∃ n, n = a0.val % Num.p := ⟨_, rfl⟩
  obtain ⟨m, hm⟩ : ∃ m, m = a1.val % Num.p := ⟨_, rfl⟩
  have HNM := Lib.hid (show n < Num.p ∧ m < Num.p by rw [hn, hm]; exact ⟨Nat.mod_lt _ p_pos, Nat.mod_lt _ p_pos⟩)
  have CO0 := Of_any a0 A0.out
  have CO1 := Of_any a1 A1.out
  obtain ⟨L, hL⟩ : ∃ L, L = (dig n).length := ⟨_, rfl⟩
  rw [← hn, ← hL] at CO0
  rw [← hm] at CO1
  have HC0 := Lib.hid CO0
  have HC1 := Lib.hid CO1
  clear CO0 CO1
  have HRS : Hid (∀ (A B : Option Addr) (c d : Nat) (w : World), Dn w A c n → Dn w B d m → Calls Try.prog 24 #[.slice A L c, .slice B (dig m).length d] w fun e w' => e = .returned (.bool sm) ∧ Below w.heap.size w w') := Lib.hid (by
    intro A B c d w h1 h2
    have h := RSame_any A B c d n m (p_dig HNM.out.1) (p_dig HNM.out.2) w h1 h2
    rw [hn, hm, ← HSM.out, ← hn, ← hm, ← hL] at h
    exact h)
  have HOD := Lib.hid (show ∀ od, decide (n % 2 = 1) = od → ∀ w, Calls Try.prog 25 #[a0.v] w fun e w' => e = .returned (.bool od) ∧ Below w.heap.size w w' from fun od h => Odd_to a0 od A0.out (by rw [← hn]; exact h))
  clear hn hm
  have HLn := Lib.hid hL
  clear hL
  by_cases hz : 0 < L
  · have HZ := Lib.hid hz
    have hzz : (0 : Int) < (L : Int) := by omega
    by_cases ho : n % 2 = 1
    · have HO := Lib.hid (show decide (n % 2 = 1) = true from decide_eq_true ho)
      clear ho
      go_enter Try.func4, Try.ntmps4
      go_wp2_with fail
      refine start_ (S := Keeps w _) (ds := []) (n := 6) #[false, false, false, false, false, false] (by kernel_rfl) rfl rfl (keepsC (b := w.heap.size) (by (repeat (first | with_reducible exact pin_at (by assumption) | (with_reducible apply pin_at; (first | omega | (simp only [World.size_alloc, pin_size, World.size_drew, World.size_setCell] <;> omega))) | (with_reducible apply alloc_at; first | rfl | (simp only [World.size_alloc, pin_size, World.size_drew, World.size_setCell] <;> omega)) | with_reducible apply past_pin | with_reducible apply past_alloc | with_reducible apply past_drew)); all_goals (first | omega | (simp only [World.size_alloc, pin_size, World.size_drew, World.size_setCell] <;> omega))) (keepsC (b := w.heap.size + 1) (by (repeat (first | with_reducible exact pin_at (by assumption) | (with_reducible apply pin_at; (first | omega | (simp only [World.size_alloc, pin_size, World.size_drew, World.size_setCell] <;> omega))) | (with_reducible apply alloc_at; first | rfl | (simp only [World.size_alloc, pin_size, World.size_drew, World.size_setCell] <;> omega)) | with_reducible apply past_pin | with_reducible apply past_alloc | with_reducible apply past_drew)); all_goals (first | omega | (simp only [World.size_alloc, pin_size, World.size_drew, World.size_setCell] <;> omega))) (keeps0 (by (repeat (first | with_reducible exact (Below.refl _ _) | with_reducible refine below_pin ?_ ?_ | with_reducible refine Below.alloc ?_ ?_ _ | with_reducible refine Below.setCell ?_ ?_ _ | with_reducible refine Below.drew ?_)); all_goals (first | omega | (simp only [World.size_alloc, pin_size, World.size_drew, World.size_setCell] <;> omega)))))) (fun HS => ?_)
      refine take_ #[true, false, false, false, false, false] (i := 0) (N := some 7) (v := ?v1) rfl rfl (by kernel_rfl) (fun _ _ _ h => h) (Or.inl ⟨by rfl, ?hy1⟩) HS rfl ?_
      case hy1 => (intro v hv; obtain ⟨x, rfl, _, _, n0, n1⟩ := hv.pin2; go_simp; first | done | with_reducible rfl)
      simp only [Act.put, List.setIfInBounds_toArray, List.set_cons_zero, List.set_cons_succ]
      refine take_ #[true, false, true, false, false, false] (i := 2) (N := some 9) (v := ?v2) rfl rfl (by kernel_rfl) (fun _ _ _ h => h) (Or.inl ⟨by rfl, ?hy2⟩) HS rfl ?_
      case hy2 => (intro v hv; obtain ⟨x, rfl, _, _, n0, n1⟩ := hv.pin2; go_simp; first | done | with_reducible rfl)
      simp only [Act.put, List.setIfInBounds_toArray, List.set_cons_zero, List.set_cons_succ]
      refine one_ #[true, true, true, false, false, false] (i := 1) (N := some 8) rfl rfl (by kernel_rfl) (by decide) (fun K hK => ?_)
      go_simp
      refine (HC0.out _).mono ?_
      rintro e y ⟨⟨Ak, ck, rfl, hdk⟩, hb⟩
      refine hK.out _ _ (HS.step hb rfl) ?_
      clear HS hb
      intro HS
      have HDK := Lib.hid hdk
      clear hdk
      refine one_ #[true, true, true, true, false, false] (i := 3) (N := some 10) rfl rfl (by kernel_rfl) (by decide) (fun K hK => ?_)
      go_simp
      refine (HC1.out _).mono ?_
      rintro e y ⟨⟨Am, cm, rfl, hdm⟩, hb⟩
      refine hK.out _ _ (HS.step hb rfl) ?_
      have HDKn := Lib.hid (HDK.out.next hb)
      clear HDK
      have HDK := HDKn
      clear HDKn
      clear HS hb
      intro HS
      have HDM := Lib.hid hdm
      clear hdm
      refine take_ #[true, true, true, true, true, false] (i := 4) (N := some 5) (v := ?v3) rfl rfl (by kernel_rfl) (fun _ _ _ h => h) (Or.inl ⟨by rfl, ?hy3⟩) HS rfl ?_
      case hy3 => (intro v hv; obtain ⟨x, rfl, _, _, n0, n1⟩ := hv.pin2; go_simp; first | done | with_reducible rfl)
      simp only [Act.put, List.setIfInBounds_toArray, List.set_cons_zero, List.set_cons_succ]
      refine take_ #[true, true, true, true, true, true] (i := 5) (N := some 6) (v := ?v4) rfl rfl (by kernel_rfl) (fun _ _ _ h => h) (Or.inl ⟨by rfl, ?hy4⟩) HS rfl ?_
      case hy4 => (intro v hv; obtain ⟨x, rfl, _, _, n0, n1⟩ := hv.pin2; go_simp; first | done | with_reducible rfl)
      simp only [Act.put, List.setIfInBounds_toArray, List.set_cons_zero, List.set_cons_succ]
      obtain ⟨x1, rfl, hk1, hz1, l10, l11⟩ := HS.pin2
      have HB1 : Hid (Below w.heap.size w x1) := hk1.below
      clear HS hk1
      refine done_ (by kernel_rfl) ?_
      go_wp2_with fail
      obtain ⟨wi, hwi⟩ : ∃ z, z = ((x1.pin w.heap.size (.cells #[.int .u64 a0.a, .int .u64 a0.b, .int .u64 a0.c, .int .u64 a0.d, .int .u64 a0.e] 25)).pin (w.heap.size + 1) (.cells #[.int .u64 a1.a, .int .u64 a1.b, .int .u64 a1.c, .int .u64 a1.d, .int .u64 a1.e] 25)) := ⟨_, rfl⟩
      have HBW : Hid (Below w.heap.size w wi) := Lib.hid (by rw [hwi]; exact (by (repeat (first | with_reducible exact HB1.out | with_reducible refine below_pin ?_ ?_ | with_reducible refine Below.alloc ?_ ?_ _ | with_reducible refine Below.setCell ?_ ?_ _ | with_reducible refine Below.drew ?_)); all_goals (first | omega | (simp only [World.size_alloc, pin_size, World.size_drew, World.size_setCell] <;> omega))))
      have HO0 : Hid (wi.heap[w.heap.size]? = some (.cells #[.int .u64 a0.a, .int .u64 a0.b, .int .u64 a0.c, .int .u64 a0.d, .int .u64 a0.e] 25)) := Lib.hid (by rw [hwi]; exact (by (repeat (first | with_reducible exact pin_at (by assumption) | (with_reducible apply pin_at; (first | omega | (simp only [World.size_alloc, pin_size, World.size_drew, World.size_setCell] <;> omega))) | (with_reducible apply alloc_at; first | rfl | (simp only [World.size_alloc, pin_size, World.size_drew, World.size_setCell] <;> omega)) | with_reducible apply past_pin | with_reducible apply past_alloc | with_reducible apply past_drew)); all_goals (first | omega | (simp only [World.size_alloc, pin_size, World.size_drew, World.size_setCell] <;> omega))))
      have HO1 : Hid (wi.heap[w.heap.size + 1]? = some (.cells #[.int .u64 a1.a, .int .u64 a1.b, .int .u64 a1.c, .int .u64 a1.d, .int .u64 a1.e] 25)) := Lib.hid (by rw [hwi]; exact (by (repeat (first | with_reducible exact pin_at (by assumption) | (with_reducible apply pin_at; (first | omega | (simp only [World.size_alloc, pin_size, World.size_drew, World.size_setCell] <;> omega))) | (with_reducible apply alloc_at; first | rfl | (simp only [World.size_alloc, pin_size, World.size_drew, World.size_setCell] <;> omega)) | with_reducible apply past_pin | with_reducible apply past_alloc | with_reducible apply past_drew)); all_goals (first | omega | (simp only [World.size_alloc, pin_size, World.size_drew, World.size_setCell] <;> omega))))
      rw [← hwi] at HDK HDM ⊢
      clear hwi HB1 hz1 l10 l11
      obtain ⟨b, off, rfl, hbw, hcell⟩ := HDK.out.cell (i := 0) (by rw [← HLn.out]; exact HZ.out)
      obtain ⟨d, hd⟩ : ∃ d, d = dg n 0 := ⟨_, rfl⟩
      have HC : Hid (wi.cell? ⟨b, off, none⟩ = some (.int .u64 (d : Int))) := Lib.hid (by rw [hd]; exact hcell 0 (by rw [← HLn.out]; exact HZ.out))
      have t1 : (((d : Int)).tmod 2 == 1) = true := by have h := HO.out; rw [← odd_dig, ← hd] at h; rw [← h, Bool.eq_iff_iff, beq_iff_eq, decide_eq_true_eq, Int.tmod_eq_emod_of_nonneg (by omega)]; omega
      have t2 : (((d : Int)) % 2 == 1) = true := by have h := HO.out; rw [← odd_dig, ← hd] at h; rw [← h, Bool.eq_iff_iff, beq_iff_eq, decide_eq_true_eq]; omega
      clear hcell hd
      refine start_ (S := Keeps wi _) (ds := []) (n := 32) #[false, false, false, false, false, false, false, false, false, false, false, false, false, false, false, false, false, false, false, false, false, false, false, false, false, false, false, false, false, false, false, false] (by kernel_rfl) rfl rfl (keepsC (b := w.heap.size) (past_drew HO0.out) (keepsC (b := w.heap.size + 1) (past_drew HO1.out) (keeps0 (by (repeat (first | with_reducible exact (Below.refl _ _) | with_reducible refine below_pin ?_ ?_ | with_reducible refine Below.alloc ?_ ?_ _ | with_reducible refine Below.setCell ?_ ?_ _ | with_reducible refine Below.drew ?_)); all_goals (first | omega | (simp only [World.size_alloc, pin_size, World.size_drew, World.size_setCell] <;> omega)))))) (fun HS => ?_)
      refine take_ #[true, false, false, false, false, false, false, false, false, false, false, false, false, false, false, false, false, false, false, false, false, false, false, false, false, false, false, false, false, false, false, false] (i := 0) (N := some 11) (v := ?v5) rfl rfl (by kernel_rfl) (fun _ _ _ h => h) (Or.inl ⟨by rfl, ?hy5⟩) HS rfl ?_
      case hy5 => (intro v hv; obtain ⟨x, rfl, hk, _, n0, n1⟩ := hv.pin2; have hAA := (hv.1.cell (p := ⟨b, off, none⟩) hbw).trans HC.out; clear hk; go_simp; first | done | with_reducible rfl)
      simp only [Act.put, List.setIfInBounds_toArray, List.set_cons_zero, List.set_cons_succ]
      refine take_ #[true, true, false, false, false, false, false, false, false, false, false, false, false, false, false, false, false, false, false, false, false, false, false, false, false, false, false, false, false, false, false, false] (i := 1) (N := some 12) (v := ?v6) rfl rfl (by kernel_rfl) (fun _ _ _ h => h) (Or.inl ⟨by rfl, ?hy6⟩) HS rfl ?_
      case hy6 => (intro v hv; obtain ⟨x, rfl, hk, _, n0, n1⟩ := hv.pin2; have hAA := (hv.1.cell (p := ⟨b, off, none⟩) hbw).trans HC.out; clear hk; go_simp; first | done | with_reducible rfl)
      simp only [Act.put, List.setIfInBounds_toArray, List.set_cons_zero, List.set_cons_succ]
      refine take_ #[true, true, false, true, false, false, false, false, false, false, false, false, false, false, false, false, false, false, false, false, false, false, false, false, false, false, false, false, false, false, false, false] (i := 3) (N := some 14) (v := ?v7) rfl rfl (by kernel_rfl) (fun _ _ _ h => h) (Or.inl ⟨by rfl, ?hy7⟩) HS rfl ?_
      case hy7 => (intro v hv; obtain ⟨x, rfl, hk, _, n0, n1⟩ := hv.pin2; have hAA := (hv.1.cell (p := ⟨b, off, none⟩) hbw).trans HC.out; clear hk; go_simp; first | done | with_reducible rfl)
      simp only [Act.put, List.setIfInBounds_toArray, List.set_cons_zero, List.set_cons_succ]
      refine take_ #[true, true, false, true, true, false, false, false, false, false, false, false, false, false, false, false, false, false, false, false, false, false, false, false, false, false, false, false, false, false, false, false] (i := 4) (N := some 15) (v := ?v8) rfl rfl (by kernel_rfl) (fun _ _ _ h => h) (Or.inl ⟨by rfl, ?hy8⟩) HS rfl ?_
      case hy8 => (intro v hv; obtain ⟨x, rfl, hk, _, n0, n1⟩ := hv.pin2; have hAA := (hv.1.cell (p := ⟨b, off, none⟩) hbw).trans HC.out; clear hk; go_simp; first | done | with_reducible rfl)
      simp only [Act.put, List.setIfInBounds_toArray, List.set_cons_zero, List.set_cons_succ]
      refine one_ #[true, true, true, true, true, false, false, false, false, false, false, false, false, false, false, false, false, false, false, false, false, false, false, false, false, false, false, false, false, false, false, false] (i := 2) (N := some 13) rfl rfl (by kernel_rfl) (by decide) (fun K hK => ?_)
      go_simp
      refine (CS.out _).mono ?_
      rintro e y ⟨rfl, hb⟩
      refine hK.out _ _ (HS.step hb rfl) ?_
      clear HS hb
      intro HS
      refine one_ #[true, true, true, true, true, true, false, false, false, false, false, false, false, false, false, false, false, false, false, false, false, false, false, false, false, false, false, false, false, false, false, false] (i := 5) (N := some 16) rfl rfl (by kernel_rfl) (by decide) (fun K hK => ?_)
      go_simp
      refine (HRS.out (some ⟨b, off, none⟩) Am ck cm _ (HDK.out.next HS.1) (HDM.out.next HS.1)).mono ?_
      rintro e y ⟨rfl, hb⟩
      refine hK.out _ _ (HS.step hb rfl) ?_
      clear HS hb
      intro HS
      refine take_ #[true, true, true, true, true, true, true, false, false, false, false, false, false, false, false, false, false, false, false, false, false, false, false, false, false, false, false, false, false, false, false, false] (i := 6) (N := some 17) (v := ?v9) rfl rfl (by kernel_rfl) (fun _ _ _ h => h) (Or.inl ⟨by rfl, ?hy9⟩) HS rfl ?_
      case hy9 => (intro v hv; obtain ⟨x, rfl, hk, _, n0, n1⟩ := hv.pin2; have hAA := (hv.1.cell (p := ⟨b, off, none⟩) hbw).trans HC.out; clear hk; go_simp; first | done | with_reducible rfl)
      simp only [Act.put, List.setIfInBounds_toArray, List.set_cons_zero, List.set_cons_succ]
      refine take_ #[true, true, true, true, true, true, true, true, false, false, false, false, false, false, false, false, false, false, false, false, false, false, false, false, false, false, false, false, false, false, false, false] (i := 7) (N := some 18) (v := ?v10) rfl rfl (by kernel_rfl) (fun _ _ _ h => h) (Or.inl ⟨by rfl, ?hy10⟩) HS rfl ?_
      case hy10 => (intro v hv; obtain ⟨x, rfl, hk, _, n0, n1⟩ := hv.pin2; have hAA := (hv.1.cell (p := ⟨b, off, none⟩) hbw).trans HC.out; clear hk; go_simp; first | done | with_reducible rfl)
      simp only [Act.put, List.setIfInBounds_toArray, List.set_cons_zero, List.set_cons_succ]
      refine take_ #[true, true, true, true, true, true, true, true, true, false, false, false, false, false, false, false, false, false, false, false, false, false, false, false, false, false, false, false, false, false, false, false] (i := 8) (N := some 19) (v := ?v11) rfl rfl (by kernel_rfl) (fun _ _ _ h => h) (Or.inl ⟨by rfl, ?hy11⟩) HS rfl ?_
      case hy11 => (intro v hv; obtain ⟨x, rfl, hk, _, n0, n1⟩ := hv.pin2; have hAA := (hv.1.cell (p := ⟨b, off, none⟩) hbw).trans HC.out; clear hk; go_simp; first | done | with_reducible rfl)
      simp only [Act.put, List.setIfInBounds_toArray, List.set_cons_zero, List.set_cons_succ]
      refine take_ #[true, true, true, true, true, true, true, true, true, false, true, false, false, false, false, false, false, false, false, false, false, false, false, false, false, false, false, false, false, false, false, false] (i := 10) (N := some 21) (v := ?v12) rfl rfl (by kernel_rfl) (fun _ _ _ h => h) (Or.inl ⟨by rfl, ?hy12⟩) HS rfl ?_
      case hy12 => (intro v hv; obtain ⟨x, rfl, hk, _, n0, n1⟩ := hv.pin2; have hAA := (hv.1.cell (p := ⟨b, off, none⟩) hbw).trans HC.out; clear hk; go_simp; first | done | with_reducible rfl)
      simp only [Act.put, List.setIfInBounds_toArray, List.set_cons_zero, List.set_cons_succ]
      refine take_ #[true, true, true, true, true, true, true, true, true, false, true, true, false, false, false, false, false, false, false, false, false, false, false, false, false, false, false, false, false, false, false, false] (i := 11) (N := some 22) (v := ?v13) rfl rfl (by kernel_rfl) (fun _ _ _ h => h) (Or.inl ⟨by rfl, ?hy13⟩) HS rfl ?_
      case hy13 => (intro v hv; obtain ⟨x, rfl, hk, _, n0, n1⟩ := hv.pin2; have hAA := (hv.1.cell (p := ⟨b, off, none⟩) hbw).trans HC.out; clear hk; go_simp; first | done | with_reducible rfl)
      simp only [Act.put, List.setIfInBounds_toArray, List.set_cons_zero, List.set_cons_succ]
      refine take_ #[true, true, true, true, true, true, true, true, true, false, true, true, true, false, false, false, false, false, false, false, false, false, false, false, false, false, false, false, false, false, false, false] (i := 12) (N := some 23) (v := ?v14) rfl rfl (by kernel_rfl) (fun _ _ _ h => h) (Or.inl ⟨by rfl, ?hy14⟩) HS rfl ?_
      case hy14 => (intro v hv; obtain ⟨x, rfl, hk, _, n0, n1⟩ := hv.pin2; have hAA := (hv.1.cell (p := ⟨b, off, none⟩) hbw).trans HC.out; clear hk; go_simp; first | done | with_reducible rfl)
      simp only [Act.put, List.setIfInBounds_toArray, List.set_cons_zero, List.set_cons_succ]
      refine one_ #[true, true, true, true, true, true, true, true, true, true, true, true, true, false, false, false, false, false, false, false, false, false, false, false, false, false, false, false, false, false, false, false] (i := 9) (N := some 20) rfl rfl (by kernel_rfl) (by decide) (fun K hK => ?_)
      go_simp
      refine (HOD.out true HO.out _).mono ?_
      rintro e y ⟨rfl, hb⟩
      refine hK.out _ _ (HS.step hb rfl) ?_
      clear HS hb
      intro HS
      refine take_ #[true, true, true, true, true, true, true, true, true, true, true, true, true, true, false, false, false, false, false, false, false, false, false, false, false, false, false, false, false, false, false, false] (i := 13) (N := some 24) (v := ?v15) rfl rfl (by kernel_rfl) (fun _ _ _ h => h) (Or.inl ⟨by rfl, ?hy15⟩) HS rfl ?_
      case hy15 => (intro v hv; obtain ⟨x, rfl, hk, _, n0, n1⟩ := hv.pin2; have hAA := (hv.1.cell (p := ⟨b, off, none⟩) hbw).trans HC.out; clear hk; go_simp; first | done | with_reducible rfl)
      simp only [Act.put, List.setIfInBounds_toArray, List.set_cons_zero, List.set_cons_succ]
      refine take_ #[true, true, true, true, true, true, true, true, true, true, true, true, true, true, true, false, false, false, false, false, false, false, false, false, false, false, false, false, false, false, false, false] (i := 14) (N := some 25) (v := ?v16) rfl rfl (by kernel_rfl) (fun _ _ _ h => h) (Or.inl ⟨by rfl, ?hy16⟩) HS rfl ?_
      case hy16 => (intro v hv; obtain ⟨x, rfl, hk, _, n0, n1⟩ := hv.pin2; have hAA := (hv.1.cell (p := ⟨b, off, none⟩) hbw).trans HC.out; clear hk; go_simp; first | done | with_reducible rfl)
      simp only [Act.put, List.setIfInBounds_toArray, List.set_cons_zero, List.set_cons_succ]
      refine take_ #[true, true, true, true, true, true, true, true, true, true, true, true, true, true, true, true, false, false, false, false, false, false, false, false, false, false, false, false, false, false, false, false] (i := 15) (N := some 26) (v := ?v17) rfl rfl (by kernel_rfl) (fun _ _ _ h => h) (Or.inl ⟨by rfl, ?hy17⟩) HS rfl ?_
      case hy17 => (intro v hv; obtain ⟨x, rfl, hk, _, n0, n1⟩ := hv.pin2; have hAA := (hv.1.cell (p := ⟨b, off, none⟩) hbw).trans HC.out; clear hk; go_simp; first | done | with_reducible rfl)
      simp only [Act.put, List.setIfInBounds_toArray, List.set_cons_zero, List.set_cons_succ]
      refine take_ #[true, true, true, true, true, true, true, true, true, true, true, true, true, true, true, true, true, false, false, false, false, false, false, false, false, false, false, false, false, false, false, false] (i := 16) (N := some 27) (v := ?v18) rfl rfl (by kernel_rfl) (fun _ _ _ h => h) (Or.inl ⟨by rfl, ?hy18⟩) HS rfl ?_
      case hy18 => (intro v hv; obtain ⟨x, rfl, hk, _, n0, n1⟩ := hv.pin2; have hAA := (hv.1.cell (p := ⟨b, off, none⟩) hbw).trans HC.out; clear hk; go_simp; first | done | with_reducible rfl)
      simp only [Act.put, List.setIfInBounds_toArray, List.set_cons_zero, List.set_cons_succ]
      refine take_ #[true, true, true, true, true, true, true, true, true, true, true, true, true, true, true, true, true, true, false, false, false, false, false, false, false, false, false, false, false, false, false, false] (i := 17) (N := some 28) (v := ?v19) rfl rfl (by kernel_rfl) (fun _ _ _ h => h) (Or.inl ⟨by rfl, ?hy19⟩) HS rfl ?_
      case hy19 => (intro v hv; obtain ⟨x, rfl, hk, _, n0, n1⟩ := hv.pin2; have hAA := (hv.1.cell (p := ⟨b, off, none⟩) hbw).trans HC.out; clear hk; go_simp; first | done | with_reducible rfl)
      simp only [Act.put, List.setIfInBounds_toArray, List.set_cons_zero, List.set_cons_succ]
      refine take_ #[true, true, true, true, true, true, true, true, true, true, true, true, true, true, true, true, true, true, true, false, false, false, false, false, false, false, false, false, false, false, false, false] (i := 18) (N := some 29) (v := ?v20) rfl rfl (by kernel_rfl) (fun _ _ _ h => h) (Or.inl ⟨by rfl, ?hy20⟩) HS rfl ?_
      case hy20 => (intro v hv; obtain ⟨x, rfl, hk, _, n0, n1⟩ := hv.pin2; have hAA := (hv.1.cell (p := ⟨b, off, none⟩) hbw).trans HC.out; clear hk; go_simp; first | done | with_reducible rfl)
      simp only [Act.put, List.setIfInBounds_toArray, List.set_cons_zero, List.set_cons_succ]
      refine take_ #[true, true, true, true, true, true, true, true, true, true, true, true, true, true, true, true, true, true, true, true, false, false, false, false, false, false, false, false, false, false, false, false] (i := 19) (N := some 30) (v := ?v21) rfl rfl (by kernel_rfl) (fun _ _ _ h => h) (Or.inl ⟨by rfl, ?hy21⟩) HS rfl ?_
      case hy21 => (intro v hv; obtain ⟨x, rfl, hk, _, n0, n1⟩ := hv.pin2; have hAA := (hv.1.cell (p := ⟨b, off, none⟩) hbw).trans HC.out; clear hk; go_simp; first | done | with_reducible rfl)
      simp only [Act.put, List.setIfInBounds_toArray, List.set_cons_zero, List.set_cons_succ]
      refine take_ #[true, true, true, true, true, true, true, true, true, true, true, true, true, true, true, true, true, true, true, true, true, false, false, false, false, false, false, false, false, false, false, false] (i := 20) (N := some 31) (v := ?v22) rfl rfl (by kernel_rfl) (fun _ _ _ h => h) (Or.inl ⟨by rfl, ?hy22⟩) HS rfl ?_
      case hy22 => (intro v hv; obtain ⟨x, rfl, hk, _, n0, n1⟩ := hv.pin2; have hAA := (hv.1.cell (p := ⟨b, off, none⟩) hbw).trans HC.out; clear hk; go_simp; first | done | with_reducible rfl)
      simp only [Act.put, List.setIfInBounds_toArray, List.set_cons_zero, List.set_cons_succ]
      refine take_ #[true, true, true, true, true, true, true, true, true, true, true, true, true, true, true, true, true, true, true, true, true, true, false, false, false, false, false, false, false, false, false, false] (i := 21) (N := some 32) (v := ?v23) rfl rfl (by kernel_rfl) (fun _ _ _ h => h) (Or.inl ⟨by rfl, ?hy23⟩) HS rfl ?_
      case hy23 => (intro v hv; obtain ⟨x, rfl, hk, _, n0, n1⟩ := hv.pin2; have hAA := (hv.1.cell (p := ⟨b, off, none⟩) hbw).trans HC.out; clear hk; go_simp; first | done | with_reducible rfl)
      simp only [Act.put, List.setIfInBounds_toArray, List.set_cons_zero, List.set_cons_succ]
      refine take_ #[true, true, true, true, true, true, true, true, true, true, true, true, true, true, true, true, true, true, true, true, true, true, true, false, false, false, false, false, false, false, false, false] (i := 22) (N := some 33) (v := ?v24) rfl rfl (by kernel_rfl) (fun _ _ _ h => h) (Or.inl ⟨by rfl, ?hy24⟩) HS rfl ?_
      case hy24 => (intro v hv; obtain ⟨x, rfl, hk, _, n0, n1⟩ := hv.pin2; have hAA := (hv.1.cell (p := ⟨b, off, none⟩) hbw).trans HC.out; clear hk; go_simp; first | done | with_reducible rfl)
      simp only [Act.put, List.setIfInBounds_toArray, List.set_cons_zero, List.set_cons_succ]
      refine take_ #[true, true, true, true, true, true, true, true, true, true, true, true, true, true, true, true, true, true, true, true, true, true, true, true, false, false, false, false, false, false, false, false] (i := 23) (N := some 34) (v := ?v25) rfl rfl (by kernel_rfl) (fun _ _ _ h => h) (Or.inl ⟨by rfl, ?hy25⟩) HS rfl ?_
      case hy25 => (intro v hv; obtain ⟨x, rfl, hk, _, n0, n1⟩ := hv.pin2; have hAA := (hv.1.cell (p := ⟨b, off, none⟩) hbw).trans HC.out; clear hk; go_simp; first | done | with_reducible rfl)
      simp only [Act.put, List.setIfInBounds_toArray, List.set_cons_zero, List.set_cons_succ]
      refine take_ #[true, true, true, true, true, true, true, true, true, true, true, true, true, true, true, true, true, true, true, true, true, true, true, true, true, false, false, false, false, false, false, false] (i := 24) (N := some 35) (v := ?v26) rfl rfl (by kernel_rfl) (fun _ _ _ h => h) (Or.inl ⟨by rfl, ?hy26⟩) HS rfl ?_
      case hy26 => (intro v hv; obtain ⟨x, rfl, hk, _, n0, n1⟩ := hv.pin2; have hAA := (hv.1.cell (p := ⟨b, off, none⟩) hbw).trans HC.out; clear hk; go_simp; first | done | with_reducible rfl)
      simp only [Act.put, List.setIfInBounds_toArray, List.set_cons_zero, List.set_cons_succ]
      refine one_ #[true, true, true, true, true, true, true, true, true, true, true, true, true, true, true, true, true, true, true, true, true, true, true, true, true, true, false, false, false, false, false, false] (i := 25) (N := some 36) rfl rfl (by kernel_rfl) (by decide) (fun K hK => ?_)
      go_simp
      refine (CR.out _).mono ?_
      rintro e y ⟨rfl, hb⟩
      refine hK.out _ _ (HS.step hb rfl) ?_
      clear HS hb
      intro HS
      refine one_ #[true, true, true, true, true, true, true, true, true, true, true, true, true, true, true, true, true, true, true, true, true, true, true, true, true, true, true, false, false, false, false, false] (i := 26) (N := some 37) rfl rfl (by kernel_rfl) (by decide) (fun K hK => ?_)
      go_simp
      refine (CS2.out _).mono ?_
      rintro e y ⟨rfl, hb⟩
      refine hK.out _ _ (HS.step hb rfl) ?_
      clear HS hb
      intro HS
      refine take_ #[true, true, true, true, true, true, true, true, true, true, true, true, true, true, true, true, true, true, true, true, true, true, true, true, true, true, true, true, false, false, false, false] (i := 27) (N := some 38) (v := ?v27) rfl rfl (by kernel_rfl) (fun _ _ _ h => h) (Or.inl ⟨by rfl, ?hy27⟩) HS rfl ?_
      case hy27 => (intro v hv; obtain ⟨x, rfl, hk, _, n0, n1⟩ := hv.pin2; have hAA := (hv.1.cell (p := ⟨b, off, none⟩) hbw).trans HC.out; clear hk; go_simp; first | done | with_reducible rfl)
      simp only [Act.put, List.setIfInBounds_toArray, List.set_cons_zero, List.set_cons_succ]
      refine take_ #[true, true, true, true, true, true, true, true, true, true, true, true, true, true, true, true, true, true, true, true, true, true, true, true, true, true, true, true, true, false, false, false] (i := 28) (N := some 39) (v := ?v28) rfl rfl (by kernel_rfl) (fun _ _ _ h => h) (Or.inl ⟨by rfl, ?hy28⟩) HS rfl ?_
      case hy28 => (intro v hv; obtain ⟨x, rfl, hk, _, n0, n1⟩ := hv.pin2; have hAA := (hv.1.cell (p := ⟨b, off, none⟩) hbw).trans HC.out; clear hk; go_simp; first | done | with_reducible rfl)
      simp only [Act.put, List.setIfInBounds_toArray, List.set_cons_zero, List.set_cons_succ]
      refine one_ #[true, true, true, true, true, true, true, true, true, true, true, true, true, true, true, true, true, true, true, true, true, true, true, true, true, true, true, true, true, true, false, false] (i := 29) (N := some 40) rfl rfl (by kernel_rfl) (by decide) (fun K hK => ?_)
      go_simp
      refine (known_any _).mono ?_
      rintro e y ⟨rfl, hb⟩
      refine hK.out _ _ (HS.step hb rfl) ?_
      clear HS hb
      intro HS
      refine take_ #[true, true, true, true, true, true, true, true, true, true, true, true, true, true, true, true, true, true, true, true, true, true, true, true, true, true, true, true, true, true, true, false] (i := 30) (N := some 41) (v := ?v29) rfl rfl (by kernel_rfl) (fun _ _ _ h => h) (Or.inl ⟨by rfl, ?hy29⟩) HS rfl ?_
      case hy29 => (intro v hv; obtain ⟨x, rfl, hk, _, n0, n1⟩ := hv.pin2; have hAA := (hv.1.cell (p := ⟨b, off, none⟩) hbw).trans HC.out; clear hk; go_simp; first | done | with_reducible rfl)
      simp only [Act.put, List.setIfInBounds_toArray, List.set_cons_zero, List.set_cons_succ]
      refine take_ #[true, true, true, true, true, true, true, true, true, true, true, true, true, true, true, true, true, true, true, true, true, true, true, true, true, true, true, true, true, true, true, true] (i := 31) (N := some 4) (v := ?v30) rfl rfl (by kernel_rfl) (fun _ _ _ h => h) (Or.inl ⟨by rfl, ?hy30⟩) HS rfl ?_
      case hy30 => (intro v hv; obtain ⟨x, rfl, hk, _, n0, n1⟩ := hv.pin2; have hAA := (hv.1.cell (p := ⟨b, off, none⟩) hbw).trans HC.out; clear hk; go_simp; first | done | with_reducible rfl)
      simp only [Act.put, List.setIfInBounds_toArray, List.set_cons_zero, List.set_cons_succ]
      obtain ⟨x1, rfl, hk1, hz1, l10, l11⟩ := HS.pin2
      have HB1 : Hid (Below wi.heap.size wi x1) := hk1.below
      clear HS hk1
      refine done_ (by kernel_rfl) ?_
      go_wp2_with fail
      go_ret
      exact ⟨rfl, Below.trans HBW.out ((below_pin_same (below_pin_same HB1.out HO0.out l10) HO1.out (by rw [pin_size]; exact l11)).mono HBW.out.size)⟩
    · have HO := Lib.hid (show decide (n % 2 = 1) = false from decide_eq_false ho)
      clear ho
      go_enter Try.func4, Try.ntmps4
      go_wp2_with fail
      refine start_ (S := Keeps w _) (ds := []) (n := 6) #[false, false, false, false, false, false] (by kernel_rfl) rfl rfl (keepsC (b := w.heap.size) (by (repeat (first | with_reducible exact pin_at (by assumption) | (with_reducible apply pin_at; (first | omega | (simp only [World.size_alloc, pin_size, World.size_drew, World.size_setCell] <;> omega))) | (with_reducible apply alloc_at; first | rfl | (simp only [World.size_alloc, pin_size, World.size_drew, World.size_setCell] <;> omega)) | with_reducible apply past_pin | with_reducible apply past_alloc | with_reducible apply past_drew)); all_goals (first | omega | (simp only [World.size_alloc, pin_size, World.size_drew, World.size_setCell] <;> omega))) (keepsC (b := w.heap.size + 1) (by (repeat (first | with_reducible exact pin_at (by assumption) | (with_reducible apply pin_at; (first | omega | (simp only [World.size_alloc, pin_size, World.size_drew, World.size_setCell] <;> omega))) | (with_reducible apply alloc_at; first | rfl | (simp only [World.size_alloc, pin_size, World.size_drew, World.size_setCell] <;> omega)) | with_reducible apply past_pin | with_reducible apply past_alloc | with_reducible apply past_drew)); all_goals (first | omega | (simp only [World.size_alloc, pin_size, World.size_drew, World.size_setCell] <;> omega))) (keeps0 (by (repeat (first | with_reducible exact (Below.refl _ _) | with_reducible refine below_pin ?_ ?_ | with_reducible refine Below.alloc ?_ ?_ _ | with_reducible refine Below.setCell ?_ ?_ _ | with_reducible refine Below.drew ?_)); all_goals (first | omega | (simp only [World.size_alloc, pin_size, World.size_drew, World.size_setCell] <;> omega)))))) (fun HS => ?_)
      refine take_ #[true, false, false, false, false, false] (i := 0) (N := some 7) (v := ?v31) rfl rfl (by kernel_rfl) (fun _ _ _ h => h) (Or.inl ⟨by rfl, ?hy31⟩) HS rfl ?_
      case hy31 => (intro v hv; obtain ⟨x, rfl, _, _, n0, n1⟩ := hv.pin2; go_simp; first | done | with_reducible rfl)
      simp only [Act.put, List.setIfInBounds_toArray, List.set_cons_zero, List.set_cons_succ]
      refine take_ #[true, false, true, false, false, false] (i := 2) (N := some 9) (v := ?v32) rfl rfl (by kernel_rfl) (fun _ _ _ h => h) (Or.inl ⟨by rfl, ?hy32⟩) HS rfl ?_
      case hy32 => (intro v hv; obtain ⟨x, rfl, _, _, n0, n1⟩ := hv.pin2; go_simp; first | done | with_reducible rfl)
      simp only [Act.put, List.setIfInBounds_toArray, List.set_cons_zero, List.set_cons_succ]
      refine one_ #[true, true, true, false, false, false] (i := 1) (N := some 8) rfl rfl (by kernel_rfl) (by decide) (fun K hK => ?_)
      go_simp
      refine (HC0.out _).mono ?_
      rintro e y ⟨⟨Ak, ck, rfl, hdk⟩, hb⟩
      refine hK.out _ _ (HS.step hb rfl) ?_
      clear HS hb
      intro HS
      have HDK := Lib.hid hdk
      clear hdk
      refine one_ #[true, true, true, true, false, false] (i := 3) (N := some 10) rfl rfl (by kernel_rfl) (by decide) (fun K hK => ?_)
      go_simp
      refine (HC1.out _).mono ?_
      rintro e y ⟨⟨Am, cm, rfl, hdm⟩, hb⟩
      refine hK.out _ _ (HS.step hb rfl) ?_
      have HDKn := Lib.hid (HDK.out.next hb)
      clear HDK
      have HDK := HDKn
      clear HDKn
      clear HS hb
      intro HS
      have HDM := Lib.hid hdm
      clear hdm
      refine take_ #[true, true, true, true, true, false] (i := 4) (N := some 5) (v := ?v33) rfl rfl (by kernel_rfl) (fun _ _ _ h => h) (Or.inl ⟨by rfl, ?hy33⟩) HS rfl ?_
      case hy33 => (intro v hv; obtain ⟨x, rfl, _, _, n0, n1⟩ := hv.pin2; go_simp; first | done | with_reducible rfl)
      simp only [Act.put, List.setIfInBounds_toArray, List.set_cons_zero, List.set_cons_succ]
      refine take_ #[true, true, true, true, true, true] (i := 5) (N := some 6) (v := ?v34) rfl rfl (by kernel_rfl) (fun _ _ _ h => h) (Or.inl ⟨by rfl, ?hy34⟩) HS rfl ?_
      case hy34 => (intro v hv; obtain ⟨x, rfl, _, _, n0, n1⟩ := hv.pin2; go_simp; first | done | with_reducible rfl)
      simp only [Act.put, List.setIfInBounds_toArray, List.set_cons_zero, List.set_cons_succ]
      obtain ⟨x1, rfl, hk1, hz1, l10, l11⟩ := HS.pin2
      have HB1 : Hid (Below w.heap.size w x1) := hk1.below
      clear HS hk1
      refine done_ (by kernel_rfl) ?_
      go_wp2_with fail
      obtain ⟨wi, hwi⟩ : ∃ z, z = ((x1.pin w.heap.size (.cells #[.int .u64 a0.a, .int .u64 a0.b, .int .u64 a0.c, .int .u64 a0.d, .int .u64 a0.e] 25)).pin (w.heap.size + 1) (.cells #[.int .u64 a1.a, .int .u64 a1.b, .int .u64 a1.c, .int .u64 a1.d, .int .u64 a1.e] 25)) := ⟨_, rfl⟩
      have HBW : Hid (Below w.heap.size w wi) := Lib.hid (by rw [hwi]; exact (by (repeat (first | with_reducible exact HB1.out | with_reducible refine below_pin ?_ ?_ | with_reducible refine Below.alloc ?_ ?_ _ | with_reducible refine Below.setCell ?_ ?_ _ | with_reducible refine Below.drew ?_)); all_goals (first | omega | (simp only [World.size_alloc, pin_size, World.size_drew, World.size_setCell] <;> omega))))
      have HO0 : Hid (wi.heap[w.heap.size]? = some (.cells #[.int .u64 a0.a, .int .u64 a0.b, .int .u64 a0.c, .int .u64 a0.d, .int .u64 a0.e] 25)) := Lib.hid (by rw [hwi]; exact (by (repeat (first | with_reducible exact pin_at (by assumption) | (with_reducible apply pin_at; (first | omega | (simp only [World.size_alloc, pin_size, World.size_drew, World.size_setCell] <;> omega))) | (with_reducible apply alloc_at; first | rfl | (simp only [World.size_alloc, pin_size, World.size_drew, World.size_setCell] <;> omega)) | with_reducible apply past_pin | with_reducible apply past_alloc | with_reducible apply past_drew)); all_goals (first | omega | (simp only [World.size_alloc, pin_size, World.size_drew, World.size_setCell] <;> omega))))
      have HO1 : Hid (wi.heap[w.heap.size + 1]? = some (.cells #[.int .u64 a1.a, .int .u64 a1.b, .int .u64 a1.c, .int .u64 a1.d, .int .u64 a1.e] 25)) := Lib.hid (by rw [hwi]; exact (by (repeat (first | with_reducible exact pin_at (by assumption) | (with_reducible apply pin_at; (first | omega | (simp only [World.size_alloc, pin_size, World.size_drew, World.size_setCell] <;> omega))) | (with_reducible apply alloc_at; first | rfl | (simp only [World.size_alloc, pin_size, World.size_drew, World.size_setCell] <;> omega)) | with_reducible apply past_pin | with_reducible apply past_alloc | with_reducible apply past_drew)); all_goals (first | omega | (simp only [World.size_alloc, pin_size, World.size_drew, World.size_setCell] <;> omega))))
      rw [← hwi] at HDK HDM ⊢
      clear hwi HB1 hz1 l10 l11
      obtain ⟨b, off, rfl, hbw, hcell⟩ := HDK.out.cell (i := 0) (by rw [← HLn.out]; exact HZ.out)
      obtain ⟨d, hd⟩ : ∃ d, d = dg n 0 := ⟨_, rfl⟩
      have HC : Hid (wi.cell? ⟨b, off, none⟩ = some (.int .u64 (d : Int))) := Lib.hid (by rw [hd]; exact hcell 0 (by rw [← HLn.out]; exact HZ.out))
      have t1 : (((d : Int)).tmod 2 == 1) = false := by have h := HO.out; rw [← odd_dig, ← hd] at h; rw [← h, Bool.eq_iff_iff, beq_iff_eq, decide_eq_true_eq, Int.tmod_eq_emod_of_nonneg (by omega)]; omega
      have t2 : (((d : Int)) % 2 == 1) = false := by have h := HO.out; rw [← odd_dig, ← hd] at h; rw [← h, Bool.eq_iff_iff, beq_iff_eq, decide_eq_true_eq]; omega
      clear hcell hd
      refine start_ (S := Keeps wi _) (ds := []) (n := 32) #[false, false, false, false, false, false, false, false, false, false, false, false, false, false, false, false, false, false, false, false, false, false, false, false, false, false, false, false, false, false, false, false] (by kernel_rfl) rfl rfl (keepsC (b := w.heap.size) (past_drew HO0.out) (keepsC (b := w.heap.size + 1) (past_drew HO1.out) (keeps0 (by (repeat (first | with_reducible exact (Below.refl _ _) | with_reducible refine below_pin ?_ ?_ | with_reducible refine Below.alloc ?_ ?_ _ | with_reducible refine Below.setCell ?_ ?_ _ | with_reducible refine Below.drew ?_)); all_goals (first | omega | (simp only [World.size_alloc, pin_size, World.size_drew, World.size_setCell] <;> omega)))))) (fun HS => ?_)
      refine take_ #[true, false, false, false, false, false, false, false, false, false, false, false, false, false, false, false, false, false, false, false, false, false, false, false, false, false, false, false, false, false, false, false] (i := 0) (N := some 11) (v := ?v35) rfl rfl (by kernel_rfl) (fun _ _ _ h => h) (Or.inl ⟨by rfl, ?hy35⟩) HS rfl ?_
      case hy35 => (intro v hv; obtain ⟨x, rfl, hk, _, n0, n1⟩ := hv.pin2; have hAA := (hv.1.cell (p := ⟨b, off, none⟩) hbw).trans HC.out; clear hk; go_simp; first | done | with_reducible rfl)
      simp only [Act.put, List.setIfInBounds_toArray, List.set_cons_zero, List.set_cons_succ]
      refine take_ #[true, true, false, false, false, false, false, false, false, false, false, false, false, false, false, false, false, false, false, false, false, false, false, false, false, false, false, false, false, false, false, false] (i := 1) (N := some 12) (v := ?v36) rfl rfl (by kernel_rfl) (fun _ _ _ h => h) (Or.inl ⟨by rfl, ?hy36⟩) HS rfl ?_
      case hy36 => (intro v hv; obtain ⟨x, rfl, hk, _, n0, n1⟩ := hv.pin2; have hAA := (hv.1.cell (p := ⟨b, off, none⟩) hbw).trans HC.out; clear hk; go_simp; first | done | with_reducible rfl)
      simp only [Act.put, List.setIfInBounds_toArray, List.set_cons_zero, List.set_cons_succ]
      refine take_ #[true, true, false, true, false, false, false, false, false, false, false, false, false, false, false, false, false, false, false, false, false, false, false, false, false, false, false, false, false, false, false, false] (i := 3) (N := some 14) (v := ?v37) rfl rfl (by kernel_rfl) (fun _ _ _ h => h) (Or.inl ⟨by rfl, ?hy37⟩) HS rfl ?_
      case hy37 => (intro v hv; obtain ⟨x, rfl, hk, _, n0, n1⟩ := hv.pin2; have hAA := (hv.1.cell (p := ⟨b, off, none⟩) hbw).trans HC.out; clear hk; go_simp; first | done | with_reducible rfl)
      simp only [Act.put, List.setIfInBounds_toArray, List.set_cons_zero, List.set_cons_succ]
      refine take_ #[true, true, false, true, true, false, false, false, false, false, false, false, false, false, false, false, false, false, false, false, false, false, false, false, false, false, false, false, false, false, false, false] (i := 4) (N := some 15) (v := ?v38) rfl rfl (by kernel_rfl) (fun _ _ _ h => h) (Or.inl ⟨by rfl, ?hy38⟩) HS rfl ?_
      case hy38 => (intro v hv; obtain ⟨x, rfl, hk, _, n0, n1⟩ := hv.pin2; have hAA := (hv.1.cell (p := ⟨b, off, none⟩) hbw).trans HC.out; clear hk; go_simp; first | done | with_reducible rfl)
      simp only [Act.put, List.setIfInBounds_toArray, List.set_cons_zero, List.set_cons_succ]
      refine one_ #[true, true, true, true, true, false, false, false, false, false, false, false, false, false, false, false, false, false, false, false, false, false, false, false, false, false, false, false, false, false, false, false] (i := 2) (N := some 13) rfl rfl (by kernel_rfl) (by decide) (fun K hK => ?_)
      go_simp
      refine (CS.out _).mono ?_
      rintro e y ⟨rfl, hb⟩
      refine hK.out _ _ (HS.step hb rfl) ?_
      clear HS hb
      intro HS
      refine one_ #[true, true, true, true, true, true, false, false, false, false, false, false, false, false, false, false, false, false, false, false, false, false, false, false, false, false, false, false, false, false, false, false] (i := 5) (N := some 16) rfl rfl (by kernel_rfl) (by decide) (fun K hK => ?_)
      go_simp
      refine (HRS.out (some ⟨b, off, none⟩) Am ck cm _ (HDK.out.next HS.1) (HDM.out.next HS.1)).mono ?_
      rintro e y ⟨rfl, hb⟩
      refine hK.out _ _ (HS.step hb rfl) ?_
      clear HS hb
      intro HS
      refine take_ #[true, true, true, true, true, true, true, false, false, false, false, false, false, false, false, false, false, false, false, false, false, false, false, false, false, false, false, false, false, false, false, false] (i := 6) (N := some 17) (v := ?v39) rfl rfl (by kernel_rfl) (fun _ _ _ h => h) (Or.inl ⟨by rfl, ?hy39⟩) HS rfl ?_
      case hy39 => (intro v hv; obtain ⟨x, rfl, hk, _, n0, n1⟩ := hv.pin2; have hAA := (hv.1.cell (p := ⟨b, off, none⟩) hbw).trans HC.out; clear hk; go_simp; first | done | with_reducible rfl)
      simp only [Act.put, List.setIfInBounds_toArray, List.set_cons_zero, List.set_cons_succ]
      refine take_ #[true, true, true, true, true, true, true, true, false, false, false, false, false, false, false, false, false, false, false, false, false, false, false, false, false, false, false, false, false, false, false, false] (i := 7) (N := some 18) (v := ?v40) rfl rfl (by kernel_rfl) (fun _ _ _ h => h) (Or.inl ⟨by rfl, ?hy40⟩) HS rfl ?_
      case hy40 => (intro v hv; obtain ⟨x, rfl, hk, _, n0, n1⟩ := hv.pin2; have hAA := (hv.1.cell (p := ⟨b, off, none⟩) hbw).trans HC.out; clear hk; go_simp; first | done | with_reducible rfl)
      simp only [Act.put, List.setIfInBounds_toArray, List.set_cons_zero, List.set_cons_succ]
      refine take_ #[true, true, true, true, true, true, true, true, true, false, false, false, false, false, false, false, false, false, false, false, false, false, false, false, false, false, false, false, false, false, false, false] (i := 8) (N := some 19) (v := ?v41) rfl rfl (by kernel_rfl) (fun _ _ _ h => h) (Or.inl ⟨by rfl, ?hy41⟩) HS rfl ?_
      case hy41 => (intro v hv; obtain ⟨x, rfl, hk, _, n0, n1⟩ := hv.pin2; have hAA := (hv.1.cell (p := ⟨b, off, none⟩) hbw).trans HC.out; clear hk; go_simp; first | done | with_reducible rfl)
      simp only [Act.put, List.setIfInBounds_toArray, List.set_cons_zero, List.set_cons_succ]
      refine take_ #[true, true, true, true, true, true, true, true, true, false, true, false, false, false, false, false, false, false, false, false, false, false, false, false, false, false, false, false, false, false, false, false] (i := 10) (N := some 21) (v := ?v42) rfl rfl (by kernel_rfl) (fun _ _ _ h => h) (Or.inl ⟨by rfl, ?hy42⟩) HS rfl ?_
      case hy42 => (intro v hv; obtain ⟨x, rfl, hk, _, n0, n1⟩ := hv.pin2; have hAA := (hv.1.cell (p := ⟨b, off, none⟩) hbw).trans HC.out; clear hk; go_simp; first | done | with_reducible rfl)
      simp only [Act.put, List.setIfInBounds_toArray, List.set_cons_zero, List.set_cons_succ]
      refine take_ #[true, true, true, true, true, true, true, true, true, false, true, true, false, false, false, false, false, false, false, false, false, false, false, false, false, false, false, false, false, false, false, false] (i := 11) (N := some 22) (v := ?v43) rfl rfl (by kernel_rfl) (fun _ _ _ h => h) (Or.inl ⟨by rfl, ?hy43⟩) HS rfl ?_
      case hy43 => (intro v hv; obtain ⟨x, rfl, hk, _, n0, n1⟩ := hv.pin2; have hAA := (hv.1.cell (p := ⟨b, off, none⟩) hbw).trans HC.out; clear hk; go_simp; first | done | with_reducible rfl)
      simp only [Act.put, List.setIfInBounds_toArray, List.set_cons_zero, List.set_cons_succ]
      refine take_ #[true, true, true, true, true, true, true, true, true, false, true, true, true, false, false, false, false, false, false, false, false, false, false, false, false, false, false, false, false, false, false, false] (i := 12) (N := some 23) (v := ?v44) rfl rfl (by kernel_rfl) (fun _ _ _ h => h) (Or.inl ⟨by rfl, ?hy44⟩) HS rfl ?_
      case hy44 => (intro v hv; obtain ⟨x, rfl, hk, _, n0, n1⟩ := hv.pin2; have hAA := (hv.1.cell (p := ⟨b, off, none⟩) hbw).trans HC.out; clear hk; go_simp; first | done | with_reducible rfl)
      simp only [Act.put, List.setIfInBounds_toArray, List.set_cons_zero, List.set_cons_succ]
      refine one_ #[true, true, true, true, true, true, true, true, true, true, true, true, true, false, false, false, false, false, false, false, false, false, false, false, false, false, false, false, false, false, false, false] (i := 9) (N := some 20) rfl rfl (by kernel_rfl) (by decide) (fun K hK => ?_)
      go_simp
      refine (HOD.out false HO.out _).mono ?_
      rintro e y ⟨rfl, hb⟩
      refine hK.out _ _ (HS.step hb rfl) ?_
      clear HS hb
      intro HS
      refine take_ #[true, true, true, true, true, true, true, true, true, true, true, true, true, true, false, false, false, false, false, false, false, false, false, false, false, false, false, false, false, false, false, false] (i := 13) (N := some 24) (v := ?v45) rfl rfl (by kernel_rfl) (fun _ _ _ h => h) (Or.inl ⟨by rfl, ?hy45⟩) HS rfl ?_
      case hy45 => (intro v hv; obtain ⟨x, rfl, hk, _, n0, n1⟩ := hv.pin2; have hAA := (hv.1.cell (p := ⟨b, off, none⟩) hbw).trans HC.out; clear hk; go_simp; first | done | with_reducible rfl)
      simp only [Act.put, List.setIfInBounds_toArray, List.set_cons_zero, List.set_cons_succ]
      refine take_ #[true, true, true, true, true, true, true, true, true, true, true, true, true, true, true, false, false, false, false, false, false, false, false, false, false, false, false, false, false, false, false, false] (i := 14) (N := some 25) (v := ?v46) rfl rfl (by kernel_rfl) (fun _ _ _ h => h) (Or.inl ⟨by rfl, ?hy46⟩) HS rfl ?_
      case hy46 => (intro v hv; obtain ⟨x, rfl, hk, _, n0, n1⟩ := hv.pin2; have hAA := (hv.1.cell (p := ⟨b, off, none⟩) hbw).trans HC.out; clear hk; go_simp; first | done | with_reducible rfl)
      simp only [Act.put, List.setIfInBounds_toArray, List.set_cons_zero, List.set_cons_succ]
      refine take_ #[true, true, true, true, true, true, true, true, true, true, true, true, true, true, true, true, false, false, false, false, false, false, false, false, false, false, false, false, false, false, false, false] (i := 15) (N := some 26) (v := ?v47) rfl rfl (by kernel_rfl) (fun _ _ _ h => h) (Or.inl ⟨by rfl, ?hy47⟩) HS rfl ?_
      case hy47 => (intro v hv; obtain ⟨x, rfl, hk, _, n0, n1⟩ := hv.pin2; have hAA := (hv.1.cell (p := ⟨b, off, none⟩) hbw).trans HC.out; clear hk; go_simp; first | done | with_reducible rfl)
      simp only [Act.put, List.setIfInBounds_toArray, List.set_cons_zero, List.set_cons_succ]
      refine take_ #[true, true, true, true, true, true, true, true, true, true, true, true, true, true, true, true, true, false, false, false, false, false, false, false, false, false, false, false, false, false, false, false] (i := 16) (N := some 27) (v := ?v48) rfl rfl (by kernel_rfl) (fun _ _ _ h => h) (Or.inl ⟨by rfl, ?hy48⟩) HS rfl ?_
      case hy48 => (intro v hv; obtain ⟨x, rfl, hk, _, n0, n1⟩ := hv.pin2; have hAA := (hv.1.cell (p := ⟨b, off, none⟩) hbw).trans HC.out; clear hk; go_simp; first | done | with_reducible rfl)
      simp only [Act.put, List.setIfInBounds_toArray, List.set_cons_zero, List.set_cons_succ]
      refine take_ #[true, true, true, true, true, true, true, true, true, true, true, true, true, true, true, true, true, true, false, false, false, false, false, false, false, false, false, false, false, false, false, false] (i := 17) (N := some 28) (v := ?v49) rfl rfl (by kernel_rfl) (fun _ _ _ h => h) (Or.inl ⟨by rfl, ?hy49⟩) HS rfl ?_
      case hy49 => (intro v hv; obtain ⟨x, rfl, hk, _, n0, n1⟩ := hv.pin2; have hAA := (hv.1.cell (p := ⟨b, off, none⟩) hbw).trans HC.out; clear hk; go_simp; first | done | with_reducible rfl)
      simp only [Act.put, List.setIfInBounds_toArray, List.set_cons_zero, List.set_cons_succ]
      refine take_ #[true, true, true, true, true, true, true, true, true, true, true, true, true, true, true, true, true, true, true, false, false, false, false, false, false, false, false, false, false, false, false, false] (i := 18) (N := some 29) (v := ?v50) rfl rfl (by kernel_rfl) (fun _ _ _ h => h) (Or.inl ⟨by rfl, ?hy50⟩) HS rfl ?_
      case hy50 => (intro v hv; obtain ⟨x, rfl, hk, _, n0, n1⟩ := hv.pin2; have hAA := (hv.1.cell (p := ⟨b, off, none⟩) hbw).trans HC.out; clear hk; go_simp; first | done | with_reducible rfl)
      simp only [Act.put, List.setIfInBounds_toArray, List.set_cons_zero, List.set_cons_succ]
      refine take_ #[true, true, true, true, true, true, true, true, true, true, true, true, true, true, true, true, true, true, true, true, false, false, false, false, false, false, false, false, false, false, false, false] (i := 19) (N := some 30) (v := ?v51) rfl rfl (by kernel_rfl) (fun _ _ _ h => h) (Or.inl ⟨by rfl, ?hy51⟩) HS rfl ?_
      case hy51 => (intro v hv; obtain ⟨x, rfl, hk, _, n0, n1⟩ := hv.pin2; have hAA := (hv.1.cell (p := ⟨b, off, none⟩) hbw).trans HC.out; clear hk; go_simp; first | done | with_reducible rfl)
      simp only [Act.put, List.setIfInBounds_toArray, List.set_cons_zero, List.set_cons_succ]
      refine take_ #[true, true, true, true, true, true, true, true, true, true, true, true, true, true, true, true, true, true, true, true, true, false, false, false, false, false, false, false, false, false, false, false] (i := 20) (N := some 31) (v := ?v52) rfl rfl (by kernel_rfl) (fun _ _ _ h => h) (Or.inl ⟨by rfl, ?hy52⟩) HS rfl ?_
      case hy52 => (intro v hv; obtain ⟨x, rfl, hk, _, n0, n1⟩ := hv.pin2; have hAA := (hv.1.cell (p := ⟨b, off, none⟩) hbw).trans HC.out; clear hk; go_simp; first | done | with_reducible rfl)
      simp only [Act.put, List.setIfInBounds_toArray, List.set_cons_zero, List.set_cons_succ]
      refine take_ #[true, true, true, true, true, true, true, true, true, true, true, true, true, true, true, true, true, true, true, true, true, true, false, false, false, false, false, false, false, false, false, false] (i := 21) (N := some 32) (v := ?v53) rfl rfl (by kernel_rfl) (fun _ _ _ h => h) (Or.inl ⟨by rfl, ?hy53⟩) HS rfl ?_
      case hy53 => (intro v hv; obtain ⟨x, rfl, hk, _, n0, n1⟩ := hv.pin2; have hAA := (hv.1.cell (p := ⟨b, off, none⟩) hbw).trans HC.out; clear hk; go_simp; first | done | with_reducible rfl)
      simp only [Act.put, List.setIfInBounds_toArray, List.set_cons_zero, List.set_cons_succ]
      refine take_ #[true, true, true, true, true, true, true, true, true, true, true, true, true, true, true, true, true, true, true, true, true, true, true, false, false, false, false, false, false, false, false, false] (i := 22) (N := some 33) (v := ?v54) rfl rfl (by kernel_rfl) (fun _ _ _ h => h) (Or.inl ⟨by rfl, ?hy54⟩) HS rfl ?_
      case hy54 => (intro v hv; obtain ⟨x, rfl, hk, _, n0, n1⟩ := hv.pin2; have hAA := (hv.1.cell (p := ⟨b, off, none⟩) hbw).trans HC.out; clear hk; go_simp; first | done | with_reducible rfl)
      simp only [Act.put, List.setIfInBounds_toArray, List.set_cons_zero, List.set_cons_succ]
      refine take_ #[true, true, true, true, true, true, true, true, true, true, true, true, true, true, true, true, true, true, true, true, true, true, true, true, false, false, false, false, false, false, false, false] (i := 23) (N := some 34) (v := ?v55) rfl rfl (by kernel_rfl) (fun _ _ _ h => h) (Or.inl ⟨by rfl, ?hy55⟩) HS rfl ?_
      case hy55 => (intro v hv; obtain ⟨x, rfl, hk, _, n0, n1⟩ := hv.pin2; have hAA := (hv.1.cell (p := ⟨b, off, none⟩) hbw).trans HC.out; clear hk; go_simp; first | done | with_reducible rfl)
      simp only [Act.put, List.setIfInBounds_toArray, List.set_cons_zero, List.set_cons_succ]
      refine take_ #[true, true, true, true, true, true, true, true, true, true, true, true, true, true, true, true, true, true, true, true, true, true, true, true, true, false, false, false, false, false, false, false] (i := 24) (N := some 35) (v := ?v56) rfl rfl (by kernel_rfl) (fun _ _ _ h => h) (Or.inl ⟨by rfl, ?hy56⟩) HS rfl ?_
      case hy56 => (intro v hv; obtain ⟨x, rfl, hk, _, n0, n1⟩ := hv.pin2; have hAA := (hv.1.cell (p := ⟨b, off, none⟩) hbw).trans HC.out; clear hk; go_simp; first | done | with_reducible rfl)
      simp only [Act.put, List.setIfInBounds_toArray, List.set_cons_zero, List.set_cons_succ]
      refine one_ #[true, true, true, true, true, true, true, true, true, true, true, true, true, true, true, true, true, true, true, true, true, true, true, true, true, true, false, false, false, false, false, false] (i := 25) (N := some 36) rfl rfl (by kernel_rfl) (by decide) (fun K hK => ?_)
      go_simp
      refine (CR.out _).mono ?_
      rintro e y ⟨rfl, hb⟩
      refine hK.out _ _ (HS.step hb rfl) ?_
      clear HS hb
      intro HS
      refine one_ #[true, true, true, true, true, true, true, true, true, true, true, true, true, true, true, true, true, true, true, true, true, true, true, true, true, true, true, false, false, false, false, false] (i := 26) (N := some 37) rfl rfl (by kernel_rfl) (by decide) (fun K hK => ?_)
      go_simp
      refine (CS2.out _).mono ?_
      rintro e y ⟨rfl, hb⟩
      refine hK.out _ _ (HS.step hb rfl) ?_
      clear HS hb
      intro HS
      refine take_ #[true, true, true, true, true, true, true, true, true, true, true, true, true, true, true, true, true, true, true, true, true, true, true, true, true, true, true, true, false, false, false, false] (i := 27) (N := some 38) (v := ?v57) rfl rfl (by kernel_rfl) (fun _ _ _ h => h) (Or.inl ⟨by rfl, ?hy57⟩) HS rfl ?_
      case hy57 => (intro v hv; obtain ⟨x, rfl, hk, _, n0, n1⟩ := hv.pin2; have hAA := (hv.1.cell (p := ⟨b, off, none⟩) hbw).trans HC.out; clear hk; go_simp; first | done | with_reducible rfl)
      simp only [Act.put, List.setIfInBounds_toArray, List.set_cons_zero, List.set_cons_succ]
      refine take_ #[true, true, true, true, true, true, true, true, true, true, true, true, true, true, true, true, true, true, true, true, true, true, true, true, true, true, true, true, true, false, false, false] (i := 28) (N := some 39) (v := ?v58) rfl rfl (by kernel_rfl) (fun _ _ _ h => h) (Or.inl ⟨by rfl, ?hy58⟩) HS rfl ?_
      case hy58 => (intro v hv; obtain ⟨x, rfl, hk, _, n0, n1⟩ := hv.pin2; have hAA := (hv.1.cell (p := ⟨b, off, none⟩) hbw).trans HC.out; clear hk; go_simp; first | done | with_reducible rfl)
      simp only [Act.put, List.setIfInBounds_toArray, List.set_cons_zero, List.set_cons_succ]
      refine one_ #[true, true, true, true, true, true, true, true, true, true, true, true, true, true, true, true, true, true, true, true, true, true, true, true, true, true, true, true, true, true, false, false] (i := 29) (N := some 40) rfl rfl (by kernel_rfl) (by decide) (fun K hK => ?_)
      go_simp
      refine (known_any _).mono ?_
      rintro e y ⟨rfl, hb⟩
      refine hK.out _ _ (HS.step hb rfl) ?_
      clear HS hb
      intro HS
      refine take_ #[true, true, true, true, true, true, true, true, true, true, true, true, true, true, true, true, true, true, true, true, true, true, true, true, true, true, true, true, true, true, true, false] (i := 30) (N := some 41) (v := ?v59) rfl rfl (by kernel_rfl) (fun _ _ _ h => h) (Or.inl ⟨by rfl, ?hy59⟩) HS rfl ?_
      case hy59 => (intro v hv; obtain ⟨x, rfl, hk, _, n0, n1⟩ := hv.pin2; have hAA := (hv.1.cell (p := ⟨b, off, none⟩) hbw).trans HC.out; clear hk; go_simp; first | done | with_reducible rfl)
      simp only [Act.put, List.setIfInBounds_toArray, List.set_cons_zero, List.set_cons_succ]
      refine take_ #[true, true, true, true, true, true, true, true, true, true, true, true, true, true, true, true, true, true, true, true, true, true, true, true, true, true, true, true, true, true, true, true] (i := 31) (N := some 4) (v := ?v60) rfl rfl (by kernel_rfl) (fun _ _ _ h => h) (Or.inl ⟨by rfl, ?hy60⟩) HS rfl ?_
      case hy60 => (intro v hv; obtain ⟨x, rfl, hk, _, n0, n1⟩ := hv.pin2; have hAA := (hv.1.cell (p := ⟨b, off, none⟩) hbw).trans HC.out; clear hk; go_simp; first | done | with_reducible rfl)
      simp only [Act.put, List.setIfInBounds_toArray, List.set_cons_zero, List.set_cons_succ]
      obtain ⟨x1, rfl, hk1, hz1, l10, l11⟩ := HS.pin2
      have HB1 : Hid (Below wi.heap.size wi x1) := hk1.below
      clear HS hk1
      refine done_ (by kernel_rfl) ?_
      go_wp2_with fail
      go_ret
      exact ⟨rfl, Below.trans HBW.out ((below_pin_same (below_pin_same HB1.out HO0.out l10) HO1.out (by rw [pin_size]; exact l11)).mono HBW.out.size)⟩
  · have hd1 : decide ((0 : Int) < (L : Int)) = false := decide_eq_false (by omega)
    have hd2 : decide (0 < L) = false := decide_eq_false hz
    have hd3 : decide ((L : Int) > 0) = false := hd1
    have HO : Hid (decide (n % 2 = 1) = false) := Lib.hid (zero_odd (by rw [← HLn.out]; omega))
    clear hz
    go_enter Try.func4, Try.ntmps4
    go_wp2_with fail
    refine start_ (S := Keeps w _) (ds := []) (n := 6) #[false, false, false, false, false, false] (by kernel_rfl) rfl rfl (keepsC (b := w.heap.size) (by (repeat (first | with_reducible exact pin_at (by assumption) | (with_reducible apply pin_at; (first | omega | (simp only [World.size_alloc, pin_size, World.size_drew, World.size_setCell] <;> omega))) | (with_reducible apply alloc_at; first | rfl | (simp only [World.size_alloc, pin_size, World.size_drew, World.size_setCell] <;> omega)) | with_reducible apply past_pin | with_reducible apply past_alloc | with_reducible apply past_drew)); all_goals (first | omega | (simp only [World.size_alloc, pin_size, World.size_drew, World.size_setCell] <;> omega))) (keepsC (b := w.heap.size + 1) (by (repeat (first | with_reducible exact pin_at (by assumption) | (with_reducible apply pin_at; (first | omega | (simp only [World.size_alloc, pin_size, World.size_drew, World.size_setCell] <;> omega))) | (with_reducible apply alloc_at; first | rfl | (simp only [World.size_alloc, pin_size, World.size_drew, World.size_setCell] <;> omega)) | with_reducible apply past_pin | with_reducible apply past_alloc | with_reducible apply past_drew)); all_goals (first | omega | (simp only [World.size_alloc, pin_size, World.size_drew, World.size_setCell] <;> omega))) (keeps0 (by (repeat (first | with_reducible exact (Below.refl _ _) | with_reducible refine below_pin ?_ ?_ | with_reducible refine Below.alloc ?_ ?_ _ | with_reducible refine Below.setCell ?_ ?_ _ | with_reducible refine Below.drew ?_)); all_goals (first | omega | (simp only [World.size_alloc, pin_size, World.size_drew, World.size_setCell] <;> omega)))))) (fun HS => ?_)
    refine take_ #[true, false, false, false, false, false] (i := 0) (N := some 7) (v := ?v61) rfl rfl (by kernel_rfl) (fun _ _ _ h => h) (Or.inl ⟨by rfl, ?hy61⟩) HS rfl ?_
    case hy61 => (intro v hv; obtain ⟨x, rfl, _, _, n0, n1⟩ := hv.pin2; go_simp; first | done | with_reducible rfl)
    simp only [Act.put, List.setIfInBounds_toArray, List.set_cons_zero, List.set_cons_succ]
    refine take_ #[true, false, true, false, false, false] (i := 2) (N := some 9) (v := ?v62) rfl rfl (by kernel_rfl) (fun _ _ _ h => h) (Or.inl ⟨by rfl, ?hy62⟩) HS rfl ?_
    case hy62 => (intro v hv; obtain ⟨x, rfl, _, _, n0, n1⟩ := hv.pin2; go_simp; first | done | with_reducible rfl)
    simp only [Act.put, List.setIfInBounds_toArray, List.set_cons_zero, List.set_cons_succ]
    refine one_ #[true, true, true, false, false, false] (i := 1) (N := some 8) rfl rfl (by kernel_rfl) (by decide) (fun K hK => ?_)
    go_simp
    refine (HC0.out _).mono ?_
    rintro e y ⟨⟨Ak, ck, rfl, hdk⟩, hb⟩
    refine hK.out _ _ (HS.step hb rfl) ?_
    clear HS hb
    intro HS
    have HDK := Lib.hid hdk
    clear hdk
    refine one_ #[true, true, true, true, false, false] (i := 3) (N := some 10) rfl rfl (by kernel_rfl) (by decide) (fun K hK => ?_)
    go_simp
    refine (HC1.out _).mono ?_
    rintro e y ⟨⟨Am, cm, rfl, hdm⟩, hb⟩
    refine hK.out _ _ (HS.step hb rfl) ?_
    have HDKn := Lib.hid (HDK.out.next hb)
    clear HDK
    have HDK := HDKn
    clear HDKn
    clear HS hb
    intro HS
    have HDM := Lib.hid hdm
    clear hdm
    refine take_ #[true, true, true, true, true, false] (i := 4) (N := some 5) (v := ?v63) rfl rfl (by kernel_rfl) (fun _ _ _ h => h) (Or.inl ⟨by rfl, ?hy63⟩) HS rfl ?_
    case hy63 => (intro v hv; obtain ⟨x, rfl, _, _, n0, n1⟩ := hv.pin2; go_simp; first | done | with_reducible rfl)
    simp only [Act.put, List.setIfInBounds_toArray, List.set_cons_zero, List.set_cons_succ]
    refine take_ #[true, true, true, true, true, true] (i := 5) (N := some 6) (v := ?v64) rfl rfl (by kernel_rfl) (fun _ _ _ h => h) (Or.inl ⟨by rfl, ?hy64⟩) HS rfl ?_
    case hy64 => (intro v hv; obtain ⟨x, rfl, _, _, n0, n1⟩ := hv.pin2; go_simp; first | done | with_reducible rfl)
    simp only [Act.put, List.setIfInBounds_toArray, List.set_cons_zero, List.set_cons_succ]
    obtain ⟨x1, rfl, hk1, hz1, l10, l11⟩ := HS.pin2
    have HB1 : Hid (Below w.heap.size w x1) := hk1.below
    clear HS hk1
    refine done_ (by kernel_rfl) ?_
    go_wp2_with fail
    obtain ⟨wi, hwi⟩ : ∃ z, z = ((x1.pin w.heap.size (.cells #[.int .u64 a0.a, .int .u64 a0.b, .int .u64 a0.c, .int .u64 a0.d, .int .u64 a0.e] 25)).pin (w.heap.size + 1) (.cells #[.int .u64 a1.a, .int .u64 a1.b, .int .u64 a1.c, .int .u64 a1.d, .int .u64 a1.e] 25)) := ⟨_, rfl⟩
    have HBW : Hid (Below w.heap.size w wi) := Lib.hid (by rw [hwi]; exact (by (repeat (first | with_reducible exact HB1.out | with_reducible refine below_pin ?_ ?_ | with_reducible refine Below.alloc ?_ ?_ _ | with_reducible refine Below.setCell ?_ ?_ _ | with_reducible refine Below.drew ?_)); all_goals (first | omega | (simp only [World.size_alloc, pin_size, World.size_drew, World.size_setCell] <;> omega))))
    have HO0 : Hid (wi.heap[w.heap.size]? = some (.cells #[.int .u64 a0.a, .int .u64 a0.b, .int .u64 a0.c, .int .u64 a0.d, .int .u64 a0.e] 25)) := Lib.hid (by rw [hwi]; exact (by (repeat (first | with_reducible exact pin_at (by assumption) | (with_reducible apply pin_at; (first | omega | (simp only [World.size_alloc, pin_size, World.size_drew, World.size_setCell] <;> omega))) | (with_reducible apply alloc_at; first | rfl | (simp only [World.size_alloc, pin_size, World.size_drew, World.size_setCell] <;> omega)) | with_reducible apply past_pin | with_reducible apply past_alloc | with_reducible apply past_drew)); all_goals (first | omega | (simp only [World.size_alloc, pin_size, World.size_drew, World.size_setCell] <;> omega))))
    have HO1 : Hid (wi.heap[w.heap.size + 1]? = some (.cells #[.int .u64 a1.a, .int .u64 a1.b, .int .u64 a1.c, .int .u64 a1.d, .int .u64 a1.e] 25)) := Lib.hid (by rw [hwi]; exact (by (repeat (first | with_reducible exact pin_at (by assumption) | (with_reducible apply pin_at; (first | omega | (simp only [World.size_alloc, pin_size, World.size_drew, World.size_setCell] <;> omega))) | (with_reducible apply alloc_at; first | rfl | (simp only [World.size_alloc, pin_size, World.size_drew, World.size_setCell] <;> omega)) | with_reducible apply past_pin | with_reducible apply past_alloc | with_reducible apply past_drew)); all_goals (first | omega | (simp only [World.size_alloc, pin_size, World.size_drew, World.size_setCell] <;> omega))))
    rw [← hwi] at HDK HDM ⊢
    clear hwi HB1 hz1 l10 l11
    refine start_ (S := Keeps wi _) (ds := []) (n := 32) #[false, false, false, false, false, false, false, false, false, false, false, false, false, false, false, false, false, false, false, false, false, false, false, false, false, false, false, false, false, false, false, false] (by kernel_rfl) rfl rfl (keepsC (b := w.heap.size) (past_drew HO0.out) (keepsC (b := w.heap.size + 1) (past_drew HO1.out) (keeps0 (by (repeat (first | with_reducible exact (Below.refl _ _) | with_reducible refine below_pin ?_ ?_ | with_reducible refine Below.alloc ?_ ?_ _ | with_reducible refine Below.setCell ?_ ?_ _ | with_reducible refine Below.drew ?_)); all_goals (first | omega | (simp only [World.size_alloc, pin_size, World.size_drew, World.size_setCell] <;> omega)))))) (fun HS => ?_)
    refine take_ #[true, false, false, false, false, false, false, false, false, false, false, false, false, false, false, false, false, false, false, false, false, false, false, false, false, false, false, false, false, false, false, false] (i := 0) (N := some 11) (v := ?v65) rfl rfl (by kernel_rfl) (fun _ _ _ h => h) (Or.inl ⟨by rfl, ?hy65⟩) HS rfl ?_
    case hy65 => (intro v hv; obtain ⟨x, rfl, _, _, n0, n1⟩ := hv.pin2; go_simp; first | done | with_reducible rfl)
    simp only [Act.put, List.setIfInBounds_toArray, List.set_cons_zero, List.set_cons_succ]
    refine take_ #[true, true, false, false, false, false, false, false, false, false, false, false, false, false, false, false, false, false, false, false, false, false, false, false, false, false, false, false, false, false, false, false] (i := 1) (N := some 12) (v := ?v66) rfl rfl (by kernel_rfl) (fun _ _ _ h => h) (Or.inl ⟨by rfl, ?hy66⟩) HS rfl ?_
    case hy66 => (intro v hv; obtain ⟨x, rfl, _, _, n0, n1⟩ := hv.pin2; go_simp; first | done | with_reducible rfl)
    simp only [Act.put, List.setIfInBounds_toArray, List.set_cons_zero, List.set_cons_succ]
    refine take_ #[true, true, false, true, false, false, false, false, false, false, false, false, false, false, false, false, false, false, false, false, false, false, false, false, false, false, false, false, false, false, false, false] (i := 3) (N := some 14) (v := ?v67) rfl rfl (by kernel_rfl) (fun _ _ _ h => h) (Or.inl ⟨by rfl, ?hy67⟩) HS rfl ?_
    case hy67 => (intro v hv; obtain ⟨x, rfl, _, _, n0, n1⟩ := hv.pin2; go_simp; first | done | with_reducible rfl)
    simp only [Act.put, List.setIfInBounds_toArray, List.set_cons_zero, List.set_cons_succ]
    refine take_ #[true, true, false, true, true, false, false, false, false, false, false, false, false, false, false, false, false, false, false, false, false, false, false, false, false, false, false, false, false, false, false, false] (i := 4) (N := some 15) (v := ?v68) rfl rfl (by kernel_rfl) (fun _ _ _ h => h) (Or.inl ⟨by rfl, ?hy68⟩) HS rfl ?_
    case hy68 => (intro v hv; obtain ⟨x, rfl, _, _, n0, n1⟩ := hv.pin2; go_simp; first | done | with_reducible rfl)
    simp only [Act.put, List.setIfInBounds_toArray, List.set_cons_zero, List.set_cons_succ]
    refine one_ #[true, true, true, true, true, false, false, false, false, false, false, false, false, false, false, false, false, false, false, false, false, false, false, false, false, false, false, false, false, false, false, false] (i := 2) (N := some 13) rfl rfl (by kernel_rfl) (by decide) (fun K hK => ?_)
    go_simp
    refine (CS.out _).mono ?_
    rintro e y ⟨rfl, hb⟩
    refine hK.out _ _ (HS.step hb rfl) ?_
    clear HS hb
    intro HS
    refine one_ #[true, true, true, true, true, true, false, false, false, false, false, false, false, false, false, false, false, false, false, false, false, false, false, false, false, false, false, false, false, false, false, false] (i := 5) (N := some 16) rfl rfl (by kernel_rfl) (by decide) (fun K hK => ?_)
    go_simp
    refine (HRS.out Ak Am ck cm _ (HDK.out.next HS.1) (HDM.out.next HS.1)).mono ?_
    rintro e y ⟨rfl, hb⟩
    refine hK.out _ _ (HS.step hb rfl) ?_
    clear HS hb
    intro HS
    refine take_ #[true, true, true, true, true, true, true, false, false, false, false, false, false, false, false, false, false, false, false, false, false, false, false, false, false, false, false, false, false, false, false, false] (i := 6) (N := some 17) (v := ?v69) rfl rfl (by kernel_rfl) (fun _ _ _ h => h) (Or.inl ⟨by rfl, ?hy69⟩) HS rfl ?_
    case hy69 => (intro v hv; obtain ⟨x, rfl, _, _, n0, n1⟩ := hv.pin2; go_simp; first | done | with_reducible rfl)
    simp only [Act.put, List.setIfInBounds_toArray, List.set_cons_zero, List.set_cons_succ]
    refine take_ #[true, true, true, true, true, true, true, true, false, false, false, false, false, false, false, false, false, false, false, false, false, false, false, false, false, false, false, false, false, false, false, false] (i := 7) (N := some 18) (v := ?v70) rfl rfl (by kernel_rfl) (fun _ _ _ h => h) (Or.inl ⟨by rfl, ?hy70⟩) HS rfl ?_
    case hy70 => (intro v hv; obtain ⟨x, rfl, _, _, n0, n1⟩ := hv.pin2; go_simp; first | done | with_reducible rfl)
    simp only [Act.put, List.setIfInBounds_toArray, List.set_cons_zero, List.set_cons_succ]
    refine take_ #[true, true, true, true, true, true, true, true, true, false, false, false, false, false, false, false, false, false, false, false, false, false, false, false, false, false, false, false, false, false, false, false] (i := 8) (N := some 19) (v := ?v71) rfl rfl (by kernel_rfl) (fun _ _ _ h => h) (Or.inl ⟨by rfl, ?hy71⟩) HS rfl ?_
    case hy71 => (intro v hv; obtain ⟨x, rfl, _, _, n0, n1⟩ := hv.pin2; go_simp; first | done | with_reducible rfl)
    simp only [Act.put, List.setIfInBounds_toArray, List.set_cons_zero, List.set_cons_succ]
    refine take_ #[true, true, true, true, true, true, true, true, true, false, true, false, false, false, false, false, false, false, false, false, false, false, false, false, false, false, false, false, false, false, false, false] (i := 10) (N := some 21) (v := ?v72) rfl rfl (by kernel_rfl) (fun _ _ _ h => h) (Or.inl ⟨by rfl, ?hy72⟩) HS rfl ?_
    case hy72 => (intro v hv; obtain ⟨x, rfl, _, _, n0, n1⟩ := hv.pin2; go_simp; first | done | with_reducible rfl)
    simp only [Act.put, List.setIfInBounds_toArray, List.set_cons_zero, List.set_cons_succ]
    refine take_ #[true, true, true, true, true, true, true, true, true, false, true, true, false, false, false, false, false, false, false, false, false, false, false, false, false, false, false, false, false, false, false, false] (i := 11) (N := some 22) (v := ?v73) rfl rfl (by kernel_rfl) (fun _ _ _ h => h) (Or.inl ⟨by rfl, ?hy73⟩) HS rfl ?_
    case hy73 => (intro v hv; obtain ⟨x, rfl, _, _, n0, n1⟩ := hv.pin2; go_simp; first | done | with_reducible rfl)
    simp only [Act.put, List.setIfInBounds_toArray, List.set_cons_zero, List.set_cons_succ]
    refine take_ #[true, true, true, true, true, true, true, true, true, false, true, true, true, false, false, false, false, false, false, false, false, false, false, false, false, false, false, false, false, false, false, false] (i := 12) (N := some 23) (v := ?v74) rfl rfl (by kernel_rfl) (fun _ _ _ h => h) (Or.inl ⟨by rfl, ?hy74⟩) HS rfl ?_
    case hy74 => (intro v hv; obtain ⟨x, rfl, _, _, n0, n1⟩ := hv.pin2; go_simp; first | done | with_reducible rfl)
    simp only [Act.put, List.setIfInBounds_toArray, List.set_cons_zero, List.set_cons_succ]
    refine one_ #[true, true, true, true, true, true, true, true, true, true, true, true, true, false, false, false, false, false, false, false, false, false, false, false, false, false, false, false, false, false, false, false] (i := 9) (N := some 20) rfl rfl (by kernel_rfl) (by decide) (fun K hK => ?_)
    go_simp
    refine (HOD.out false HO.out _).mono ?_
    rintro e y ⟨rfl, hb⟩
    refine hK.out _ _ (HS.step hb rfl) ?_
    clear HS hb
    intro HS
    refine take_ #[true, true, true, true, true, true, true, true, true, true, true, true, true, true, false, false, false, false, false, false, false, false, false, false, false, false, false, false, false, false, false, false] (i := 13) (N := some 24) (v := ?v75) rfl rfl (by kernel_rfl) (fun _ _ _ h => h) (Or.inl ⟨by rfl, ?hy75⟩) HS rfl ?_
    case hy75 => (intro v hv; obtain ⟨x, rfl, _, _, n0, n1⟩ := hv.pin2; go_simp; first | done | with_reducible rfl)
    simp only [Act.put, List.setIfInBounds_toArray, List.set_cons_zero, List.set_cons_succ]
    refine take_ #[true, true, true, true, true, true, true, true, true, true, true, true, true, true, true, false, false, false, false, false, false, false, false, false, false, false, false, false, false, false, false, false] (i := 14) (N := some 25) (v := undef) rfl rfl (by kernel_rfl) (fun _ _ _ h => h) (Or.inr ⟨by rfl, rfl⟩) HS rfl ?_
    simp only [Act.put, List.setIfInBounds_toArray, List.set_cons_zero, List.set_cons_succ]
    refine take_ #[true, true, true, true, true, true, true, true, true, true, true, true, true, true, true, true, false, false, false, false, false, false, false, false, false, false, false, false, false, false, false, false] (i := 15) (N := some 26) (v := undef) rfl rfl (by kernel_rfl) (fun _ _ _ h => h) (Or.inr ⟨by rfl, rfl⟩) HS rfl ?_
    simp only [Act.put, List.setIfInBounds_toArray, List.set_cons_zero, List.set_cons_succ]
    refine take_ #[true, true, true, true, true, true, true, true, true, true, true, true, true, true, true, true, true, false, false, false, false, false, false, false, false, false, false, false, false, false, false, false] (i := 16) (N := some 27) (v := undef) rfl rfl (by kernel_rfl) (fun _ _ _ h => h) (Or.inr ⟨by rfl, rfl⟩) HS rfl ?_
    simp only [Act.put, List.setIfInBounds_toArray, List.set_cons_zero, List.set_cons_succ]
    refine take_ #[true, true, true, true, true, true, true, true, true, true, true, true, true, true, true, true, true, true, false, false, false, false, false, false, false, false, false, false, false, false, false, false] (i := 17) (N := some 28) (v := undef) rfl rfl (by kernel_rfl) (fun _ _ _ h => h) (Or.inr ⟨by rfl, rfl⟩) HS rfl ?_
    simp only [Act.put, List.setIfInBounds_toArray, List.set_cons_zero, List.set_cons_succ]
    refine take_ #[true, true, true, true, true, true, true, true, true, true, true, true, true, true, true, true, true, true, true, false, false, false, false, false, false, false, false, false, false, false, false, false] (i := 18) (N := some 29) (v := undef) rfl rfl (by kernel_rfl) (fun _ _ _ h => h) (Or.inr ⟨by rfl, rfl⟩) HS rfl ?_
    simp only [Act.put, List.setIfInBounds_toArray, List.set_cons_zero, List.set_cons_succ]
    refine take_ #[true, true, true, true, true, true, true, true, true, true, true, true, true, true, true, true, true, true, true, true, false, false, false, false, false, false, false, false, false, false, false, false] (i := 19) (N := some 30) (v := ?v76) rfl rfl (by kernel_rfl) (fun _ _ _ h => h) (Or.inl ⟨by rfl, ?hy76⟩) HS rfl ?_
    case hy76 => (intro v hv; obtain ⟨x, rfl, _, _, n0, n1⟩ := hv.pin2; go_simp; first | done | with_reducible rfl)
    simp only [Act.put, List.setIfInBounds_toArray, List.set_cons_zero, List.set_cons_succ]
    refine take_ #[true, true, true, true, true, true, true, true, true, true, true, true, true, true, true, true, true, true, true, true, true, false, false, false, false, false, false, false, false, false, false, false] (i := 20) (N := some 31) (v := ?v77) rfl rfl (by kernel_rfl) (fun _ _ _ h => h) (Or.inl ⟨by rfl, ?hy77⟩) HS rfl ?_
    case hy77 => (intro v hv; obtain ⟨x, rfl, _, _, n0, n1⟩ := hv.pin2; go_simp; first | done | with_reducible rfl)
    simp only [Act.put, List.setIfInBounds_toArray, List.set_cons_zero, List.set_cons_succ]
    refine take_ #[true, true, true, true, true, true, true, true, true, true, true, true, true, true, true, true, true, true, true, true, true, true, false, false, false, false, false, false, false, false, false, false] (i := 21) (N := some 32) (v := ?v78) rfl rfl (by kernel_rfl) (fun _ _ _ h => h) (Or.inl ⟨by rfl, ?hy78⟩) HS rfl ?_
    case hy78 => (intro v hv; obtain ⟨x, rfl, _, _, n0, n1⟩ := hv.pin2; go_simp; first | done | with_reducible rfl)
    simp only [Act.put, List.setIfInBounds_toArray, List.set_cons_zero, List.set_cons_succ]
    refine take_ #[true, true, true, true, true, true, true, true, true, true, true, true, true, true, true, true, true, true, true, true, true, true, true, false, false, false, false, false, false, false, false, false] (i := 22) (N := some 33) (v := ?v79) rfl rfl (by kernel_rfl) (fun _ _ _ h => h) (Or.inl ⟨by rfl, ?hy79⟩) HS rfl ?_
    case hy79 => (intro v hv; obtain ⟨x, rfl, _, _, n0, n1⟩ := hv.pin2; go_simp; first | done | with_reducible rfl)
    simp only [Act.put, List.setIfInBounds_toArray, List.set_cons_zero, List.set_cons_succ]
    refine take_ #[true, true, true, true, true, true, true, true, true, true, true, true, true, true, true, true, true, true, true, true, true, true, true, true, false, false, false, false, false, false, false, false] (i := 23) (N := some 34) (v := ?v80) rfl rfl (by kernel_rfl) (fun _ _ _ h => h) (Or.inl ⟨by rfl, ?hy80⟩) HS rfl ?_
    case hy80 => (intro v hv; obtain ⟨x, rfl, _, _, n0, n1⟩ := hv.pin2; go_simp; first | done | with_reducible rfl)
    simp only [Act.put, List.setIfInBounds_toArray, List.set_cons_zero, List.set_cons_succ]
    refine take_ #[true, true, true, true, true, true, true, true, true, true, true, true, true, true, true, true, true, true, true, true, true, true, true, true, true, false, false, false, false, false, false, false] (i := 24) (N := some 35) (v := ?v81) rfl rfl (by kernel_rfl) (fun _ _ _ h => h) (Or.inl ⟨by rfl, ?hy81⟩) HS rfl ?_
    case hy81 => (intro v hv; obtain ⟨x, rfl, _, _, n0, n1⟩ := hv.pin2; go_simp; first | done | with_reducible rfl)
    simp only [Act.put, List.setIfInBounds_toArray, List.set_cons_zero, List.set_cons_succ]
    refine one_ #[true, true, true, true, true, true, true, true, true, true, true, true, true, true, true, true, true, true, true, true, true, true, true, true, true, true, false, false, false, false, false, false] (i := 25) (N := some 36) rfl rfl (by kernel_rfl) (by decide) (fun K hK => ?_)
    go_simp
    refine (CR.out _).mono ?_
    rintro e y ⟨rfl, hb⟩
    refine hK.out _ _ (HS.step hb rfl) ?_
    clear HS hb
    intro HS
    refine one_ #[true, true, true, true, true, true, true, true, true, true, true, true, true, true, true, true, true, true, true, true, true, true, true, true, true, true, true, false, false, false, false, false] (i := 26) (N := some 37) rfl rfl (by kernel_rfl) (by decide) (fun K hK => ?_)
    go_simp
    refine (CS2.out _).mono ?_
    rintro e y ⟨rfl, hb⟩
    refine hK.out _ _ (HS.step hb rfl) ?_
    clear HS hb
    intro HS
    refine take_ #[true, true, true, true, true, true, true, true, true, true, true, true, true, true, true, true, true, true, true, true, true, true, true, true, true, true, true, true, false, false, false, false] (i := 27) (N := some 38) (v := ?v82) rfl rfl (by kernel_rfl) (fun _ _ _ h => h) (Or.inl ⟨by rfl, ?hy82⟩) HS rfl ?_
    case hy82 => (intro v hv; obtain ⟨x, rfl, _, _, n0, n1⟩ := hv.pin2; go_simp; first | done | with_reducible rfl)
    simp only [Act.put, List.setIfInBounds_toArray, List.set_cons_zero, List.set_cons_succ]
    refine take_ #[true, true, true, true, true, true, true, true, true, true, true, true, true, true, true, true, true, true, true, true, true, true, true, true, true, true, true, true, true, false, false, false] (i := 28) (N := some 39) (v := ?v83) rfl rfl (by kernel_rfl) (fun _ _ _ h => h) (Or.inl ⟨by rfl, ?hy83⟩) HS rfl ?_
    case hy83 => (intro v hv; obtain ⟨x, rfl, _, _, n0, n1⟩ := hv.pin2; go_simp; first | done | with_reducible rfl)
    simp only [Act.put, List.setIfInBounds_toArray, List.set_cons_zero, List.set_cons_succ]
    refine one_ #[true, true, true, true, true, true, true, true, true, true, true, true, true, true, true, true, true, true, true, true, true, true, true, true, true, true, true, true, true, true, false, false] (i := 29) (N := some 40) rfl rfl (by kernel_rfl) (by decide) (fun K hK => ?_)
    go_simp
    refine (known_any _).mono ?_
    rintro e y ⟨rfl, hb⟩
    refine hK.out _ _ (HS.step hb rfl) ?_
    clear HS hb
    intro HS
    refine take_ #[true, true, true, true, true, true, true, true, true, true, true, true, true, true, true, true, true, true, true, true, true, true, true, true, true, true, true, true, true, true, true, false] (i := 30) (N := some 41) (v := ?v84) rfl rfl (by kernel_rfl) (fun _ _ _ h => h) (Or.inl ⟨by rfl, ?hy84⟩) HS rfl ?_
    case hy84 => (intro v hv; obtain ⟨x, rfl, _, _, n0, n1⟩ := hv.pin2; go_simp; first | done | with_reducible rfl)
    simp only [Act.put, List.setIfInBounds_toArray, List.set_cons_zero, List.set_cons_succ]
    refine take_ #[true, true, true, true, true, true, true, true, true, true, true, true, true, true, true, true, true, true, true, true, true, true, true, true, true, true, true, true, true, true, true, true] (i := 31) (N := some 4) (v := ?v85) rfl rfl (by kernel_rfl) (fun _ _ _ h => h) (Or.inl ⟨by rfl, ?hy85⟩) HS rfl ?_
    case hy85 => (intro v hv; obtain ⟨x, rfl, _, _, n0, n1⟩ := hv.pin2; go_simp; first | done | with_reducible rfl)
    simp only [Act.put, List.setIfInBounds_toArray, List.set_cons_zero, List.set_cons_succ]
    obtain ⟨x1, rfl, hk1, hz1, l10, l11⟩ := HS.pin2
    have HB1 : Hid (Below wi.heap.size wi x1) := hk1.below
    clear HS hk1
    refine done_ (by kernel_rfl) ?_
    go_wp2_with fail
    go_ret
    exact ⟨rfl, Below.trans HBW.out ((below_pin_same (below_pin_same HB1.out HO0.out l10) HO1.out (by rw [pin_size]; exact l11)).mono HBW.out.size)⟩

set_option maxRecDepth 100000 in
theorem fieldSame_lifted (os : Os) (started : os.Started) (H : Type) (enc : TypeId × Value → H) :
    ReturnsInHanded {} Try.checked os 4 .any (Rows.fieldSameSpec.pre6 enc Try.prog Try.f4 Rows.fieldSameRow.domain false) (Rows.fieldSameSpec.post enc Try.prog Try.f4 false true false false) := by
  refine returnsInHanded_of_change (C := Try.checked) own started (by kernel_rfl) Try.func4
    (ChangeSpec.witness6 (enc := enc) (C := Try.checked) false ⟨#[], #[.agg #[.int .u64 0, .int .u64 0, .int .u64 0, .int .u64 0, .int .u64 0], .agg #[.int .u64 0, .int .u64 0, .int .u64 0, .int .u64 0, .int .u64 0]], []⟩ 8 (by kernel_rfl) (by kernel_rfl) (by kernel_rfl) (by kernel_rfl)) ?_
  intro W base args ds gs before hval0 hW hcnd _
  have hval : ∀ (j : Nat) t v, Try.f4.params[j]? = some t → args[j]? = some v → Value.okWide Try.prog W .any base t v := hval0
  have hW' := hW
  obtain ⟨p, q, hA0, hV, rfl, hfz, hnd⟩ := hW
  have hA : DataW.TrodAll enc Try.prog W 0 (fun _ => true) true Try.f4.params.toList args.toList ds p := hA0
  rw [Try.params4] at hA hval
  obtain ⟨v0, vs0, d0, ds0, p0, q0, hargs, rfl, rfl, h0, r0⟩ := trodAll_cons hA
  obtain ⟨v1, vs1, d1, ds1, p1, q1, rfl, rfl, rfl, h1, r1⟩ := trodAll_cons r0
  obtain ⟨rfl, rfl, rfl⟩ := trodAll_nil r1
  obtain rfl : args = #[v0, v1] := by cases args; simp_all
  obtain ⟨rfl, rfl⟩ := trodVars_none hV
  have k0 := h0
  have lt0 : ∀ x ∈ p0, x.block < W.heap.size := by obtain ⟨m, hm⟩ := k0; exact DataW.trod_lt m _ _ _ hm
  obtain ⟨a0, rfl, w0⟩ := open_elem (hval 0 25 v0 rfl rfl) h0
  have k1 := h1
  have lt1 : ∀ x ∈ p1, x.block < W.heap.size := by obtain ⟨m, hm⟩ := k1; exact DataW.trod_lt m _ _ _ hm
  obtain ⟨a1, rfl, w1⟩ := open_elem (hval 1 25 v1 rfl rfl) h1
  clear hA0 hval0
  refine (fieldSame_walk a0 w0 a1 w1 W ).mono fun e W' ⟨he, bel⟩ => ?_
  subst he
  exact ⟨_, rfl, _, _, _, [], _, [], hW', trodAll_mk1 (shut_bool Try.underlying4 _), (trodAll_cons_mk (Below.trod laidOut (by kernel_rfl) (of_decide_eq_true (by kernel_rfl)) k0 bel lt0) (trodAll_cons_mk (Below.trod laidOut (by kernel_rfl) (of_decide_eq_true (by kernel_rfl)) k1 bel lt1) trodAll_mk0)), rfl, bel.frame _, fun h => by cases h⟩

theorem fieldSame_holds : Rows.FieldSameSaid :=
  OpenClaim.holds_of_wide 4 Try.f4 rfl rfl rfl rfl rfl rfl rfl ⟨rfl, rfl, rfl, rfl, rfl⟩ rfl rfl rfl rfl rfl (by kernel_rfl) Try.func4 (by kernel_rfl)
    (of_decide_eq_true (by kernel_rfl)) (by unfold Func.isWrapper; first | (rw [if_pos (by decide +kernel)]; kernel_rfl) | (rw [if_neg (by decide +kernel)]; exact ⟨rfl, rfl⟩))
    (fun os started H enc _ => fieldSame_lifted os started H enc)

end Go.Proofs.Ytljolpdpblohcaa
