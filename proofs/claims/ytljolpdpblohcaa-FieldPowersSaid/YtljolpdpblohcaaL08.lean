/-
  The statement FieldPowers.
-/
import Derived.Test.YtljolpdpblohcaaRows
import Derived.Test.YtljolpdpblohcaaIn
import Derived.Test.YtljolpdpblohcaaFr
namespace Go.Proofs.Ytljolpdpblohcaa
open Go.RowKit Go.ChangeShapes Go.WideShapes Go.ChangeAt Go.Proofs.YtljolpdpblohcaaW.PrintLast
set_option linter.unusedSimpArgs false

set_option linter.unusedVariables false
set_option maxRecDepth 100000 in
set_option maxHeartbeats 8000000 in
theorem fieldPowers_walk (a0 : Fn) (w0 : a0.lt 18446744073709551616) (A1 : Option Addr) (c1 : Nat) (bs1 : List Nat) (by1 : ∀ b ∈ bs1, b < 256) (lc1 : bs1.length ≤ c1) (cm1 : c1 ≤ maxLen) (w : World) (rd1 : Rd w .u8 A1 bs1) :
    Calls Try.prog 10 #[a0.v, .slice A1 bs1.length c1] w fun e w' => e = .returned (.bool true) ∧ Below w.heap.size w w' := by
  have A0 := Lib.hid w0
  have RD1 := Lib.hid rd1
  have BY1 := Lib.hid by1
  clear w0 rd1 by1 lc1 cm1
  obtain ⟨n, hn⟩ : ∃ n, n = a0.val % Num.p := ⟨_, rfl⟩
  have HN := Lib.hid (show n < Num.p by rw [hn]; exact Nat.mod_lt _ p_pos)
  have CO0 := Of_any a0 A0.out
  rw [← hn] at CO0
  have HC0 := Lib.hid CO0
  clear CO0
  obtain ⟨E, hE⟩ : ∃ E, E = leN bs1 := ⟨_, rfl⟩
  obtain ⟨s1, hs1⟩ : ∃ s, s = small (a0.val ^ E) := ⟨_, rfl⟩
  obtain ⟨s2, hs2⟩ : ∃ s, s = small (a0.val ^ (Num.p - 2)) := ⟨_, rfl⟩
  have CI := Lib.hid (Inv_to a0 s2 _ A0.out hs2 rfl)
  have HS1 := Lib.hid (show s1 = small (n ^ E % Num.p) by rw [hs1, hn]; exact small_congr (by rw [Nat.mod_mod, ← Nat.pow_mod]))
  have HS2 := Lib.hid (show s2 = small (n ^ (Num.p - 2) % Num.p) by rw [hs2, hn]; exact small_congr (by rw [Nat.mod_mod, ← Nat.pow_mod]))
  have CP : Hid (bs1.length ≤ 64 → ∀ w, Rd w .u8 A1 bs1 → Calls Try.prog 33 #[a0.v, .slice A1 bs1.length c1] w fun e w' => e = .returned (.tuple #[s1.v, .int .i64 0]) ∧ Below w.heap.size w w') := Lib.hid (fun hl w h => by
    rw [hs1, hE]
    exact Pow_ok a0 A0.out A1 c1 bs1 hl BY1.out w h)
  have CW : Hid (bs1.length ≤ 1000 → ∀ (A : Option Addr) (c : Nat) (w : World), Dn w A c n → Rd w .u8 A1 bs1 → Calls Try.prog 38 #[.slice A (dig n).length c, .slice A1 bs1.length c1] w fun e w' => (∃ A' c', e = .returned (.slice A' (dig (n ^ E % Num.p)).length c') ∧ Dn w' A' c' (n ^ E % Num.p)) ∧ Below w.heap.size w w') := Lib.hid (fun hl A c w h hr => by
    rw [hE]
    exact Power_any A A1 c c1 n HN.out bs1 hl BY1.out w h hr)
  clear hn hE hs1 hs2
  obtain ⟨L, hL⟩ : ∃ L, L = bs1.length := ⟨_, rfl⟩
  rw [← hL]
  have HL := Lib.hid hL
  rw [← hL] at CP CW
  clear hL
  by_cases h1 : L ≤ 40
  · have g1 : ¬ (40 : Int) < (L : Int) := by omega
    have g2 : ¬ (64 : Int) < (L : Int) := by omega
    have H40 := Lib.hid h1
    clear h1
    go_enter Try.func10, Try.ntmps10
    go_wp2_with fail
    refine (CP.out (Nat.le_trans H40.out (by decide)) _ (RD1.out.mono (show Below w.heap.size w _ from (by (repeat (first | with_reducible exact (Below.refl _ _) | with_reducible refine below_pin ?_ ?_ | with_reducible refine Below.alloc ?_ ?_ _ | with_reducible refine Below.setCell ?_ ?_ _ | with_reducible refine Below.drew ?_)); all_goals (first | omega | (simp only [World.size_alloc, pin_size, World.size_drew, World.size_setCell] <;> omega)))) (Nat.le_refl _))).mono ?_
    rintro e y1 ⟨rfl, hb1⟩
    obtain ⟨x1, rfl, hc1, hz1, l10⟩ := keep1 (b := w.heap.size) hb1 rfl (by (repeat (first | with_reducible exact pin_at (by assumption) | (with_reducible apply pin_at; (first | omega | (simp only [World.size_alloc, pin_size, World.size_drew, World.size_setCell] <;> omega))) | (with_reducible apply alloc_at; first | rfl | (simp only [World.size_alloc, pin_size, World.size_drew, World.size_setCell] <;> omega)) | with_reducible apply past_pin | with_reducible apply past_alloc | with_reducible apply past_drew)); all_goals (first | omega | (simp only [World.size_alloc, pin_size, World.size_drew, World.size_setCell] <;> omega)))
    have HB1 : Hid (Below w.heap.size w x1) := Below.trans (by (repeat (first | with_reducible exact (Below.refl _ _) | with_reducible refine below_pin ?_ ?_ | with_reducible refine Below.alloc ?_ ?_ _ | with_reducible refine Below.setCell ?_ ?_ _ | with_reducible refine Below.drew ?_)); all_goals (first | omega | (simp only [World.size_alloc, pin_size, World.size_drew, World.size_setCell] <;> omega))) (hc1.mono (by (first | omega | (simp only [World.size_alloc, pin_size, World.size_drew, World.size_setCell] <;> omega))))
    clear hb1 hc1
    try simp only [World.size_alloc, pin_size, World.size_drew, World.size_setCell] at hz1
    go_wp2_with fail
    refine start_ (S := Keeps w _) (ds := []) (n := 22) #[false, false, false, false, false, false, false, false, false, false, false, false, false, false, false, false, false, false, false, false, false, false] (by kernel_rfl) rfl rfl (keepsC (b := w.heap.size) (by (repeat (first | with_reducible exact pin_at (by assumption) | (with_reducible apply pin_at; (first | omega | (simp only [World.size_alloc, pin_size, World.size_drew, World.size_setCell] <;> omega))) | (with_reducible apply alloc_at; first | rfl | (simp only [World.size_alloc, pin_size, World.size_drew, World.size_setCell] <;> omega)) | with_reducible apply past_pin | with_reducible apply past_alloc | with_reducible apply past_drew)); all_goals (first | omega | (simp only [World.size_alloc, pin_size, World.size_drew, World.size_setCell] <;> omega))) (keepsC (b := x1.heap.size) (by (repeat (first | with_reducible exact pin_at (by assumption) | (with_reducible apply pin_at; (first | omega | (simp only [World.size_alloc, pin_size, World.size_drew, World.size_setCell] <;> omega))) | (with_reducible apply alloc_at; first | rfl | (simp only [World.size_alloc, pin_size, World.size_drew, World.size_setCell] <;> omega)) | with_reducible apply past_pin | with_reducible apply past_alloc | with_reducible apply past_drew)); all_goals (first | omega | (simp only [World.size_alloc, pin_size, World.size_drew, World.size_setCell] <;> omega))) (keeps0 (by (repeat (first | with_reducible exact HB1.out | with_reducible refine below_pin ?_ ?_ | with_reducible refine Below.alloc ?_ ?_ _ | with_reducible refine Below.setCell ?_ ?_ _ | with_reducible refine Below.drew ?_)); all_goals (first | omega | (simp only [World.size_alloc, pin_size, World.size_drew, World.size_setCell] <;> omega)))))) (fun HS => ?_)
    refine take_ #[true, false, false, false, false, false, false, false, false, false, false, false, false, false, false, false, false, false, false, false, false, false] (i := 0) (N := some 35) (v := ?v1) rfl rfl (by kernel_rfl) (fun _ _ _ h => h) (Or.inl ⟨by rfl, ?hy1⟩) HS rfl ?_
    case hy1 => (intro v hv; obtain ⟨x, rfl, _, _, n0, n1⟩ := hv.pin2; go_simp; first | done | with_reducible rfl)
    simp only [Act.put, List.setIfInBounds_toArray, List.set_cons_zero, List.set_cons_succ]
    refine take_ #[true, true, false, false, false, false, false, false, false, false, false, false, false, false, false, false, false, false, false, false, false, false] (i := 1) (N := some 36) (v := ?v2) rfl rfl (by kernel_rfl) (fun _ _ _ h => h) (Or.inl ⟨by rfl, ?hy2⟩) HS rfl ?_
    case hy2 => (intro v hv; obtain ⟨x, rfl, _, _, n0, n1⟩ := hv.pin2; go_simp; first | done | with_reducible rfl)
    simp only [Act.put, List.setIfInBounds_toArray, List.set_cons_zero, List.set_cons_succ]
    refine take_ #[true, true, true, false, false, false, false, false, false, false, false, false, false, false, false, false, false, false, false, false, false, false] (i := 2) (N := some 37) (v := ?v3) rfl rfl (by kernel_rfl) (fun _ _ _ h => h) (Or.inl ⟨by rfl, ?hy3⟩) HS rfl ?_
    case hy3 => (intro v hv; obtain ⟨x, rfl, _, _, n0, n1⟩ := hv.pin2; go_simp; first | done | with_reducible rfl)
    simp only [Act.put, List.setIfInBounds_toArray, List.set_cons_zero, List.set_cons_succ]
    refine take_ #[true, true, true, true, false, false, false, false, false, false, false, false, false, false, false, false, false, false, false, false, false, false] (i := 3) (N := some 38) (v := ?v4) rfl rfl (by kernel_rfl) (fun _ _ _ h => h) (Or.inl ⟨by rfl, ?hy4⟩) HS rfl ?_
    case hy4 => (intro v hv; obtain ⟨x, rfl, _, _, n0, n1⟩ := hv.pin2; go_simp; first | done | with_reducible rfl)
    simp only [Act.put, List.setIfInBounds_toArray, List.set_cons_zero, List.set_cons_succ]
    refine take_ #[true, true, true, true, true, false, false, false, false, false, false, false, false, false, false, false, false, false, false, false, false, false] (i := 4) (N := some 39) (v := ?v5) rfl rfl (by kernel_rfl) (fun _ _ _ h => h) (Or.inl ⟨by rfl, ?hy5⟩) HS rfl ?_
    case hy5 => (intro v hv; obtain ⟨x, rfl, _, _, n0, n1⟩ := hv.pin2; go_simp; first | done | with_reducible rfl)
    simp only [Act.put, List.setIfInBounds_toArray, List.set_cons_zero, List.set_cons_succ]
    refine take_ #[true, true, true, true, true, false, true, false, false, false, false, false, false, false, false, false, false, false, false, false, false, false] (i := 6) (N := some 41) (v := ?v6) rfl rfl (by kernel_rfl) (fun _ _ _ h => h) (Or.inl ⟨by rfl, ?hy6⟩) HS rfl ?_
    case hy6 => (intro v hv; obtain ⟨x, rfl, _, _, n0, n1⟩ := hv.pin2; go_simp; first | done | with_reducible rfl)
    simp only [Act.put, List.setIfInBounds_toArray, List.set_cons_zero, List.set_cons_succ]
    refine one_ #[true, true, true, true, true, true, true, false, false, false, false, false, false, false, false, false, false, false, false, false, false, false] (i := 5) (N := some 40) rfl rfl (by kernel_rfl) (by decide) (fun K hK => ?_)
    go_simp
    refine (HC0.out _).mono ?_
    rintro e y ⟨⟨Ak, ck, rfl, hdk⟩, hb⟩
    refine hK.out _ _ (HS.step hb rfl) ?_
    clear HS hb
    intro HS
    have HDK := Lib.hid hdk
    clear hdk
    refine one_ #[true, true, true, true, true, true, true, true, false, false, false, false, false, false, false, false, false, false, false, false, false, false] (i := 7) (N := some 42) rfl rfl (by kernel_rfl) (by decide) (fun K hK => ?_)
    go_simp
    refine (CW.out (Nat.le_trans H40.out (by decide)) Ak ck _ HDK.out (RD1.out.mono HS.1 (Nat.le_refl _))).mono ?_
    rintro e y ⟨⟨B1, e1, rfl, hq1⟩, hb⟩
    refine hK.out _ _ (HS.step hb rfl) ?_
    clear HS hb
    intro HS
    have HQ1 := Lib.hid hq1
    clear hq1
    refine one_ #[true, true, true, true, true, true, true, true, true, false, false, false, false, false, false, false, false, false, false, false, false, false] (i := 8) (N := some 43) rfl rfl (by kernel_rfl) (by decide) (fun K hK => ?_)
    go_simp
    refine (Is_to s1 B1 e1 (n ^ E % Num.p) (Nat.mod_lt _ p_pos) HS1.out _ HQ1.out).mono ?_
    rintro e y ⟨rfl, hb⟩
    refine hK.out _ _ (HS.step hb rfl) ?_
    clear HS hb
    intro HS
    refine take_ #[true, true, true, true, true, true, true, true, true, true, false, false, false, false, false, false, false, false, false, false, false, false] (i := 9) (N := some 44) (v := ?v7) rfl rfl (by kernel_rfl) (fun _ _ _ h => h) (Or.inl ⟨by rfl, ?hy7⟩) HS rfl ?_
    case hy7 => (intro v hv; obtain ⟨x, rfl, _, _, n0, n1⟩ := hv.pin2; go_simp; first | done | with_reducible rfl)
    simp only [Act.put, List.setIfInBounds_toArray, List.set_cons_zero, List.set_cons_succ]
    refine take_ #[true, true, true, true, true, true, true, true, true, true, true, false, false, false, false, false, false, false, false, false, false, false] (i := 10) (N := some 45) (v := ?v8) rfl rfl (by kernel_rfl) (fun _ _ _ h => h) (Or.inl ⟨by rfl, ?hy8⟩) HS rfl ?_
    case hy8 => (intro v hv; obtain ⟨x, rfl, _, _, n0, n1⟩ := hv.pin2; go_simp; first | done | with_reducible rfl)
    simp only [Act.put, List.setIfInBounds_toArray, List.set_cons_zero, List.set_cons_succ]
    refine take_ #[true, true, true, true, true, true, true, true, true, true, true, true, false, false, false, false, false, false, false, false, false, false] (i := 11) (N := some 46) (v := ?v9) rfl rfl (by kernel_rfl) (fun _ _ _ h => h) (Or.inl ⟨by rfl, ?hy9⟩) HS rfl ?_
    case hy9 => (intro v hv; obtain ⟨x, rfl, _, _, n0, n1⟩ := hv.pin2; go_simp; first | done | with_reducible rfl)
    simp only [Act.put, List.setIfInBounds_toArray, List.set_cons_zero, List.set_cons_succ]
    refine take_ #[true, true, true, true, true, true, true, true, true, true, true, true, false, true, false, false, false, false, false, false, false, false] (i := 13) (N := some 48) (v := ?v10) rfl rfl (by kernel_rfl) (fun _ _ _ h => h) (Or.inl ⟨by rfl, ?hy10⟩) HS rfl ?_
    case hy10 => (intro v hv; obtain ⟨x, rfl, _, _, n0, n1⟩ := hv.pin2; go_simp; first | done | with_reducible rfl)
    simp only [Act.put, List.setIfInBounds_toArray, List.set_cons_zero, List.set_cons_succ]
    refine one_ #[true, true, true, true, true, true, true, true, true, true, true, true, true, true, false, false, false, false, false, false, false, false] (i := 12) (N := some 47) rfl rfl (by kernel_rfl) (by decide) (fun K hK => ?_)
    go_simp
    refine (CI.out _).mono ?_
    rintro e y ⟨rfl, hb⟩
    refine hK.out _ _ (HS.step hb rfl) ?_
    clear HS hb
    intro HS
    refine one_ #[true, true, true, true, true, true, true, true, true, true, true, true, true, true, true, false, false, false, false, false, false, false] (i := 14) (N := some 49) rfl rfl (by kernel_rfl) (by decide) (fun K hK => ?_)
    go_simp
    refine (HC0.out _).mono ?_
    rintro e y ⟨⟨Am, cm, rfl, hdm⟩, hb⟩
    refine hK.out _ _ (HS.step hb rfl) ?_
    clear HS hb
    intro HS
    have HDM := Lib.hid hdm
    clear hdm
    refine one_ #[true, true, true, true, true, true, true, true, true, true, true, true, true, true, true, true, false, false, false, false, false, false] (i := 15) (N := some 50) rfl rfl (by kernel_rfl) (by decide) (fun K hK => ?_)
    go_simp
    refine (RInv_any Am cm n HN.out _ HDM.out).mono ?_
    rintro e y ⟨⟨B2, e2, rfl, hq2⟩, hb⟩
    refine hK.out _ _ (HS.step hb rfl) ?_
    clear HS hb
    intro HS
    have HQ2 := Lib.hid hq2
    clear hq2
    refine one_ #[true, true, true, true, true, true, true, true, true, true, true, true, true, true, true, true, true, false, false, false, false, false] (i := 16) (N := some 51) rfl rfl (by kernel_rfl) (by decide) (fun K hK => ?_)
    go_simp
    refine (Is_to s2 B2 e2 (n ^ (Num.p - 2) % Num.p) (Nat.mod_lt _ p_pos) HS2.out _ HQ2.out).mono ?_
    rintro e y ⟨rfl, hb⟩
    refine hK.out _ _ (HS.step hb rfl) ?_
    clear HS hb
    intro HS
    refine take_ #[true, true, true, true, true, true, true, true, true, true, true, true, true, true, true, true, true, true, false, false, false, false] (i := 17) (N := some 52) (v := ?v11) rfl rfl (by kernel_rfl) (fun _ _ _ h => h) (Or.inl ⟨by rfl, ?hy11⟩) HS rfl ?_
    case hy11 => (intro v hv; obtain ⟨x, rfl, _, _, n0, n1⟩ := hv.pin2; go_simp; first | done | with_reducible rfl)
    simp only [Act.put, List.setIfInBounds_toArray, List.set_cons_zero, List.set_cons_succ]
    refine take_ #[true, true, true, true, true, true, true, true, true, true, true, true, true, true, true, true, true, true, true, false, false, false] (i := 18) (N := some 53) (v := ?v12) rfl rfl (by kernel_rfl) (fun _ _ _ h => h) (Or.inl ⟨by rfl, ?hy12⟩) HS rfl ?_
    case hy12 => (intro v hv; obtain ⟨x, rfl, _, _, n0, n1⟩ := hv.pin2; go_simp; first | done | with_reducible rfl)
    simp only [Act.put, List.setIfInBounds_toArray, List.set_cons_zero, List.set_cons_succ]
    refine one_ #[true, true, true, true, true, true, true, true, true, true, true, true, true, true, true, true, true, true, true, true, false, false] (i := 19) (N := some 54) rfl rfl (by kernel_rfl) (by decide) (fun K hK => ?_)
    go_simp
    refine (known_any _).mono ?_
    rintro e y ⟨rfl, hb⟩
    refine hK.out _ _ (HS.step hb rfl) ?_
    clear HS hb
    intro HS
    refine take_ #[true, true, true, true, true, true, true, true, true, true, true, true, true, true, true, true, true, true, true, true, true, false] (i := 20) (N := some 55) (v := ?v13) rfl rfl (by kernel_rfl) (fun _ _ _ h => h) (Or.inl ⟨by rfl, ?hy13⟩) HS rfl ?_
    case hy13 => (intro v hv; obtain ⟨x, rfl, _, _, n0, n1⟩ := hv.pin2; go_simp; first | done | with_reducible rfl)
    simp only [Act.put, List.setIfInBounds_toArray, List.set_cons_zero, List.set_cons_succ]
    refine take_ #[true, true, true, true, true, true, true, true, true, true, true, true, true, true, true, true, true, true, true, true, true, true] (i := 21) (N := some 4) (v := ?v14) rfl rfl (by kernel_rfl) (fun _ _ _ h => h) (Or.inl ⟨by rfl, ?hy14⟩) HS rfl ?_
    case hy14 => (intro v hv; obtain ⟨x, rfl, _, _, n0, n1⟩ := hv.pin2; go_simp; first | done | with_reducible rfl)
    simp only [Act.put, List.setIfInBounds_toArray, List.set_cons_zero, List.set_cons_succ]
    obtain ⟨x2, rfl, hk2, hz2, l20, l21⟩ := HS.pin2
    have HB2 : Hid (Below w.heap.size w x2) := hk2.below
    clear HS hk2
    refine done_ (by kernel_rfl) ?_
    go_wp2_with fail
    go_ret
    exact ⟨rfl, (by (repeat (first | with_reducible exact HB2.out | with_reducible refine below_pin ?_ ?_ | with_reducible refine Below.alloc ?_ ?_ _ | with_reducible refine Below.setCell ?_ ?_ _ | with_reducible refine Below.drew ?_)); all_goals (first | omega | (simp only [World.size_alloc, pin_size, World.size_drew, World.size_setCell] <;> omega)))⟩
  · by_cases h2 : L ≤ 64
    · have g1 : (40 : Int) < (L : Int) := by omega
      have g2 : (L : Int) ≤ 64 := by omega
      have g3 : ¬ (64 : Int) < (L : Int) := by omega
      clear h1 h2
      go_enter Try.func10, Try.ntmps10
      go_wp2_with fail
      refine (known_any _).mono ?_
      rintro e y1 ⟨rfl, hb1⟩
      obtain ⟨x1, rfl, hc1, hz1, l10⟩ := keep1 (b := w.heap.size) hb1 rfl (by (repeat (first | with_reducible exact pin_at (by assumption) | (with_reducible apply pin_at; (first | omega | (simp only [World.size_alloc, pin_size, World.size_drew, World.size_setCell] <;> omega))) | (with_reducible apply alloc_at; first | rfl | (simp only [World.size_alloc, pin_size, World.size_drew, World.size_setCell] <;> omega)) | with_reducible apply past_pin | with_reducible apply past_alloc | with_reducible apply past_drew)); all_goals (first | omega | (simp only [World.size_alloc, pin_size, World.size_drew, World.size_setCell] <;> omega)))
      have HB1 : Hid (Below w.heap.size w x1) := Below.trans (by (repeat (first | with_reducible exact (Below.refl _ _) | with_reducible refine below_pin ?_ ?_ | with_reducible refine Below.alloc ?_ ?_ _ | with_reducible refine Below.setCell ?_ ?_ _ | with_reducible refine Below.drew ?_)); all_goals (first | omega | (simp only [World.size_alloc, pin_size, World.size_drew, World.size_setCell] <;> omega))) (hc1.mono (by (first | omega | (simp only [World.size_alloc, pin_size, World.size_drew, World.size_setCell] <;> omega))))
      clear hb1 hc1
      try simp only [World.size_alloc, pin_size, World.size_drew, World.size_setCell] at hz1
      go_wp2_with fail
      go_ret
      exact ⟨rfl, (by (repeat (first | with_reducible exact HB1.out | with_reducible refine below_pin ?_ ?_ | with_reducible refine Below.alloc ?_ ?_ _ | with_reducible refine Below.setCell ?_ ?_ _ | with_reducible refine Below.drew ?_)); all_goals (first | omega | (simp only [World.size_alloc, pin_size, World.size_drew, World.size_setCell] <;> omega)))⟩
    · have g1 : (40 : Int) < (L : Int) := by omega
      have g2 : ¬ (L : Int) ≤ 64 := by omega
      have g3 : (64 : Int) < (L : Int) := by omega
      have H64 := Lib.hid (show 64 < L by omega)
      clear h1 h2
      go_enter Try.func10, Try.ntmps10
      go_wp2_with fail
      refine (Pow_no a0 A1 c1 L H64.out _).mono ?_
      rintro e y1 ⟨rfl, hb1⟩
      obtain ⟨x1, rfl, hc1, hz1, l10⟩ := keep1 (b := w.heap.size) hb1 rfl (by (repeat (first | with_reducible exact pin_at (by assumption) | (with_reducible apply pin_at; (first | omega | (simp only [World.size_alloc, pin_size, World.size_drew, World.size_setCell] <;> omega))) | (with_reducible apply alloc_at; first | rfl | (simp only [World.size_alloc, pin_size, World.size_drew, World.size_setCell] <;> omega)) | with_reducible apply past_pin | with_reducible apply past_alloc | with_reducible apply past_drew)); all_goals (first | omega | (simp only [World.size_alloc, pin_size, World.size_drew, World.size_setCell] <;> omega)))
      have HB1 : Hid (Below w.heap.size w x1) := Below.trans (by (repeat (first | with_reducible exact (Below.refl _ _) | with_reducible refine below_pin ?_ ?_ | with_reducible refine Below.alloc ?_ ?_ _ | with_reducible refine Below.setCell ?_ ?_ _ | with_reducible refine Below.drew ?_)); all_goals (first | omega | (simp only [World.size_alloc, pin_size, World.size_drew, World.size_setCell] <;> omega))) (hc1.mono (by (first | omega | (simp only [World.size_alloc, pin_size, World.size_drew, World.size_setCell] <;> omega))))
      clear hb1 hc1
      try simp only [World.size_alloc, pin_size, World.size_drew, World.size_setCell] at hz1
      go_wp2_with fail
      refine (known_any _).mono ?_
      rintro e y2 ⟨rfl, hb2⟩
      obtain ⟨x2, rfl, hc2, hz2, l20⟩ := keep1 (b := w.heap.size) hb2 rfl (by (repeat (first | with_reducible exact pin_at (by assumption) | (with_reducible apply pin_at; (first | omega | (simp only [World.size_alloc, pin_size, World.size_drew, World.size_setCell] <;> omega))) | (with_reducible apply alloc_at; first | rfl | (simp only [World.size_alloc, pin_size, World.size_drew, World.size_setCell] <;> omega)) | with_reducible apply past_pin | with_reducible apply past_alloc | with_reducible apply past_drew)); all_goals (first | omega | (simp only [World.size_alloc, pin_size, World.size_drew, World.size_setCell] <;> omega)))
      have HB2 : Hid (Below w.heap.size w x2) := Below.trans (by (repeat (first | with_reducible exact HB1.out | with_reducible refine below_pin ?_ ?_ | with_reducible refine Below.alloc ?_ ?_ _ | with_reducible refine Below.setCell ?_ ?_ _ | with_reducible refine Below.drew ?_)); all_goals (first | omega | (simp only [World.size_alloc, pin_size, World.size_drew, World.size_setCell] <;> omega))) (hc2.mono (by (first | omega | (simp only [World.size_alloc, pin_size, World.size_drew, World.size_setCell] <;> omega))))
      clear hb2 hc2
      try simp only [World.size_alloc, pin_size, World.size_drew, World.size_setCell] at hz2
      go_wp2_with fail
      go_ret
      exact ⟨rfl, (by (repeat (first | with_reducible exact HB2.out | with_reducible refine below_pin ?_ ?_ | with_reducible refine Below.alloc ?_ ?_ _ | with_reducible refine Below.setCell ?_ ?_ _ | with_reducible refine Below.drew ?_)); all_goals (first | omega | (simp only [World.size_alloc, pin_size, World.size_drew, World.size_setCell] <;> omega)))⟩

set_option maxRecDepth 100000 in
theorem fieldPowers_lifted (os : Os) (started : os.Started) (H : Type) (enc : TypeId × Value → H) :
    ReturnsInHanded {} Try.checked os 10 .any (Rows.fieldPowersSpec.pre6 enc Try.prog Try.f10 Rows.fieldPowersRow.domain false) (Rows.fieldPowersSpec.post enc Try.prog Try.f10 false true false false) := by
  refine returnsInHanded_of_change (C := Try.checked) own started (by kernel_rfl) Try.func10
    (ChangeSpec.witness6 (enc := enc) (C := Try.checked) false ⟨#[], #[.agg #[.int .u64 0, .int .u64 0, .int .u64 0, .int .u64 0, .int .u64 0], .slice none 0 0], []⟩ 8 (by kernel_rfl) (by kernel_rfl) (by kernel_rfl) (by kernel_rfl)) ?_
  intro W base args ds gs before hval0 hW hcnd _
  have hval : ∀ (j : Nat) t v, Try.f10.params[j]? = some t → args[j]? = some v → Value.okWide Try.prog W .any base t v := hval0
  have hW' := hW
  obtain ⟨p, q, hA0, hV, rfl, hfz, hnd⟩ := hW
  have hA : DataW.TrodAll enc Try.prog W 0 (fun _ => true) true Try.f10.params.toList args.toList ds p := hA0
  rw [Try.params10] at hA hval
  obtain ⟨v0, vs0, d0, ds0, p0, q0, hargs, rfl, rfl, h0, r0⟩ := trodAll_cons hA
  obtain ⟨v1, vs1, d1, ds1, p1, q1, rfl, rfl, rfl, h1, r1⟩ := trodAll_cons r0
  obtain ⟨rfl, rfl, rfl⟩ := trodAll_nil r1
  obtain rfl : args = #[v0, v1] := by cases args; simp_all
  obtain ⟨rfl, rfl⟩ := trodVars_none hV
  have k0 := h0
  have lt0 : ∀ x ∈ p0, x.block < W.heap.size := by obtain ⟨m, hm⟩ := k0; exact DataW.trod_lt m _ _ _ hm
  obtain ⟨a0, rfl, w0⟩ := open_elem (hval 0 25 v0 rfl rfl) h0
  have k1 := h1
  have lt1 : ∀ x ∈ p1, x.block < W.heap.size := by obtain ⟨m, hm⟩ := k1; exact DataW.trod_lt m _ _ _ hm
  obtain ⟨A1, c1, bs1, rfl, rd1, by1, lc1, cm1⟩ := open_bytes (hval 1 22 v1 rfl rfl) h1
  clear hA0 hval0
  refine (fieldPowers_walk a0 w0 A1 c1 bs1 by1 lc1 cm1 W rd1).mono fun e W' ⟨he, bel⟩ => ?_
  subst he
  exact ⟨_, rfl, _, _, _, [], _, [], hW', trodAll_mk1 (shut_bool Try.underlying4 _), (trodAll_cons_mk (Below.trod laidOut (by kernel_rfl) (of_decide_eq_true (by kernel_rfl)) k0 bel lt0) (trodAll_cons_mk (Below.trod laidOut (by kernel_rfl) (of_decide_eq_true (by kernel_rfl)) k1 bel lt1) trodAll_mk0)), rfl, bel.frame _, fun h => by cases h⟩

theorem fieldPowers_holds : Rows.FieldPowersSaid :=
  OpenClaim.holds_of_wide 10 Try.f10 rfl rfl rfl rfl rfl rfl rfl ⟨rfl, rfl, rfl, rfl, rfl⟩ rfl rfl rfl rfl rfl (by kernel_rfl) Try.func10 (by kernel_rfl)
    (of_decide_eq_true (by kernel_rfl)) (by unfold Func.isWrapper; first | (rw [if_pos (by decide +kernel)]; kernel_rfl) | (rw [if_neg (by decide +kernel)]; exact ⟨rfl, rfl⟩))
    (fun os started H enc _ => fieldPowers_lifted os started H enc)

end Go.Proofs.Ytljolpdpblohcaa
