/-
  Walks: package field, scalars.
-/
import Derived.Test.YtljolpdpblohcaaDoorLr
namespace Go.Proofs.YtljolpdpblohcaaDoor
open Go.RowKit Go.Proofs.YtljolpdpblohcaaDoorW.PrintLast
set_option linter.unusedSimpArgs false

set_option linter.unusedVariables false
theorem b64_lt {n : Nat} {bs : List Nat} (h : ∀ b ∈ bs, b < 256) (hl : bs.length ≤ n) : leN bs < 256 ^ n := Nat.lt_of_lt_of_le (leN_lt bs h) (Nat.pow_le_pow_right (by decide) hl)
theorem fold_lt {bs : List Nat} (h : ∀ b ∈ bs, b < 256) (hl : bs.length ≤ 64) : leN bs < LO * 2 ^ 321 := Nat.lt_trans (b64_lt h hl) (by decide +kernel)
theorem restZ (x N : Nat) (hx : x < LO * 2 ^ 321) (hN : N = x % LO) (w : World) (ho : OrdAt w) : Calls Tryd.prog 20 #[Lv x] w fun e w' => e = .returned (Lv N) ∧ Below w.heap.size w w' := by
  subst hN
  exact rest_any x hx w ho
theorem readZ (A : Option Addr) (c L N : Nat) (bs : List Nat) (hby : ∀ b ∈ bs, b < 256) (hl : bs.length ≤ 64) (hL : L = bs.length) (hN : N = leN bs) (w : World) (hr : Rd w .u8 A bs) : Calls Tryd.prog 21 #[.slice A L c] w fun e w' => e = .returned (Lv N) ∧ Below w.heap.size w w' := by
  subst hN
  subst hL
  exact read_any A c bs hby hl w hr
set_option maxRecDepth 100000 in
set_option maxHeartbeats 1000000 in
theorem Fold_ok (A : Option Addr) (c : Nat) (bs : List Nat) (hby : ∀ b ∈ bs, b < 256) (hl : bs.length ≤ 64) (w : World) (hr : Rd w .u8 A bs) (ho : OrdAt w) :
    Calls Tryd.prog 7 #[.slice A bs.length c] w fun e w' => (∃ b, e = .returned (.tuple #[.slice (some ⟨b, 0, none⟩) 32 32, .int .i64 0]) ∧ Rd w' .u8 (some ⟨b, 0, none⟩) (bytesN 32 (leN bs % LO))) ∧ Below w.heap.size w w' := by
  have HR := Lib.hid hr
  have HO := Lib.hid ho
  have HBy := Lib.hid hby
  have HL := Lib.hid hl
  obtain ⟨L, hL⟩ : ∃ L, L = bs.length := ⟨_, rfl⟩
  obtain ⟨N, hN⟩ : ∃ N, N = leN bs := ⟨_, rfl⟩
  obtain ⟨M, hM⟩ : ∃ M, M = N % LO := ⟨_, rfl⟩
  have HN := Lib.hid (show L = bs.length ∧ N = leN bs ∧ M = N % LO ∧ N < LO * 2 ^ 321 by rw [hM, hN, hL]; exact ⟨rfl, rfl, rfl, fold_lt hby hl⟩)
  have hlz : (L : Int) ≤ 64 := by omega
  have hlz2 : ¬ (64 : Int) < (L : Int) := by omega
  have hd : decide ((64 : Int) < (L : Int)) = false := decide_eq_false hlz2
  have hd2 : decide (64 < L) = false := decide_eq_false (by omega)
  rw [← hL, ← hN, ← hM]
  clear hr ho hby hl hL hN hM hlz
  go_enter Tryd.func7, Tryd.ntmps7
  go_wp2_with fail
  refine (readZ A c L N bs HBy.out HL.out HN.out.1 HN.out.2.1 _ (HR.out.mono (by (repeat (first | with_reducible exact (Below.refl _ _) | with_reducible refine below_pin ?_ ?_ | with_reducible refine Below.alloc ?_ ?_ _ | with_reducible refine Below.setCell ?_ ?_ _ | with_reducible refine Below.drew ?_)); all_goals (first | omega | (simp only [World.size_alloc, pin_size, World.size_drew, World.size_setCell] <;> omega))) (Nat.le_refl _))).mono ?_
  rintro e x1 ⟨rfl, hb1⟩
  have HB1 : Hid (Below w.heap.size w x1) := Below.trans (by (repeat (first | with_reducible exact (Below.refl _ _) | with_reducible refine below_pin ?_ ?_ | with_reducible refine Below.alloc ?_ ?_ _ | with_reducible refine Below.setCell ?_ ?_ _ | with_reducible refine Below.drew ?_)); all_goals (first | omega | (simp only [World.size_alloc, pin_size, World.size_drew, World.size_setCell] <;> omega))) (hb1.mono (by (first | omega | (simp only [World.size_alloc, pin_size, World.size_drew, World.size_setCell] <;> omega))))
  have hz1 := HB1.out.size
  have HOn := Lib.hid (HO.out.next (Below.trans (by (repeat (first | with_reducible exact (Below.refl _ _) | with_reducible refine below_pin ?_ ?_ | with_reducible refine Below.alloc ?_ ?_ _ | with_reducible refine Below.setCell ?_ ?_ _ | with_reducible refine Below.drew ?_)); all_goals (first | omega | (simp only [World.size_alloc, pin_size, World.size_drew, World.size_setCell] <;> omega))) (hb1.mono (by (first | omega | (simp only [World.size_alloc, pin_size, World.size_drew, World.size_setCell] <;> omega))))))
  clear HO
  have HO := HOn
  clear HOn
  clear hb1
  go_wp2_with fail
  refine (restZ N M HN.out.2.2.2 HN.out.2.2.1 _ (HO.out.next (by (repeat (first | with_reducible exact (Below.refl _ _) | with_reducible refine below_pin ?_ ?_ | with_reducible refine Below.alloc ?_ ?_ _ | with_reducible refine Below.setCell ?_ ?_ _ | with_reducible refine Below.drew ?_)); all_goals (first | omega | (simp only [World.size_alloc, pin_size, World.size_drew, World.size_setCell] <;> omega))))).mono ?_
  rintro e x2 ⟨rfl, hb2⟩
  have HB2 : Hid (Below w.heap.size w x2) := Below.trans (by (repeat (first | with_reducible exact HB1.out | with_reducible refine below_pin ?_ ?_ | with_reducible refine Below.alloc ?_ ?_ _ | with_reducible refine Below.setCell ?_ ?_ _ | with_reducible refine Below.drew ?_)); all_goals (first | omega | (simp only [World.size_alloc, pin_size, World.size_drew, World.size_setCell] <;> omega))) (hb2.mono (by (first | omega | (simp only [World.size_alloc, pin_size, World.size_drew, World.size_setCell] <;> omega))))
  have hz2 := HB2.out.size
  clear hb2
  go_wp2_with fail
  refine (bytesOf_any M _).mono ?_
  rintro e x3 ⟨⟨b, rfl, hrd⟩, hb3⟩
  have HB3 : Hid (Below w.heap.size w x3) := Below.trans (by (repeat (first | with_reducible exact HB2.out | with_reducible refine below_pin ?_ ?_ | with_reducible refine Below.alloc ?_ ?_ _ | with_reducible refine Below.setCell ?_ ?_ _ | with_reducible refine Below.drew ?_)); all_goals (first | omega | (simp only [World.size_alloc, pin_size, World.size_drew, World.size_setCell] <;> omega))) (hb3.mono (by (first | omega | (simp only [World.size_alloc, pin_size, World.size_drew, World.size_setCell] <;> omega))))
  have hz3 := HB3.out.size
  clear hb3
  have HRD := Lib.hid hrd
  clear hrd
  go_wp2_with fail
  refine bodyPost_ret (v := .tuple #[.slice (some ⟨b, 0, none⟩) 32 32, .int .i64 0]) ?_ rfl ⟨⟨b, rfl, HRD.out⟩, (by (repeat (first | with_reducible exact HB3.out | with_reducible refine below_pin ?_ ?_ | with_reducible refine Below.alloc ?_ ?_ _ | with_reducible refine Below.setCell ?_ ?_ _ | with_reducible refine Below.drew ?_)); all_goals (first | omega | (simp only [World.size_alloc, pin_size, World.size_drew, World.size_setCell] <;> omega)))⟩
  · simp [results, Tryd.results7, go_sem]
set_option maxRecDepth 100000 in
set_option maxHeartbeats 1000000 in
theorem Fold_bad (A : Option Addr) (c L : Nat) (hl : 64 < L) (w : World) :
    Calls Tryd.prog 7 #[.slice A L c] w fun e w' => e = .returned (.tuple #[.slice none 0 0, .int .i64 1]) ∧ Below w.heap.size w w' := by
  have hlz2 : (64 : Int) < (L : Int) := by omega
  have hd2 : decide (64 < L) = true := decide_eq_true hl
  clear hl
  go_enter Tryd.func7, Tryd.ntmps7
  go_wp2_with fail
  refine bodyPost_ret (v := .tuple #[.slice none 0 0, .int .i64 1]) ?_ rfl ⟨rfl, (by (repeat (first | with_reducible exact (Below.refl _ _) | with_reducible refine below_pin ?_ ?_ | with_reducible refine Below.alloc ?_ ?_ _ | with_reducible refine Below.setCell ?_ ?_ _ | with_reducible refine Below.drew ?_)); all_goals (first | omega | (simp only [World.size_alloc, pin_size, World.size_drew, World.size_setCell] <;> omega)))⟩
  · simp [results, Tryd.results7, go_sem]
set_option maxRecDepth 100000 in
set_option maxHeartbeats 1000000 in
theorem Scalar_32 (A : Option Addr) (c : Nat) (bs : List Nat) (hby : ∀ b ∈ bs, b < 256) (hl : bs.length = 32) (w : World) (hr : Rd w .u8 A bs) (ho : OrdAt w) :
    Calls Tryd.prog 9 #[.slice A bs.length c] w fun e w' => e = .returned (.int .i64 (if leN bs < LO then 0 else 31)) ∧ Below w.heap.size w w' := by
  have HR := Lib.hid hr
  have HO := Lib.hid ho
  have HBy := Lib.hid hby
  have HL := Lib.hid hl
  obtain ⟨N, hN⟩ : ∃ N, N = leN bs := ⟨_, rfl⟩
  have HN := Lib.hid (show N = leN bs ∧ N < WW ^ 9 by rw [hN]; exact ⟨rfl, Nat.lt_trans (b64_lt hby (Nat.le_of_eq hl)) (by decide +kernel)⟩)
  have HLO := Lib.hid (show LO < WW ^ 9 by decide +kernel)
  have HLL := Lib.hid (show bs.length ≤ 64 by omega)
  obtain ⟨o, hoo⟩ : ∃ o, o = LO := ⟨_, rfl⟩
  obtain ⟨er, her⟩ : ∃ er : Int, er = if leN bs < LO then 0 else 31 := ⟨_, rfl⟩
  rw [← her]
  have HER := Lib.hid her
  rw [hl]
  clear hr ho hby hl hN her
  go_enter Tryd.func9, Tryd.ntmps9
  go_wp2_with fail
  obtain ⟨v, hv⟩ : ∃ v, v = w.alloc (.cells #[.int .u64 0, .int .u64 0, .int .u64 0, .int .u64 0, .int .u64 0, .int .u64 0, .int .u64 0, .int .u64 0, .int .u64 0] 44) := ⟨_, rfl⟩
  have hv2 : v.heap[w.heap.size]? = some (.cells #[.int .u64 0, .int .u64 0, .int .u64 0, .int .u64 0, .int .u64 0, .int .u64 0, .int .u64 0, .int .u64 0, .int .u64 0] 44) := by rw [hv]; exact (by (repeat (first | with_reducible exact pin_at (by assumption) | (with_reducible apply pin_at; (first | omega | (simp only [World.size_alloc, pin_size, World.size_drew, World.size_setCell] <;> omega))) | (with_reducible apply alloc_at; first | rfl | (simp only [World.size_alloc, pin_size, World.size_drew, World.size_setCell] <;> omega)) | with_reducible apply past_pin | with_reducible apply past_alloc | with_reducible apply past_drew)); all_goals (first | omega | (simp only [World.size_alloc, pin_size, World.size_drew, World.size_setCell] <;> omega)))
  have HVO : OrdAt v := by rw [hv]; exact HO.out.next (by (repeat (first | with_reducible exact (Below.refl _ _) | with_reducible refine below_pin ?_ ?_ | with_reducible refine Below.alloc ?_ ?_ _ | with_reducible refine Below.setCell ?_ ?_ _ | with_reducible refine Below.drew ?_)); all_goals (first | omega | (simp only [World.size_alloc, pin_size, World.size_drew, World.size_setCell] <;> omega)))
  rw [← hv]
  have hcp := fun ty => copyOrd v.drew w.heap.size 0 9 9 (by decide) (.inr rfl) hv2 (fun j hj => HVO j hj) ty
  rw [ord0, ← hoo, row9_lit o] at hcp
  have HVV := Lib.hid (And.intro hv hoo)
  clear HVO hv2 hv hoo
  refine wp_region_still_tail 2 (by kernel_rfl) (by kernel_rfl) ?_
  simp only [List.take_succ_cons, List.take_zero, List.drop_succ_cons, List.drop_zero, World.drew_eq]
  (repeat still_step)
  refine wpStill_nil ?_
  go_wp2_with fail
  have hv := HVV.out.1
  subst hv
  clear hcp
  by_cases hlt : N < o
  · have HBe := Lib.hid (BelowZ N o true HN.out.2 (by rw [HVV.out.2]; exact HLO.out) (decide_eq_true hlt))
    have HLT := Lib.hid (show leN bs < LO by rw [← HN.out.1, ← HVV.out.2]; exact hlt)
    clear hlt
    refine start_ (S := Keeps w _) (ds := []) (n := 5) #[false, false, false, false, false] (by kernel_rfl) rfl rfl (keepsC (b := w.heap.size) (by (repeat (first | with_reducible exact pin_at (by assumption) | (with_reducible apply pin_at; (first | omega | (simp only [World.size_alloc, pin_size, World.size_drew, World.size_setCell] <;> omega))) | (with_reducible apply alloc_at; first | rfl | (simp only [World.size_alloc, pin_size, World.size_drew, World.size_setCell] <;> omega)) | with_reducible apply past_pin | with_reducible apply past_alloc | with_reducible apply past_drew)); all_goals (first | omega | (simp only [World.size_alloc, pin_size, World.size_drew, World.size_setCell] <;> omega))) (keeps0 (by (repeat (first | with_reducible exact (Below.refl _ _) | with_reducible refine below_pin ?_ ?_ | with_reducible refine Below.alloc ?_ ?_ _ | with_reducible refine Below.setCell ?_ ?_ _ | with_reducible refine Below.drew ?_)); all_goals (first | omega | (simp only [World.size_alloc, pin_size, World.size_drew, World.size_setCell] <;> omega))))) (fun HS => ?_)
    refine take_ #[true, false, false, false, false] (i := 0) (N := some 10) (v := ?v1) rfl rfl (by kernel_rfl) (fun _ _ _ h => h) (Or.inl ⟨by rfl, ?hy1⟩) HS rfl ?_
    case hy1 => (intro v hv; obtain ⟨x, rfl, _, _, n0⟩ := hv.pin1; go_simp; first | done | with_reducible rfl)
    simp only [Act.put, List.setIfInBounds_toArray, List.set_cons_zero, List.set_cons_succ]
    refine take_ #[true, false, true, false, false] (i := 2) (N := some 12) (v := ?v2) rfl rfl (by kernel_rfl) (fun _ _ _ h => h) (Or.inl ⟨by rfl, ?hy2⟩) HS rfl ?_
    case hy2 => (intro v hv; obtain ⟨x, rfl, _, _, n0⟩ := hv.pin1; go_simp; first | done | with_reducible rfl)
    simp only [Act.put, List.setIfInBounds_toArray, List.set_cons_zero, List.set_cons_succ]
    refine one_ #[true, true, true, false, false] (i := 1) (N := some 11) rfl rfl (by kernel_rfl) (by decide) (fun K hK => ?_)
    go_simp
    refine (readZ A c 32 N bs HBy.out HLL.out HL.out.symm HN.out.1 _ (HR.out.mono HS.1 (Nat.le_refl _))).mono ?_
    rintro e y ⟨rfl, hb⟩
    refine hK.out _ _ (HS.step hb rfl) ?_
    clear HS hb
    intro HS
    refine one_ #[true, true, true, true, false] (i := 3) (N := some 13) rfl rfl (by kernel_rfl) (by decide) (fun K hK => ?_)
    go_simp
    refine (HBe.out _).mono ?_
    rintro e y ⟨rfl, hb⟩
    refine hK.out _ _ (HS.step hb rfl) ?_
    clear HS hb
    intro HS
    refine take_ #[true, true, true, true, true] (i := 4) (N := some 14) (v := ?v3) rfl rfl (by kernel_rfl) (fun _ _ _ h => h) (Or.inl ⟨by rfl, ?hy3⟩) HS rfl ?_
    case hy3 => (intro v hv; obtain ⟨x, rfl, _, _, n0⟩ := hv.pin1; go_simp; first | done | with_reducible rfl)
    simp only [Act.put, List.setIfInBounds_toArray, List.set_cons_zero, List.set_cons_succ]
    obtain ⟨x1, rfl, hk1, hz1, l10⟩ := HS.pin1
    have HB1 : Hid (Below w.heap.size w x1) := hk1.below
    clear HS hk1
    refine done_ (by kernel_rfl) ?_
    go_wp2_with fail
    have her : er = 0 := by rw [HER.out, if_pos HLT.out]
    subst her
    go_ret
    exact ⟨rfl, (by (repeat (first | with_reducible exact HB1.out | with_reducible refine below_pin ?_ ?_ | with_reducible refine Below.alloc ?_ ?_ _ | with_reducible refine Below.setCell ?_ ?_ _ | with_reducible refine Below.drew ?_)); all_goals (first | omega | (simp only [World.size_alloc, pin_size, World.size_drew, World.size_setCell] <;> omega)))⟩
  · have HBe := Lib.hid (BelowZ N o false HN.out.2 (by rw [HVV.out.2]; exact HLO.out) (decide_eq_false hlt))
    have HLT := Lib.hid (show ¬ leN bs < LO by rw [← HN.out.1, ← HVV.out.2]; exact hlt)
    clear hlt
    refine start_ (S := Keeps w _) (ds := []) (n := 5) #[false, false, false, false, false] (by kernel_rfl) rfl rfl (keepsC (b := w.heap.size) (by (repeat (first | with_reducible exact pin_at (by assumption) | (with_reducible apply pin_at; (first | omega | (simp only [World.size_alloc, pin_size, World.size_drew, World.size_setCell] <;> omega))) | (with_reducible apply alloc_at; first | rfl | (simp only [World.size_alloc, pin_size, World.size_drew, World.size_setCell] <;> omega)) | with_reducible apply past_pin | with_reducible apply past_alloc | with_reducible apply past_drew)); all_goals (first | omega | (simp only [World.size_alloc, pin_size, World.size_drew, World.size_setCell] <;> omega))) (keeps0 (by (repeat (first | with_reducible exact (Below.refl _ _) | with_reducible refine below_pin ?_ ?_ | with_reducible refine Below.alloc ?_ ?_ _ | with_reducible refine Below.setCell ?_ ?_ _ | with_reducible refine Below.drew ?_)); all_goals (first | omega | (simp only [World.size_alloc, pin_size, World.size_drew, World.size_setCell] <;> omega))))) (fun HS => ?_)
    refine take_ #[true, false, false, false, false] (i := 0) (N := some 10) (v := ?v4) rfl rfl (by kernel_rfl) (fun _ _ _ h => h) (Or.inl ⟨by rfl, ?hy4⟩) HS rfl ?_
    case hy4 => (intro v hv; obtain ⟨x, rfl, _, _, n0⟩ := hv.pin1; go_simp; first | done | with_reducible rfl)
    simp only [Act.put, List.setIfInBounds_toArray, List.set_cons_zero, List.set_cons_succ]
    refine take_ #[true, false, true, false, false] (i := 2) (N := some 12) (v := ?v5) rfl rfl (by kernel_rfl) (fun _ _ _ h => h) (Or.inl ⟨by rfl, ?hy5⟩) HS rfl ?_
    case hy5 => (intro v hv; obtain ⟨x, rfl, _, _, n0⟩ := hv.pin1; go_simp; first | done | with_reducible rfl)
    simp only [Act.put, List.setIfInBounds_toArray, List.set_cons_zero, List.set_cons_succ]
    refine one_ #[true, true, true, false, false] (i := 1) (N := some 11) rfl rfl (by kernel_rfl) (by decide) (fun K hK => ?_)
    go_simp
    refine (readZ A c 32 N bs HBy.out HLL.out HL.out.symm HN.out.1 _ (HR.out.mono HS.1 (Nat.le_refl _))).mono ?_
    rintro e y ⟨rfl, hb⟩
    refine hK.out _ _ (HS.step hb rfl) ?_
    clear HS hb
    intro HS
    refine one_ #[true, true, true, true, false] (i := 3) (N := some 13) rfl rfl (by kernel_rfl) (by decide) (fun K hK => ?_)
    go_simp
    refine (HBe.out _).mono ?_
    rintro e y ⟨rfl, hb⟩
    refine hK.out _ _ (HS.step hb rfl) ?_
    clear HS hb
    intro HS
    refine take_ #[true, true, true, true, true] (i := 4) (N := some 14) (v := ?v6) rfl rfl (by kernel_rfl) (fun _ _ _ h => h) (Or.inl ⟨by rfl, ?hy6⟩) HS rfl ?_
    case hy6 => (intro v hv; obtain ⟨x, rfl, _, _, n0⟩ := hv.pin1; go_simp; first | done | with_reducible rfl)
    simp only [Act.put, List.setIfInBounds_toArray, List.set_cons_zero, List.set_cons_succ]
    obtain ⟨x1, rfl, hk1, hz1, l10⟩ := HS.pin1
    have HB1 : Hid (Below w.heap.size w x1) := hk1.below
    clear HS hk1
    refine done_ (by kernel_rfl) ?_
    go_wp2_with fail
    have her : er = 31 := by rw [HER.out, if_neg HLT.out]
    subst her
    go_ret
    exact ⟨rfl, (by (repeat (first | with_reducible exact HB1.out | with_reducible refine below_pin ?_ ?_ | with_reducible refine Below.alloc ?_ ?_ _ | with_reducible refine Below.setCell ?_ ?_ _ | with_reducible refine Below.drew ?_)); all_goals (first | omega | (simp only [World.size_alloc, pin_size, World.size_drew, World.size_setCell] <;> omega)))⟩
set_option maxRecDepth 100000 in
set_option maxHeartbeats 1000000 in
theorem Scalar_bad (A : Option Addr) (c L : Nat) (hl : ¬ L = 32) (w : World) :
    Calls Tryd.prog 9 #[.slice A L c] w fun e w' => e = .returned (.int .i64 1) ∧ Below w.heap.size w w' := by
  have hlz2 : ¬ (L : Int) = 32 := by omega
  have hd2 : decide (L = 32) = false := decide_eq_false hl
  clear hl
  go_enter Tryd.func9, Tryd.ntmps9
  go_wp2_with fail
  go_ret
  exact ⟨rfl, (by (repeat (first | with_reducible exact (Below.refl _ _) | with_reducible refine below_pin ?_ ?_ | with_reducible refine Below.alloc ?_ ?_ _ | with_reducible refine Below.setCell ?_ ?_ _ | with_reducible refine Below.drew ?_)); all_goals (first | omega | (simp only [World.size_alloc, pin_size, World.size_drew, World.size_setCell] <;> omega)))⟩

end Go.Proofs.YtljolpdpblohcaaDoor
