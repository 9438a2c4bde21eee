/-
  Walks: a product modulo the prime.
-/
import Derived.Test.YtljolpdpblohcaaPl
import Derived.Test.YtljolpdpblohcaaMu
namespace Go.Proofs.Ytljolpdpblohcaa
open Go.RowKit Go.Proofs.YtljolpdpblohcaaW.PrintLast
set_option linter.unusedSimpArgs false

set_option linter.unusedVariables false
section
variable {ops : Array Oper} {rest : List Oper} {o : Oper} {a : Act} {w : World} {Q : Exit → Act → World → Prop}
theorem run_alloc32 (w : World) : (Instr.alloc 60 true (.tuple #[])).run Try.prog w = .ok (.pointer (some ⟨w.heap.size, 0, none⟩)) (w.alloc (.cells (row 32 fun _ => 0) 60)) := by kernel_rfl
theorem wpList_build32 (hg : o.guard = none) (hop : o.op = .build 60 #[]) (h : wpList Try.prog ops Q rest (a.put o.dst (.agg (row 32 fun _ => 0))) w) : wpList Try.prog ops Q (o :: rest) a w := by
  refine wpList_plain hg fun K hK => ?_
  have hrun := run_build (P := Try.prog) w 60 #[] (row 32 fun _ => 0) (by kernel_rfl)
  unfold Oper.wp execOp
  simp only [hop, Sem.run_bind, Array.map_empty, List.map_toArray, List.map_nil, hrun, Result.andThen_ok]
  exact hK _ _ h
theorem wpList_alloc32 (hg : o.guard = none) (hop : o.op = .alloc 60) (h : wpList Try.prog ops Q rest (a.put o.dst (.pointer (some ⟨w.heap.size, 0, none⟩))) (w.alloc (.cells (row 32 fun _ => 0) 60))) : wpList Try.prog ops Q (o :: rest) a w := by
  refine wpList_plain hg fun K hK => ?_
  unfold Oper.wp execOp
  simp only [hop, Sem.run_bind, run_alloc32, Result.andThen_ok]
  exact hK _ _ h
theorem run_zeros32 (w : World) : (storeCells ⟨w.heap.size, 0, none⟩ (row 32 fun _ => 0).toList).run Try.prog (w.alloc (.cells (row 32 fun _ => 0) 60)) = .ok () (w.alloc (.cells (row 32 fun _ => 0) 60)) := by
  have h := run_storeCells_from (P := Try.prog) w.heap.size 60 (row 32 fun _ => 0).toList 0 (row 32 fun _ => 0) (w.alloc (.cells (row 32 fun _ => 0) 60)) (heap_alloc_new w _) (by simp) (fun v hv => by
    rw [row_zero] at hv
    simp at hv
    subst hv
    rfl)
  rw [List.take_zero, List.nil_append, Array.toArray_toList, setRow_alloc] at h
  exact h
end

theorem fold_w (o1 o2 : Nat) (h1 : o1 < 68719476736) (h2 : o2 < 68719476736) : w64 ((o1 : Int) + w64 (38 * (o2 : Int))) = ((o1 + 38 * o2 : Nat) : Int) := by
  unfold w64; simp only [IntKind.wrap_u64]; omega
theorem car_w (o1 o2 : Nat) (h1 : o1 < 8796093022208) (h2 : o2 < 268435456) : w64 ((o1 : Int) + w64 (38 * (o2 : Int))) = ((o1 + 38 * o2 : Nat) : Int) := by
  unfold w64; simp only [IntKind.wrap_u64]; omega
theorem trim_row2 (b n : Nat) (F : Nat → Nat) (w : World) (hw : w.heap[b]? = some (.cells (row n F) 23)) (hf : ∀ j, j < n → F j < BB) (hn : n ≤ 4000000) :
    Calls Try.prog 53 #[.slice (some ⟨b, 0, none⟩) n n] w fun e w' => (∃ A' c', e = .returned (.slice A' (dig (valF n F)).length c') ∧ Dn w' A' c' (valF n F)) ∧ Below w.heap.size w w' := by
  have hl : ((List.range n).map F).length = n := by simp
  have h := trim_any (some ⟨b, 0, none⟩) n ((List.range n).map F) (by intro d hd; obtain ⟨i, hi, rfl⟩ := List.mem_map.mp hd; exact hf i (List.mem_range.mp hi)) (by rw [hl]; exact hn) (by rw [hl]; exact Nat.le_refl _) w (row_rd hw)
  rw [hl, valF_row] at h
  exact h
/-- What is told at the head of the carries' loop. -/
def MulC (w : World) (X Y g N : Nat) (cv : Value) (wr : World) : Prop := ∃ (cr : Nat) (gc : Nat → Nat) (x : World), cv = .int .u64 (cr : Int) ∧ wr = x.pin g (.cells (row 16 gc) 23) ∧ g < x.heap.size ∧ Below w.heap.size w x ∧ valF 16 gc % Num.p = X * Y % Num.p ∧ (∀ j, gc j < 8796093022208) ∧ (cr = 0 → ∀ j, j < 16 → gc j < BB) ∧ N = 2 * valF 16 gc + (if 0 < cr then 1 else 0)

set_option maxRecDepth 100000 in
set_option maxHeartbeats 2000000 in
theorem Mul_ref (A B : Option Addr) (c d X Y : Nat) (hx : X < Num.p) (hy : Y < Num.p) (w : World) (hX : Dn w A c X) (hY : Dn w B d Y) :
    Calls Try.prog 30 #[.slice A (dig X).length c, .slice B (dig Y).length d] w fun e w' => (∃ A' c', e = .returned (.slice A' (dig (X * Y % Num.p)).length c') ∧ Dn w' A' c' (X * Y % Num.p)) ∧ Below w.heap.size w w' := by
  have HX := Lib.hid hX
  have HY := Lib.hid hY
  obtain ⟨N, hN⟩ : ∃ N, N = (dig X).length := ⟨_, rfl⟩
  obtain ⟨M, hM⟩ : ∃ M, M = (dig Y).length := ⟨_, rfl⟩
  have HS := Lib.hid (show N ≤ 16 ∧ M ≤ 16 by rw [hN, hM]; exact ⟨dig_len_le (p_16 hx), dig_len_le (p_16 hy)⟩)
  have hmk16 : ∀ w, (Instr.makeSlice 29 (.int .i64 16) (.int .i64 16)).run Try.prog w = .ok (.slice (some ⟨w.heap.size, 0, none⟩) 16 16) (w.alloc (.cells (row 16 fun _ => 0) 23)) := fun w => make_row 16 (by decide) w
  have hzs := run_zeros32
  have hz32 : (row 32 fun _ => 0).size = 32 := rfl
  rw [← hN, ← hM]
  have HN := Lib.hid hN
  have HM := Lib.hid hM
  clear hX hY hN hM hx hy
  go_enter Try.func30, Try.ntmps30
  go_wp2_with (first | (with_reducible refine wpList_build32 rfl rfl ?_) | (with_reducible refine wpList_alloc32 rfl rfl ?_))
  go_loopw [6] (fun iv wr => ∃ (i : Nat) (fc : Nat → Nat) (x : World), iv = .int .i64 (i : Int) ∧ wr = x.pin w.heap.size (.cells (row 32 fc) 60) ∧ w.heap.size < x.heap.size ∧ Hid (Below w.heap.size w x ∧ i ≤ N ∧ MulO X Y i fc)) (fun iv _ => (N - intOf iv).toNat)
  case atStart => exact ⟨0, fun _ => 0, _, rfl, pins1 (by (repeat (first | with_reducible exact pin_at (by assumption) | (with_reducible apply pin_at; (first | omega | (simp only [World.size_alloc, pin_size, World.size_drew, World.size_setCell] <;> omega))) | (with_reducible apply alloc_at; first | rfl | (simp only [World.size_alloc, pin_size, World.size_drew, World.size_setCell] <;> omega)) | with_reducible apply past_pin | with_reducible apply past_alloc | with_reducible apply past_drew)); all_goals (first | omega | (simp only [World.size_alloc, pin_size, World.size_drew, World.size_setCell] <;> omega))), (by (first | omega | (simp only [World.size_alloc, pin_size, World.size_drew, World.size_setCell] <;> omega))), (by (repeat (first | with_reducible exact (Below.refl _ _) | with_reducible refine below_pin ?_ ?_ | with_reducible refine Below.alloc ?_ ?_ _ | with_reducible refine Below.setCell ?_ ?_ _ | with_reducible refine Below.drew ?_)); all_goals (first | omega | (simp only [World.size_alloc, pin_size, World.size_drew, World.size_setCell] <;> omega))), Nat.zero_le _, mul_start X Y⟩
  case round =>
    obtain ⟨i, fc0, x0, rfl, rfl, q0, H0⟩ := hrel
    by_cases hi : i < N
    · obtain ⟨b, off, rfl, hbw, hcell⟩ := HX.out.cell (i := i) (by rw [← HN.out]; exact hi)
      obtain ⟨a, ha⟩ : ∃ a, a = dg X i := ⟨_, rfl⟩
      have hc1 : x0.cell? ⟨b, off + i, none⟩ = some (.int .u64 (a : Int)) := by rw [ha]; exact (H0.out.1.cell (p := ⟨b, off + i, none⟩) hbw).trans (hcell i (by rw [← HN.out]; exact hi))
      have HA := Lib.hid ha
      clear hcell ha
      go_wp2
      go_loopw [8] (fun kv wr => ∃ (k : Nat) (fc : Nat → Nat) (x : World), kv = .int .i64 (k : Int) ∧ wr = x.pin w.heap.size (.cells (row 32 fc) 60) ∧ w.heap.size < x.heap.size ∧ Hid (Below w.heap.size w x ∧ k ≤ M ∧ MulI X Y i k fc)) (fun kv _ => (M - intOf kv).toNat)
      case atStart => exact ⟨0, fc0, x0, rfl, rfl, q0, H0.out.1, Nat.zero_le _, mul_row H0.out.2.2⟩
      case round =>
        clear hc1
        obtain ⟨k, fc, x, rfl, rfl, q1, H⟩ := hrel
        by_cases hk : k < M
        · obtain ⟨b2, off2, rfl, hbw2, hcell2⟩ := HY.out.cell (i := k) (by rw [← HM.out]; exact hk)
          obtain ⟨a2, ha2⟩ : ∃ a, a = dg Y k := ⟨_, rfl⟩
          have hc2 : x.cell? ⟨b2, off2 + k, none⟩ = some (.int .u64 (a2 : Int)) := by rw [ha2]; exact (H.out.1.cell (p := ⟨b2, off2 + k, none⟩) hbw2).trans (hcell2 k (by rw [← HM.out]; exact hk))
          have HA2 := Lib.hid ha2
          clear hcell2 ha2
          have hb0 : fc (i + k) + dg X i * dg Y k < 68719476736 := mul_b H.out.2.2 (Nat.lt_of_lt_of_le hi HS.out.1)
          obtain ⟨j, hj⟩ : ∃ j, j = i + k := ⟨_, rfl⟩
          have hj32 : j < 32 := by have := HS.out; omega
          have hjz : (j : Int) < 32 := by omega
          have e5 : wrap64 ((i : Int) + (k : Int)) = (j : Int) := by rw [wr64 _ (by have := HS.out; omega)]; omega
          have e6 : IntKind.i64.wrap ((i : Int) + (k : Int)) = (j : Int) := (wrap_w64 _).trans e5
          obtain ⟨o, ho⟩ : ∃ o, o = fc j := ⟨_, rfl⟩
          have hg : (row 32 fc)[j]? = some (.int .u64 (o : Int)) := by rw [ho]; exact row_get fc hj32
          obtain ⟨m, hm⟩ : ∃ m, m = a * a2 := ⟨_, rfl⟩
          obtain ⟨s, hs⟩ : ∃ s, s = o + m := ⟨_, rfl⟩
          have hb : s < 68719476736 := by rw [hs, ho, hm, hj, HA.out, HA2.out]; exact hb0
          have v1 : w64 ((a : Int) * (a2 : Int)) = (m : Int) := by rw [hm, ← Int.natCast_mul]; exact w64_of _ (by omega)
          have v2 : w64 ((o : Int) + (m : Int)) = (s : Int) := by rw [hs, ← Int.natCast_add]; exact w64_of _ (by omega)
          have HJ32 := Lib.hid hj32
          have HH := Lib.hid (And.intro hj (And.intro ho (And.intro hm hs)))
          clear hj ho hm hs hb hj32 hb0
          go_wp2
          refine wp_region_still_tail 16 (by kernel_rfl) (by kernel_rfl) ?_
          simp only [List.take_succ_cons, List.take_zero, List.drop_succ_cons, List.drop_zero, World.drew_eq]
          (repeat still_step)
          refine wpStill_nil ?_
          go_wp2
          have es : s = fc (i + k) + dg X i * dg Y k := by rw [← HA.out, ← HA2.out, ← HH.out.1, ← HH.out.2.1, ← HH.out.2.2.1]; exact HH.out.2.2.2
          have hst := mul_step H.out.2.2 (show i + k < 32 by rw [← HH.out.1]; exact HJ32.out)
          rw [← es, ← HH.out.1] at hst
          exact ⟨⟨k + 1, _, x.drew, vi1 _ (Nat.lt_of_lt_of_le hk (Nat.le_trans HS.out.2 (by decide))), by rw [row_set]; rfl, q1, H.out.1.drew, hk, hst⟩, meas_up M k hk (Nat.lt_of_lt_of_le hk (Nat.le_trans HS.out.2 (by decide)))⟩
        · have hk' : k = M := by have := H.out.2.1; omega
          subst hk'
          go_wp2
          exact ⟨⟨i + 1, fc, x, vi1 _ (by have := HS.out; omega), rfl, q1, H.out.1, by omega, mul_end H.out.2.2 (by have := HM.out; omega)⟩, meas_up N i hi (by have := HS.out; omega)⟩
    · have hi' : i = N := by have := H0.out.2.1; omega
      subst hi'
      have HE := Lib.hid (mul_done H0.out.2.2 (by have := HN.out; omega) HS.out.1)
      go_wp2
      go_loopw [10] (fun kv wr => ∃ (k : Nat) (gc : Nat → Nat) (x : World), kv = .int .i64 (k : Int) ∧ wr = (x.pin w.heap.size (.cells (row 32 fc0) 60)).pin x0.heap.size (.cells (row (16) gc) 23) ∧ w.heap.size < x.heap.size ∧ x0.heap.size < x.heap.size ∧ Hid (Below w.heap.size w x ∧ k ≤ 16 ∧ FoldI fc0 k gc)) (fun kv _ => (16 - intOf kv).toNat)
      case atStart => exact ⟨0, fun _ => 0, _, rfl, pins2 (by (repeat (first | with_reducible exact pin_at (by assumption) | (with_reducible apply pin_at; (first | omega | (simp only [World.size_alloc, pin_size, World.size_drew, World.size_setCell] <;> omega))) | (with_reducible apply alloc_at; first | rfl | (simp only [World.size_alloc, pin_size, World.size_drew, World.size_setCell] <;> omega)) | with_reducible apply past_pin | with_reducible apply past_alloc | with_reducible apply past_drew)); all_goals (first | omega | (simp only [World.size_alloc, pin_size, World.size_drew, World.size_setCell] <;> omega))) (by (repeat (first | with_reducible exact pin_at (by assumption) | (with_reducible apply pin_at; (first | omega | (simp only [World.size_alloc, pin_size, World.size_drew, World.size_setCell] <;> omega))) | (with_reducible apply alloc_at; first | rfl | (simp only [World.size_alloc, pin_size, World.size_drew, World.size_setCell] <;> omega)) | with_reducible apply past_pin | with_reducible apply past_alloc | with_reducible apply past_drew)); all_goals (first | omega | (simp only [World.size_alloc, pin_size, World.size_drew, World.size_setCell] <;> omega))), (by (first | omega | (simp only [World.size_alloc, pin_size, World.size_drew, World.size_setCell] <;> omega))), (by (first | omega | (simp only [World.size_alloc, pin_size, World.size_drew, World.size_setCell] <;> omega))), (by (repeat (first | with_reducible exact H0.out.1 | with_reducible refine below_pin ?_ ?_ | with_reducible refine Below.alloc ?_ ?_ _ | with_reducible refine Below.setCell ?_ ?_ _ | with_reducible refine Below.drew ?_)); all_goals (first | omega | (simp only [World.size_alloc, pin_size, World.size_drew, World.size_setCell] <;> omega))), Nat.zero_le _, fold_start fc0⟩
      case round =>
        obtain ⟨k, gc, x, rfl, rfl, q1, q2, H⟩ := hrel
        by_cases hk : k < 16
        · have hg1 := row_get fc0 (show k < 32 by omega)
          have hk32 : k < 32 := by omega
          have hkz : (k : Int) < 16 := by omega
          have hkz2 : (k : Int) < 32 := by omega
          have hfb : fc0 k < 68719476736 ∧ fc0 (k + 16) < 68719476736 := ⟨HE.out.2 k, HE.out.2 (k + 16)⟩
          obtain ⟨j, hj⟩ : ∃ j, j = k + 16 := ⟨_, rfl⟩
          have hjz : (j : Int) < 32 := by omega
          have hg2 := row_get fc0 (show j < 32 by omega)
          rw [← hj] at hfb
          have HFB := Lib.hid hfb
          have e5 : wrap64 ((k : Int) + 16) = (j : Int) := by rw [wr64 _ (by omega)]; omega
          have e6 : IntKind.i64.wrap ((k : Int) + 16) = (j : Int) := (wrap_w64 _).trans e5
          have HJ := Lib.hid hj
          clear hj hfb
          have hg3 := row_get gc hk
          go_wp2
          refine wp_region_still_tail 12 (by kernel_rfl) (by kernel_rfl) ?_
          simp only [List.take_succ_cons, List.take_zero, List.drop_succ_cons, List.drop_zero, World.drew_eq]
          (repeat still_step)
          refine wpStill_nil ?_
          go_wp2
          exact ⟨⟨k + 1, _, x.drew, vi0 k, by rw [fold_w _ _ HFB.out.1 HFB.out.2, row_set]; rfl, q1, q2, H.out.1.drew, hk, by have h := fold_step H.out.2.2; rw [← HJ.out] at h; exact h⟩, meas_up0 16 k hk⟩
        · have hk' : k = 16 := by have := H.out.2.1; omega
          subst hk'
          have HF := Lib.hid (fold_end H.out.2.2 HE.out.1 HE.out.2)
          go_wp2
          obtain ⟨wi, hwi⟩ : ∃ z, z = x.pin w.heap.size (.cells (row 32 fc0) 60) := ⟨_, rfl⟩
          obtain ⟨g, hg⟩ : ∃ z, z = x0.heap.size := ⟨_, rfl⟩
          have HBi : Hid (Below w.heap.size w wi) := Lib.hid (by rw [hwi]; exact (by (repeat (first | with_reducible exact H.out.1 | with_reducible refine below_pin ?_ ?_ | with_reducible refine Below.alloc ?_ ?_ _ | with_reducible refine Below.setCell ?_ ?_ _ | with_reducible refine Below.drew ?_)); all_goals (first | omega | (simp only [World.size_alloc, pin_size, World.size_drew, World.size_setCell] <;> omega))))
          have hgw : g < wi.heap.size := by rw [hwi, hg, pin_size]; exact q2
          have hwg : w.heap.size < g := by rw [hg]; exact q0
          rw [← hwi, ← hg]
          clear hwi hg
          go_loopw [11] (fun cv wr => ∃ N, MulC w X Y g N cv wr) (fun cv wr => leastN fun N => MulC w X Y g N cv wr)
          case atStart => exact ⟨_, 1, gc, wi, rfl, rfl, hgw, HBi.out, HF.out.1, HF.out.2, (fun h => by cases h), rfl⟩
          case round =>
            obtain ⟨V, hVe⟩ : ∃ N, N = leastN (fun N => MulC w X Y g N u11 wr) := ⟨_, rfl⟩
            have hR : MulC w X Y g V u11 wr := by rw [hVe]; exact (leastN_spec hrel).1
            clear hrel
            have HM2 := Lib.hid hVe
            clear hVe
            obtain ⟨cr, gc2, x2, rfl, rfl, q3, hbl, hmod, hbd, hz, hV⟩ := hR
            have HR := Lib.hid (And.intro hbl (And.intro hmod (And.intro hbd (And.intro hz hV))))
            clear hbl hmod hbd hz hV
            by_cases hc : 0 < cr
            · have hcz : (0 : Int) < (cr : Int) := by omega
              have HCR := Lib.hid hc
              clear hc
              go_wp2
              go_loopw [11, 12] (fun cv iv wr => ∃ (i c : Nat) (h : Nat → Nat) (x : World), cv = .int .u64 (c : Int) ∧ iv = .int .i64 (i : Int) ∧ wr = x.pin g (.cells (row (16) h) 23) ∧ g < x.heap.size ∧ Hid (Below w.heap.size w x ∧ i ≤ 16 ∧ CarI (valF 16 gc2) i h c)) (fun _ iv _ => (16 - intOf iv).toNat)
              case atStart => exact ⟨0, 0, gc2, x2, rfl, rfl, rfl, q3, HR.out.1, Nat.zero_le _, car_start HR.out.2.2.1⟩
              case round =>
                obtain ⟨i2, c2, h, x3, rfl, rfl, rfl, q4, H3⟩ := hrel
                by_cases hi2 : i2 < 16
                · have hg3 := row_get h hi2
                  obtain ⟨s, hs⟩ : ∃ s, s = h i2 + c2 := ⟨_, rfl⟩
                  have hsb : s < 8796361457664 := by rw [hs]; exact car_b H3.out.2.2
                  have v1 : w64 ((h i2 : Nat) + (c2 : Nat) : Int) = (s : Int) := by rw [hs, ← Int.natCast_add]; exact w64_of _ (by omega)
                  have HSS := Lib.hid (And.intro hs hsb)
                  clear hs hsb
                  go_wp2
                  exact ⟨⟨i2 + 1, _, _, x3, vql s (Nat.lt_trans HSS.out.2 (by decide)), vi0 i2, by rw [vr1, row_set], q4, H3.out.1, hi2, by have hh := car_step H3.out.2.2 hi2; rw [← HSS.out.1] at hh; exact hh⟩, meas_up0 16 i2 hi2⟩
                · have hi3 : i2 = 16 := by have := H3.out.2.1; omega
                  subst hi3
                  have hg0 := row_get h (show 0 < 16 by decide)
                  have HEE := Lib.hid (car_end H3.out.2.2)
                  have hcb : h 0 < 8796093022208 ∧ c2 < 268435456 := ⟨H3.out.2.2.2.2.2 0, H3.out.2.2.2.1⟩
                  have HCB := Lib.hid hcb
                  clear hcb
                  go_wp2
                  rw [car_w _ _ HCB.out.1 HCB.out.2, row_set]
                  have hq : MulC w X Y g (2 * valF 16 (upd h 0 (h 0 + 38 * c2)) + (if 0 < c2 then 1 else 0)) (.int .u64 (c2 : Int)) (x3.pin g (.cells (row (16) (upd h 0 (h 0 + 38 * c2))) 23)) := ⟨c2, _, x3, rfl, rfl, q4, H3.out.1, (car_mod HEE.out.1).trans HR.out.2.1, HEE.out.2.1, HEE.out.2.2, rfl⟩
                  exact ⟨⟨_, hq⟩, leastN_lt hq (Nat.lt_of_lt_of_eq (car_less HEE.out.1) ((show 2 * valF 16 gc2 + 1 = V by rw [HR.out.2.2.2.2, if_pos HCR.out]).trans HM2.out))⟩
            · have hc0 : cr = 0 := by omega
              subst hc0
              have HDG := Lib.hid (HR.out.2.2.2.1 rfl)
              go_wp2_with fail
              have HB1 : Hid (Below w.heap.size w x2) := Lib.hid HR.out.1
              refine (trim_row2 g 16 gc2 _ (pin_at q3) HDG.out (by decide)).mono ?_
              rintro e x2 ⟨⟨A1, c1, rfl, hd1⟩, hb2⟩
              have HB2 : Hid (Below w.heap.size w x2) := Below.trans (by (repeat (first | with_reducible exact HB1.out | with_reducible refine below_pin ?_ ?_ | with_reducible refine Below.alloc ?_ ?_ _ | with_reducible refine Below.setCell ?_ ?_ _ | with_reducible refine Below.drew ?_)); all_goals (first | omega | (simp only [World.size_alloc, pin_size, World.size_drew, World.size_setCell] <;> omega))) (hb2.mono (by (first | omega | (simp only [World.size_alloc, pin_size, World.size_drew, World.size_setCell] <;> omega))))
              have hz2 := HB2.out.size
              clear hb2
              have HD1 := Lib.hid hd1
              clear hd1
              go_wp2_with fail
              refine (Mod_any A1 c1 (valF 16 gc2) (Nat.le_trans (dig_len_le (k := 16) (valF_lt (fun i hi => HDG.out i hi))) (by decide)) _ HD1.out).mono ?_
              rintro e x3 ⟨⟨A2, c3, rfl, hd2⟩, hb3⟩
              have HB3 : Hid (Below w.heap.size w x3) := Below.trans (by (repeat (first | with_reducible exact HB2.out | with_reducible refine below_pin ?_ ?_ | with_reducible refine Below.alloc ?_ ?_ _ | with_reducible refine Below.setCell ?_ ?_ _ | with_reducible refine Below.drew ?_)); all_goals (first | omega | (simp only [World.size_alloc, pin_size, World.size_drew, World.size_setCell] <;> omega))) (hb3.mono (by (first | omega | (simp only [World.size_alloc, pin_size, World.size_drew, World.size_setCell] <;> omega))))
              have hz3 := HB3.out.size
              clear hb3
              rw [HR.out.2.1] at hd2 ⊢
              have HD2 := Lib.hid hd2
              clear hd2
              go_wp2_with fail
              go_ret
              exact ⟨⟨A2, c3, rfl, HD2.out⟩, (by (repeat (first | with_reducible exact HB3.out | with_reducible refine below_pin ?_ ?_ | with_reducible refine Below.alloc ?_ ?_ _ | with_reducible refine Below.setCell ?_ ?_ _ | with_reducible refine Below.drew ?_)); all_goals (first | omega | (simp only [World.size_alloc, pin_size, World.size_drew, World.size_setCell] <;> omega)))⟩


end Go.Proofs.Ytljolpdpblohcaa
