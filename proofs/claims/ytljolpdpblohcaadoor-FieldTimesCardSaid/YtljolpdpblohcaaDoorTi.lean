/-
  Walks: numbers as rows of digits: products, comparisons.
-/
import Derived.Test.YtljolpdpblohcaaDoorSu
namespace Go.Proofs.YtljolpdpblohcaaDoor
open Go.RowKit Go.Proofs.YtljolpdpblohcaaDoorW.PrintLast
set_option linter.unusedSimpArgs false

set_option maxRecDepth 100000 in
set_option maxHeartbeats 2000000 in
theorem times_any (A B : Option Addr) (c d X Y : Nat) (hsx : (dig X).length ≤ 1000000) (hsy : (dig Y).length ≤ 1000000) (w : World) (hX : Dn w A c X) (hY : Dn w B d Y) :
    Calls Tryd.prog 31 #[.slice A (dig X).length c, .slice B (dig Y).length d] w fun e w' => (∃ A' c', e = .returned (.slice A' (dig (X * Y)).length c') ∧ Dn w' A' c' (X * Y)) ∧ Below w.heap.size w w' := by
  have HX := Lib.hid hX
  have HY := Lib.hid hY
  obtain ⟨N, hN⟩ : ∃ N, N = (dig X).length := ⟨_, rfl⟩
  obtain ⟨M, hM⟩ : ∃ M, M = (dig Y).length := ⟨_, rfl⟩
  obtain ⟨L, hL⟩ : ∃ L, L = N + M + 1 := ⟨_, rfl⟩
  rw [← hN] at hsx
  rw [← hM] at hsy
  have hmk : ∀ w, (Instr.makeSlice 48 (.int .i64 (L : Int)) (.int .i64 (L : Int))).run Tryd.prog w = .ok (.slice (some ⟨w.heap.size, 0, none⟩) L L) (w.alloc (.cells (row L fun _ => 0) 33)) := fun w => make_row L (by omega) w
  rw [← hN, ← hM]
  have e0 : wrap64 ((N : Int) + (M : Int)) = (N : Int) + (M : Int) := wr64 _ (by omega)
  have e1 : wrap64 ((N : Int) + (M : Int) + 1) = (L : Int) := by rw [wr64 _ (by omega)]; omega
  have HN := Lib.hid hN
  have HM := Lib.hid hM
  have HL := Lib.hid hL
  have HS := Lib.hid (And.intro hsx hsy)
  clear hX hY hN hM hL hsx hsy
  go_enter Tryd.func31, Tryd.ntmps31
  go_wp2_with fail
  simp only [e0, e1]
  go_loopw [6] (fun iv wr => ∃ (i : Nat) (fc : Nat → Nat) (x : World), iv = .int .i64 (i : Int) ∧ wr = x.pin w.heap.size (.cells (row (L) fc) 33) ∧ w.heap.size < x.heap.size ∧ Hid (Below w.heap.size w x ∧ i ≤ N ∧ TimO X Y L M i fc)) (fun iv _ => (N - intOf iv).toNat)
  case atStart => exact ⟨0, fun _ => 0, _, rfl, pins1 (by (repeat (first | with_reducible exact pin_at (by assumption) | (with_reducible apply pin_at; (first | omega | (simp only [World.size_alloc, pin_size, World.size_drew, World.size_setCell] <;> omega))) | (with_reducible apply alloc_at; first | rfl | (simp only [World.size_alloc, pin_size, World.size_drew, World.size_setCell] <;> omega)) | with_reducible apply past_pin | with_reducible apply past_alloc | with_reducible apply past_drew)); all_goals (first | omega | (simp only [World.size_alloc, pin_size, World.size_drew, World.size_setCell] <;> omega))), (by (first | omega | (simp only [World.size_alloc, pin_size, World.size_drew, World.size_setCell] <;> omega))), (by (repeat (first | with_reducible exact (Below.refl _ _) | with_reducible refine below_pin ?_ ?_ | with_reducible refine Below.alloc ?_ ?_ _ | with_reducible refine Below.setCell ?_ ?_ _ | with_reducible refine Below.drew ?_)); all_goals (first | omega | (simp only [World.size_alloc, pin_size, World.size_drew, World.size_setCell] <;> omega))), Nat.zero_le _, tim_start X Y _ _⟩
  case round =>
    obtain ⟨i, fc0, x0, rfl, rfl, q0, H0⟩ := hrel
    by_cases hi : i < N
    · obtain ⟨b, off, rfl, hbw, hcell⟩ := HX.out.cell (i := i) (by rw [← HN.out]; exact hi)
      obtain ⟨a, ha⟩ : ∃ a, a = dg X i := ⟨_, rfl⟩
      have HA := Lib.hid ha
      have HC1 : Hid (w.cell? ⟨b, off + i, none⟩ = some (.int .u64 (a : Int))) := by rw [ha]; exact Lib.hid (hcell i (by rw [← HN.out]; exact hi))
      clear hcell ha
      go_wp2
      go_loopw [7, 8] (fun cv kv wr => ∃ (k cr : Nat) (fc : Nat → Nat) (x : World), cv = .int .u64 (cr : Int) ∧ kv = .int .i64 (k : Int) ∧ wr = x.pin w.heap.size (.cells (row (L) fc) 33) ∧ w.heap.size < x.heap.size ∧ Hid (Below w.heap.size w x ∧ k ≤ M ∧ TimI X Y L M i k fc cr)) (fun _ kv _ => (M - intOf kv).toNat)
      case atStart => exact ⟨0, 0, fc0, x0, rfl, rfl, rfl, q0, H0.out.1, Nat.zero_le _, tim_row H0.out.2.2⟩
      case round =>
        obtain ⟨k, cr, fc, x, rfl, rfl, rfl, q1, H⟩ := hrel
        by_cases hk : k < M
        · obtain ⟨b2, off2, rfl, hbw2, hcell2⟩ := HY.out.cell (i := k) (by rw [← HM.out]; exact hk)
          obtain ⟨a2, ha2⟩ : ∃ a, a = dg Y k := ⟨_, rfl⟩
          have hc2 : x.cell? ⟨b2, off2 + k, none⟩ = some (.int .u64 (a2 : Int)) := by rw [ha2]; exact (H.out.1.cell (p := ⟨b2, off2 + k, none⟩) hbw2).trans (hcell2 k (by rw [← HM.out]; exact hk))
          have hc1 : x.cell? ⟨b, off + i, none⟩ = some (.int .u64 (a : Int)) := (H.out.1.cell (p := ⟨b, off + i, none⟩) hbw).trans HC1.out
          have HA2 := Lib.hid ha2
          clear hcell2 ha2
          obtain ⟨j, hj⟩ : ∃ j, j = i + k := ⟨_, rfl⟩
          have hjL : j < L := by have := HL.out; omega
          have e5 : wrap64 ((i : Int) + (k : Int)) = (j : Int) := by rw [wr64 _ (by have := HS.out; omega)]; omega
          have e6 : IntKind.i64.wrap ((i : Int) + (k : Int)) = (j : Int) := (wrap_w64 _).trans e5
          obtain ⟨o, ho⟩ : ∃ o, o = fc j := ⟨_, rfl⟩
          have hg : (row L fc)[j]? = some (.int .u64 (o : Int)) := by rw [ho]; exact row_get fc hjL
          obtain ⟨m, hm⟩ : ∃ m, m = a * a2 := ⟨_, rfl⟩
          obtain ⟨s, hs⟩ : ∃ s, s = o + m + cr := ⟨_, rfl⟩
          have hb : s < 4294967296 := by rw [hs, ho, hm, hj, HA.out, HA2.out]; exact tim_b H.out.2.2
          have v1 : IntKind.u64.wrap ((a : Int) * (a2 : Int)) = (m : Int) := by rw [hm]; exact u64_mul a a2 (by omega)
          have v2 : IntKind.u64.wrap ((o : Int) + (m : Int)) = (o : Int) + (m : Int) := by have := u64n (o + m) (by omega); rw [Int.natCast_add] at this; exact this
          have v3 : IntKind.u64.wrap ((o : Int) + (m : Int) + (cr : Int)) = (s : Int) := by rw [show (o : Int) + (m : Int) + (cr : Int) = (s : Int) from by omega]; exact u64n s (by omega)
          have HH := Lib.hid (And.intro hj (And.intro ho (And.intro hm (And.intro hs hb))))
          clear hj ho hm hs hb
          go_wp2
          refine wp_region_still_tail 18 (by kernel_rfl) (by kernel_rfl) ?_
          simp only [List.take_succ_cons, List.take_zero, List.drop_succ_cons, List.drop_zero, World.drew_eq]
          (repeat still_step)
          refine wpStill_nil ?_
          go_wp2
          have es : s = fc (i + k) + dg X i * dg Y k + cr := by
            rw [← HA.out, ← HA2.out, ← HH.out.1, ← HH.out.2.1, ← HH.out.2.2.1]
            exact HH.out.2.2.2.1
          have hst := tim_step H.out.2.2 hk (by have := HL.out; omega)
          rw [← es, ← HH.out.1] at hst
          exact ⟨⟨k + 1, _, _, x.drew, vq1 s HH.out.2.2.2.2, vi1 _ (by have := HS.out; omega), by rw [vr1, row_set]; rfl, q1, H.out.1.drew, by omega, hst⟩, meas_up M k hk (by have := HS.out; omega)⟩
        · have hk' : k = M := by have := H.out.2.1; omega
          subst hk'
          obtain ⟨j, hj⟩ : ∃ j, j = i + k := ⟨_, rfl⟩
          have hjL : j < L := by have := HL.out; omega
          have e5 : wrap64 ((i : Int) + (k : Int)) = (j : Int) := by rw [wr64 _ (by have := HS.out; omega)]; omega
          have hg := row_get fc hjL
          have HJ := Lib.hid hj
          clear hj
          go_wp2
          have hst := tim_end H.out.2.2 (by have := HM.out; omega) (by have := HL.out; omega)
          rw [← HJ.out] at hst
          exact ⟨⟨i + 1, _, x, vi1 _ (by have := HS.out; omega), by rw [row_set], q1, H.out.1, by omega, hst⟩, meas_up N i hi (by have := HS.out; omega)⟩
    · have hi' : i = N := by have := H0.out.2.1; omega
      subst hi'
      have HE := Lib.hid (tim_done H0.out.2.2 (by have := HN.out; omega))
      go_wp2_with fail
      refine (trim_row w.heap.size (L) (fc0) _ (by (repeat (first | with_reducible exact pin_at (by assumption) | (with_reducible apply pin_at; (first | omega | (simp only [World.size_alloc, pin_size, World.size_drew, World.size_setCell] <;> omega))) | (with_reducible apply alloc_at; first | rfl | (simp only [World.size_alloc, pin_size, World.size_drew, World.size_setCell] <;> omega)) | with_reducible apply past_pin | with_reducible apply past_alloc | with_reducible apply past_drew)); all_goals (first | omega | (simp only [World.size_alloc, pin_size, World.size_drew, World.size_setCell] <;> omega))) (HE.out).2 (by have := HS.out; have := HL.out; omega)).mono ?_
      rintro e y ⟨⟨A', c', rfl, hd⟩, hb⟩
      rw [(HE.out).1] at hd ⊢
      have HB9 := Lib.hid hb
      have HD9 := Lib.hid hd
      clear hb hd
      go_wp2_with fail
      go_ret
      exact ⟨⟨A', c', rfl, HD9.out⟩, Below.trans (by (repeat (first | with_reducible exact H0.out.1 | with_reducible refine below_pin ?_ ?_ | with_reducible refine Below.alloc ?_ ?_ _ | with_reducible refine Below.setCell ?_ ?_ _ | with_reducible refine Below.drew ?_)); all_goals (first | omega | (simp only [World.size_alloc, pin_size, World.size_drew, World.size_setCell] <;> omega))) (HB9.out.mono (by (first | omega | (simp only [World.size_alloc, pin_size, World.size_drew, World.size_setCell] <;> omega))))⟩


end Go.Proofs.YtljolpdpblohcaaDoor
