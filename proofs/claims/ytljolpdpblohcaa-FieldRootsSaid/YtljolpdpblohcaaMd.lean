/-
  Walks: a number modulo the prime.
-/
import Derived.Test.YtljolpdpblohcaaNu
import Derived.Test.YtljolpdpblohcaaMo
import Derived.Laws.CopyRow
namespace Go.Proofs.Ytljolpdpblohcaa
open Go.RowKit Go.Proofs.YtljolpdpblohcaaW.PrintLast
set_option linter.unusedSimpArgs false

set_option linter.unusedVariables false
theorem setRow_alloc (w : World) (old cs : Array Value) (t : TypeId) : (w.alloc (.cells old t)).setRow w.heap.size cs = w.alloc (.cells cs t) := by
  simp only [World.setRow, World.alloc]
  congr 1
  apply Array.ext_getElem?
  intro k
  rw [Array.getElem?_modify, Array.getElem?_push, Array.getElem?_push]
  by_cases h : k = w.heap.size
  · subst h; simp
  · simp [h, Ne.symm h]
theorem copy16 (N : Nat) (w : World) (b off c : Nat) (h : ∀ j, j < (dig N).length → w.cell? ⟨b, off + j, none⟩ = some (.int .u64 ((N / BB ^ j % BB : Nat) : Int))) (hl : 16 ≤ (dig N).length) (ty : TypeId) :
    (Builtin.copy_ #[29, 29] ty #[.slice (some ⟨w.heap.size, 0, none⟩) 16 16, .slice (some ⟨b, off, none⟩) 16 c]).run Try.prog (w.alloc (.cells (row 16 fun _ => 0) 23)) = .ok (.int .i64 16) (w.alloc (.cells (row 16 (dg N)) 23)) := by
  have hlen : ((List.range 16).map fun j => Value.int .u64 ((dg N j : Nat) : Int)).length = Nat.min 16 16 := by simp
  have e : ((row 16 fun _ => 0).toList.take 0 ++ ((List.range 16).map fun j => Value.int .u64 ((dg N j : Nat) : Int)) ++ (row 16 fun _ => 0).toList.drop (0 + ((List.range 16).map fun j => Value.int .u64 ((dg N j : Nat) : Int)).length)).toArray = row 16 (dg N) := by
    rw [List.take_zero, List.nil_append, List.drop_eq_nil_of_le (by simp [row_size]), List.append_nil]
    rfl
  rw [run_copy_row (P := Try.prog) (w.alloc (.cells (row 16 fun _ => 0) 23)) 29 29 ty 23 w.heap.size 0 16 16 ⟨b, off, none⟩ 16 c (row 16 fun _ => 0) 23 ((List.range 16).map fun j => Value.int .u64 ((dg N j : Nat) : Int)) (by kernel_rfl) (by kernel_rfl) (heap_alloc_new w _) hlen ?_ (by simp [row_size]) ?_]
  · rw [e, setRow_alloc]
    rfl
  · intro j v hj
    have hj16 : j < 16 := by
      have := (List.getElem?_eq_some_iff.mp hj).1
      simpa using this
    have hv : v = .int .u64 ((dg N j : Nat) : Int) := by
      have := (List.getElem?_eq_some_iff.mp hj).2
      simp only [List.getElem_map, List.getElem_range] at this
      exact this.symm
    rw [Addr.add_lit, hv]
    have hc := h j (by omega)
    have hb := World.block_lt_of_cell? w _ hc
    exact (World.cell?_of_block (w := w) (w' := w.alloc _) (a := ⟨b, off + j, none⟩) (alloc_past hb)).trans hc
  · intro v hv
    obtain ⟨j, _, rfl⟩ := List.mem_map.mp hv
    rfl
theorem hi_w (ai aj : Nat) (h1 : ai < 65536) (h2 : aj < 65536) : w64 (w64 ((ai : Int) / 32768) + w64 ((aj : Int) % 32768 * 2)) = ((ai / 32768 + aj % 32768 * 2 : Nat) : Int) := by
  unfold w64; simp only [IntKind.wrap_u64]; omega
theorem hi_w0 (ai : Nat) (h1 : ai < 65536) : w64 ((ai : Int) / 32768) = ((ai / 32768 + 0 % 32768 * 2 : Nat) : Int) := by
  unfold w64; simp only [IntKind.wrap_u64]; omega
theorem times19 (A : Option Addr) (c X g : Nat) (hsx : (dig X).length ≤ 1000000) (w : World) (hX : Dn w A c X) (hg : w.heap[g]? = some (.cells #[.int .u64 19] 23)) :
    Calls Try.prog 44 #[.slice A (dig X).length c, .slice (some ⟨g, 0, none⟩) 1 1] w fun e w' => (∃ A' c', e = .returned (.slice A' (dig (X * 19)).length c') ∧ Dn w' A' c' (X * 19)) ∧ Below w.heap.size w w' := by
  have hD : Dn w (some ⟨g, 0, none⟩) 1 19 := by
    refine ⟨?_, by rw [dig19]; decide⟩
    rw [dig19]
    exact rd_block hg (by intro i hi; have : i = 0 := by simpa using hi
                          subst this; rfl)
  have h := times_any A (some ⟨g, 0, none⟩) c 1 X 19 hsx (by rw [dig19]; decide) w hX hD
  rw [show (dig 19).length = 1 by rw [dig19]; rfl] at h
  exact h

/-- What is told at the head of Mod's loop. -/
def ModR (w : World) (n N : Nat) (v : Value) (wr : World) : Prop := ∃ A c, v = .slice A (dig N).length c ∧ Below w.heap.size w wr ∧ Dn wr A c N ∧ N % Num.p = n % Num.p ∧ N ≤ n

set_option maxRecDepth 100000 in
set_option maxHeartbeats 2000000 in
theorem Mod_any (A : Option Addr) (c n : Nat) (hsz : (dig n).length ≤ 1000000) (w : World) (hX : Dn w A c n) :
    Calls Try.prog 46 #[.slice A (dig n).length c] w fun e w' => (∃ A' c', e = .returned (.slice A' (dig (n % Num.p)).length c') ∧ Dn w' A' c' (n % Num.p)) ∧ Below w.heap.size w w' := by
  have HX := Lib.hid hX
  have HS := Lib.hid hsz
  have hmk16 : ∀ w, (Instr.makeSlice 29 (.int .i64 16) (.int .i64 16)).run Try.prog w = .ok (.slice (some ⟨w.heap.size, 0, none⟩) 16 16) (w.alloc (.cells (row 16 fun _ => 0) 23)) := fun w => make_row 16 (by decide) w
  clear hX hsz
  go_enter Try.func46, Try.ntmps46
  go_wp2_with fail
  go_loopw [0] (fun v wr => ∃ N, ModR w n N v wr) (fun v wr => leastN fun N => ModR w n N v wr)
  case atStart => exact ⟨n, A, c, rfl, (by (repeat (first | with_reducible exact (Below.refl _ _) | with_reducible refine below_pin ?_ ?_ | with_reducible refine Below.alloc ?_ ?_ _ | with_reducible refine Below.setCell ?_ ?_ _ | with_reducible refine Below.drew ?_)); all_goals (first | omega | (simp only [World.size_alloc, pin_size, World.size_drew, World.size_setCell] <;> omega))), HX.out, rfl, Nat.le_refl _⟩
  case round =>
    obtain ⟨N, hNe⟩ : ∃ N, N = leastN (fun N => ModR w n N u0 wr) := ⟨_, rfl⟩
    have hR : ModR w n N u0 wr := by rw [hNe]; exact (leastN_spec hrel).1
    clear hrel
    have HM := Lib.hid hNe
    clear hNe
    obtain ⟨A, c, rfl, hbl, hdn, hmod, hle⟩ := hR
    have HBL := Lib.hid hbl
    have HD := Lib.hid hdn
    have HN := Lib.hid (And.intro hmod hle)
    clear hbl hdn hmod hle
    obtain ⟨L, hL⟩ : ∃ L, L = (dig N).length := ⟨_, rfl⟩
    rw [← hL]
    rw [← hL] at HM
    have HLN := Lib.hid hL
    have HLS := Lib.hid (show L ≤ 1000000 by rw [hL]; exact Nat.le_trans (dig_len_le (Nat.lt_of_le_of_lt HN.out.2 (lt_dig n))) HS.out)
    clear hL
    by_cases h16 : 16 ≤ L
    rotate_left
    · have hlz : ¬ (16 : Int) < (L : Int) := by omega
      have hez : ((L : Int) == 16) = false := by rw [beq_eq_false_iff_ne]; omega
      have hlt : (L : Int) < 16 := by omega
      have hNn : n % Num.p = N := by rw [← HN.out.1]; exact Nat.mod_eq_of_lt (dig_low (by have := HLN.out; omega))
      have HNN := Lib.hid hNn
      clear hNn
      go_wp2
      go_ret
      exact ⟨⟨A, c, by rw [HNN.out, ← HLN.out]; rfl, by rw [HNN.out]; exact HD.out⟩, HBL.out⟩
    obtain ⟨b, off, rfl, hbw, hcell⟩ := HD.out.cell (i := 15) (by rw [← HLN.out]; omega)
    have HC := Lib.hid hcell
    have HBW := Lib.hid hbw
    clear hcell hbw
    by_cases c1 : 16 < L
    · have HG := Lib.hid (dig_ge (by rw [← HLN.out]; exact c1))
      obtain ⟨M, hM⟩ : ∃ M, M + 15 = L := ⟨L - 15, by omega⟩
      have hM1 : 1 ≤ M := by omega
      have hLi : (15 : Int) < (L : Int) := by omega
      have hLc : L ≤ c := by rw [HLN.out]; exact HD.out.2
      have h16c : 16 ≤ c := by omega
      have hmkM : ∀ w, (Instr.makeSlice 29 (.int .i64 (M : Int)) (.int .i64 (M : Int))).run Try.prog w = .ok (.slice (some ⟨w.heap.size, 0, none⟩) M M) (w.alloc (.cells (row M fun _ => 0) 23)) := fun w => make_row M (by have := HLS.out; omega) w
      have hmkL : ∀ w, (Instr.makeSlice 29 (.int .i64 ((L : Int) - 15)) (.int .i64 ((L : Int) - 15))).run Try.prog w = .ok (.slice (some ⟨w.heap.size, 0, none⟩) M M) (w.alloc (.cells (row M fun _ => 0) 23)) := fun w => by rw [show (L : Int) - 15 = (M : Int) by omega]; exact hmkM w
      have e15 : wrap64 ((L : Int) - 15) = (M : Int) := by rw [wr64 _ (by have := HLS.out; omega)]; omega
      have hcp := fun ty => copy16 N wr b off c HC.out (by rw [← HLN.out]; exact h16) ty
      have hca : ∀ o, (wr.alloc o).cell? ⟨b, off + 15, none⟩ = some (.int .u64 ((dg N 15 : Nat) : Int)) := fun o => (World.cell?_of_block (w := wr) (w' := wr.alloc o) (a := ⟨b, off + 15, none⟩) (alloc_past HBW.out)).trans (HC.out 15 (by rw [← HLN.out]; omega))
      have hg15 := row_get (dg N) (show 15 < 16 by decide)
      obtain ⟨a, ha⟩ : ∃ a, a = dg N 15 := ⟨_, rfl⟩
      rw [← ha] at hca
      have HA := Lib.hid ha
      have HMM := Lib.hid hM
      clear ha hM
      go_wp2
      try simp only [e15]
      (try clear hlz)
      (try clear c1)
      rw [show (row 16 (dg N)).setIfInBounds 15 (.int .u64 ((a : Int) % 32768)) = row 16 (upd (dg N) 15 (a % 32768)) by rw [show ((a : Int) % 32768) = ((a % 32768 : Nat) : Int) by omega, row_set]]
      go_loopw [5] (fun iv wv => ∃ (i k : Nat) (fc : Nat → Nat) (x : World), iv = .int .i64 (i : Int) ∧ wv = (x.pin wr.heap.size (.cells (row (16) (upd (dg N) 15 (a % 32768))) 23)).pin (wr.heap.size + 1) (.cells (row (M) fc) 23) ∧ wr.heap.size < x.heap.size ∧ wr.heap.size + 1 < x.heap.size ∧ Hid (Below wr.heap.size wr x ∧ i = k + 15 ∧ k ≤ M ∧ HiI N k fc)) (fun iv _ => (L - intOf iv).toNat)
      case atStart => exact ⟨15, 0, fun _ => 0, _, rfl, pins2 (by (repeat (first | with_reducible exact pin_at (by assumption) | (with_reducible apply pin_at; (first | omega | (simp only [World.size_alloc, pin_size, World.size_drew, World.size_setCell] <;> omega))) | (with_reducible apply alloc_at; first | rfl | (simp only [World.size_alloc, pin_size, World.size_drew, World.size_setCell] <;> omega)) | with_reducible apply past_pin | with_reducible apply past_alloc | with_reducible apply past_drew)); all_goals (first | omega | (simp only [World.size_alloc, pin_size, World.size_drew, World.size_setCell] <;> omega))) (by (repeat (first | with_reducible exact pin_at (by assumption) | (with_reducible apply pin_at; (first | omega | (simp only [World.size_alloc, pin_size, World.size_drew, World.size_setCell] <;> omega))) | (with_reducible apply alloc_at; first | rfl | (simp only [World.size_alloc, pin_size, World.size_drew, World.size_setCell] <;> omega)) | with_reducible apply past_pin | with_reducible apply past_alloc | with_reducible apply past_drew)); all_goals (first | omega | (simp only [World.size_alloc, pin_size, World.size_drew, World.size_setCell] <;> omega))), (by (first | omega | (simp only [World.size_alloc, pin_size, World.size_drew, World.size_setCell] <;> omega))), (by (first | omega | (simp only [World.size_alloc, pin_size, World.size_drew, World.size_setCell] <;> omega))), (by (repeat (first | with_reducible exact (Below.refl wr.heap.size wr) | with_reducible refine below_pin ?_ ?_ | with_reducible refine Below.alloc ?_ ?_ _ | with_reducible refine Below.setCell ?_ ?_ _ | with_reducible refine Below.drew ?_)); all_goals (first | omega | (simp only [World.size_alloc, pin_size, World.size_drew, World.size_setCell] <;> omega))), rfl, Nat.zero_le _, hi_start N⟩
      case round =>
        obtain ⟨i, k, fc, x, rfl, rfl, q0, q1, H⟩ := hrel
        have HLM : Hid (M + 15 = L) := HMM
        by_cases hk : i < L
        · obtain ⟨ai, hai⟩ : ∃ ai, ai = dg N i := ⟨_, rfl⟩
          have hci : x.cell? ⟨b, off + i, none⟩ = some (.int .u64 (ai : Int)) := by rw [hai]; exact (H.out.1.cell (p := ⟨b, off + i, none⟩) HBW.out).trans (HC.out i (by rw [← HLN.out]; exact hk))
          have HAI := Lib.hid (And.intro hai (show ai < 65536 by rw [hai]; exact digit_lt N i))
          clear hai
          have ek : wrap64 ((i : Int) - 15) = (k : Int) := by rw [wr64 _ (by have := HLS.out; omega)]; have := H.out.2.1; omega
          have hkM : k < M := by have := H.out.2.1; have := HLM.out; omega
          have hkz : (k : Int) < (M : Int) := by omega
          have hbx : b < wr.heap.size + 1 := by have := HBW.out; omega
          have hbx0 := HBW.out
          have hg := row_get fc hkM
          obtain ⟨i1, hi1⟩ : ∃ j, j = i + 1 := ⟨_, rfl⟩
          have ei : wrap64 ((i : Int) + 1) = (i1 : Int) := by rw [wr64 _ (by have := HLS.out; omega)]; omega
          have HI1 := Lib.hid hi1
          clear hi1
          by_cases hj : i1 < L
          · obtain ⟨aj, haj⟩ : ∃ aj, aj = dg N i1 := ⟨_, rfl⟩
            have hcj : x.cell? ⟨b, off + i1, none⟩ = some (.int .u64 (aj : Int)) := by rw [haj]; exact (H.out.1.cell (p := ⟨b, off + i1, none⟩) HBW.out).trans (HC.out i1 (by rw [← HLN.out]; exact hj))
            have HAJ := Lib.hid (And.intro haj (show aj < 65536 by rw [haj]; exact digit_lt N i1))
            clear haj
            have hjz : (i1 : Int) < (L : Int) := by omega
            go_wp2
            have hv := hi_v (N := N) (k := k) (ai := ai) (aj := aj) (by rw [HAI.out.1, H.out.2.1]) (by rw [HAJ.out.1, HI1.out, H.out.2.1])
            exact ⟨⟨i + 1, k + 1, _, x, vi1 _ (by have := HLS.out; omega), by rw [hi_w ai aj HAI.out.2 HAJ.out.2, row_set], q0, q1, H.out.1, by have := H.out.2.1; omega, by omega, hi_step H.out.2.2.2 hv⟩, meas_up L i hk (by have := HLS.out; omega)⟩
          · have hjz : ¬ (i1 : Int) < (L : Int) := by omega
            go_wp2
            have hv := hi_v (N := N) (k := k) (ai := ai) (aj := 0) (by rw [HAI.out.1, H.out.2.1]) (by rw [show k + 15 + 1 = i1 by have := HI1.out; have := H.out.2.1; omega]; exact (dig_off N i1 (by have := HLN.out; omega)).symm)
            exact ⟨⟨i + 1, k + 1, _, x, vi1 _ (by have := HLS.out; omega), by rw [hi_w0 ai HAI.out.2, row_set], q0, q1, H.out.1, by have := H.out.2.1; omega, by omega, hi_step H.out.2.2.2 hv⟩, meas_up L i hk (by have := HLS.out; omega)⟩
        · have hkM : k = M := by have := H.out.2; have := HLM.out; omega
          subst hkM
          have HE := Lib.hid (hi_end H.out.2.2.2 (by have := HLN.out; have := HLM.out; omega))
          have HB1 : Hid (Below wr.heap.size wr x) := H.out.1
          have HLO := Lib.hid (mod_low N)
          have HLD := Lib.hid (low_dg N)
          go_wp2_with fail
          refine (trim_row wr.heap.size 16 (upd (dg N) 15 (a % 32768)) _ (by (repeat (first | with_reducible exact pin_at (by assumption) | (with_reducible apply pin_at; (first | omega | (simp only [World.size_alloc, pin_size, World.size_drew, World.size_setCell] <;> omega))) | (with_reducible apply alloc_at; first | rfl | (simp only [World.size_alloc, pin_size, World.size_drew, World.size_setCell] <;> omega)) | with_reducible apply past_pin | with_reducible apply past_alloc | with_reducible apply past_drew)); all_goals (first | omega | (simp only [World.size_alloc, pin_size, World.size_drew, World.size_setCell] <;> omega))) (by rw [HA.out]; exact HLD.out) (by decide)).mono ?_
          rintro e y2 ⟨⟨A1, c1, rfl, hd1⟩, hb2⟩
          obtain ⟨x2, rfl, hc2, hz2, l20⟩ := keep1 (b := wr.heap.size + 1) hb2 rfl (by (repeat (first | with_reducible exact pin_at (by assumption) | (with_reducible apply pin_at; (first | omega | (simp only [World.size_alloc, pin_size, World.size_drew, World.size_setCell] <;> omega))) | (with_reducible apply alloc_at; first | rfl | (simp only [World.size_alloc, pin_size, World.size_drew, World.size_setCell] <;> omega)) | with_reducible apply past_pin | with_reducible apply past_alloc | with_reducible apply past_drew)); all_goals (first | omega | (simp only [World.size_alloc, pin_size, World.size_drew, World.size_setCell] <;> omega)))
          have HB2 : Hid (Below wr.heap.size wr x2) := Below.trans (by (repeat (first | with_reducible exact HB1.out | with_reducible refine below_pin ?_ ?_ | with_reducible refine Below.alloc ?_ ?_ _ | with_reducible refine Below.setCell ?_ ?_ _ | with_reducible refine Below.drew ?_)); all_goals (first | omega | (simp only [World.size_alloc, pin_size, World.size_drew, World.size_setCell] <;> omega))) (hc2.mono (by (first | omega | (simp only [World.size_alloc, pin_size, World.size_drew, World.size_setCell] <;> omega))))
          clear hb2 hc2
          try simp only [World.size_alloc, pin_size, World.size_drew, World.size_setCell] at hz2
          have hv1 : valF 16 (upd (dg N) 15 (a % 32768)) = N % P255 := by rw [HA.out]; exact HLO.out
          rw [hv1] at hd1 ⊢
          have HD1 := Lib.hid hd1
          clear hd1 hv1
          go_wp2_with fail
          refine (trim_row (wr.heap.size + 1) k fc _ (by (repeat (first | with_reducible exact pin_at (by assumption) | (with_reducible apply pin_at; (first | omega | (simp only [World.size_alloc, pin_size, World.size_drew, World.size_setCell] <;> omega))) | (with_reducible apply alloc_at; first | rfl | (simp only [World.size_alloc, pin_size, World.size_drew, World.size_setCell] <;> omega)) | with_reducible apply past_pin | with_reducible apply past_alloc | with_reducible apply past_drew)); all_goals (first | omega | (simp only [World.size_alloc, pin_size, World.size_drew, World.size_setCell] <;> omega))) HE.out.2 (by have := HLS.out; have := HLM.out; omega)).mono ?_
          rintro e x3 ⟨⟨A2, c2, rfl, hd2⟩, hb3⟩
          have HB3 : Hid (Below wr.heap.size wr x3) := Below.trans (by (repeat (first | with_reducible exact HB2.out | with_reducible refine below_pin ?_ ?_ | with_reducible refine Below.alloc ?_ ?_ _ | with_reducible refine Below.setCell ?_ ?_ _ | with_reducible refine Below.drew ?_)); all_goals (first | omega | (simp only [World.size_alloc, pin_size, World.size_drew, World.size_setCell] <;> omega))) (hb3.mono (by (first | omega | (simp only [World.size_alloc, pin_size, World.size_drew, World.size_setCell] <;> omega))))
          have hz3 := HB3.out.size
          have HD1n := Lib.hid (HD1.out.next hb3)
          clear HD1
          have HD1 := HD1n
          clear HD1n
          clear hb3
          have hv2 := HE.out.1
          rw [hv2] at hd2 ⊢
          have HD2 := Lib.hid hd2
          clear hd2 hv2
          go_wp2_with fail
          have HD1a := Lib.hid (HD1.out.next (Below.alloc (Below.refl _ _) (Nat.le_refl _) (.cells #[.int .u64 19] 23)))
          refine (times19 A2 c2 (N / P255) x3.heap.size (Nat.le_trans (dig_mono (Nat.div_le_self _ _)) (by have := HLS.out; have := HLN.out; omega)) _ (HD2.out.next (Below.alloc (Below.refl _ _) (Nat.le_refl _) _)) (heap_alloc_new _ _)).mono ?_
          rintro e x4 ⟨⟨A3, c3, rfl, hd3⟩, hb4⟩
          have HB4 : Hid (Below wr.heap.size wr x4) := Below.trans (by (repeat (first | with_reducible exact HB3.out | with_reducible refine below_pin ?_ ?_ | with_reducible refine Below.alloc ?_ ?_ _ | with_reducible refine Below.setCell ?_ ?_ _ | with_reducible refine Below.drew ?_)); all_goals (first | omega | (simp only [World.size_alloc, pin_size, World.size_drew, World.size_setCell] <;> omega))) (hb4.mono (by (first | omega | (simp only [World.size_alloc, pin_size, World.size_drew, World.size_setCell] <;> omega))))
          have hz4 := HB4.out.size
          have HD1b := Lib.hid (HD1a.out.next hb4); have HD1b := Lib.hid (HD1a.out.next hb4); clear hb4
          have HD3 := Lib.hid hd3
          clear hd3
          go_wp2_with fail
          refine (sum_any A1 A3 c1 c3 (N % P255) (N / P255 * 19) (Nat.le_trans (dig_len_le (k := 16) (Nat.lt_trans (Nat.mod_lt _ (by decide)) (by decide))) (by decide)) (Nat.le_trans (dig_mono (show N / P255 * 19 ≤ N by have := (mod_less HG.out).1; omega)) (by have := HLS.out; have := HLN.out; omega)) _ HD1b.out HD3.out).mono ?_
          rintro e x5 ⟨⟨A4, c4, rfl, hd4⟩, hb5⟩
          have HB5 : Hid (Below wr.heap.size wr x5) := Below.trans (by (repeat (first | with_reducible exact HB4.out | with_reducible refine below_pin ?_ ?_ | with_reducible refine Below.alloc ?_ ?_ _ | with_reducible refine Below.setCell ?_ ?_ _ | with_reducible refine Below.drew ?_)); all_goals (first | omega | (simp only [World.size_alloc, pin_size, World.size_drew, World.size_setCell] <;> omega))) (hb5.mono (by (first | omega | (simp only [World.size_alloc, pin_size, World.size_drew, World.size_setCell] <;> omega))))
          have hz5 := HB5.out.size
          clear hb5
          have HD4 := Lib.hid hd4
          clear hd4
          go_wp2_with fail
          have hq : ModR w n (N % P255 + N / P255 * 19) (.slice A4 (dig (N % P255 + N / P255 * 19)).length c4) x5 := ⟨A4, c4, rfl, Below.trans HBL.out (HB5.out.mono HBL.out.size), HD4.out, (mod_less HG.out).2.trans HN.out.1, Nat.le_trans (Nat.le_of_lt (mod_less HG.out).1) HN.out.2⟩
          exact ⟨⟨_, hq⟩, leastN_lt hq (Nat.lt_of_lt_of_eq (mod_less HG.out).1 HM.out)⟩
    · have HL16 := Lib.hid (show L = 16 by omega)
      have hlz : ¬ (16 : Int) < (L : Int) := by omega
      have hez : ((L : Int) == 16) = true := by rw [beq_iff_eq, HL16.out]; rfl
      obtain ⟨a0, ha0⟩ : ∃ a, a = dg N 15 := ⟨_, rfl⟩
      have hc15 : wr.cell? ⟨b, off + 15, none⟩ = some (.int .u64 (a0 : Int)) := by rw [ha0]; exact HC.out 15 (by rw [← HLN.out]; omega)
      have HA0 := Lib.hid ha0
      clear ha0
      have h15z : (15 : Int) < (L : Int) := by omega
      by_cases hbig : 32767 < a0
      · have HG := Lib.hid (dig_ge15 (N := N) (by rw [← HA0.out]; exact hbig))
        have hbz : (32767 : Int) < (a0 : Int) := by omega
        obtain ⟨M, hM⟩ : ∃ M, M + 15 = L := ⟨L - 15, by omega⟩
        have hM1 : 1 ≤ M := by omega
        have hLi : (15 : Int) < (L : Int) := by omega
        have hLc : L ≤ c := by rw [HLN.out]; exact HD.out.2
        have h16c : 16 ≤ c := by omega
        have hmkM : ∀ w, (Instr.makeSlice 29 (.int .i64 (M : Int)) (.int .i64 (M : Int))).run Try.prog w = .ok (.slice (some ⟨w.heap.size, 0, none⟩) M M) (w.alloc (.cells (row M fun _ => 0) 23)) := fun w => make_row M (by have := HLS.out; omega) w
        have hmkL : ∀ w, (Instr.makeSlice 29 (.int .i64 ((L : Int) - 15)) (.int .i64 ((L : Int) - 15))).run Try.prog w = .ok (.slice (some ⟨w.heap.size, 0, none⟩) M M) (w.alloc (.cells (row M fun _ => 0) 23)) := fun w => by rw [show (L : Int) - 15 = (M : Int) by omega]; exact hmkM w
        have e15 : wrap64 ((L : Int) - 15) = (M : Int) := by rw [wr64 _ (by have := HLS.out; omega)]; omega
        have hcp := fun ty => copy16 N wr b off c HC.out (by rw [← HLN.out]; exact h16) ty
        have hca : ∀ o, (wr.alloc o).cell? ⟨b, off + 15, none⟩ = some (.int .u64 ((dg N 15 : Nat) : Int)) := fun o => (World.cell?_of_block (w := wr) (w' := wr.alloc o) (a := ⟨b, off + 15, none⟩) (alloc_past HBW.out)).trans (HC.out 15 (by rw [← HLN.out]; omega))
        have hg15 := row_get (dg N) (show 15 < 16 by decide)
        obtain ⟨a, ha⟩ : ∃ a, a = dg N 15 := ⟨_, rfl⟩
        rw [← ha] at hca
        have HA := Lib.hid ha
        have HMM := Lib.hid hM
        clear ha hM
        go_wp2
        try simp only [e15]
        (try clear hlz)
        (try clear c1)
        rw [show (row 16 (dg N)).setIfInBounds 15 (.int .u64 ((a : Int) % 32768)) = row 16 (upd (dg N) 15 (a % 32768)) by rw [show ((a : Int) % 32768) = ((a % 32768 : Nat) : Int) by omega, row_set]]
        go_loopw [5] (fun iv wv => ∃ (i k : Nat) (fc : Nat → Nat) (x : World), iv = .int .i64 (i : Int) ∧ wv = (x.pin wr.heap.size (.cells (row (16) (upd (dg N) 15 (a % 32768))) 23)).pin (wr.heap.size + 1) (.cells (row (M) fc) 23) ∧ wr.heap.size < x.heap.size ∧ wr.heap.size + 1 < x.heap.size ∧ Hid (Below wr.heap.size wr x ∧ i = k + 15 ∧ k ≤ M ∧ HiI N k fc)) (fun iv _ => (L - intOf iv).toNat)
        case atStart => exact ⟨15, 0, fun _ => 0, _, rfl, pins2 (by (repeat (first | with_reducible exact pin_at (by assumption) | (with_reducible apply pin_at; (first | omega | (simp only [World.size_alloc, pin_size, World.size_drew, World.size_setCell] <;> omega))) | (with_reducible apply alloc_at; first | rfl | (simp only [World.size_alloc, pin_size, World.size_drew, World.size_setCell] <;> omega)) | with_reducible apply past_pin | with_reducible apply past_alloc | with_reducible apply past_drew)); all_goals (first | omega | (simp only [World.size_alloc, pin_size, World.size_drew, World.size_setCell] <;> omega))) (by (repeat (first | with_reducible exact pin_at (by assumption) | (with_reducible apply pin_at; (first | omega | (simp only [World.size_alloc, pin_size, World.size_drew, World.size_setCell] <;> omega))) | (with_reducible apply alloc_at; first | rfl | (simp only [World.size_alloc, pin_size, World.size_drew, World.size_setCell] <;> omega)) | with_reducible apply past_pin | with_reducible apply past_alloc | with_reducible apply past_drew)); all_goals (first | omega | (simp only [World.size_alloc, pin_size, World.size_drew, World.size_setCell] <;> omega))), (by (first | omega | (simp only [World.size_alloc, pin_size, World.size_drew, World.size_setCell] <;> omega))), (by (first | omega | (simp only [World.size_alloc, pin_size, World.size_drew, World.size_setCell] <;> omega))), (by (repeat (first | with_reducible exact (Below.refl wr.heap.size wr) | with_reducible refine below_pin ?_ ?_ | with_reducible refine Below.alloc ?_ ?_ _ | with_reducible refine Below.setCell ?_ ?_ _ | with_reducible refine Below.drew ?_)); all_goals (first | omega | (simp only [World.size_alloc, pin_size, World.size_drew, World.size_setCell] <;> omega))), rfl, Nat.zero_le _, hi_start N⟩
        case round =>
          obtain ⟨i, k, fc, x, rfl, rfl, q0, q1, H⟩ := hrel
          have HLM : Hid (M + 15 = L) := HMM
          by_cases hk : i < L
          · obtain ⟨ai, hai⟩ : ∃ ai, ai = dg N i := ⟨_, rfl⟩
            have hci : x.cell? ⟨b, off + i, none⟩ = some (.int .u64 (ai : Int)) := by rw [hai]; exact (H.out.1.cell (p := ⟨b, off + i, none⟩) HBW.out).trans (HC.out i (by rw [← HLN.out]; exact hk))
            have HAI := Lib.hid (And.intro hai (show ai < 65536 by rw [hai]; exact digit_lt N i))
            clear hai
            have ek : wrap64 ((i : Int) - 15) = (k : Int) := by rw [wr64 _ (by have := HLS.out; omega)]; have := H.out.2.1; omega
            have hkM : k < M := by have := H.out.2.1; have := HLM.out; omega
            have hkz : (k : Int) < (M : Int) := by omega
            have hbx : b < wr.heap.size + 1 := by have := HBW.out; omega
            have hbx0 := HBW.out
            have hg := row_get fc hkM
            obtain ⟨i1, hi1⟩ : ∃ j, j = i + 1 := ⟨_, rfl⟩
            have ei : wrap64 ((i : Int) + 1) = (i1 : Int) := by rw [wr64 _ (by have := HLS.out; omega)]; omega
            have HI1 := Lib.hid hi1
            clear hi1
            by_cases hj : i1 < L
            · obtain ⟨aj, haj⟩ : ∃ aj, aj = dg N i1 := ⟨_, rfl⟩
              have hcj : x.cell? ⟨b, off + i1, none⟩ = some (.int .u64 (aj : Int)) := by rw [haj]; exact (H.out.1.cell (p := ⟨b, off + i1, none⟩) HBW.out).trans (HC.out i1 (by rw [← HLN.out]; exact hj))
              have HAJ := Lib.hid (And.intro haj (show aj < 65536 by rw [haj]; exact digit_lt N i1))
              clear haj
              have hjz : (i1 : Int) < (L : Int) := by omega
              go_wp2
              have hv := hi_v (N := N) (k := k) (ai := ai) (aj := aj) (by rw [HAI.out.1, H.out.2.1]) (by rw [HAJ.out.1, HI1.out, H.out.2.1])
              exact ⟨⟨i + 1, k + 1, _, x, vi1 _ (by have := HLS.out; omega), by rw [hi_w ai aj HAI.out.2 HAJ.out.2, row_set], q0, q1, H.out.1, by have := H.out.2.1; omega, by omega, hi_step H.out.2.2.2 hv⟩, meas_up L i hk (by have := HLS.out; omega)⟩
            · have hjz : ¬ (i1 : Int) < (L : Int) := by omega
              go_wp2
              have hv := hi_v (N := N) (k := k) (ai := ai) (aj := 0) (by rw [HAI.out.1, H.out.2.1]) (by rw [show k + 15 + 1 = i1 by have := HI1.out; have := H.out.2.1; omega]; exact (dig_off N i1 (by have := HLN.out; omega)).symm)
              exact ⟨⟨i + 1, k + 1, _, x, vi1 _ (by have := HLS.out; omega), by rw [hi_w0 ai HAI.out.2, row_set], q0, q1, H.out.1, by have := H.out.2.1; omega, by omega, hi_step H.out.2.2.2 hv⟩, meas_up L i hk (by have := HLS.out; omega)⟩
          · have hkM : k = M := by have := H.out.2; have := HLM.out; omega
            subst hkM
            have HE := Lib.hid (hi_end H.out.2.2.2 (by have := HLN.out; have := HLM.out; omega))
            have HB1 : Hid (Below wr.heap.size wr x) := H.out.1
            have HLO := Lib.hid (mod_low N)
            have HLD := Lib.hid (low_dg N)
            go_wp2_with fail
            refine (trim_row wr.heap.size 16 (upd (dg N) 15 (a % 32768)) _ (by (repeat (first | with_reducible exact pin_at (by assumption) | (with_reducible apply pin_at; (first | omega | (simp only [World.size_alloc, pin_size, World.size_drew, World.size_setCell] <;> omega))) | (with_reducible apply alloc_at; first | rfl | (simp only [World.size_alloc, pin_size, World.size_drew, World.size_setCell] <;> omega)) | with_reducible apply past_pin | with_reducible apply past_alloc | with_reducible apply past_drew)); all_goals (first | omega | (simp only [World.size_alloc, pin_size, World.size_drew, World.size_setCell] <;> omega))) (by rw [HA.out]; exact HLD.out) (by decide)).mono ?_
            rintro e y2 ⟨⟨A1, c1, rfl, hd1⟩, hb2⟩
            obtain ⟨x2, rfl, hc2, hz2, l20⟩ := keep1 (b := wr.heap.size + 1) hb2 rfl (by (repeat (first | with_reducible exact pin_at (by assumption) | (with_reducible apply pin_at; (first | omega | (simp only [World.size_alloc, pin_size, World.size_drew, World.size_setCell] <;> omega))) | (with_reducible apply alloc_at; first | rfl | (simp only [World.size_alloc, pin_size, World.size_drew, World.size_setCell] <;> omega)) | with_reducible apply past_pin | with_reducible apply past_alloc | with_reducible apply past_drew)); all_goals (first | omega | (simp only [World.size_alloc, pin_size, World.size_drew, World.size_setCell] <;> omega)))
            have HB2 : Hid (Below wr.heap.size wr x2) := Below.trans (by (repeat (first | with_reducible exact HB1.out | with_reducible refine below_pin ?_ ?_ | with_reducible refine Below.alloc ?_ ?_ _ | with_reducible refine Below.setCell ?_ ?_ _ | with_reducible refine Below.drew ?_)); all_goals (first | omega | (simp only [World.size_alloc, pin_size, World.size_drew, World.size_setCell] <;> omega))) (hc2.mono (by (first | omega | (simp only [World.size_alloc, pin_size, World.size_drew, World.size_setCell] <;> omega))))
            clear hb2 hc2
            try simp only [World.size_alloc, pin_size, World.size_drew, World.size_setCell] at hz2
            have hv1 : valF 16 (upd (dg N) 15 (a % 32768)) = N % P255 := by rw [HA.out]; exact HLO.out
            rw [hv1] at hd1 ⊢
            have HD1 := Lib.hid hd1
            clear hd1 hv1
            go_wp2_with fail
            refine (trim_row (wr.heap.size + 1) k fc _ (by (repeat (first | with_reducible exact pin_at (by assumption) | (with_reducible apply pin_at; (first | omega | (simp only [World.size_alloc, pin_size, World.size_drew, World.size_setCell] <;> omega))) | (with_reducible apply alloc_at; first | rfl | (simp only [World.size_alloc, pin_size, World.size_drew, World.size_setCell] <;> omega)) | with_reducible apply past_pin | with_reducible apply past_alloc | with_reducible apply past_drew)); all_goals (first | omega | (simp only [World.size_alloc, pin_size, World.size_drew, World.size_setCell] <;> omega))) HE.out.2 (by have := HLS.out; have := HLM.out; omega)).mono ?_
            rintro e x3 ⟨⟨A2, c2, rfl, hd2⟩, hb3⟩
            have HB3 : Hid (Below wr.heap.size wr x3) := Below.trans (by (repeat (first | with_reducible exact HB2.out | with_reducible refine below_pin ?_ ?_ | with_reducible refine Below.alloc ?_ ?_ _ | with_reducible refine Below.setCell ?_ ?_ _ | with_reducible refine Below.drew ?_)); all_goals (first | omega | (simp only [World.size_alloc, pin_size, World.size_drew, World.size_setCell] <;> omega))) (hb3.mono (by (first | omega | (simp only [World.size_alloc, pin_size, World.size_drew, World.size_setCell] <;> omega))))
            have hz3 := HB3.out.size
            have HD1n := Lib.hid (HD1.out.next hb3)
            clear HD1
            have HD1 := HD1n
            clear HD1n
            clear hb3
            have hv2 := HE.out.1
            rw [hv2] at hd2 ⊢
            have HD2 := Lib.hid hd2
            clear hd2 hv2
            go_wp2_with fail
            have HD1a := Lib.hid (HD1.out.next (Below.alloc (Below.refl _ _) (Nat.le_refl _) (.cells #[.int .u64 19] 23)))
            refine (times19 A2 c2 (N / P255) x3.heap.size (Nat.le_trans (dig_mono (Nat.div_le_self _ _)) (by have := HLS.out; have := HLN.out; omega)) _ (HD2.out.next (Below.alloc (Below.refl _ _) (Nat.le_refl _) _)) (heap_alloc_new _ _)).mono ?_
            rintro e x4 ⟨⟨A3, c3, rfl, hd3⟩, hb4⟩
            have HB4 : Hid (Below wr.heap.size wr x4) := Below.trans (by (repeat (first | with_reducible exact HB3.out | with_reducible refine below_pin ?_ ?_ | with_reducible refine Below.alloc ?_ ?_ _ | with_reducible refine Below.setCell ?_ ?_ _ | with_reducible refine Below.drew ?_)); all_goals (first | omega | (simp only [World.size_alloc, pin_size, World.size_drew, World.size_setCell] <;> omega))) (hb4.mono (by (first | omega | (simp only [World.size_alloc, pin_size, World.size_drew, World.size_setCell] <;> omega))))
            have hz4 := HB4.out.size
            have HD1b := Lib.hid (HD1a.out.next hb4); clear hb4
            have HD3 := Lib.hid hd3
            clear hd3
            go_wp2_with fail
            refine (sum_any A1 A3 c1 c3 (N % P255) (N / P255 * 19) (Nat.le_trans (dig_len_le (k := 16) (Nat.lt_trans (Nat.mod_lt _ (by decide)) (by decide))) (by decide)) (Nat.le_trans (dig_mono (show N / P255 * 19 ≤ N by have := (mod_less HG.out).1; omega)) (by have := HLS.out; have := HLN.out; omega)) _ HD1b.out HD3.out).mono ?_
            rintro e x5 ⟨⟨A4, c4, rfl, hd4⟩, hb5⟩
            have HB5 : Hid (Below wr.heap.size wr x5) := Below.trans (by (repeat (first | with_reducible exact HB4.out | with_reducible refine below_pin ?_ ?_ | with_reducible refine Below.alloc ?_ ?_ _ | with_reducible refine Below.setCell ?_ ?_ _ | with_reducible refine Below.drew ?_)); all_goals (first | omega | (simp only [World.size_alloc, pin_size, World.size_drew, World.size_setCell] <;> omega))) (hb5.mono (by (first | omega | (simp only [World.size_alloc, pin_size, World.size_drew, World.size_setCell] <;> omega))))
            have hz5 := HB5.out.size
            clear hb5
            have HD4 := Lib.hid hd4
            clear hd4
            go_wp2_with fail
            have hq : ModR w n (N % P255 + N / P255 * 19) (.slice A4 (dig (N % P255 + N / P255 * 19)).length c4) x5 := ⟨A4, c4, rfl, Below.trans HBL.out (HB5.out.mono HBL.out.size), HD4.out, (mod_less HG.out).2.trans HN.out.1, Nat.le_trans (Nat.le_of_lt (mod_less HG.out).1) HN.out.2⟩
            exact ⟨⟨_, hq⟩, leastN_lt hq (Nat.lt_of_lt_of_eq (mod_less HG.out).1 HM.out)⟩
      · have hbz : ¬ (32767 : Int) < (a0 : Int) := by omega
        have hsz : ¬ (L : Int) < 16 := by omega
        by_cases hsm : a0 < 32767
        · have hsmz : (a0 : Int) < 32767 := by omega
          have HNN : Hid (n % Num.p = N) := by rw [← HN.out.1]; exact Lib.hid (Nat.mod_eq_of_lt (low_p (dig_low15 (by rw [← HLN.out]; omega) (by rw [← HA0.out]; exact hsm))))
          go_wp2
          go_ret
          exact ⟨⟨some ⟨b, off, none⟩, c, by rw [HNN.out, ← HLN.out]; rfl, by rw [HNN.out]; exact HD.out⟩, HBL.out⟩
        · have hsmz : ¬ (a0 : Int) < 32767 := by omega
          have HLT : Hid (N < P255) := Lib.hid (low_255 (dig_low15 (by rw [← HLN.out]; omega) (by rw [← HA0.out]; omega)))
          have HDL : Hid (Dn wr (some ⟨b, off, none⟩) c N) := HD
          by_cases hp : N < Num.p
          · have hpd : decide (N < Num.p) = true := decide_eq_true hp
            have HNN : Hid (n % Num.p = N) := by rw [← HN.out.1]; exact Lib.hid (Nat.mod_eq_of_lt hp)
            clear hp
            go_wp2_with fail
            refine (P_any _).mono ?_
            rintro e x1 ⟨⟨A1, c1, rfl, hd1⟩, hb1⟩
            have HB1 : Hid (Below wr.heap.size wr x1) := Below.trans (by (repeat (first | with_reducible exact (Below.refl _ _) | with_reducible refine below_pin ?_ ?_ | with_reducible refine Below.alloc ?_ ?_ _ | with_reducible refine Below.setCell ?_ ?_ _ | with_reducible refine Below.drew ?_)); all_goals (first | omega | (simp only [World.size_alloc, pin_size, World.size_drew, World.size_setCell] <;> omega))) (hb1.mono (by (first | omega | (simp only [World.size_alloc, pin_size, World.size_drew, World.size_setCell] <;> omega))))
            have hz1 := HB1.out.size
            clear hb1
            have HD1 := Lib.hid hd1
            clear hd1
            have HDN := Lib.hid (HD.out.mono HB1.out (Nat.le_refl _))
            rw [HLN.out]
            go_wp2_with fail
            refine (least_any (some ⟨b, off, none⟩) A1 c c1 N Num.p (by have := HLS.out; have := HLN.out; omega) _ HDN.out HD1.out).mono ?_
            rintro e x2 ⟨rfl, hb2⟩
            have HB2 : Hid (Below wr.heap.size wr x2) := Below.trans (by (repeat (first | with_reducible exact HB1.out | with_reducible refine below_pin ?_ ?_ | with_reducible refine Below.alloc ?_ ?_ _ | with_reducible refine Below.setCell ?_ ?_ _ | with_reducible refine Below.drew ?_)); all_goals (first | omega | (simp only [World.size_alloc, pin_size, World.size_drew, World.size_setCell] <;> omega))) (hb2.mono (by (first | omega | (simp only [World.size_alloc, pin_size, World.size_drew, World.size_setCell] <;> omega))))
            have hz2 := HB2.out.size
            clear hb2
            go_wp2_with fail
            go_ret
            exact ⟨⟨some ⟨b, off, none⟩, c, by rw [HNN.out]; rfl, by rw [HNN.out]; exact HD.out.mono HB2.out (Nat.le_refl _)⟩, Below.trans HBL.out (HB2.out.mono HBL.out.size)⟩
          · have hpd : decide (N < Num.p) = false := decide_eq_false hp
            have HNN : Hid (n % Num.p = N - Num.p) := by rw [← HN.out.1]; exact Lib.hid (mod_sub HLT.out hp).symm
            have HPN := Lib.hid (Nat.le_of_not_lt hp)
            clear hp
            go_wp2_with fail
            refine (P_any _).mono ?_
            rintro e x1 ⟨⟨A1, c1, rfl, hd1⟩, hb1⟩
            have HB1 : Hid (Below wr.heap.size wr x1) := Below.trans (by (repeat (first | with_reducible exact (Below.refl _ _) | with_reducible refine below_pin ?_ ?_ | with_reducible refine Below.alloc ?_ ?_ _ | with_reducible refine Below.setCell ?_ ?_ _ | with_reducible refine Below.drew ?_)); all_goals (first | omega | (simp only [World.size_alloc, pin_size, World.size_drew, World.size_setCell] <;> omega))) (hb1.mono (by (first | omega | (simp only [World.size_alloc, pin_size, World.size_drew, World.size_setCell] <;> omega))))
            have hz1 := HB1.out.size
            clear hb1
            have HD1 := Lib.hid hd1
            clear hd1
            have HDN := Lib.hid (HD.out.mono HB1.out (Nat.le_refl _))
            rw [HLN.out]
            go_wp2_with fail
            refine (least_any (some ⟨b, off, none⟩) A1 c c1 N Num.p (by have := HLS.out; have := HLN.out; omega) _ HDN.out HD1.out).mono ?_
            rintro e x2 ⟨rfl, hb2⟩
            have HB2 : Hid (Below wr.heap.size wr x2) := Below.trans (by (repeat (first | with_reducible exact HB1.out | with_reducible refine below_pin ?_ ?_ | with_reducible refine Below.alloc ?_ ?_ _ | with_reducible refine Below.setCell ?_ ?_ _ | with_reducible refine Below.drew ?_)); all_goals (first | omega | (simp only [World.size_alloc, pin_size, World.size_drew, World.size_setCell] <;> omega))) (hb2.mono (by (first | omega | (simp only [World.size_alloc, pin_size, World.size_drew, World.size_setCell] <;> omega))))
            have hz2 := HB2.out.size
            clear hb2
            go_wp2_with fail
            refine (P_any _).mono ?_
            rintro e x3 ⟨⟨A3, c3, rfl, hd3⟩, hb3⟩
            have HB3 : Hid (Below wr.heap.size wr x3) := Below.trans (by (repeat (first | with_reducible exact HB2.out | with_reducible refine below_pin ?_ ?_ | with_reducible refine Below.alloc ?_ ?_ _ | with_reducible refine Below.setCell ?_ ?_ _ | with_reducible refine Below.drew ?_)); all_goals (first | omega | (simp only [World.size_alloc, pin_size, World.size_drew, World.size_setCell] <;> omega))) (hb3.mono (by (first | omega | (simp only [World.size_alloc, pin_size, World.size_drew, World.size_setCell] <;> omega))))
            have hz3 := HB3.out.size
            clear hb3
            have HD3 := Lib.hid hd3
            clear hd3
            have HDM := Lib.hid (HD.out.mono HB3.out (Nat.le_refl _))
            go_wp2_with fail
            refine (minus_any (some ⟨b, off, none⟩) A3 c c3 N Num.p (by have := HLS.out; have := HLN.out; omega) HPN.out _ HDM.out HD3.out).mono ?_
            rintro e x4 ⟨⟨A4, c4, rfl, hd4⟩, hb4⟩
            have HB4 : Hid (Below wr.heap.size wr x4) := Below.trans (by (repeat (first | with_reducible exact HB3.out | with_reducible refine below_pin ?_ ?_ | with_reducible refine Below.alloc ?_ ?_ _ | with_reducible refine Below.setCell ?_ ?_ _ | with_reducible refine Below.drew ?_)); all_goals (first | omega | (simp only [World.size_alloc, pin_size, World.size_drew, World.size_setCell] <;> omega))) (hb4.mono (by (first | omega | (simp only [World.size_alloc, pin_size, World.size_drew, World.size_setCell] <;> omega))))
            have hz4 := HB4.out.size
            clear hb4
            have HD4 := Lib.hid hd4
            clear hd4
            go_wp2_with fail
            go_ret
            exact ⟨⟨A4, c4, by rw [HNN.out]; rfl, by rw [HNN.out]; exact HD4.out⟩, Below.trans HBL.out (HB4.out.mono HBL.out.size)⟩


end Go.Proofs.Ytljolpdpblohcaa
