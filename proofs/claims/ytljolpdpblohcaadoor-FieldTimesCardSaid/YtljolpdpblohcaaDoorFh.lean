/-
  Walks: package field, elements of bytes.
-/
import Derived.Test.YtljolpdpblohcaaDoorFg
import Derived.Test.YtljolpdpblohcaaDoorDec
import Derived.StillTailTactics
import Derived.IntWalk
namespace Go.Proofs.YtljolpdpblohcaaDoor
open Go.RowKit Go.Proofs.YtljolpdpblohcaaDoorW.PrintLast
set_option linter.unusedSimpArgs false

set_option maxRecDepth 100000 in
set_option maxHeartbeats 1000000 in
theorem Decode_no (A : Option Addr) (c : Nat) (es : Nat) (hl : es ≠ 32) (w : World) :
    Calls Tryd.prog 17 #[.slice A es c] w fun e w' => e = .returned (.tuple #[(⟨0, 0, 0, 0, 0⟩ : Fn).v, .int .i64 1]) ∧ Below w.heap.size w w' := by
  have hd : ((es : Int) != 32) = true := by rw [bne_iff_ne]; omega
  go_enter Tryd.func17, Tryd.ntmps17
  go_wp2_with fail
  refine bodyPost_ret (v := .tuple #[(⟨0, 0, 0, 0, 0⟩ : Fn).v, .int .i64 1]) ?_ rfl ⟨rfl, ?_⟩
  · simp [results, Tryd.results17, go_sem]
  · exact (by (repeat (first | with_reducible exact (Below.refl _ _) | with_reducible refine below_pin ?_ ?_ | with_reducible refine Below.alloc ?_ ?_ _ | with_reducible refine Below.setCell ?_ ?_ _ | with_reducible refine Below.drew ?_)); all_goals (first | omega | (simp only [World.size_alloc, pin_size, World.size_drew, World.size_setCell] <;> omega)))

theorem topB (es : List Nat) (hl : es.length = 32) (h : ∀ b ∈ es, b < 256) (hn : leN es < 57896044618658097711785492504343953926634992332820282019728792003956564819968) : es[31]'(by omega) < 128 := by
  have h1 := leN_drop es 31 h
  rw [List.drop_eq_getElem_cons (by omega), List.drop_eq_nil_of_le (by omega)] at h1
  simp only [leN, Nat.mul_zero, Nat.add_zero] at h1
  rw [← h1]
  omega
theorem topA (es : List Nat) (hl : es.length = 32) (h : ∀ b ∈ es, b < 256) (hn : 57896044618658097711785492504343953926634992332820282019728792003956564819968 ≤ leN es) : 127 < es[31]'(by omega) := by
  have h1 := leN_drop es 31 h
  rw [List.drop_eq_getElem_cons (by omega), List.drop_eq_nil_of_le (by omega)] at h1
  simp only [leN, Nat.mul_zero, Nat.add_zero] at h1
  rw [← h1]
  omega
theorem neq_fe {t s : Fn} (h : t ≠ s) : ((t.a : Int) == (s.a : Int) && ((t.b : Int) == (s.b : Int) && ((t.c : Int) == (s.c : Int) && ((t.d : Int) == (s.d : Int) && (t.e : Int) == (s.e : Int))))) = false := by
  rw [Bool.eq_false_iff]
  intro h2
  simp only [Bool.and_eq_true, beq_iff_eq, Int.natCast_inj] at h2
  obtain ⟨h3, h4, h5, h6, h7⟩ := h2
  apply h
  cases t
  cases s
  simp only at h3 h4 h5 h6 h7
  rw [h3, h4, h5, h6, h7]

set_option maxRecDepth 100000 in
set_option maxHeartbeats 4000000 in
theorem Decode_ok (A : Option Addr) (c : Nat) (es : List Nat) (hl : es.length = 32) (hby : ∀ b ∈ es, b < 256) (hcase : leN es < Num.p) (w : World) (hr : Rd w .u8 A es) :
    Calls Tryd.prog 17 #[.slice A es.length c] w fun e w' => e = .returned (.tuple #[(small (leN es)).v, .int .i64 0]) ∧ Below w.heap.size w w' := by
  have HBy := Lib.hid hby
  have HRd := Lib.hid hr
  have hd : ((32 : Int) != 32) = false := rfl
  obtain ⟨b, off, rfl, hbw, hcell⟩ := hr.place (by omega)
  have HC := Lib.hid hcell
  have HN := Lib.hid hcase
  clear hby hr hcell hcase
  obtain ⟨n, HNe⟩ : ∃ n, Hid (n = leN es) := ⟨_, rfl⟩
  have HL := Lib.hid hl
  rw [hl]
  clear hl
  go_enter Tryd.func17, Tryd.ntmps17
  go_wp2_with fail
  go_loopw [10] (fun iv wr => ∃ (i : Nat) (x : World), iv = .int .i64 (i : Int) ∧ wr = (x.pin w.heap.size (.cells #[.int .u64 0, .int .u64 0, .int .u64 0, .int .u64 0, .int .u64 0] 35)).pin (w.heap.size + 1) (.cells (feA (cut51 (n % 2 ^ i))) 35) ∧ w.heap.size < x.heap.size ∧ w.heap.size + 1 < x.heap.size ∧ Hid (Below w.heap.size w x ∧ i ≤ 255)) (fun i _ => (255 - intOf i).toNat)
  case atStart => exact ⟨0, _, rfl, pins2e (by (repeat (first | with_reducible exact pin_at (by assumption) | (with_reducible apply pin_at; (first | omega | (simp only [World.size_alloc, pin_size, World.size_drew, World.size_setCell] <;> omega))) | (with_reducible apply alloc_at; first | rfl | (simp only [World.size_alloc, pin_size, World.size_drew, World.size_setCell] <;> omega)) | with_reducible apply past_pin | with_reducible apply past_alloc | with_reducible apply past_drew)); all_goals (first | omega | (simp only [World.size_alloc, pin_size, World.size_drew, World.size_setCell] <;> omega))) (by (repeat (first | with_reducible exact pin_at (by assumption) | (with_reducible apply pin_at; (first | omega | (simp only [World.size_alloc, pin_size, World.size_drew, World.size_setCell] <;> omega))) | (with_reducible apply alloc_at; first | rfl | (simp only [World.size_alloc, pin_size, World.size_drew, World.size_setCell] <;> omega)) | with_reducible apply past_pin | with_reducible apply past_alloc | with_reducible apply past_drew)); all_goals (first | omega | (simp only [World.size_alloc, pin_size, World.size_drew, World.size_setCell] <;> omega))) rfl (by rw [Nat.pow_zero, Nat.mod_one]; rfl), (by (first | omega | (simp only [World.size_alloc, pin_size, World.size_drew, World.size_setCell] <;> omega))), (by (first | omega | (simp only [World.size_alloc, pin_size, World.size_drew, World.size_setCell] <;> omega))), (by (repeat (first | with_reducible exact (Below.refl _ _) | with_reducible refine below_pin ?_ ?_ | with_reducible refine Below.alloc ?_ ?_ _ | with_reducible refine Below.setCell ?_ ?_ _ | with_reducible refine Below.drew ?_)); all_goals (first | omega | (simp only [World.size_alloc, pin_size, World.size_drew, World.size_setCell] <;> omega))), by omega⟩
  case round =>
    obtain ⟨i, x, rfl, rfl, q0, q1, H⟩ := hrel
    by_cases hlt : i < 255
    · obtain ⟨j, hj⟩ : ∃ j, j = i / 8 := ⟨_, rfl⟩
      obtain ⟨m, hm⟩ : ∃ m, m = i / 51 := ⟨_, rfl⟩
      obtain ⟨r, hr⟩ : ∃ r, r = i % 51 := ⟨_, rfl⟩
      obtain ⟨q, hq⟩ : ∃ q, q = i % 8 := ⟨_, rfl⟩
      have hj32 : j < es.length := by have := HL.out; omega
      obtain ⟨bv, hbv⟩ : ∃ b, b = es[j] := ⟨_, rfl⟩
      obtain ⟨lim, hlim⟩ : ∃ l, l = limbAt (cut51 (n % 2 ^ i)) m := ⟨_, rfl⟩
      have hA : x.cell? ⟨b, off + j, none⟩ = some (.int .u8 bv) := by
        rw [hbv]
        exact (H.out.1.cell (p := ⟨b, off + j, none⟩) hbw).trans (HC.out j hj32)
      have hL : (feA (cut51 (n % 2 ^ i)))[m]? = some (.int .u64 lim) := by rw [feA_get _ _ (by omega), hlim]
      have b1 : (j : Int) < 32 := by omega
      have b3 : (m : Int) < 5 := by omega
      have b4 : r < 64 := by omega
      have b5 : q < 8 := by omega
      have e1 : IntKind.i64.wrap ((i : Int) / 8) = (j : Int) := (IntWalk.i64_in _ (by omega)).trans (by omega)
      have e2 : IntKind.i64.wrap ((i : Int) / 51) = (m : Int) := (IntWalk.i64_in _ (by omega)).trans (by omega)
      have e3 : (i : Int).tmod 51 = (r : Int) := by rw [Int.tmod_eq_emod_of_nonneg (by omega)]; omega
      have e4 : (i : Int).tmod 8 = (q : Int) := by rw [Int.tmod_eq_emod_of_nonneg (by omega)]; omega
      have hst : Hid ((feA (cut51 (n % 2 ^ i))).setIfInBounds m (.int .u64 (bits .or .u64 (lim : Int) (w64 (w64 (bits .and .u8 ((bv : Int) / 2 ^ q) 1) * 2 ^ r)))) = feA (cut51 (n % 2 ^ (i + 1)))) := by
        have hb2 : bv < 256 := by rw [hbv]; exact HBy.out _ (List.getElem_mem _)
        have hbit : n / 2 ^ i % 2 = bv / 2 ^ (i % 8) % 2 := by
          rw [HNe.out, leN_bit es HBy.out i (by rw [← hj]; exact hj32), hbv]
          simp only [hj]
        have h0 := dec_step n i bv hlt hb2 hbit
        rw [hlim, hm, hr, hq]
        exact h0
      clear hj hm hr hq hbv hlim
      go_wp2
      refine wp_region_still_tail 19 (by kernel_rfl) (by kernel_rfl) ?_
      simp only [List.take_succ_cons, List.take_zero, List.drop_succ_cons, List.drop_zero, World.drew_eq]
      (repeat still_step)
      refine wpStill_nil ?_
      go_wp2
      have hst' := hst.out
      refine ⟨⟨i + 1, x.drew, by simp, by rw [hst']; rfl, q0, q1, H.out.1.drew, by omega⟩, ?_⟩
      first | (simp [intOf]; done) | (simp [intOf]; omega)
    · have hi : i = 255 := by have := H.out.2; omega
      subst hi
      obtain ⟨s, hs⟩ : ∃ s, s = cut51 (n % 2 ^ 255) := ⟨_, rfl⟩
      rw [← hs, show feA s = #[.int .u64 s.a, .int .u64 s.b, .int .u64 s.c, .int .u64 s.d, .int .u64 s.e] from rfl]
      have HSs := Lib.hid hs
      clear hs
      have HSl : Hid (s.lt 18446744073709551616) := by rw [HSs.out]; exact Fn.lt_mono (cut51_lt _) (by decide)
      have h31 : 31 < es.length := by have := HL.out; omega
      obtain ⟨bv, hbv⟩ : ∃ b, b = es[31] := ⟨_, rfl⟩
      have HA31 : Hid (w.cell? ⟨b, off + 31, none⟩ = some (.int .u8 bv)) := by
        rw [hbv]
        exact HC.out 31 h31
      have hg : decide ((bv : Int) > 127) = false := by rw [hbv]; exact decide_eq_false (by have := topB es HL.out HBy.out (by have := HN.out; unfold Num.p at *; omega); omega)
      have hg' : decide (127 < (bv : Int)) = false := hg
      clear hbv
      have HB1 : Hid (Below w.heap.size w x) := H.out.1
      go_wp2_with fail
      have HV : Hid (s = small (leN es)) := by rw [HSs.out, HNe.out]; unfold small; congr 1; have := HN.out; unfold Num.p at *; omega
      have CR : ∀ w, Calls Tryd.prog 32 #[s.v] w fun e w' => e = .returned s.v ∧ Below w.heap.size w w' := by
        intro w
        have h0 := reduce_nat s HSl.out w
        rw [show small s.val = s from by rw [HV.out, small_val, small_mod]] at h0
        exact h0
      have CRh := Lib.hid CR
      clear CR
      refine start_ (S := Keeps w _) (ds := []) (n := 10) #[false, false, false, false, false, false, false, false, false, false] (by kernel_rfl) rfl rfl (keepsC (b := w.heap.size) (by (repeat (first | with_reducible exact pin_at (by assumption) | (with_reducible apply pin_at; (first | omega | (simp only [World.size_alloc, pin_size, World.size_drew, World.size_setCell] <;> omega))) | (with_reducible apply alloc_at; first | rfl | (simp only [World.size_alloc, pin_size, World.size_drew, World.size_setCell] <;> omega)) | with_reducible apply past_pin | with_reducible apply past_alloc | with_reducible apply past_drew)); all_goals (first | omega | (simp only [World.size_alloc, pin_size, World.size_drew, World.size_setCell] <;> omega))) (keepsC (b := w.heap.size + 1) (by (repeat (first | with_reducible exact pin_at (by assumption) | (with_reducible apply pin_at; (first | omega | (simp only [World.size_alloc, pin_size, World.size_drew, World.size_setCell] <;> omega))) | (with_reducible apply alloc_at; first | rfl | (simp only [World.size_alloc, pin_size, World.size_drew, World.size_setCell] <;> omega)) | with_reducible apply past_pin | with_reducible apply past_alloc | with_reducible apply past_drew)); all_goals (first | omega | (simp only [World.size_alloc, pin_size, World.size_drew, World.size_setCell] <;> omega))) (keeps0 (by (repeat (first | with_reducible exact HB1.out | with_reducible refine below_pin ?_ ?_ | with_reducible refine Below.alloc ?_ ?_ _ | with_reducible refine Below.setCell ?_ ?_ _ | with_reducible refine Below.drew ?_)); all_goals (first | omega | (simp only [World.size_alloc, pin_size, World.size_drew, World.size_setCell] <;> omega)))))) (fun HS => ?_)
      refine take_ #[true, false, false, false, false, false, false, false, false, false] (i := 0) (N := some 33) (v := ?v1) rfl rfl (by kernel_rfl) (fun _ _ _ h => h) (Or.inl ⟨by rfl, ?hy1⟩) HS rfl ?_
      case hy1 => (intro v hv; obtain ⟨x, rfl, hk, _, n0, n1⟩ := hv.pin2; have hAA := (hk.below.cell (p := ⟨b, off + 31, none⟩) hbw).trans HA31.out; clear hk; go_simp; first | done | with_reducible rfl)
      simp only [Act.put, List.setIfInBounds_toArray, List.set_cons_zero, List.set_cons_succ]
      refine take_ #[true, true, false, false, false, false, false, false, false, false] (i := 1) (N := some 34) (v := ?v2) rfl rfl (by kernel_rfl) (fun _ _ _ h => h) (Or.inl ⟨by rfl, ?hy2⟩) HS rfl ?_
      case hy2 => (intro v hv; obtain ⟨x, rfl, hk, _, n0, n1⟩ := hv.pin2; have hAA := (hk.below.cell (p := ⟨b, off + 31, none⟩) hbw).trans HA31.out; clear hk; go_simp; first | done | with_reducible rfl)
      simp only [Act.put, List.setIfInBounds_toArray, List.set_cons_zero, List.set_cons_succ]
      refine take_ #[true, true, true, false, false, false, false, false, false, false] (i := 2) (N := some 35) (v := ?v3) rfl rfl (by kernel_rfl) (fun _ _ _ h => h) (Or.inl ⟨by rfl, ?hy3⟩) HS rfl ?_
      case hy3 => (intro v hv; obtain ⟨x, rfl, hk, _, n0, n1⟩ := hv.pin2; have hAA := (hk.below.cell (p := ⟨b, off + 31, none⟩) hbw).trans HA31.out; clear hk; go_simp; first | done | with_reducible rfl)
      simp only [Act.put, List.setIfInBounds_toArray, List.set_cons_zero, List.set_cons_succ]
      refine take_ #[true, true, true, true, false, false, false, false, false, false] (i := 3) (N := some 36) (v := ?v4) rfl rfl (by kernel_rfl) (fun _ _ _ h => h) (Or.inl ⟨by rfl, ?hy4⟩) HS rfl ?_
      case hy4 => (intro v hv; obtain ⟨x, rfl, hk, _, n0, n1⟩ := hv.pin2; have hAA := (hk.below.cell (p := ⟨b, off + 31, none⟩) hbw).trans HA31.out; clear hk; go_simp; first | done | with_reducible rfl)
      simp only [Act.put, List.setIfInBounds_toArray, List.set_cons_zero, List.set_cons_succ]
      refine take_ #[true, true, true, true, true, false, false, false, false, false] (i := 4) (N := some 37) (v := ?v5) rfl rfl (by kernel_rfl) (fun _ _ _ h => h) (Or.inl ⟨by rfl, ?hy5⟩) HS rfl ?_
      case hy5 => (intro v hv; obtain ⟨x, rfl, hk, _, n0, n1⟩ := hv.pin2; have hAA := (hk.below.cell (p := ⟨b, off + 31, none⟩) hbw).trans HA31.out; clear hk; go_simp; first | done | with_reducible rfl)
      simp only [Act.put, List.setIfInBounds_toArray, List.set_cons_zero, List.set_cons_succ]
      refine take_ #[true, true, true, true, true, true, false, false, false, false] (i := 5) (N := some 38) (v := ?v6) rfl rfl (by kernel_rfl) (fun _ _ _ h => h) (Or.inl ⟨by rfl, ?hy6⟩) HS rfl ?_
      case hy6 => (intro v hv; obtain ⟨x, rfl, hk, _, n0, n1⟩ := hv.pin2; have hAA := (hk.below.cell (p := ⟨b, off + 31, none⟩) hbw).trans HA31.out; clear hk; go_simp; first | done | with_reducible rfl)
      simp only [Act.put, List.setIfInBounds_toArray, List.set_cons_zero, List.set_cons_succ]
      refine take_ #[true, true, true, true, true, true, false, true, false, false] (i := 7) (N := some 40) (v := ?v7) rfl rfl (by kernel_rfl) (fun _ _ _ h => h) (Or.inl ⟨by rfl, ?hy7⟩) HS rfl ?_
      case hy7 => (intro v hv; obtain ⟨x, rfl, hk, _, n0, n1⟩ := hv.pin2; have hAA := (hk.below.cell (p := ⟨b, off + 31, none⟩) hbw).trans HA31.out; clear hk; go_simp; first | done | with_reducible rfl)
      simp only [Act.put, List.setIfInBounds_toArray, List.set_cons_zero, List.set_cons_succ]
      refine one_ #[true, true, true, true, true, true, true, true, false, false] (i := 6) (N := some 39) rfl rfl (by kernel_rfl) (by decide) (fun K hK => ?_)
      go_simp
      refine (CRh.out _).mono ?_
      rintro e y ⟨rfl, hb⟩
      refine hK.out _ _ (HS.step hb rfl) ?_
      clear HS hb
      intro HS
      refine take_ #[true, true, true, true, true, true, true, true, true, false] (i := 8) (N := some 41) (v := ?v8) rfl rfl (by kernel_rfl) (fun _ _ _ h => h) (Or.inl ⟨by rfl, ?hy8⟩) HS rfl ?_
      case hy8 => (intro v hv; obtain ⟨x, rfl, hk, _, n0, n1⟩ := hv.pin2; have hAA := (hk.below.cell (p := ⟨b, off + 31, none⟩) hbw).trans HA31.out; clear hk; go_simp; first | done | with_reducible rfl)
      simp only [Act.put, List.setIfInBounds_toArray, List.set_cons_zero, List.set_cons_succ]
      refine take_ #[true, true, true, true, true, true, true, true, true, true] (i := 9) (N := some 42) (v := ?v9) rfl rfl (by kernel_rfl) (fun _ _ _ h => h) (Or.inl ⟨by rfl, ?hy9⟩) HS rfl ?_
      case hy9 => (intro v hv; obtain ⟨x, rfl, hk, _, n0, n1⟩ := hv.pin2; have hAA := (hk.below.cell (p := ⟨b, off + 31, none⟩) hbw).trans HA31.out; clear hk; go_simp; first | done | with_reducible rfl)
      simp only [Act.put, List.setIfInBounds_toArray, List.set_cons_zero, List.set_cons_succ]
      obtain ⟨x2, rfl, hk2, hz2, l20, l21⟩ := HS.pin2
      have HB2 : Hid (Below w.heap.size w x2) := hk2.below
      clear HS hk2
      refine done_ (by kernel_rfl) ?_
      go_wp2_with fail
      refine bodyPost_ret (v := .tuple #[s.v, .int .i64 0]) ?_ rfl ⟨congrArg (fun z : Fn => Ending.returned (.tuple #[z.v, .int .i64 0])) HV.out, ?_⟩
      · simp [results, Tryd.results17, go_sem, q0, q1, l20, l21]
      · exact (by (repeat (first | with_reducible exact HB2.out | with_reducible refine below_pin ?_ ?_ | with_reducible refine Below.alloc ?_ ?_ _ | with_reducible refine Below.setCell ?_ ?_ _ | with_reducible refine Below.drew ?_)); all_goals (first | omega | (simp only [World.size_alloc, pin_size, World.size_drew, World.size_setCell] <;> omega)))

set_option maxRecDepth 100000 in
set_option maxHeartbeats 4000000 in
theorem Decode_mid (A : Option Addr) (c : Nat) (es : List Nat) (hl : es.length = 32) (hby : ∀ b ∈ es, b < 256) (hcase : Num.p ≤ leN es ∧ leN es < 57896044618658097711785492504343953926634992332820282019728792003956564819968) (w : World) (hr : Rd w .u8 A es) :
    Calls Tryd.prog 17 #[.slice A es.length c] w fun e w' => e = .returned (.tuple #[(⟨0, 0, 0, 0, 0⟩ : Fn).v, .int .i64 30]) ∧ Below w.heap.size w w' := by
  have HBy := Lib.hid hby
  have HRd := Lib.hid hr
  have hd : ((32 : Int) != 32) = false := rfl
  obtain ⟨b, off, rfl, hbw, hcell⟩ := hr.place (by omega)
  have HC := Lib.hid hcell
  have HN := Lib.hid hcase
  clear hby hr hcell hcase
  obtain ⟨n, HNe⟩ : ∃ n, Hid (n = leN es) := ⟨_, rfl⟩
  have HL := Lib.hid hl
  rw [hl]
  clear hl
  go_enter Tryd.func17, Tryd.ntmps17
  go_wp2_with fail
  go_loopw [10] (fun iv wr => ∃ (i : Nat) (x : World), iv = .int .i64 (i : Int) ∧ wr = (x.pin w.heap.size (.cells #[.int .u64 0, .int .u64 0, .int .u64 0, .int .u64 0, .int .u64 0] 35)).pin (w.heap.size + 1) (.cells (feA (cut51 (n % 2 ^ i))) 35) ∧ w.heap.size < x.heap.size ∧ w.heap.size + 1 < x.heap.size ∧ Hid (Below w.heap.size w x ∧ i ≤ 255)) (fun i _ => (255 - intOf i).toNat)
  case atStart => exact ⟨0, _, rfl, pins2e (by (repeat (first | with_reducible exact pin_at (by assumption) | (with_reducible apply pin_at; (first | omega | (simp only [World.size_alloc, pin_size, World.size_drew, World.size_setCell] <;> omega))) | (with_reducible apply alloc_at; first | rfl | (simp only [World.size_alloc, pin_size, World.size_drew, World.size_setCell] <;> omega)) | with_reducible apply past_pin | with_reducible apply past_alloc | with_reducible apply past_drew)); all_goals (first | omega | (simp only [World.size_alloc, pin_size, World.size_drew, World.size_setCell] <;> omega))) (by (repeat (first | with_reducible exact pin_at (by assumption) | (with_reducible apply pin_at; (first | omega | (simp only [World.size_alloc, pin_size, World.size_drew, World.size_setCell] <;> omega))) | (with_reducible apply alloc_at; first | rfl | (simp only [World.size_alloc, pin_size, World.size_drew, World.size_setCell] <;> omega)) | with_reducible apply past_pin | with_reducible apply past_alloc | with_reducible apply past_drew)); all_goals (first | omega | (simp only [World.size_alloc, pin_size, World.size_drew, World.size_setCell] <;> omega))) rfl (by rw [Nat.pow_zero, Nat.mod_one]; rfl), (by (first | omega | (simp only [World.size_alloc, pin_size, World.size_drew, World.size_setCell] <;> omega))), (by (first | omega | (simp only [World.size_alloc, pin_size, World.size_drew, World.size_setCell] <;> omega))), (by (repeat (first | with_reducible exact (Below.refl _ _) | with_reducible refine below_pin ?_ ?_ | with_reducible refine Below.alloc ?_ ?_ _ | with_reducible refine Below.setCell ?_ ?_ _ | with_reducible refine Below.drew ?_)); all_goals (first | omega | (simp only [World.size_alloc, pin_size, World.size_drew, World.size_setCell] <;> omega))), by omega⟩
  case round =>
    obtain ⟨i, x, rfl, rfl, q0, q1, H⟩ := hrel
    by_cases hlt : i < 255
    · obtain ⟨j, hj⟩ : ∃ j, j = i / 8 := ⟨_, rfl⟩
      obtain ⟨m, hm⟩ : ∃ m, m = i / 51 := ⟨_, rfl⟩
      obtain ⟨r, hr⟩ : ∃ r, r = i % 51 := ⟨_, rfl⟩
      obtain ⟨q, hq⟩ : ∃ q, q = i % 8 := ⟨_, rfl⟩
      have hj32 : j < es.length := by have := HL.out; omega
      obtain ⟨bv, hbv⟩ : ∃ b, b = es[j] := ⟨_, rfl⟩
      obtain ⟨lim, hlim⟩ : ∃ l, l = limbAt (cut51 (n % 2 ^ i)) m := ⟨_, rfl⟩
      have hA : x.cell? ⟨b, off + j, none⟩ = some (.int .u8 bv) := by
        rw [hbv]
        exact (H.out.1.cell (p := ⟨b, off + j, none⟩) hbw).trans (HC.out j hj32)
      have hL : (feA (cut51 (n % 2 ^ i)))[m]? = some (.int .u64 lim) := by rw [feA_get _ _ (by omega), hlim]
      have b1 : (j : Int) < 32 := by omega
      have b3 : (m : Int) < 5 := by omega
      have b4 : r < 64 := by omega
      have b5 : q < 8 := by omega
      have e1 : IntKind.i64.wrap ((i : Int) / 8) = (j : Int) := (IntWalk.i64_in _ (by omega)).trans (by omega)
      have e2 : IntKind.i64.wrap ((i : Int) / 51) = (m : Int) := (IntWalk.i64_in _ (by omega)).trans (by omega)
      have e3 : (i : Int).tmod 51 = (r : Int) := by rw [Int.tmod_eq_emod_of_nonneg (by omega)]; omega
      have e4 : (i : Int).tmod 8 = (q : Int) := by rw [Int.tmod_eq_emod_of_nonneg (by omega)]; omega
      have hst : Hid ((feA (cut51 (n % 2 ^ i))).setIfInBounds m (.int .u64 (bits .or .u64 (lim : Int) (w64 (w64 (bits .and .u8 ((bv : Int) / 2 ^ q) 1) * 2 ^ r)))) = feA (cut51 (n % 2 ^ (i + 1)))) := by
        have hb2 : bv < 256 := by rw [hbv]; exact HBy.out _ (List.getElem_mem _)
        have hbit : n / 2 ^ i % 2 = bv / 2 ^ (i % 8) % 2 := by
          rw [HNe.out, leN_bit es HBy.out i (by rw [← hj]; exact hj32), hbv]
          simp only [hj]
        have h0 := dec_step n i bv hlt hb2 hbit
        rw [hlim, hm, hr, hq]
        exact h0
      clear hj hm hr hq hbv hlim
      go_wp2
      refine wp_region_still_tail 19 (by kernel_rfl) (by kernel_rfl) ?_
      simp only [List.take_succ_cons, List.take_zero, List.drop_succ_cons, List.drop_zero, World.drew_eq]
      (repeat still_step)
      refine wpStill_nil ?_
      go_wp2
      have hst' := hst.out
      refine ⟨⟨i + 1, x.drew, by simp, by rw [hst']; rfl, q0, q1, H.out.1.drew, by omega⟩, ?_⟩
      first | (simp [intOf]; done) | (simp [intOf]; omega)
    · have hi : i = 255 := by have := H.out.2; omega
      subst hi
      obtain ⟨s, hs⟩ : ∃ s, s = cut51 (n % 2 ^ 255) := ⟨_, rfl⟩
      rw [← hs, show feA s = #[.int .u64 s.a, .int .u64 s.b, .int .u64 s.c, .int .u64 s.d, .int .u64 s.e] from rfl]
      have HSs := Lib.hid hs
      clear hs
      have HSl : Hid (s.lt 18446744073709551616) := by rw [HSs.out]; exact Fn.lt_mono (cut51_lt _) (by decide)
      have h31 : 31 < es.length := by have := HL.out; omega
      obtain ⟨bv, hbv⟩ : ∃ b, b = es[31] := ⟨_, rfl⟩
      have HA31 : Hid (w.cell? ⟨b, off + 31, none⟩ = some (.int .u8 bv)) := by
        rw [hbv]
        exact HC.out 31 h31
      have hg : decide ((bv : Int) > 127) = false := by rw [hbv]; exact decide_eq_false (by have := topB es HL.out HBy.out (by have := HN.out; unfold Num.p at *; omega); omega)
      have hg' : decide (127 < (bv : Int)) = false := hg
      clear hbv
      have HB1 : Hid (Below w.heap.size w x) := H.out.1
      go_wp2_with fail
      obtain ⟨t, ht⟩ : ∃ t, t = small s.val := ⟨_, rfl⟩
      have CR : ∀ w, Calls Tryd.prog 32 #[s.v] w fun e w' => e = .returned t.v ∧ Below w.heap.size w w' := by
        intro w
        rw [ht]
        exact reduce_nat s HSl.out w
      have hv : s.val = leN es := by
        have h1 : Fn.val (cut51 (n % 2 ^ 255)) = n % 2 ^ 255 := by unfold cut51 Fn.val; simp only; omega
        rw [HSs.out, h1, HNe.out]
        have := HN.out
        omega
      have hne := neq_fe (t := t) (s := s) (by
        intro h
        have h2 := congrArg Fn.val h
        rw [ht, small_val, hv] at h2
        have := HN.out
        have := Nat.mod_lt (leN es) p_pos
        omega)
      clear hv ht
      have CRh := Lib.hid CR
      clear CR
      refine start_ (S := Keeps w _) (ds := []) (n := 10) #[false, false, false, false, false, false, false, false, false, false] (by kernel_rfl) rfl rfl (keepsC (b := w.heap.size) (by (repeat (first | with_reducible exact pin_at (by assumption) | (with_reducible apply pin_at; (first | omega | (simp only [World.size_alloc, pin_size, World.size_drew, World.size_setCell] <;> omega))) | (with_reducible apply alloc_at; first | rfl | (simp only [World.size_alloc, pin_size, World.size_drew, World.size_setCell] <;> omega)) | with_reducible apply past_pin | with_reducible apply past_alloc | with_reducible apply past_drew)); all_goals (first | omega | (simp only [World.size_alloc, pin_size, World.size_drew, World.size_setCell] <;> omega))) (keepsC (b := w.heap.size + 1) (by (repeat (first | with_reducible exact pin_at (by assumption) | (with_reducible apply pin_at; (first | omega | (simp only [World.size_alloc, pin_size, World.size_drew, World.size_setCell] <;> omega))) | (with_reducible apply alloc_at; first | rfl | (simp only [World.size_alloc, pin_size, World.size_drew, World.size_setCell] <;> omega)) | with_reducible apply past_pin | with_reducible apply past_alloc | with_reducible apply past_drew)); all_goals (first | omega | (simp only [World.size_alloc, pin_size, World.size_drew, World.size_setCell] <;> omega))) (keeps0 (by (repeat (first | with_reducible exact HB1.out | with_reducible refine below_pin ?_ ?_ | with_reducible refine Below.alloc ?_ ?_ _ | with_reducible refine Below.setCell ?_ ?_ _ | with_reducible refine Below.drew ?_)); all_goals (first | omega | (simp only [World.size_alloc, pin_size, World.size_drew, World.size_setCell] <;> omega)))))) (fun HS => ?_)
      refine take_ #[true, false, false, false, false, false, false, false, false, false] (i := 0) (N := some 33) (v := ?v1) rfl rfl (by kernel_rfl) (fun _ _ _ h => h) (Or.inl ⟨by rfl, ?hy1⟩) HS rfl ?_
      case hy1 => (intro v hv; obtain ⟨x, rfl, hk, _, n0, n1⟩ := hv.pin2; have hAA := (hk.below.cell (p := ⟨b, off + 31, none⟩) hbw).trans HA31.out; clear hk; go_simp; first | done | with_reducible rfl)
      simp only [Act.put, List.setIfInBounds_toArray, List.set_cons_zero, List.set_cons_succ]
      refine take_ #[true, true, false, false, false, false, false, false, false, false] (i := 1) (N := some 34) (v := ?v2) rfl rfl (by kernel_rfl) (fun _ _ _ h => h) (Or.inl ⟨by rfl, ?hy2⟩) HS rfl ?_
      case hy2 => (intro v hv; obtain ⟨x, rfl, hk, _, n0, n1⟩ := hv.pin2; have hAA := (hk.below.cell (p := ⟨b, off + 31, none⟩) hbw).trans HA31.out; clear hk; go_simp; first | done | with_reducible rfl)
      simp only [Act.put, List.setIfInBounds_toArray, List.set_cons_zero, List.set_cons_succ]
      refine take_ #[true, true, true, false, false, false, false, false, false, false] (i := 2) (N := some 35) (v := ?v3) rfl rfl (by kernel_rfl) (fun _ _ _ h => h) (Or.inl ⟨by rfl, ?hy3⟩) HS rfl ?_
      case hy3 => (intro v hv; obtain ⟨x, rfl, hk, _, n0, n1⟩ := hv.pin2; have hAA := (hk.below.cell (p := ⟨b, off + 31, none⟩) hbw).trans HA31.out; clear hk; go_simp; first | done | with_reducible rfl)
      simp only [Act.put, List.setIfInBounds_toArray, List.set_cons_zero, List.set_cons_succ]
      refine take_ #[true, true, true, true, false, false, false, false, false, false] (i := 3) (N := some 36) (v := ?v4) rfl rfl (by kernel_rfl) (fun _ _ _ h => h) (Or.inl ⟨by rfl, ?hy4⟩) HS rfl ?_
      case hy4 => (intro v hv; obtain ⟨x, rfl, hk, _, n0, n1⟩ := hv.pin2; have hAA := (hk.below.cell (p := ⟨b, off + 31, none⟩) hbw).trans HA31.out; clear hk; go_simp; first | done | with_reducible rfl)
      simp only [Act.put, List.setIfInBounds_toArray, List.set_cons_zero, List.set_cons_succ]
      refine take_ #[true, true, true, true, true, false, false, false, false, false] (i := 4) (N := some 37) (v := ?v5) rfl rfl (by kernel_rfl) (fun _ _ _ h => h) (Or.inl ⟨by rfl, ?hy5⟩) HS rfl ?_
      case hy5 => (intro v hv; obtain ⟨x, rfl, hk, _, n0, n1⟩ := hv.pin2; have hAA := (hk.below.cell (p := ⟨b, off + 31, none⟩) hbw).trans HA31.out; clear hk; go_simp; first | done | with_reducible rfl)
      simp only [Act.put, List.setIfInBounds_toArray, List.set_cons_zero, List.set_cons_succ]
      refine take_ #[true, true, true, true, true, true, false, false, false, false] (i := 5) (N := some 38) (v := ?v6) rfl rfl (by kernel_rfl) (fun _ _ _ h => h) (Or.inl ⟨by rfl, ?hy6⟩) HS rfl ?_
      case hy6 => (intro v hv; obtain ⟨x, rfl, hk, _, n0, n1⟩ := hv.pin2; have hAA := (hk.below.cell (p := ⟨b, off + 31, none⟩) hbw).trans HA31.out; clear hk; go_simp; first | done | with_reducible rfl)
      simp only [Act.put, List.setIfInBounds_toArray, List.set_cons_zero, List.set_cons_succ]
      refine take_ #[true, true, true, true, true, true, false, true, false, false] (i := 7) (N := some 40) (v := ?v7) rfl rfl (by kernel_rfl) (fun _ _ _ h => h) (Or.inl ⟨by rfl, ?hy7⟩) HS rfl ?_
      case hy7 => (intro v hv; obtain ⟨x, rfl, hk, _, n0, n1⟩ := hv.pin2; have hAA := (hk.below.cell (p := ⟨b, off + 31, none⟩) hbw).trans HA31.out; clear hk; go_simp; first | done | with_reducible rfl)
      simp only [Act.put, List.setIfInBounds_toArray, List.set_cons_zero, List.set_cons_succ]
      refine one_ #[true, true, true, true, true, true, true, true, false, false] (i := 6) (N := some 39) rfl rfl (by kernel_rfl) (by decide) (fun K hK => ?_)
      go_simp
      refine (CRh.out _).mono ?_
      rintro e y ⟨rfl, hb⟩
      refine hK.out _ _ (HS.step hb rfl) ?_
      clear HS hb
      intro HS
      refine take_ #[true, true, true, true, true, true, true, true, true, false] (i := 8) (N := some 41) (v := ?v8) rfl rfl (by kernel_rfl) (fun _ _ _ h => h) (Or.inl ⟨by rfl, ?hy8⟩) HS rfl ?_
      case hy8 => (intro v hv; obtain ⟨x, rfl, hk, _, n0, n1⟩ := hv.pin2; have hAA := (hk.below.cell (p := ⟨b, off + 31, none⟩) hbw).trans HA31.out; clear hk; go_simp; first | done | with_reducible rfl)
      simp only [Act.put, List.setIfInBounds_toArray, List.set_cons_zero, List.set_cons_succ]
      refine take_ #[true, true, true, true, true, true, true, true, true, true] (i := 9) (N := some 42) (v := ?v9) rfl rfl (by kernel_rfl) (fun _ _ _ h => h) (Or.inl ⟨by rfl, ?hy9⟩) HS rfl ?_
      case hy9 => (intro v hv; obtain ⟨x, rfl, hk, _, n0, n1⟩ := hv.pin2; have hAA := (hk.below.cell (p := ⟨b, off + 31, none⟩) hbw).trans HA31.out; clear hk; go_simp; first | done | with_reducible rfl)
      simp only [Act.put, List.setIfInBounds_toArray, List.set_cons_zero, List.set_cons_succ]
      obtain ⟨x2, rfl, hk2, hz2, l20, l21⟩ := HS.pin2
      have HB2 : Hid (Below w.heap.size w x2) := hk2.below
      clear HS hk2
      refine done_ (by kernel_rfl) ?_
      go_wp2_with fail
      refine bodyPost_ret (v := .tuple #[(⟨0, 0, 0, 0, 0⟩ : Fn).v, .int .i64 30]) ?_ rfl ⟨rfl, ?_⟩
      · simp [results, Tryd.results17, go_sem, q0, q1, l20, l21]
      · exact (by (repeat (first | with_reducible exact HB2.out | with_reducible refine below_pin ?_ ?_ | with_reducible refine Below.alloc ?_ ?_ _ | with_reducible refine Below.setCell ?_ ?_ _ | with_reducible refine Below.drew ?_)); all_goals (first | omega | (simp only [World.size_alloc, pin_size, World.size_drew, World.size_setCell] <;> omega)))

set_option maxRecDepth 100000 in
set_option maxHeartbeats 4000000 in
theorem Decode_top (A : Option Addr) (c : Nat) (es : List Nat) (hl : es.length = 32) (hby : ∀ b ∈ es, b < 256) (hcase : 57896044618658097711785492504343953926634992332820282019728792003956564819968 ≤ leN es) (w : World) (hr : Rd w .u8 A es) :
    Calls Tryd.prog 17 #[.slice A es.length c] w fun e w' => e = .returned (.tuple #[(⟨0, 0, 0, 0, 0⟩ : Fn).v, .int .i64 30]) ∧ Below w.heap.size w w' := by
  have HBy := Lib.hid hby
  have HRd := Lib.hid hr
  have hd : ((32 : Int) != 32) = false := rfl
  obtain ⟨b, off, rfl, hbw, hcell⟩ := hr.place (by omega)
  have HC := Lib.hid hcell
  have HN := Lib.hid hcase
  clear hby hr hcell hcase
  obtain ⟨n, HNe⟩ : ∃ n, Hid (n = leN es) := ⟨_, rfl⟩
  have HL := Lib.hid hl
  rw [hl]
  clear hl
  go_enter Tryd.func17, Tryd.ntmps17
  go_wp2_with fail
  go_loopw [10] (fun iv wr => ∃ (i : Nat) (x : World), iv = .int .i64 (i : Int) ∧ wr = (x.pin w.heap.size (.cells #[.int .u64 0, .int .u64 0, .int .u64 0, .int .u64 0, .int .u64 0] 35)).pin (w.heap.size + 1) (.cells (feA (cut51 (n % 2 ^ i))) 35) ∧ w.heap.size < x.heap.size ∧ w.heap.size + 1 < x.heap.size ∧ Hid (Below w.heap.size w x ∧ i ≤ 255)) (fun i _ => (255 - intOf i).toNat)
  case atStart => exact ⟨0, _, rfl, pins2e (by (repeat (first | with_reducible exact pin_at (by assumption) | (with_reducible apply pin_at; (first | omega | (simp only [World.size_alloc, pin_size, World.size_drew, World.size_setCell] <;> omega))) | (with_reducible apply alloc_at; first | rfl | (simp only [World.size_alloc, pin_size, World.size_drew, World.size_setCell] <;> omega)) | with_reducible apply past_pin | with_reducible apply past_alloc | with_reducible apply past_drew)); all_goals (first | omega | (simp only [World.size_alloc, pin_size, World.size_drew, World.size_setCell] <;> omega))) (by (repeat (first | with_reducible exact pin_at (by assumption) | (with_reducible apply pin_at; (first | omega | (simp only [World.size_alloc, pin_size, World.size_drew, World.size_setCell] <;> omega))) | (with_reducible apply alloc_at; first | rfl | (simp only [World.size_alloc, pin_size, World.size_drew, World.size_setCell] <;> omega)) | with_reducible apply past_pin | with_reducible apply past_alloc | with_reducible apply past_drew)); all_goals (first | omega | (simp only [World.size_alloc, pin_size, World.size_drew, World.size_setCell] <;> omega))) rfl (by rw [Nat.pow_zero, Nat.mod_one]; rfl), (by (first | omega | (simp only [World.size_alloc, pin_size, World.size_drew, World.size_setCell] <;> omega))), (by (first | omega | (simp only [World.size_alloc, pin_size, World.size_drew, World.size_setCell] <;> omega))), (by (repeat (first | with_reducible exact (Below.refl _ _) | with_reducible refine below_pin ?_ ?_ | with_reducible refine Below.alloc ?_ ?_ _ | with_reducible refine Below.setCell ?_ ?_ _ | with_reducible refine Below.drew ?_)); all_goals (first | omega | (simp only [World.size_alloc, pin_size, World.size_drew, World.size_setCell] <;> omega))), by omega⟩
  case round =>
    obtain ⟨i, x, rfl, rfl, q0, q1, H⟩ := hrel
    by_cases hlt : i < 255
    · obtain ⟨j, hj⟩ : ∃ j, j = i / 8 := ⟨_, rfl⟩
      obtain ⟨m, hm⟩ : ∃ m, m = i / 51 := ⟨_, rfl⟩
      obtain ⟨r, hr⟩ : ∃ r, r = i % 51 := ⟨_, rfl⟩
      obtain ⟨q, hq⟩ : ∃ q, q = i % 8 := ⟨_, rfl⟩
      have hj32 : j < es.length := by have := HL.out; omega
      obtain ⟨bv, hbv⟩ : ∃ b, b = es[j] := ⟨_, rfl⟩
      obtain ⟨lim, hlim⟩ : ∃ l, l = limbAt (cut51 (n % 2 ^ i)) m := ⟨_, rfl⟩
      have hA : x.cell? ⟨b, off + j, none⟩ = some (.int .u8 bv) := by
        rw [hbv]
        exact (H.out.1.cell (p := ⟨b, off + j, none⟩) hbw).trans (HC.out j hj32)
      have hL : (feA (cut51 (n % 2 ^ i)))[m]? = some (.int .u64 lim) := by rw [feA_get _ _ (by omega), hlim]
      have b1 : (j : Int) < 32 := by omega
      have b3 : (m : Int) < 5 := by omega
      have b4 : r < 64 := by omega
      have b5 : q < 8 := by omega
      have e1 : IntKind.i64.wrap ((i : Int) / 8) = (j : Int) := (IntWalk.i64_in _ (by omega)).trans (by omega)
      have e2 : IntKind.i64.wrap ((i : Int) / 51) = (m : Int) := (IntWalk.i64_in _ (by omega)).trans (by omega)
      have e3 : (i : Int).tmod 51 = (r : Int) := by rw [Int.tmod_eq_emod_of_nonneg (by omega)]; omega
      have e4 : (i : Int).tmod 8 = (q : Int) := by rw [Int.tmod_eq_emod_of_nonneg (by omega)]; omega
      have hst : Hid ((feA (cut51 (n % 2 ^ i))).setIfInBounds m (.int .u64 (bits .or .u64 (lim : Int) (w64 (w64 (bits .and .u8 ((bv : Int) / 2 ^ q) 1) * 2 ^ r)))) = feA (cut51 (n % 2 ^ (i + 1)))) := by
        have hb2 : bv < 256 := by rw [hbv]; exact HBy.out _ (List.getElem_mem _)
        have hbit : n / 2 ^ i % 2 = bv / 2 ^ (i % 8) % 2 := by
          rw [HNe.out, leN_bit es HBy.out i (by rw [← hj]; exact hj32), hbv]
          simp only [hj]
        have h0 := dec_step n i bv hlt hb2 hbit
        rw [hlim, hm, hr, hq]
        exact h0
      clear hj hm hr hq hbv hlim
      go_wp2
      refine wp_region_still_tail 19 (by kernel_rfl) (by kernel_rfl) ?_
      simp only [List.take_succ_cons, List.take_zero, List.drop_succ_cons, List.drop_zero, World.drew_eq]
      (repeat still_step)
      refine wpStill_nil ?_
      go_wp2
      have hst' := hst.out
      refine ⟨⟨i + 1, x.drew, by simp, by rw [hst']; rfl, q0, q1, H.out.1.drew, by omega⟩, ?_⟩
      first | (simp [intOf]; done) | (simp [intOf]; omega)
    · have hi : i = 255 := by have := H.out.2; omega
      subst hi
      obtain ⟨s, hs⟩ : ∃ s, s = cut51 (n % 2 ^ 255) := ⟨_, rfl⟩
      rw [← hs, show feA s = #[.int .u64 s.a, .int .u64 s.b, .int .u64 s.c, .int .u64 s.d, .int .u64 s.e] from rfl]
      have HSs := Lib.hid hs
      clear hs
      have HSl : Hid (s.lt 18446744073709551616) := by rw [HSs.out]; exact Fn.lt_mono (cut51_lt _) (by decide)
      have h31 : 31 < es.length := by have := HL.out; omega
      obtain ⟨bv, hbv⟩ : ∃ b, b = es[31] := ⟨_, rfl⟩
      have HA31 : Hid (w.cell? ⟨b, off + 31, none⟩ = some (.int .u8 bv)) := by
        rw [hbv]
        exact HC.out 31 h31
      have hg : decide ((bv : Int) > 127) = true := by rw [hbv]; exact decide_eq_true (by have := topA es HL.out HBy.out HN.out; omega)
      have hg' : decide (127 < (bv : Int)) = true := hg
      clear hbv
      have HB1 : Hid (Below w.heap.size w x) := H.out.1
      go_wp2_with fail
      refine start_ (S := Keeps w _) (ds := []) (n := 10) #[false, false, false, false, false, false, false, false, false, false] (by kernel_rfl) rfl rfl (keepsC (b := w.heap.size) (by (repeat (first | with_reducible exact pin_at (by assumption) | (with_reducible apply pin_at; (first | omega | (simp only [World.size_alloc, pin_size, World.size_drew, World.size_setCell] <;> omega))) | (with_reducible apply alloc_at; first | rfl | (simp only [World.size_alloc, pin_size, World.size_drew, World.size_setCell] <;> omega)) | with_reducible apply past_pin | with_reducible apply past_alloc | with_reducible apply past_drew)); all_goals (first | omega | (simp only [World.size_alloc, pin_size, World.size_drew, World.size_setCell] <;> omega))) (keepsC (b := w.heap.size + 1) (by (repeat (first | with_reducible exact pin_at (by assumption) | (with_reducible apply pin_at; (first | omega | (simp only [World.size_alloc, pin_size, World.size_drew, World.size_setCell] <;> omega))) | (with_reducible apply alloc_at; first | rfl | (simp only [World.size_alloc, pin_size, World.size_drew, World.size_setCell] <;> omega)) | with_reducible apply past_pin | with_reducible apply past_alloc | with_reducible apply past_drew)); all_goals (first | omega | (simp only [World.size_alloc, pin_size, World.size_drew, World.size_setCell] <;> omega))) (keeps0 (by (repeat (first | with_reducible exact HB1.out | with_reducible refine below_pin ?_ ?_ | with_reducible refine Below.alloc ?_ ?_ _ | with_reducible refine Below.setCell ?_ ?_ _ | with_reducible refine Below.drew ?_)); all_goals (first | omega | (simp only [World.size_alloc, pin_size, World.size_drew, World.size_setCell] <;> omega)))))) (fun HS => ?_)
      refine take_ #[true, false, false, false, false, false, false, false, false, false] (i := 0) (N := some 33) (v := ?v1) rfl rfl (by kernel_rfl) (fun _ _ _ h => h) (Or.inl ⟨by rfl, ?hy1⟩) HS rfl ?_
      case hy1 => (intro v hv; obtain ⟨x, rfl, hk, _, n0, n1⟩ := hv.pin2; have hAA := (hk.below.cell (p := ⟨b, off + 31, none⟩) hbw).trans HA31.out; clear hk; go_simp; first | done | with_reducible rfl)
      simp only [Act.put, List.setIfInBounds_toArray, List.set_cons_zero, List.set_cons_succ]
      refine take_ #[true, true, false, false, false, false, false, false, false, false] (i := 1) (N := some 34) (v := ?v2) rfl rfl (by kernel_rfl) (fun _ _ _ h => h) (Or.inl ⟨by rfl, ?hy2⟩) HS rfl ?_
      case hy2 => (intro v hv; obtain ⟨x, rfl, hk, _, n0, n1⟩ := hv.pin2; have hAA := (hk.below.cell (p := ⟨b, off + 31, none⟩) hbw).trans HA31.out; clear hk; go_simp; first | done | with_reducible rfl)
      simp only [Act.put, List.setIfInBounds_toArray, List.set_cons_zero, List.set_cons_succ]
      refine take_ #[true, true, true, false, false, false, false, false, false, false] (i := 2) (N := some 35) (v := ?v3) rfl rfl (by kernel_rfl) (fun _ _ _ h => h) (Or.inl ⟨by rfl, ?hy3⟩) HS rfl ?_
      case hy3 => (intro v hv; obtain ⟨x, rfl, hk, _, n0, n1⟩ := hv.pin2; have hAA := (hk.below.cell (p := ⟨b, off + 31, none⟩) hbw).trans HA31.out; clear hk; go_simp; first | done | with_reducible rfl)
      simp only [Act.put, List.setIfInBounds_toArray, List.set_cons_zero, List.set_cons_succ]
      refine take_ #[true, true, true, true, false, false, false, false, false, false] (i := 3) (N := some 36) (v := ?v4) rfl rfl (by kernel_rfl) (fun _ _ _ h => h) (Or.inl ⟨by rfl, ?hy4⟩) HS rfl ?_
      case hy4 => (intro v hv; obtain ⟨x, rfl, hk, _, n0, n1⟩ := hv.pin2; have hAA := (hk.below.cell (p := ⟨b, off + 31, none⟩) hbw).trans HA31.out; clear hk; go_simp; first | done | with_reducible rfl)
      simp only [Act.put, List.setIfInBounds_toArray, List.set_cons_zero, List.set_cons_succ]
      refine take_ #[true, true, true, true, true, false, false, false, false, false] (i := 4) (N := some 37) (v := ?v5) rfl rfl (by kernel_rfl) (fun _ _ _ h => h) (Or.inl ⟨by rfl, ?hy5⟩) HS rfl ?_
      case hy5 => (intro v hv; obtain ⟨x, rfl, hk, _, n0, n1⟩ := hv.pin2; have hAA := (hk.below.cell (p := ⟨b, off + 31, none⟩) hbw).trans HA31.out; clear hk; go_simp; first | done | with_reducible rfl)
      simp only [Act.put, List.setIfInBounds_toArray, List.set_cons_zero, List.set_cons_succ]
      refine take_ #[true, true, true, true, true, true, false, false, false, false] (i := 5) (N := some 38) (v := undef) rfl rfl (by kernel_rfl) (fun _ _ _ h => h) (Or.inr ⟨by rfl, rfl⟩) HS rfl ?_
      simp only [Act.put, List.setIfInBounds_toArray, List.set_cons_zero, List.set_cons_succ]
      refine take_ #[true, true, true, true, true, true, true, false, false, false] (i := 6) (N := some 39) (v := undef) rfl rfl (by kernel_rfl) (fun _ _ _ h => h) (Or.inr ⟨by rfl, rfl⟩) HS rfl ?_
      simp only [Act.put, List.setIfInBounds_toArray, List.set_cons_zero, List.set_cons_succ]
      refine take_ #[true, true, true, true, true, true, true, true, false, false] (i := 7) (N := some 40) (v := undef) rfl rfl (by kernel_rfl) (fun _ _ _ h => h) (Or.inr ⟨by rfl, rfl⟩) HS rfl ?_
      simp only [Act.put, List.setIfInBounds_toArray, List.set_cons_zero, List.set_cons_succ]
      refine take_ #[true, true, true, true, true, true, true, true, true, false] (i := 8) (N := some 41) (v := undef) rfl rfl (by kernel_rfl) (fun _ _ _ h => h) (Or.inr ⟨by rfl, rfl⟩) HS rfl ?_
      simp only [Act.put, List.setIfInBounds_toArray, List.set_cons_zero, List.set_cons_succ]
      refine take_ #[true, true, true, true, true, true, true, true, true, true] (i := 9) (N := some 42) (v := ?v6) rfl rfl (by kernel_rfl) (fun _ _ _ h => h) (Or.inl ⟨by rfl, ?hy6⟩) HS rfl ?_
      case hy6 => (intro v hv; obtain ⟨x, rfl, hk, _, n0, n1⟩ := hv.pin2; have hAA := (hk.below.cell (p := ⟨b, off + 31, none⟩) hbw).trans HA31.out; clear hk; go_simp; first | done | with_reducible rfl)
      simp only [Act.put, List.setIfInBounds_toArray, List.set_cons_zero, List.set_cons_succ]
      clear HS
      refine done_ (by kernel_rfl) ?_
      go_wp2_with fail
      refine bodyPost_ret (v := .tuple #[(⟨0, 0, 0, 0, 0⟩ : Fn).v, .int .i64 30]) ?_ rfl ⟨rfl, ?_⟩
      · simp [results, Tryd.results17, go_sem, q0, q1]
      · exact (by (repeat (first | with_reducible exact HB1.out | with_reducible refine below_pin ?_ ?_ | with_reducible refine Below.alloc ?_ ?_ _ | with_reducible refine Below.setCell ?_ ?_ _ | with_reducible refine Below.drew ?_)); all_goals (first | omega | (simp only [World.size_alloc, pin_size, World.size_drew, World.size_setCell] <;> omega)))


end Go.Proofs.YtljolpdpblohcaaDoor
