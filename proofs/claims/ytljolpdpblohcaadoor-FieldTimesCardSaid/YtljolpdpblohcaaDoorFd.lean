/-
  Walks: package field, powers.
-/
import Derived.Test.YtljolpdpblohcaaDoorFc
import Derived.Test.YtljolpdpblohcaaDoorRd
namespace Go.Proofs.YtljolpdpblohcaaDoor
open Go.RowKit Go.Proofs.YtljolpdpblohcaaDoorW.PrintLast
set_option linter.unusedSimpArgs false

/-- 32 bytes: the lowest, thirty of 255, the highest. -/
def nearL (lo hi : Nat) : List Nat := [lo, 255, 255, 255, 255, 255, 255, 255, 255, 255, 255, 255, 255, 255, 255, 255, 255, 255, 255, 255, 255, 255, 255, 255, 255, 255, 255, 255, 255, 255, 255, hi]
theorem make32 (w : World) : (Instr.makeSlice 22 (.int .i64 32) (.int .i64 32)).run Tryd.prog w = .ok (.slice (some ⟨w.heap.size, 0, none⟩) 32 32) (w.alloc (.cells #[.int .u8 0, .int .u8 0, .int .u8 0, .int .u8 0, .int .u8 0, .int .u8 0, .int .u8 0, .int .u8 0, .int .u8 0, .int .u8 0, .int .u8 0, .int .u8 0, .int .u8 0, .int .u8 0, .int .u8 0, .int .u8 0, .int .u8 0, .int .u8 0, .int .u8 0, .int .u8 0, .int .u8 0, .int .u8 0, .int .u8 0, .int .u8 0, .int .u8 0, .int .u8 0, .int .u8 0, .int .u8 0, .int .u8 0, .int .u8 0, .int .u8 0, .int .u8 0] 5)) := by kernel_rfl

set_option maxRecDepth 100000 in
set_option maxHeartbeats 4000000 in
theorem near_any (lo hi : Nat) (w : World) :
    Calls Tryd.prog 37 #[.int .u8 lo, .int .u8 hi] w fun e w' => (∃ A c, e = .returned (.slice A 32 c) ∧ Rd w' .u8 A (nearL lo hi)) ∧ Below w.heap.size w w' := by
  have hmk := make32
  go_enter Tryd.func37, Tryd.ntmps37
  go_wp2
  refine wp_loop_rounds 33 ?_
  iterate 33 (rw [rounds_succ]; go_wp2)
  go_ret
  refine ⟨⟨_, _, rfl, rd_block (b := w.heap.size) (by (repeat (first | with_reducible exact pin_at (by assumption) | (with_reducible apply pin_at; (first | omega | (simp only [World.size_alloc, pin_size, World.size_drew, World.size_setCell] <;> omega))) | (with_reducible apply alloc_at; first | rfl | (simp only [World.size_alloc, pin_size, World.size_drew, World.size_setCell] <;> omega)) | with_reducible apply past_pin | with_reducible apply past_alloc | with_reducible apply past_drew)); all_goals (first | omega | (simp only [World.size_alloc, pin_size, World.size_drew, World.size_setCell] <;> omega))) ?_⟩, (by (repeat (first | with_reducible exact (Below.refl _ _) | with_reducible refine below_pin ?_ ?_ | with_reducible refine Below.alloc ?_ ?_ _ | with_reducible refine Below.setCell ?_ ?_ _ | with_reducible refine Below.drew ?_)); all_goals (first | omega | (simp only [World.size_alloc, pin_size, World.size_drew, World.size_setCell] <;> omega)))⟩
  intro i hi
  have hi' : i < 32 := hi
  clear hmk
  rcases i with _ | _ | _ | _ | _ | _ | _ | _ | _ | _ | _ | _ | _ | _ | _ | _ | _ | _ | _ | _ | _ | _ | _ | _ | _ | _ | _ | _ | _ | _ | _ | _ | i
  all_goals first | rfl | omega

/-- The lowest digit of a byte that was moved. -/
theorem bit_u8 (e k : Nat) (h : e < 256) : (bits .and .u8 ((e : Int) / 2 ^ (k % 8)) 1 == 1) = decide (e / 2 ^ (k % 8) % 2 = 1) := by
  have e1 : ((e : Int) / 2 ^ (k % 8)) = ((e / 2 ^ (k % 8) : Nat) : Int) := by rw [Int.natCast_ediv, Int.natCast_pow]; rfl
  have hlt : e / 2 ^ (k % 8) < 256 := Nat.lt_of_le_of_lt (Nat.div_le_self _ _) h
  rw [e1]
  generalize e / 2 ^ (k % 8) = n at *
  have hb := (bits_nat .u8 8 (by decide) wraps_u8 n 1 (by omega) (by omega)).1
  have e2 : bits .and .u8 (n : Int) 1 = ((n % 2 : Nat) : Int) := by
    rw [← Nat.and_one_is_mod]; exact hb
  rw [e2]
  by_cases hn : n % 2 = 1
  · rw [hn]; rfl
  · have : n % 2 = 0 := by omega
    rw [this]; rfl

theorem pow_step {a r s E k P : Nat} (hr : r % P = a ^ (E / 2 ^ (k + 1)) % P) (hs : s % P = r * r % P) (hb : E / 2 ^ k % 2 = 0) : s % P = a ^ (E / 2 ^ k) % P := by
  have e1 : E / 2 ^ k = E / 2 ^ (k + 1) + E / 2 ^ (k + 1) := by
    rw [Nat.pow_succ, ← Nat.div_div_eq_div_mul]; omega
  rw [e1]
  generalize E / 2 ^ (k + 1) = q at *
  rw [hs, Nat.mul_mod, hr, ← Nat.mul_mod, Nat.pow_add]
theorem pow_step1 {a r s u E k P : Nat} (hr : r % P = a ^ (E / 2 ^ (k + 1)) % P) (hs : s % P = r * r % P) (hu : u % P = s * a % P) (hb : E / 2 ^ k % 2 = 1) : u % P = a ^ (E / 2 ^ k) % P := by
  have e1 : E / 2 ^ k = E / 2 ^ (k + 1) + E / 2 ^ (k + 1) + 1 := by
    rw [Nat.pow_succ, ← Nat.div_div_eq_div_mul]; omega
  rw [e1]
  generalize E / 2 ^ (k + 1) = q at *
  have h1 : s % P = (a ^ q * a ^ q) % P := by rw [hs, Nat.mul_mod, hr, ← Nat.mul_mod]
  rw [hu, Nat.mul_mod, h1, ← Nat.mul_mod, Nat.pow_succ, Nat.pow_add]

set_option maxRecDepth 100000 in
set_option maxHeartbeats 4000000 in
theorem power_any (a : Fn) (ha : a.lt 4503599627370496) (A : Option Addr) (c : Nat) (es : List Nat) (hl : es.length ≤ 1000) (hby : ∀ b ∈ es, b < 256) (w : World) (hr : Rd w .u8 A es) :
    Calls Tryd.prog 36 #[a.v, .slice A es.length c] w fun e w' => (∃ r : Fn, r.lt (2251799813685248 + 19) ∧ r.val % Num.p = a.val ^ leN es % Num.p ∧ e = .returned r.v) ∧ Below w.heap.size w w' := by
  have HA := Lib.hid ha
  have HRd := Lib.hid hr
  have HBy := Lib.hid hby
  clear ha hr hby
  go_enter Tryd.func36, Tryd.ntmps36
  go_wp2_with fail
  refine (Small_any 1 (by decide) _).mono ?_
  rintro e y1 ⟨rfl, hb1⟩
  obtain ⟨x1, rfl, hc1, hz1, l10, l11⟩ := keep2 (b0 := w.heap.size) (b1 := w.heap.size + 1) hb1 rfl (by (repeat (first | with_reducible exact pin_at (by assumption) | (with_reducible apply pin_at; (first | omega | (simp only [World.size_alloc, pin_size, World.size_drew, World.size_setCell] <;> omega))) | (with_reducible apply alloc_at; first | rfl | (simp only [World.size_alloc, pin_size, World.size_drew, World.size_setCell] <;> omega)) | with_reducible apply past_pin | with_reducible apply past_alloc | with_reducible apply past_drew)); all_goals (first | omega | (simp only [World.size_alloc, pin_size, World.size_drew, World.size_setCell] <;> omega))) (by (repeat (first | with_reducible exact pin_at (by assumption) | (with_reducible apply pin_at; (first | omega | (simp only [World.size_alloc, pin_size, World.size_drew, World.size_setCell] <;> omega))) | (with_reducible apply alloc_at; first | rfl | (simp only [World.size_alloc, pin_size, World.size_drew, World.size_setCell] <;> omega)) | with_reducible apply past_pin | with_reducible apply past_alloc | with_reducible apply past_drew)); all_goals (first | omega | (simp only [World.size_alloc, pin_size, World.size_drew, World.size_setCell] <;> omega)))
  have HB1 : Hid (Below w.heap.size w x1) := Below.trans (by (repeat (first | with_reducible exact (Below.refl _ _) | with_reducible refine below_pin ?_ ?_ | with_reducible refine Below.alloc ?_ ?_ _ | with_reducible refine Below.setCell ?_ ?_ _ | with_reducible refine Below.drew ?_)); all_goals (first | omega | (simp only [World.size_alloc, pin_size, World.size_drew, World.size_setCell] <;> omega))) (hc1.mono (by (first | omega | (simp only [World.size_alloc, pin_size, World.size_drew, World.size_setCell] <;> omega))))
  clear hb1 hc1
  try simp only [World.size_alloc, pin_size, World.size_drew, World.size_setCell] at hz1
  go_wp2_with fail
  have HP : Hid (w.heap.size ≤ x1.heap.size) := by have := HB1.out.size; exact this
  go_loopw [6] (fun i wr => ∃ (k : Nat) (r : Fn) (x : World), i = .int .i64 ((k : Int) - 1) ∧ wr = ((x.pin w.heap.size (.cells #[.int .u64 a.a, .int .u64 a.b, .int .u64 a.c, .int .u64 a.d, .int .u64 a.e] 35)).pin (w.heap.size + 1) (.cells #[.int .u64 0, .int .u64 0, .int .u64 0, .int .u64 0, .int .u64 0] 35)).pin x1.heap.size (.cells #[.int .u64 r.a, .int .u64 r.b, .int .u64 r.c, .int .u64 r.d, .int .u64 r.e] 35) ∧ w.heap.size < x.heap.size ∧ w.heap.size + 1 < x.heap.size ∧ x1.heap.size < x.heap.size ∧ Hid (Below w.heap.size w x ∧ k ≤ 8 * es.length ∧ r.lt (2251799813685248 + 19) ∧ r.val % Num.p = a.val ^ (leN es / 2 ^ k) % Num.p)) (fun i _ => (intOf i + 1).toNat)
  case atStart => exact ⟨8 * es.length, small 1, _, by simp, pins3 (by (repeat (first | with_reducible exact pin_at (by assumption) | (with_reducible apply pin_at; (first | omega | (simp only [World.size_alloc, pin_size, World.size_drew, World.size_setCell] <;> omega))) | (with_reducible apply alloc_at; first | rfl | (simp only [World.size_alloc, pin_size, World.size_drew, World.size_setCell] <;> omega)) | with_reducible apply past_pin | with_reducible apply past_alloc | with_reducible apply past_drew)); all_goals (first | omega | (simp only [World.size_alloc, pin_size, World.size_drew, World.size_setCell] <;> omega))) (by (repeat (first | with_reducible exact pin_at (by assumption) | (with_reducible apply pin_at; (first | omega | (simp only [World.size_alloc, pin_size, World.size_drew, World.size_setCell] <;> omega))) | (with_reducible apply alloc_at; first | rfl | (simp only [World.size_alloc, pin_size, World.size_drew, World.size_setCell] <;> omega)) | with_reducible apply past_pin | with_reducible apply past_alloc | with_reducible apply past_drew)); all_goals (first | omega | (simp only [World.size_alloc, pin_size, World.size_drew, World.size_setCell] <;> omega))) (by (repeat (first | with_reducible exact pin_at (by assumption) | (with_reducible apply pin_at; (first | omega | (simp only [World.size_alloc, pin_size, World.size_drew, World.size_setCell] <;> omega))) | (with_reducible apply alloc_at; first | rfl | (simp only [World.size_alloc, pin_size, World.size_drew, World.size_setCell] <;> omega)) | with_reducible apply past_pin | with_reducible apply past_alloc | with_reducible apply past_drew)); all_goals (first | omega | (simp only [World.size_alloc, pin_size, World.size_drew, World.size_setCell] <;> omega))), (by (first | omega | (simp only [World.size_alloc, pin_size, World.size_drew, World.size_setCell] <;> omega))), (by (first | omega | (simp only [World.size_alloc, pin_size, World.size_drew, World.size_setCell] <;> omega))), (by (first | omega | (simp only [World.size_alloc, pin_size, World.size_drew, World.size_setCell] <;> omega))), (by (repeat (first | with_reducible exact HB1.out | with_reducible refine below_pin ?_ ?_ | with_reducible refine Below.alloc ?_ ?_ _ | with_reducible refine Below.setCell ?_ ?_ _ | with_reducible refine Below.drew ?_)); all_goals (first | omega | (simp only [World.size_alloc, pin_size, World.size_drew, World.size_setCell] <;> omega))), Nat.le_refl _, Fn.lt_mono (small_lt 1) (by decide), by rw [leN_top es HBy.out, small_val, Nat.pow_zero, Nat.mod_mod]⟩
  case round =>
    obtain ⟨k, r, x, rfl, rfl, q0, q1, q2, H⟩ := hrel
    rcases k with _ | k
    · go_wp2_with fail
      exact bodyPost_ret (v := r.v) (by simp [results, Tryd.results36, go_sem, q0, q1, q2, l10, l11]) rfl ⟨⟨r, H.out.2.2.1, by rw [H.out.2.2.2, Nat.pow_zero, Nat.div_one], rfl⟩, (by (repeat (first | with_reducible exact H.out.1 | with_reducible refine below_pin ?_ ?_ | with_reducible refine Below.alloc ?_ ?_ _ | with_reducible refine Below.setCell ?_ ?_ _ | with_reducible refine Below.drew ?_)); all_goals (first | omega | (simp only [World.size_alloc, pin_size, World.size_drew, World.size_setCell] <;> omega)))⟩
    · rw [show (((k + 1 : Nat) : Int) - 1) = (k : Int) from by omega]
      have hk8 : k / 8 < es.length := by have := H.out.2.1; omega
      obtain ⟨b, off, rfl, hbw, hcell⟩ := HRd.out.place (by omega)
      have hbx : b < x1.heap.size := by have := HP.out; omega
      obtain ⟨ev, hev⟩ : ∃ v, v = es[k / 8] := ⟨_, rfl⟩
      have hc := hcell (k / 8) hk8
      rw [← hev] at hc
      have HC := Lib.hid hc
      have HE := Lib.hid hev
      clear hc hcell hev
      have hi0 : (0 : Int) ≤ (k : Int) / 8 := by omega
      have hi1 : (k : Int) / 8 < (es.length : Int) := by omega
      have HB2 : Hid (Below w.heap.size w x) := H.out.1
      have hE : leN es / 2 ^ k % 2 = ev / 2 ^ (k % 8) % 2 := by rw [leN_bit es HBy.out k hk8]; simp only [HE.out]
      have hev : ev < 256 := by rw [HE.out]; exact HBy.out _ (List.getElem_mem _)
      have HBit := Lib.hid (And.intro hE (bit_u8 ev k hev))
      clear hE hev
      go_wp2_with fail
      refine (mul_any r r (wk H.out.2.2.1) (wk H.out.2.2.1) _).mono ?_
      rintro e y3 ⟨⟨r2, hr2, hv2, rfl⟩, hb3⟩
      obtain ⟨x3, rfl, hc3, hz3, l30, l31, l32⟩ := keep3 (b0 := w.heap.size) (b1 := w.heap.size + 1) (b2 := x1.heap.size) hb3 rfl (by (repeat (first | with_reducible exact pin_at (by assumption) | (with_reducible apply pin_at; (first | omega | (simp only [World.size_alloc, pin_size, World.size_drew, World.size_setCell] <;> omega))) | (with_reducible apply alloc_at; first | rfl | (simp only [World.size_alloc, pin_size, World.size_drew, World.size_setCell] <;> omega)) | with_reducible apply past_pin | with_reducible apply past_alloc | with_reducible apply past_drew)); all_goals (first | omega | (simp only [World.size_alloc, pin_size, World.size_drew, World.size_setCell] <;> omega))) (by (repeat (first | with_reducible exact pin_at (by assumption) | (with_reducible apply pin_at; (first | omega | (simp only [World.size_alloc, pin_size, World.size_drew, World.size_setCell] <;> omega))) | (with_reducible apply alloc_at; first | rfl | (simp only [World.size_alloc, pin_size, World.size_drew, World.size_setCell] <;> omega)) | with_reducible apply past_pin | with_reducible apply past_alloc | with_reducible apply past_drew)); all_goals (first | omega | (simp only [World.size_alloc, pin_size, World.size_drew, World.size_setCell] <;> omega))) (by (repeat (first | with_reducible exact pin_at (by assumption) | (with_reducible apply pin_at; (first | omega | (simp only [World.size_alloc, pin_size, World.size_drew, World.size_setCell] <;> omega))) | (with_reducible apply alloc_at; first | rfl | (simp only [World.size_alloc, pin_size, World.size_drew, World.size_setCell] <;> omega)) | with_reducible apply past_pin | with_reducible apply past_alloc | with_reducible apply past_drew)); all_goals (first | omega | (simp only [World.size_alloc, pin_size, World.size_drew, World.size_setCell] <;> omega)))
      have HB3 : Hid (Below w.heap.size w x3) := Below.trans (by (repeat (first | with_reducible exact HB2.out | with_reducible refine below_pin ?_ ?_ | with_reducible refine Below.alloc ?_ ?_ _ | with_reducible refine Below.setCell ?_ ?_ _ | with_reducible refine Below.drew ?_)); all_goals (first | omega | (simp only [World.size_alloc, pin_size, World.size_drew, World.size_setCell] <;> omega))) (hc3.mono (by (first | omega | (simp only [World.size_alloc, pin_size, World.size_drew, World.size_setCell] <;> omega))))
      clear hb3 hc3
      try simp only [World.size_alloc, pin_size, World.size_drew, World.size_setCell] at hz3
      have HR2 := Lib.hid (And.intro hr2 hv2)
      clear hr2 hv2
      have hc3 : x3.cell? ⟨b, off + k / 8, none⟩ = some (.int .u8 (ev : Int)) := (HB3.out.cell (p := ⟨b, off + k / 8, none⟩) hbw).trans HC.out
      go_wp2_with fail
      rotate_left
      · rename_i hbit
        have hb0 : leN es / 2 ^ k % 2 = 0 := by
          have h1 := HBit.out.2
          rw [hbit] at h1
          have h2 := of_decide_eq_false h1.symm
          have := HBit.out.1
          omega
        go_roundw
        case rel => exact ⟨k, r2, x3, rfl, rfl, l30, l31, l32, HB3.out, by have := H.out.2.1; omega, HR2.out.1, pow_step H.out.2.2.2 HR2.out.2 hb0⟩
        case measure => first | (simp [intOf]; done) | (simp [intOf]; omega)
      have hb1 : Hid (leN es / 2 ^ k % 2 = 1) := by
        have hbit : (bits .and .u8 ((ev : Int) / 2 ^ (k % 8)) 1 == 1) = true := by assumption
        have h1 := HBit.out.2
        rw [hbit] at h1
        have h2 := of_decide_eq_true h1.symm
        have := HBit.out.1
        show leN es / 2 ^ k % 2 = 1
        omega
      refine (mul_any r2 a (wk HR2.out.1) HA.out _).mono ?_
      rintro e y4 ⟨⟨r3, hr3, hv3, rfl⟩, hb4⟩
      obtain ⟨x4, rfl, hc4, hz4, l40, l41, l42⟩ := keep3 (b0 := w.heap.size) (b1 := w.heap.size + 1) (b2 := x1.heap.size) hb4 rfl (by (repeat (first | with_reducible exact pin_at (by assumption) | (with_reducible apply pin_at; (first | omega | (simp only [World.size_alloc, pin_size, World.size_drew, World.size_setCell] <;> omega))) | (with_reducible apply alloc_at; first | rfl | (simp only [World.size_alloc, pin_size, World.size_drew, World.size_setCell] <;> omega)) | with_reducible apply past_pin | with_reducible apply past_alloc | with_reducible apply past_drew)); all_goals (first | omega | (simp only [World.size_alloc, pin_size, World.size_drew, World.size_setCell] <;> omega))) (by (repeat (first | with_reducible exact pin_at (by assumption) | (with_reducible apply pin_at; (first | omega | (simp only [World.size_alloc, pin_size, World.size_drew, World.size_setCell] <;> omega))) | (with_reducible apply alloc_at; first | rfl | (simp only [World.size_alloc, pin_size, World.size_drew, World.size_setCell] <;> omega)) | with_reducible apply past_pin | with_reducible apply past_alloc | with_reducible apply past_drew)); all_goals (first | omega | (simp only [World.size_alloc, pin_size, World.size_drew, World.size_setCell] <;> omega))) (by (repeat (first | with_reducible exact pin_at (by assumption) | (with_reducible apply pin_at; (first | omega | (simp only [World.size_alloc, pin_size, World.size_drew, World.size_setCell] <;> omega))) | (with_reducible apply alloc_at; first | rfl | (simp only [World.size_alloc, pin_size, World.size_drew, World.size_setCell] <;> omega)) | with_reducible apply past_pin | with_reducible apply past_alloc | with_reducible apply past_drew)); all_goals (first | omega | (simp only [World.size_alloc, pin_size, World.size_drew, World.size_setCell] <;> omega)))
      have HB4 : Hid (Below w.heap.size w x4) := Below.trans (by (repeat (first | with_reducible exact HB3.out | with_reducible refine below_pin ?_ ?_ | with_reducible refine Below.alloc ?_ ?_ _ | with_reducible refine Below.setCell ?_ ?_ _ | with_reducible refine Below.drew ?_)); all_goals (first | omega | (simp only [World.size_alloc, pin_size, World.size_drew, World.size_setCell] <;> omega))) (hc4.mono (by (first | omega | (simp only [World.size_alloc, pin_size, World.size_drew, World.size_setCell] <;> omega))))
      clear hb4 hc4
      try simp only [World.size_alloc, pin_size, World.size_drew, World.size_setCell] at hz4
      have HR3 := Lib.hid (And.intro hr3 hv3)
      clear hr3 hv3
      go_wp2_with fail
      go_roundw
      case rel => exact ⟨k, r3, x4, rfl, rfl, l40, l41, l42, HB4.out, by have := H.out.2.1; omega, HR3.out.1, pow_step1 H.out.2.2.2 HR2.out.2 HR3.out.2 hb1.out⟩
      case measure => first | (simp [intOf]; done) | (simp [intOf]; omega)


end Go.Proofs.YtljolpdpblohcaaDoor
