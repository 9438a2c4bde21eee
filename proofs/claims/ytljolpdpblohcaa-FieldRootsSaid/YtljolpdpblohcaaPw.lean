/-
  Walks: powers and inverses modulo the prime.
-/
import Derived.Test.YtljolpdpblohcaaMl
namespace Go.Proofs.Ytljolpdpblohcaa
open Go.RowKit Go.Proofs.YtljolpdpblohcaaW.PrintLast
set_option linter.unusedSimpArgs false

set_option linter.unusedVariables false
theorem dig1 : dig 1 = [1] := dig_of [1] (by decide) (by decide)
theorem dig2 : dig 2 = [2] := dig_of [2] (by decide) (by decide)
theorem dn_lit {w : World} {g : Nat} (v : Nat) (hv : dig v = [v]) (hg : w.heap[g]? = some (.cells #[.int .u64 (v : Int)] 23)) : Dn w (some ⟨g, 0, none⟩) 1 v := by
  refine ⟨?_, by rw [hv]; exact Nat.le_refl 1⟩
  rw [hv]
  exact rd_block hg (by intro i hi; have : i = 0 := by simpa using hi
                        subst this; rfl)
theorem bit_t (ev q : Nat) (b : Bool) (h : decide (ev / 2 ^ q % 2 = 1) = b) : (((ev : Int) / 2 ^ q).tmod 2 == 1) = b := by
  have e1 : ((ev : Int) / 2 ^ q) = ((ev / 2 ^ q : Nat) : Int) := by rw [Int.natCast_ediv, Int.natCast_pow]; rfl
  rw [e1, ← h]
  generalize ev / 2 ^ q = z
  rw [Bool.eq_iff_iff, beq_iff_eq, decide_eq_true_eq, Int.tmod_eq_emod_of_nonneg (by omega)]
  omega
set_option maxRecDepth 100000 in
set_option maxHeartbeats 2000000 in
theorem Power_any (A B : Option Addr) (c d X : Nat) (hx : X < Num.p) (es : List Nat) (hl : es.length ≤ 1000) (hby : ∀ b ∈ es, b < 256) (w : World) (hX : Dn w A c X) (hr : Rd w .u8 B es) :
    Calls Try.prog 38 #[.slice A (dig X).length c, .slice B es.length d] w fun e w' => (∃ A' c', e = .returned (.slice A' (dig (X ^ leN es % Num.p)).length c') ∧ Dn w' A' c' (X ^ leN es % Num.p)) ∧ Below w.heap.size w w' := by
  have HX := Lib.hid hX
  have HP := Lib.hid hx
  have HRd := Lib.hid hr
  have HBy := Lib.hid hby
  clear hX hx hr hby
  go_enter Try.func38, Try.ntmps38
  go_wp2_with fail
  go_loopw [5, 6] (fun ov iv wr => ∃ (k r : Nat) (A' : Option Addr) (c' : Nat), ov = .slice A' (dig r).length c' ∧ iv = .int .i64 ((k : Int) - 1) ∧ Hid (Below w.heap.size w wr ∧ k ≤ 8 * es.length ∧ r < Num.p ∧ r % Num.p = X ^ (leN es / 2 ^ k) % Num.p ∧ Dn wr A' c' r)) (fun _ iv _ => (intOf iv + 1).toNat)
  case atStart =>
    refine ⟨8 * es.length, 1, some ⟨w.heap.size, 0, none⟩, 1, by rw [dig1]; rfl, by simp, Below.alloc (Below.refl _ _) (Nat.le_refl _) _, Nat.le_refl _, by decide, by rw [leN_top es HBy.out, Nat.pow_zero], dn_lit 1 dig1 (heap_alloc_new w _)⟩
  case round =>
    obtain ⟨k, r, A', c', rfl, rfl, H⟩ := hrel
    rcases k with _ | k
    · go_wp2_with fail
      go_ret
      have he : r = X ^ leN es % Num.p := by have h := H.out.2.2.2.1; rw [Nat.pow_zero, Nat.div_one, Nat.mod_eq_of_lt H.out.2.2.1] at h; exact h
      exact ⟨⟨A', c', by rw [← he]; rfl, by rw [← he]; exact H.out.2.2.2.2⟩, H.out.1⟩
    · rw [show (((k + 1 : Nat) : Int) - 1) = (k : Int) from by omega]
      have hk8 : k / 8 < es.length := by have := H.out.2.1; omega
      obtain ⟨b, off, rfl, hbw, hcell⟩ := HRd.out.place (by omega)
      obtain ⟨ev, hev⟩ : ∃ v, v = es[k / 8] := ⟨_, rfl⟩
      have hc := hcell (k / 8) hk8
      rw [← hev] at hc
      have HC := Lib.hid hc
      have HEV := Lib.hid (show leN es / 2 ^ k % 2 = ev / 2 ^ (k % 8) % 2 by rw [leN_bit es HBy.out k hk8, hev])
      clear hc hcell hev
      have hi0 : (0 : Int) ≤ (k : Int) / 8 := by omega
      have hi1 : (k : Int) / 8 < (es.length : Int) := by omega
      have HB1 : Hid (Below w.heap.size w wr) := H.out.1
      have hz1 := HB1.out.size
      obtain ⟨q, hq⟩ : ∃ q, q = k % 8 := ⟨_, rfl⟩
      have b5 : q < 8 := by omega
      have e4 : (k : Int).tmod 8 = (q : Int) := by rw [Int.tmod_eq_emod_of_nonneg (by omega)]; omega
      have e7 : (k : Int) % 8 = (q : Int) := by omega
      have s1 : w64 (q : Int) = (q : Int) := w64_of q (by omega)
      rw [← hq] at HEV
      have HQ := Lib.hid hq
      clear hq
      have HBW := Lib.hid hbw
      by_cases hb : ev / 2 ^ q % 2 = 1
      · have hbt := bit_t ev q true (decide_eq_true hb)
        have HBT := Lib.hid hb
        clear hb
        go_wp2_with fail
        refine (Mul_ref A' A' c' c' r r H.out.2.2.1 H.out.2.2.1 _ H.out.2.2.2.2 H.out.2.2.2.2).mono ?_
        rintro e x2 ⟨⟨A2, c2, rfl, hd2⟩, hb2⟩
        have HB2 : Hid (Below w.heap.size w x2) := Below.trans (by (repeat (first | with_reducible exact HB1.out | with_reducible refine below_pin ?_ ?_ | with_reducible refine Below.alloc ?_ ?_ _ | with_reducible refine Below.setCell ?_ ?_ _ | with_reducible refine Below.drew ?_)); all_goals (first | omega | (simp only [World.size_alloc, pin_size, World.size_drew, World.size_setCell] <;> omega))) (hb2.mono (by (first | omega | (simp only [World.size_alloc, pin_size, World.size_drew, World.size_setCell] <;> omega))))
        have hz2 := HB2.out.size
        clear hb2
        have HD2 := Lib.hid hd2
        clear hd2
        have hcc : x2.cell? ⟨b, off + k / 8, none⟩ = some (.int .u8 (ev : Int)) := (HB2.out.cell (p := ⟨b, off + k / 8, none⟩) HBW.out).trans HC.out
        go_wp2_with fail
        refine (Mul_ref A2 A c2 c (r * r % Num.p) X (Nat.mod_lt _ p_pos) HP.out _ HD2.out (HX.out.mono HB2.out (Nat.le_refl _))).mono ?_
        rintro e x3 ⟨⟨A3, c3, rfl, hd3⟩, hb3⟩
        have HB3 : Hid (Below w.heap.size w x3) := Below.trans (by (repeat (first | with_reducible exact HB2.out | with_reducible refine below_pin ?_ ?_ | with_reducible refine Below.alloc ?_ ?_ _ | with_reducible refine Below.setCell ?_ ?_ _ | with_reducible refine Below.drew ?_)); all_goals (first | omega | (simp only [World.size_alloc, pin_size, World.size_drew, World.size_setCell] <;> omega))) (hb3.mono (by (first | omega | (simp only [World.size_alloc, pin_size, World.size_drew, World.size_setCell] <;> omega))))
        have hz3 := HB3.out.size
        clear hb3
        have HD3 := Lib.hid hd3
        clear hd3 hcc
        go_wp2_with fail
        have em : r * r % Num.p * X % Num.p = r * r * X % Num.p := by rw [Nat.mul_mod, Nat.mod_mod, ← Nat.mul_mod]
        exact ⟨⟨k, r * r * X % Num.p, A3, c3, rfl, rfl, HB3.out, by have := H.out.2.1; omega, Nat.mod_lt _ p_pos, pow_step1 (r := r) (s := r * r % Num.p) H.out.2.2.2.1 (Nat.mod_mod _ _) (by rw [Nat.mod_mod, em]) (HEV.out.trans HBT.out), by have h := HD3.out; rw [em] at h; exact h⟩, meas_down0 k⟩
      · have hbt := bit_t ev q false (decide_eq_false hb)
        have HBT := Lib.hid hb
        clear hb
        go_wp2_with fail
        refine (Mul_ref A' A' c' c' r r H.out.2.2.1 H.out.2.2.1 _ H.out.2.2.2.2 H.out.2.2.2.2).mono ?_
        rintro e x2 ⟨⟨A2, c2, rfl, hd2⟩, hb2⟩
        have HB2 : Hid (Below w.heap.size w x2) := Below.trans (by (repeat (first | with_reducible exact HB1.out | with_reducible refine below_pin ?_ ?_ | with_reducible refine Below.alloc ?_ ?_ _ | with_reducible refine Below.setCell ?_ ?_ _ | with_reducible refine Below.drew ?_)); all_goals (first | omega | (simp only [World.size_alloc, pin_size, World.size_drew, World.size_setCell] <;> omega))) (hb2.mono (by (first | omega | (simp only [World.size_alloc, pin_size, World.size_drew, World.size_setCell] <;> omega))))
        have hz2 := HB2.out.size
        clear hb2
        have HD2 := Lib.hid hd2
        clear hd2
        have hcc : x2.cell? ⟨b, off + k / 8, none⟩ = some (.int .u8 (ev : Int)) := (HB2.out.cell (p := ⟨b, off + k / 8, none⟩) HBW.out).trans HC.out
        go_wp2_with fail
        exact ⟨⟨k, r * r % Num.p, A2, c2, rfl, rfl, HB2.out, by have := H.out.2.1; omega, Nat.mod_lt _ p_pos, pow_step (r := r) H.out.2.2.2.1 (Nat.mod_mod _ _) (by have h1 := HEV.out; have h2 := HBT.out; omega), HD2.out⟩, meas_down0 k⟩


end Go.Proofs.Ytljolpdpblohcaa
