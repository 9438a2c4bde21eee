/-
  Walks: the document's numbers modulo the order.
-/
import Derived.Test.YtljolpdpblohcaaDoorNu
import Derived.Test.YtljolpdpblohcaaDoorTi
import Derived.Test.YtljolpdpblohcaaDoorLe
import Derived.Test.YtljolpdpblohcaaDoorBy
import Derived.Test.YtljolpdpblohcaaDoorLr
import Derived.Test.YtljolpdpblohcaaDoorMo
namespace Go.Proofs.YtljolpdpblohcaaDoor
open Go.RowKit Go.Proofs.YtljolpdpblohcaaDoorW.PrintLast
set_option linter.unusedSimpArgs false

set_option linter.unusedVariables false
theorem digL : dig LO = [54253, 23797, 25370, 22546, 40150, 41719, 63966, 5342, 0, 0, 0, 0, 0, 0, 0, 4096] := by
  have h := dig_of [54253, 23797, 25370, 22546, 40150, 41719, 63966, 5342, 0, 0, 0, 0, 0, 0, 0, 4096] (by decide) (by decide)
  have e : leD [54253, 23797, 25370, 22546, 40150, 41719, 63966, 5342, 0, 0, 0, 0, 0, 0, 0, 4096] = LO := by decide
  rw [e] at h
  exact h
theorem rest_top (X : Nat) : X < 2 ^ (16 * (dig X).length) := by
  have h := lt_dig X
  rw [show BB ^ (dig X).length = 2 ^ (16 * (dig X).length) by rw [show BB = 2 ^ 16 by decide, ← Nat.pow_mul]] at h
  exact h
theorem dig1' : dig 1 = [1] := dig_of [1] (by decide) (by decide)
theorem dn_lit' {w : World} {g : Nat} (v : Nat) (hv : dig v = [v]) (hg : w.heap[g]? = some (.cells #[.int .u64 (v : Int)] 33)) : Dn w (some ⟨g, 0, none⟩) 1 v := by
  refine ⟨?_, by rw [hv]; exact Nat.le_refl 1⟩
  rw [hv]
  exact rd_block hg (by intro i hi; have : i = 0 := by simpa using hi
                        subst this; rfl)
theorem dn_nil' (w : World) : Dn w none 0 0 := ⟨by rw [dig_zero]; exact Rd.nil _ _ _, by rw [dig_zero]; exact Nat.le_refl _⟩
theorem lo_dig {n : Nat} (h : n < BB ^ 17) : (dig n).length ≤ 1000000 := Nat.le_trans (dig_len_le h) (by decide)
theorem lo_17 {n : Nat} (h : n < LO + LO) : n < BB ^ 17 := Nat.lt_trans h (by decide)
theorem bit_t' (ev q : Nat) (b : Bool) (h : decide (ev / 2 ^ q % 2 = 1) = b) : (((ev : Int) / 2 ^ q).tmod 2 == 1) = b := by
  have e1 : ((ev : Int) / 2 ^ q) = ((ev / 2 ^ q : Nat) : Int) := by rw [Int.natCast_ediv, Int.natCast_pow]; rfl
  rw [e1, ← h]
  generalize ev / 2 ^ q = z
  rw [Bool.eq_iff_iff, beq_iff_eq, decide_eq_true_eq, Int.tmod_eq_emod_of_nonneg (by omega)]
  omega
theorem bit_e' (ev q : Nat) (b : Bool) (h : decide (ev / 2 ^ q % 2 = 1) = b) : (((ev : Int) / 2 ^ q) % 2 == 1) = b := by
  have e1 : ((ev : Int) / 2 ^ q) = ((ev / 2 ^ q : Nat) : Int) := by rw [Int.natCast_ediv, Int.natCast_pow]; rfl
  rw [e1, ← h]
  generalize ev / 2 ^ q = z
  rw [Bool.eq_iff_iff, beq_iff_eq, decide_eq_true_eq]
  omega
theorem meas_dn (k : Nat) : (intOf (.int .i64 ((k : Int) - 1)) + 1).toNat < (intOf (.int .i64 (k : Int)) + 1).toNat := by
  show ((k : Int) - 1 + 1).toNat < ((k : Int) + 1).toNat
  omega
theorem vkm (n : Nat) (h : n ≤ 1000000) : Value.int .i64 (wrap64 ((n : Int) - 1)) = Value.int .i64 ((n : Int) - 1) := congrArg (Value.int .i64) (wr64 _ (by omega))
theorem meas_dnw (k : Nat) (h : k ≤ 1000000) : (intOf (.int .i64 (wrap64 ((k : Int) - 1))) + 1).toNat < (intOf (.int .i64 (k : Int)) + 1).toNat := by
  rw [wr64 _ (by omega)]
  exact meas_dn k
/-- One binary digit more of what is left by the order. -/
theorem rest_bit {X e o b s r : Nat} (ho : o = X / 2 ^ (e + 1) % LO) (hb : b = X / 2 ^ e % 2) (hs : s = o + o + b) (hr : r = if s < LO then s else s - LO) : r = X / 2 ^ e % LO ∧ s < LO + LO := by
  have e1 : X / 2 ^ (e + 1) = X / 2 ^ e / 2 := by rw [Nat.pow_succ, Nat.div_div_eq_div_mul]
  rw [e1] at ho
  generalize X / 2 ^ e = q at *
  subst hr hs ho hb
  simp only [LO]
  split <;> omega
theorem dg_bit (X i k : Nat) (hk : k < 16) : dg X i / 2 ^ k % 2 = X / 2 ^ (16 * i + k) % 2 := by
  simp only [dg]
  rw [show BB ^ i = 2 ^ (16 * i) by rw [show BB = 2 ^ 16 by decide, ← Nat.pow_mul], Nat.pow_add, ← Nat.div_div_eq_div_mul]
  generalize X / 2 ^ (16 * i) = q
  have : k = 0 ∨ k = 1 ∨ k = 2 ∨ k = 3 ∨ k = 4 ∨ k = 5 ∨ k = 6 ∨ k = 7 ∨ k = 8 ∨ k = 9 ∨ k = 10 ∨ k = 11 ∨ k = 12 ∨ k = 13 ∨ k = 14 ∨ k = 15 := by omega
  rcases this with h | h | h | h | h | h | h | h | h | h | h | h | h | h | h | h <;> rw [h] <;> simp only [BB, Nat.reducePow] <;> omega
theorem sumY (A B : Option Addr) (c d X Y Z : Nat) (hsx : (dig X).length ≤ 1000000) (hsy : (dig Y).length ≤ 1000000) (hz : Z = X + Y) (w : World) (hX : Dn w A c X) (hY : Dn w B d Y) :
    Calls Tryd.prog 30 #[.slice A (dig X).length c, .slice B (dig Y).length d] w fun e w' => (∃ A' c', e = .returned (.slice A' (dig (Z)).length c') ∧ Dn w' A' c' (Z)) ∧ Below w.heap.size w w' := by
  subst hz
  exact sum_any A B c d X Y hsx hsy w hX hY
theorem sumL (A : Option Addr) (c X g Y Z : Nat) (hsx : (dig X).length ≤ 1000000) (hY : dig Y = [Y]) (hz : Z = X + Y) (w : World) (hX : Dn w A c X) (hg : w.heap[g]? = some (.cells #[.int .u64 (Y : Int)] 33)) :
    Calls Tryd.prog 30 #[.slice A (dig X).length c, .slice (some ⟨g, 0, none⟩) 1 1] w fun e w' => (∃ A' c', e = .returned (.slice A' (dig (Z)).length c') ∧ Dn w' A' c' (Z)) ∧ Below w.heap.size w w' := by
  subst hz
  have h := sum_any A (some ⟨g, 0, none⟩) c 1 X Y hsx (by rw [hY]; exact Nat.le_trans (Nat.le_refl 1) (by decide)) w hX (dn_lit' Y hY hg)
  rw [show (dig Y).length = 1 by rw [hY]; rfl] at h
  exact h
theorem minusY (A B : Option Addr) (c d X Y Z : Nat) (hsx : (dig X).length ≤ 1000000) (hle : Y ≤ X) (hz : Z = X - Y) (w : World) (hX : Dn w A c X) (hY : Dn w B d Y) :
    Calls Tryd.prog 42 #[.slice A (dig X).length c, .slice B (dig Y).length d] w fun e w' => (∃ A' c', e = .returned (.slice A' (dig (Z)).length c') ∧ Dn w' A' c' (Z)) ∧ Below w.heap.size w w' := by
  subst hz
  exact minus_any A B c d X Y hsx hle w hX hY
theorem timesY (A B : Option Addr) (c d X Y Z : Nat) (hsx : (dig X).length ≤ 1000000) (hsy : (dig Y).length ≤ 1000000) (hz : Z = X * Y) (w : World) (hX : Dn w A c X) (hY : Dn w B d Y) :
    Calls Tryd.prog 31 #[.slice A (dig X).length c, .slice B (dig Y).length d] w fun e w' => (∃ A' c', e = .returned (.slice A' (dig (Z)).length c') ∧ Dn w' A' c' (Z)) ∧ Below w.heap.size w w' := by
  subst hz
  exact times_any A B c d X Y hsx hsy w hX hY
theorem leastY (A B : Option Addr) (c d X Y : Nat) (b : Bool) (hsx : (dig X).length ≤ 1000000) (hb : decide (X < Y) = b) (w : World) (hX : Dn w A c X) (hY : Dn w B d Y) :
    Calls Tryd.prog 26 #[.slice A (dig X).length c, .slice B (dig Y).length d] w fun e w' => e = .returned (.bool b) ∧ Below w.heap.size w w' := by
  subst hb
  exact least_any A B c d X Y hsx w hX hY
set_option maxRecDepth 100000 in
set_option maxHeartbeats 2000000 in
theorem L_any0 (w : World)  :
    Calls Tryd.prog 27 #[] w fun e w' => (∃ A' c', e = .returned (.slice A' (dig (LO)).length c') ∧ Dn w' A' c' (LO)) ∧ Below w.heap.size w w' := by
  go_enter Tryd.func27, Tryd.ntmps27
  go_wp2
  go_ret
  refine ⟨⟨some ⟨w.heap.size, 0, none⟩, 16, ?_, ?_, ?_⟩, (by (repeat (first | with_reducible exact (Below.refl _ _) | with_reducible refine below_pin ?_ ?_ | with_reducible refine Below.alloc ?_ ?_ _ | with_reducible refine Below.setCell ?_ ?_ _ | with_reducible refine Below.drew ?_)); all_goals (first | omega | (simp only [World.size_alloc, pin_size, World.size_drew, World.size_setCell] <;> omega)))⟩
  · rw [digL]; rfl
  · rw [digL]
    exact rd_block (alloc_at rfl) (by intro i hi; have hi' : i < 16 := hi; rcases i with _ | _ | _ | _ | _ | _ | _ | _ | _ | _ | _ | _ | _ | _ | _ | _ | i; all_goals first | rfl | omega)
  · rw [digL]; decide
theorem L_any (l : Nat) (hl : l = LO) (w : World) : Calls Tryd.prog 27 #[] w fun e w' => (∃ A' c', e = .returned (.slice A' (dig (l)).length c') ∧ Dn w' A' c' (l)) ∧ Below w.heap.size w w' := by
  subst hl
  exact L_any0 w
set_option maxRecDepth 100000 in
set_option maxHeartbeats 2000000 in
theorem Rest_any (A : Option Addr) (c X : Nat) (hsz : (dig X).length ≤ 1000000) (w : World) (hX : Dn w A c X) :
    Calls Tryd.prog 23 #[.slice A (dig X).length c] w fun e w' => (∃ A' c', e = .returned (.slice A' (dig (X % LO)).length c') ∧ Dn w' A' c' (X % LO)) ∧ Below w.heap.size w w' := by
  have HX := Lib.hid hX
  have HS := Lib.hid hsz
  obtain ⟨n, hn⟩ : ∃ n, n = (dig X).length := ⟨_, rfl⟩
  have HN := Lib.hid hn
  have HNS := Lib.hid (show n ≤ 1000000 by rw [hn]; exact hsz)
  obtain ⟨l, hl⟩ : ∃ l, l = LO := ⟨_, rfl⟩
  have HL := Lib.hid hl
  rw [← hn]
  clear hX hsz hn hl
  go_enter Tryd.func23, Tryd.ntmps23
  go_wp2_with fail
  go_loopw [3, 4] (fun ov iv wr => ∃ (i o : Nat) (A' : Option Addr) (c' : Nat), ov = .slice A' (dig o).length c' ∧ iv = .int .i64 ((i : Int) - 1) ∧ Hid (Below w.heap.size w wr ∧ i ≤ n ∧ o = X / 2 ^ (16 * i) % LO ∧ Dn wr A' c' o)) (fun _ iv _ => (intOf iv + 1).toNat)
  case atStart => exact ⟨n, 0, none, 0, by rw [dig_zero]; rfl, vkm n HNS.out, (by (repeat (first | with_reducible exact (Below.refl _ _) | with_reducible refine below_pin ?_ ?_ | with_reducible refine Below.alloc ?_ ?_ _ | with_reducible refine Below.setCell ?_ ?_ _ | with_reducible refine Below.drew ?_)); all_goals (first | omega | (simp only [World.size_alloc, pin_size, World.size_drew, World.size_setCell] <;> omega))), Nat.le_refl _, by rw [Nat.div_eq_of_lt (by rw [HN.out]; exact rest_top X)]; rfl, dn_nil' _⟩
  case round =>
    obtain ⟨i, o, A', c', rfl, rfl, H⟩ := hrel
    rcases i with _ | i
    · go_wp2_with fail
      go_ret
      have he : o = X % LO := by rw [H.out.2.2.1, Nat.mul_zero, Nat.pow_zero, Nat.div_one]
      exact ⟨⟨A', c', by rw [← he]; rfl, by rw [← he]; exact H.out.2.2.2⟩, H.out.1⟩
    · rw [show (((i + 1 : Nat) : Int) - 1) = (i : Int) from by omega]
      obtain ⟨b, off, rfl, hbw, hcell⟩ := HX.out.cell (i := i) (by rw [← HN.out]; have := H.out.2.1; omega)
      obtain ⟨a, ha⟩ : ∃ a, a = dg X i := ⟨_, rfl⟩
      have hca := hcell i (by rw [← HN.out]; have := H.out.2.1; omega)
      have HCA : Hid (w.cell? ⟨b, off + i, none⟩ = some (.int .u64 (a : Int))) := Lib.hid (by rw [ha]; exact hca)
      have HA := Lib.hid ha
      have HBW := Lib.hid hbw
      have HI := Lib.hid (show i < n by have := H.out.2.1; omega)
      have hil : (0 : Int) ≤ (i : Int) := by omega
      have hin : (i : Int) < (n : Int) := by have := HI.out; omega
      clear ha hca hcell hbw
      go_wp2_with fail
      go_loopw [3, 5] (fun ov kv wv => ∃ (k o : Nat) (A' : Option Addr) (c' : Nat), ov = .slice A' (dig o).length c' ∧ kv = .int .i64 ((k : Int) - 1) ∧ Hid (Below w.heap.size w wv ∧ k ≤ 16 ∧ o = X / 2 ^ (16 * i + k) % LO ∧ Dn wv A' c' o)) (fun _ kv _ => (intOf kv + 1).toNat)
      case atStart => exact ⟨16, o, A', c', rfl, rfl, H.out.1, Nat.le_refl _, by rw [H.out.2.2.1, Nat.mul_add, Nat.mul_one], H.out.2.2.2⟩
      case round =>
        clear H
        obtain ⟨k, o, A', c', rfl, rfl, H⟩ := hrel
        rcases k with _ | k
        · go_wp2_with fail
          exact ⟨⟨i, o, A', c', rfl, vkm i (Nat.le_trans (Nat.le_of_lt HI.out) HNS.out), H.out.1, Nat.le_of_lt HI.out, by rw [H.out.2.2.1, Nat.add_zero], H.out.2.2.2⟩, meas_dnw i (Nat.le_trans (Nat.le_of_lt HI.out) HNS.out)⟩
        · rw [show (((k + 1 : Nat) : Int) - 1) = (k : Int) from by omega]
          have HK := Lib.hid (show k < 16 by have := H.out.2.1; omega)
          obtain ⟨wo, hwo⟩ : ∃ z, z = wr := ⟨_, rfl⟩
          subst hwo
          have HB1 : Hid (Below w.heap.size w wo) := H.out.1
          have hz1 := HB1.out.size
          have HO1 : Hid (Dn wo A' c' o) := H.out.2.2.2
          have hlo : o < LO := by rw [H.out.2.2.1]; exact Nat.mod_lt _ (by decide)
          obtain ⟨o2, ho2⟩ : ∃ z, z = o + o := ⟨_, rfl⟩
          have HO2 := Lib.hid (show o2 = o + o ∧ (dig o).length ≤ 1000000 ∧ (dig o2).length ≤ 1000000 by rw [ho2]; exact ⟨rfl, lo_dig (lo_17 (by omega)), lo_dig (lo_17 (by omega))⟩)
          have hkz : (0 : Int) ≤ (k : Int) := by omega
          have hk16 : ¬ (k : Int) < 0 := by omega
          have b5 : k < 16 := HK.out
          have s1 : w64 (k : Int) = (k : Int) := w64_of k (by have := HK.out; omega)
          by_cases hb : a / 2 ^ k % 2 = 1
          · have hb1 := bit_t' a k true (decide_eq_true hb)
            have hb2 := bit_e' a k true (decide_eq_true hb)
            obtain ⟨s, hs⟩ : ∃ s, s = o2 + 1 := ⟨_, rfl⟩
            have e0 : s = o2 + 1 := hs
            have HBIT : 1 = X / 2 ^ (16 * i + k) % 2 := by rw [← dg_bit X i k HK.out, ← HA.out]; exact hb.symm
            have hrb := rest_bit (X := X) (e := 16 * i + k) (o := o) (s := s) (r := if s < LO then s else s - LO) (by rw [H.out.2.2.1]; rfl) HBIT (by rw [e0, ho2]) rfl
            have HV := Lib.hid (show s = o2 + 1 ∧ s < LO + LO ∧ (dig s).length ≤ 1000000 ∧ True from ⟨hs, hrb.2, lo_dig (lo_17 hrb.2), trivial⟩)
            by_cases hlt : s < l
            · have HLT := Lib.hid hlt
              have HR := Lib.hid (show s = X / 2 ^ (16 * i + k) % LO by rw [← hrb.1, if_pos (by rw [← HL.out]; exact hlt)])
              clear hrb hlt hb H hlo ho2 e0 HBIT
              clear hs
              go_wp2_with fail
              refine (sumY A' A' c' c' o o o2 HO2.out.2.1 HO2.out.2.1 HO2.out.1 _ (HO1.out.next (by (repeat (first | with_reducible exact (Below.refl _ _) | with_reducible refine below_pin ?_ ?_ | with_reducible refine Below.alloc ?_ ?_ _ | with_reducible refine Below.setCell ?_ ?_ _ | with_reducible refine Below.drew ?_)); all_goals (first | omega | (simp only [World.size_alloc, pin_size, World.size_drew, World.size_setCell] <;> omega)))) (HO1.out.next (by (repeat (first | with_reducible exact (Below.refl _ _) | with_reducible refine below_pin ?_ ?_ | with_reducible refine Below.alloc ?_ ?_ _ | with_reducible refine Below.setCell ?_ ?_ _ | with_reducible refine Below.drew ?_)); all_goals (first | omega | (simp only [World.size_alloc, pin_size, World.size_drew, World.size_setCell] <;> omega))))).mono ?_
              rintro e x2 ⟨⟨A2, c2, rfl, hd2⟩, hb2⟩
              have HB2 : Hid (Below w.heap.size w x2) := Below.trans (by (repeat (first | with_reducible exact HB1.out | with_reducible refine below_pin ?_ ?_ | with_reducible refine Below.alloc ?_ ?_ _ | with_reducible refine Below.setCell ?_ ?_ _ | with_reducible refine Below.drew ?_)); all_goals (first | omega | (simp only [World.size_alloc, pin_size, World.size_drew, World.size_setCell] <;> omega))) (hb2.mono (by (first | omega | (simp only [World.size_alloc, pin_size, World.size_drew, World.size_setCell] <;> omega))))
              have hz2 := HB2.out.size
              clear hb2
              have HD2 := Lib.hid hd2
              clear hd2 HO1
              have hca : x2.cell? ⟨b, off + i, none⟩ = some (.int .u64 (a : Int)) := (HB2.out.cell (p := ⟨b, off + i, none⟩) HBW.out).trans HCA.out
              go_wp2_with fail
              refine (sumL A2 c2 o2 x2.heap.size 1 s HO2.out.2.2 dig1' HV.out.1 _ (HD2.out.next (by (repeat (first | with_reducible exact (Below.refl _ _) | with_reducible refine below_pin ?_ ?_ | with_reducible refine Below.alloc ?_ ?_ _ | with_reducible refine Below.setCell ?_ ?_ _ | with_reducible refine Below.drew ?_)); all_goals (first | omega | (simp only [World.size_alloc, pin_size, World.size_drew, World.size_setCell] <;> omega)))) (heap_alloc_new _ _)).mono ?_
              rintro e x3 ⟨⟨A3, c3, rfl, hd3⟩, hb3⟩
              have HB3 : Hid (Below w.heap.size w x3) := Below.trans (by (repeat (first | with_reducible exact HB2.out | with_reducible refine below_pin ?_ ?_ | with_reducible refine Below.alloc ?_ ?_ _ | with_reducible refine Below.setCell ?_ ?_ _ | with_reducible refine Below.drew ?_)); all_goals (first | omega | (simp only [World.size_alloc, pin_size, World.size_drew, World.size_setCell] <;> omega))) (hb3.mono (by (first | omega | (simp only [World.size_alloc, pin_size, World.size_drew, World.size_setCell] <;> omega))))
              have hz3 := HB3.out.size
              clear hb3
              have HD3 := Lib.hid hd3
              clear hd3 HD2 hca
              go_wp2_with fail
              refine (L_any l HL.out _).mono ?_
              rintro e x4 ⟨⟨A4, c4, rfl, hd4⟩, hb4⟩
              have HB4 : Hid (Below w.heap.size w x4) := Below.trans (by (repeat (first | with_reducible exact HB3.out | with_reducible refine below_pin ?_ ?_ | with_reducible refine Below.alloc ?_ ?_ _ | with_reducible refine Below.setCell ?_ ?_ _ | with_reducible refine Below.drew ?_)); all_goals (first | omega | (simp only [World.size_alloc, pin_size, World.size_drew, World.size_setCell] <;> omega))) (hb4.mono (by (first | omega | (simp only [World.size_alloc, pin_size, World.size_drew, World.size_setCell] <;> omega))))
              have hz4 := HB4.out.size
              have HD3n := Lib.hid (HD3.out.next (Below.trans (by (repeat (first | with_reducible exact (Below.refl _ _) | with_reducible refine below_pin ?_ ?_ | with_reducible refine Below.alloc ?_ ?_ _ | with_reducible refine Below.setCell ?_ ?_ _ | with_reducible refine Below.drew ?_)); all_goals (first | omega | (simp only [World.size_alloc, pin_size, World.size_drew, World.size_setCell] <;> omega))) (hb4.mono (by (first | omega | (simp only [World.size_alloc, pin_size, World.size_drew, World.size_setCell] <;> omega))))))
              clear HD3
              have HD3 := HD3n
              clear HD3n
              clear hb4
              have HD4 := Lib.hid hd4
              clear hd4
              go_wp2_with fail
              refine (leastY A3 A4 c3 c4 s l true HV.out.2.2.1 (decide_eq_true HLT.out) _ (HD3.out.next (by (repeat (first | with_reducible exact (Below.refl _ _) | with_reducible refine below_pin ?_ ?_ | with_reducible refine Below.alloc ?_ ?_ _ | with_reducible refine Below.setCell ?_ ?_ _ | with_reducible refine Below.drew ?_)); all_goals (first | omega | (simp only [World.size_alloc, pin_size, World.size_drew, World.size_setCell] <;> omega)))) (HD4.out.next (by (repeat (first | with_reducible exact (Below.refl _ _) | with_reducible refine below_pin ?_ ?_ | with_reducible refine Below.alloc ?_ ?_ _ | with_reducible refine Below.setCell ?_ ?_ _ | with_reducible refine Below.drew ?_)); all_goals (first | omega | (simp only [World.size_alloc, pin_size, World.size_drew, World.size_setCell] <;> omega))))).mono ?_
              rintro e x5 ⟨rfl, hb5⟩
              have HB5 : Hid (Below w.heap.size w x5) := Below.trans (by (repeat (first | with_reducible exact HB4.out | with_reducible refine below_pin ?_ ?_ | with_reducible refine Below.alloc ?_ ?_ _ | with_reducible refine Below.setCell ?_ ?_ _ | with_reducible refine Below.drew ?_)); all_goals (first | omega | (simp only [World.size_alloc, pin_size, World.size_drew, World.size_setCell] <;> omega))) (hb5.mono (by (first | omega | (simp only [World.size_alloc, pin_size, World.size_drew, World.size_setCell] <;> omega))))
              have hz5 := HB5.out.size
              have HD3n := Lib.hid (HD3.out.next (Below.trans (by (repeat (first | with_reducible exact (Below.refl _ _) | with_reducible refine below_pin ?_ ?_ | with_reducible refine Below.alloc ?_ ?_ _ | with_reducible refine Below.setCell ?_ ?_ _ | with_reducible refine Below.drew ?_)); all_goals (first | omega | (simp only [World.size_alloc, pin_size, World.size_drew, World.size_setCell] <;> omega))) (hb5.mono (by (first | omega | (simp only [World.size_alloc, pin_size, World.size_drew, World.size_setCell] <;> omega))))))
              clear HD3
              have HD3 := HD3n
              clear HD3n
              clear hb5
              clear HD4
              go_wp2_with fail
              exact ⟨⟨k, s, A3, c3, rfl, rfl, HB5.out, Nat.le_of_lt HK.out, HR.out, (HD3.out.next (by (repeat (first | with_reducible exact (Below.refl _ _) | with_reducible refine below_pin ?_ ?_ | with_reducible refine Below.alloc ?_ ?_ _ | with_reducible refine Below.setCell ?_ ?_ _ | with_reducible refine Below.drew ?_)); all_goals (first | omega | (simp only [World.size_alloc, pin_size, World.size_drew, World.size_setCell] <;> omega))))⟩, meas_dn k⟩
            · have HLT := Lib.hid hlt
              obtain ⟨r, hr⟩ : ∃ r, r = s - l := ⟨_, rfl⟩
              have HR := Lib.hid (show r = s - l ∧ r = X / 2 ^ (16 * i + k) % LO by rw [← hrb.1, if_neg (by rw [← HL.out]; exact hlt), hr, HL.out]; exact ⟨rfl, rfl⟩)
              clear hr
              clear hrb hlt hb H hlo ho2 e0 HBIT
              clear hs
              go_wp2_with fail
              refine (sumY A' A' c' c' o o o2 HO2.out.2.1 HO2.out.2.1 HO2.out.1 _ (HO1.out.next (by (repeat (first | with_reducible exact (Below.refl _ _) | with_reducible refine below_pin ?_ ?_ | with_reducible refine Below.alloc ?_ ?_ _ | with_reducible refine Below.setCell ?_ ?_ _ | with_reducible refine Below.drew ?_)); all_goals (first | omega | (simp only [World.size_alloc, pin_size, World.size_drew, World.size_setCell] <;> omega)))) (HO1.out.next (by (repeat (first | with_reducible exact (Below.refl _ _) | with_reducible refine below_pin ?_ ?_ | with_reducible refine Below.alloc ?_ ?_ _ | with_reducible refine Below.setCell ?_ ?_ _ | with_reducible refine Below.drew ?_)); all_goals (first | omega | (simp only [World.size_alloc, pin_size, World.size_drew, World.size_setCell] <;> omega))))).mono ?_
              rintro e x2 ⟨⟨A2, c2, rfl, hd2⟩, hb2⟩
              have HB2 : Hid (Below w.heap.size w x2) := Below.trans (by (repeat (first | with_reducible exact HB1.out | with_reducible refine below_pin ?_ ?_ | with_reducible refine Below.alloc ?_ ?_ _ | with_reducible refine Below.setCell ?_ ?_ _ | with_reducible refine Below.drew ?_)); all_goals (first | omega | (simp only [World.size_alloc, pin_size, World.size_drew, World.size_setCell] <;> omega))) (hb2.mono (by (first | omega | (simp only [World.size_alloc, pin_size, World.size_drew, World.size_setCell] <;> omega))))
              have hz2 := HB2.out.size
              clear hb2
              have HD2 := Lib.hid hd2
              clear hd2 HO1
              have hca : x2.cell? ⟨b, off + i, none⟩ = some (.int .u64 (a : Int)) := (HB2.out.cell (p := ⟨b, off + i, none⟩) HBW.out).trans HCA.out
              go_wp2_with fail
              refine (sumL A2 c2 o2 x2.heap.size 1 s HO2.out.2.2 dig1' HV.out.1 _ (HD2.out.next (by (repeat (first | with_reducible exact (Below.refl _ _) | with_reducible refine below_pin ?_ ?_ | with_reducible refine Below.alloc ?_ ?_ _ | with_reducible refine Below.setCell ?_ ?_ _ | with_reducible refine Below.drew ?_)); all_goals (first | omega | (simp only [World.size_alloc, pin_size, World.size_drew, World.size_setCell] <;> omega)))) (heap_alloc_new _ _)).mono ?_
              rintro e x3 ⟨⟨A3, c3, rfl, hd3⟩, hb3⟩
              have HB3 : Hid (Below w.heap.size w x3) := Below.trans (by (repeat (first | with_reducible exact HB2.out | with_reducible refine below_pin ?_ ?_ | with_reducible refine Below.alloc ?_ ?_ _ | with_reducible refine Below.setCell ?_ ?_ _ | with_reducible refine Below.drew ?_)); all_goals (first | omega | (simp only [World.size_alloc, pin_size, World.size_drew, World.size_setCell] <;> omega))) (hb3.mono (by (first | omega | (simp only [World.size_alloc, pin_size, World.size_drew, World.size_setCell] <;> omega))))
              have hz3 := HB3.out.size
              clear hb3
              have HD3 := Lib.hid hd3
              clear hd3 HD2 hca
              go_wp2_with fail
              refine (L_any l HL.out _).mono ?_
              rintro e x4 ⟨⟨A4, c4, rfl, hd4⟩, hb4⟩
              have HB4 : Hid (Below w.heap.size w x4) := Below.trans (by (repeat (first | with_reducible exact HB3.out | with_reducible refine below_pin ?_ ?_ | with_reducible refine Below.alloc ?_ ?_ _ | with_reducible refine Below.setCell ?_ ?_ _ | with_reducible refine Below.drew ?_)); all_goals (first | omega | (simp only [World.size_alloc, pin_size, World.size_drew, World.size_setCell] <;> omega))) (hb4.mono (by (first | omega | (simp only [World.size_alloc, pin_size, World.size_drew, World.size_setCell] <;> omega))))
              have hz4 := HB4.out.size
              have HD3n := Lib.hid (HD3.out.next (Below.trans (by (repeat (first | with_reducible exact (Below.refl _ _) | with_reducible refine below_pin ?_ ?_ | with_reducible refine Below.alloc ?_ ?_ _ | with_reducible refine Below.setCell ?_ ?_ _ | with_reducible refine Below.drew ?_)); all_goals (first | omega | (simp only [World.size_alloc, pin_size, World.size_drew, World.size_setCell] <;> omega))) (hb4.mono (by (first | omega | (simp only [World.size_alloc, pin_size, World.size_drew, World.size_setCell] <;> omega))))))
              clear HD3
              have HD3 := HD3n
              clear HD3n
              clear hb4
              have HD4 := Lib.hid hd4
              clear hd4
              go_wp2_with fail
              refine (leastY A3 A4 c3 c4 s l false HV.out.2.2.1 (decide_eq_false HLT.out) _ (HD3.out.next (by (repeat (first | with_reducible exact (Below.refl _ _) | with_reducible refine below_pin ?_ ?_ | with_reducible refine Below.alloc ?_ ?_ _ | with_reducible refine Below.setCell ?_ ?_ _ | with_reducible refine Below.drew ?_)); all_goals (first | omega | (simp only [World.size_alloc, pin_size, World.size_drew, World.size_setCell] <;> omega)))) (HD4.out.next (by (repeat (first | with_reducible exact (Below.refl _ _) | with_reducible refine below_pin ?_ ?_ | with_reducible refine Below.alloc ?_ ?_ _ | with_reducible refine Below.setCell ?_ ?_ _ | with_reducible refine Below.drew ?_)); all_goals (first | omega | (simp only [World.size_alloc, pin_size, World.size_drew, World.size_setCell] <;> omega))))).mono ?_
              rintro e x5 ⟨rfl, hb5⟩
              have HB5 : Hid (Below w.heap.size w x5) := Below.trans (by (repeat (first | with_reducible exact HB4.out | with_reducible refine below_pin ?_ ?_ | with_reducible refine Below.alloc ?_ ?_ _ | with_reducible refine Below.setCell ?_ ?_ _ | with_reducible refine Below.drew ?_)); all_goals (first | omega | (simp only [World.size_alloc, pin_size, World.size_drew, World.size_setCell] <;> omega))) (hb5.mono (by (first | omega | (simp only [World.size_alloc, pin_size, World.size_drew, World.size_setCell] <;> omega))))
              have hz5 := HB5.out.size
              have HD3n := Lib.hid (HD3.out.next (Below.trans (by (repeat (first | with_reducible exact (Below.refl _ _) | with_reducible refine below_pin ?_ ?_ | with_reducible refine Below.alloc ?_ ?_ _ | with_reducible refine Below.setCell ?_ ?_ _ | with_reducible refine Below.drew ?_)); all_goals (first | omega | (simp only [World.size_alloc, pin_size, World.size_drew, World.size_setCell] <;> omega))) (hb5.mono (by (first | omega | (simp only [World.size_alloc, pin_size, World.size_drew, World.size_setCell] <;> omega))))))
              clear HD3
              have HD3 := HD3n
              clear HD3n
              clear hb5
              clear HD4
              go_wp2_with fail
              refine (L_any l HL.out _).mono ?_
              rintro e x6 ⟨⟨A6, c6, rfl, hd6⟩, hb6⟩
              have HB6 : Hid (Below w.heap.size w x6) := Below.trans (by (repeat (first | with_reducible exact HB5.out | with_reducible refine below_pin ?_ ?_ | with_reducible refine Below.alloc ?_ ?_ _ | with_reducible refine Below.setCell ?_ ?_ _ | with_reducible refine Below.drew ?_)); all_goals (first | omega | (simp only [World.size_alloc, pin_size, World.size_drew, World.size_setCell] <;> omega))) (hb6.mono (by (first | omega | (simp only [World.size_alloc, pin_size, World.size_drew, World.size_setCell] <;> omega))))
              have hz6 := HB6.out.size
              have HD3n := Lib.hid (HD3.out.next (Below.trans (by (repeat (first | with_reducible exact (Below.refl _ _) | with_reducible refine below_pin ?_ ?_ | with_reducible refine Below.alloc ?_ ?_ _ | with_reducible refine Below.setCell ?_ ?_ _ | with_reducible refine Below.drew ?_)); all_goals (first | omega | (simp only [World.size_alloc, pin_size, World.size_drew, World.size_setCell] <;> omega))) (hb6.mono (by (first | omega | (simp only [World.size_alloc, pin_size, World.size_drew, World.size_setCell] <;> omega))))))
              clear HD3
              have HD3 := HD3n
              clear HD3n
              clear hb6
              have HD6 := Lib.hid hd6
              clear hd6
              go_wp2_with fail
              refine (minusY A3 A6 c3 c6 s l r HV.out.2.2.1 (Nat.le_of_not_lt HLT.out) HR.out.1 _ (HD3.out.next (by (repeat (first | with_reducible exact (Below.refl _ _) | with_reducible refine below_pin ?_ ?_ | with_reducible refine Below.alloc ?_ ?_ _ | with_reducible refine Below.setCell ?_ ?_ _ | with_reducible refine Below.drew ?_)); all_goals (first | omega | (simp only [World.size_alloc, pin_size, World.size_drew, World.size_setCell] <;> omega)))) (HD6.out.next (by (repeat (first | with_reducible exact (Below.refl _ _) | with_reducible refine below_pin ?_ ?_ | with_reducible refine Below.alloc ?_ ?_ _ | with_reducible refine Below.setCell ?_ ?_ _ | with_reducible refine Below.drew ?_)); all_goals (first | omega | (simp only [World.size_alloc, pin_size, World.size_drew, World.size_setCell] <;> omega))))).mono ?_
              rintro e x7 ⟨⟨A7, c7, rfl, hd7⟩, hb7⟩
              have HB7 : Hid (Below w.heap.size w x7) := Below.trans (by (repeat (first | with_reducible exact HB6.out | with_reducible refine below_pin ?_ ?_ | with_reducible refine Below.alloc ?_ ?_ _ | with_reducible refine Below.setCell ?_ ?_ _ | with_reducible refine Below.drew ?_)); all_goals (first | omega | (simp only [World.size_alloc, pin_size, World.size_drew, World.size_setCell] <;> omega))) (hb7.mono (by (first | omega | (simp only [World.size_alloc, pin_size, World.size_drew, World.size_setCell] <;> omega))))
              have hz7 := HB7.out.size
              clear hb7
              have HD7 := Lib.hid hd7
              clear hd7 HD6
              go_wp2_with fail
              exact ⟨⟨k, r, A7, c7, rfl, rfl, HB7.out, Nat.le_of_lt HK.out, HR.out.2, HD7.out⟩, meas_dn k⟩
          · have hb1 := bit_t' a k false (decide_eq_false hb)
            have hb2 := bit_e' a k false (decide_eq_false hb)
            obtain ⟨s, hs⟩ : ∃ s, s = o2 := ⟨_, rfl⟩
            have e0 : s = o2 + 0 := by omega
            have HBIT : 0 = X / 2 ^ (16 * i + k) % 2 := by rw [← dg_bit X i k HK.out, ← HA.out]; omega
            have hrb := rest_bit (X := X) (e := 16 * i + k) (o := o) (s := s) (r := if s < LO then s else s - LO) (by rw [H.out.2.2.1]; rfl) HBIT (by rw [e0, ho2]) rfl
            have HV := Lib.hid (show s = o2 ∧ s < LO + LO ∧ (dig s).length ≤ 1000000 ∧ True from ⟨hs, hrb.2, lo_dig (lo_17 hrb.2), trivial⟩)
            by_cases hlt : s < l
            · have HLT := Lib.hid hlt
              have HR := Lib.hid (show s = X / 2 ^ (16 * i + k) % LO by rw [← hrb.1, if_pos (by rw [← HL.out]; exact hlt)])
              clear hrb hlt hb H hlo ho2 e0 HBIT
              have hso : o2 = s := hs.symm
              clear hs
              subst hso
              go_wp2_with fail
              refine (sumY A' A' c' c' o o o2 HO2.out.2.1 HO2.out.2.1 HO2.out.1 _ (HO1.out.next (by (repeat (first | with_reducible exact (Below.refl _ _) | with_reducible refine below_pin ?_ ?_ | with_reducible refine Below.alloc ?_ ?_ _ | with_reducible refine Below.setCell ?_ ?_ _ | with_reducible refine Below.drew ?_)); all_goals (first | omega | (simp only [World.size_alloc, pin_size, World.size_drew, World.size_setCell] <;> omega)))) (HO1.out.next (by (repeat (first | with_reducible exact (Below.refl _ _) | with_reducible refine below_pin ?_ ?_ | with_reducible refine Below.alloc ?_ ?_ _ | with_reducible refine Below.setCell ?_ ?_ _ | with_reducible refine Below.drew ?_)); all_goals (first | omega | (simp only [World.size_alloc, pin_size, World.size_drew, World.size_setCell] <;> omega))))).mono ?_
              rintro e x2 ⟨⟨A2, c2, rfl, hd2⟩, hb2⟩
              have HB2 : Hid (Below w.heap.size w x2) := Below.trans (by (repeat (first | with_reducible exact HB1.out | with_reducible refine below_pin ?_ ?_ | with_reducible refine Below.alloc ?_ ?_ _ | with_reducible refine Below.setCell ?_ ?_ _ | with_reducible refine Below.drew ?_)); all_goals (first | omega | (simp only [World.size_alloc, pin_size, World.size_drew, World.size_setCell] <;> omega))) (hb2.mono (by (first | omega | (simp only [World.size_alloc, pin_size, World.size_drew, World.size_setCell] <;> omega))))
              have hz2 := HB2.out.size
              clear hb2
              have HD2 := Lib.hid hd2
              clear hd2 HO1
              have hca : x2.cell? ⟨b, off + i, none⟩ = some (.int .u64 (a : Int)) := (HB2.out.cell (p := ⟨b, off + i, none⟩) HBW.out).trans HCA.out
              go_wp2_with fail
              refine (L_any l HL.out _).mono ?_
              rintro e x3 ⟨⟨A4, c4, rfl, hd4⟩, hb3⟩
              have HB3 : Hid (Below w.heap.size w x3) := Below.trans (by (repeat (first | with_reducible exact HB2.out | with_reducible refine below_pin ?_ ?_ | with_reducible refine Below.alloc ?_ ?_ _ | with_reducible refine Below.setCell ?_ ?_ _ | with_reducible refine Below.drew ?_)); all_goals (first | omega | (simp only [World.size_alloc, pin_size, World.size_drew, World.size_setCell] <;> omega))) (hb3.mono (by (first | omega | (simp only [World.size_alloc, pin_size, World.size_drew, World.size_setCell] <;> omega))))
              have hz3 := HB3.out.size
              have HD2n := Lib.hid (HD2.out.next (Below.trans (by (repeat (first | with_reducible exact (Below.refl _ _) | with_reducible refine below_pin ?_ ?_ | with_reducible refine Below.alloc ?_ ?_ _ | with_reducible refine Below.setCell ?_ ?_ _ | with_reducible refine Below.drew ?_)); all_goals (first | omega | (simp only [World.size_alloc, pin_size, World.size_drew, World.size_setCell] <;> omega))) (hb3.mono (by (first | omega | (simp only [World.size_alloc, pin_size, World.size_drew, World.size_setCell] <;> omega))))))
              clear HD2
              have HD2 := HD2n
              clear HD2n
              clear hb3
              have HD4 := Lib.hid hd4
              clear hd4
              go_wp2_with fail
              refine (leastY A2 A4 c2 c4 o2 l true HV.out.2.2.1 (decide_eq_true HLT.out) _ (HD2.out.next (by (repeat (first | with_reducible exact (Below.refl _ _) | with_reducible refine below_pin ?_ ?_ | with_reducible refine Below.alloc ?_ ?_ _ | with_reducible refine Below.setCell ?_ ?_ _ | with_reducible refine Below.drew ?_)); all_goals (first | omega | (simp only [World.size_alloc, pin_size, World.size_drew, World.size_setCell] <;> omega)))) (HD4.out.next (by (repeat (first | with_reducible exact (Below.refl _ _) | with_reducible refine below_pin ?_ ?_ | with_reducible refine Below.alloc ?_ ?_ _ | with_reducible refine Below.setCell ?_ ?_ _ | with_reducible refine Below.drew ?_)); all_goals (first | omega | (simp only [World.size_alloc, pin_size, World.size_drew, World.size_setCell] <;> omega))))).mono ?_
              rintro e x4 ⟨rfl, hb4⟩
              have HB4 : Hid (Below w.heap.size w x4) := Below.trans (by (repeat (first | with_reducible exact HB3.out | with_reducible refine below_pin ?_ ?_ | with_reducible refine Below.alloc ?_ ?_ _ | with_reducible refine Below.setCell ?_ ?_ _ | with_reducible refine Below.drew ?_)); all_goals (first | omega | (simp only [World.size_alloc, pin_size, World.size_drew, World.size_setCell] <;> omega))) (hb4.mono (by (first | omega | (simp only [World.size_alloc, pin_size, World.size_drew, World.size_setCell] <;> omega))))
              have hz4 := HB4.out.size
              have HD2n := Lib.hid (HD2.out.next (Below.trans (by (repeat (first | with_reducible exact (Below.refl _ _) | with_reducible refine below_pin ?_ ?_ | with_reducible refine Below.alloc ?_ ?_ _ | with_reducible refine Below.setCell ?_ ?_ _ | with_reducible refine Below.drew ?_)); all_goals (first | omega | (simp only [World.size_alloc, pin_size, World.size_drew, World.size_setCell] <;> omega))) (hb4.mono (by (first | omega | (simp only [World.size_alloc, pin_size, World.size_drew, World.size_setCell] <;> omega))))))
              clear HD2
              have HD2 := HD2n
              clear HD2n
              clear hb4
              clear HD4
              go_wp2_with fail
              exact ⟨⟨k, o2, A2, c2, rfl, rfl, HB4.out, Nat.le_of_lt HK.out, HR.out, (HD2.out.next (by (repeat (first | with_reducible exact (Below.refl _ _) | with_reducible refine below_pin ?_ ?_ | with_reducible refine Below.alloc ?_ ?_ _ | with_reducible refine Below.setCell ?_ ?_ _ | with_reducible refine Below.drew ?_)); all_goals (first | omega | (simp only [World.size_alloc, pin_size, World.size_drew, World.size_setCell] <;> omega))))⟩, meas_dn k⟩
            · have HLT := Lib.hid hlt
              obtain ⟨r, hr⟩ : ∃ r, r = s - l := ⟨_, rfl⟩
              have HR := Lib.hid (show r = s - l ∧ r = X / 2 ^ (16 * i + k) % LO by rw [← hrb.1, if_neg (by rw [← HL.out]; exact hlt), hr, HL.out]; exact ⟨rfl, rfl⟩)
              clear hr
              clear hrb hlt hb H hlo ho2 e0 HBIT
              have hso : o2 = s := hs.symm
              clear hs
              subst hso
              go_wp2_with fail
              refine (sumY A' A' c' c' o o o2 HO2.out.2.1 HO2.out.2.1 HO2.out.1 _ (HO1.out.next (by (repeat (first | with_reducible exact (Below.refl _ _) | with_reducible refine below_pin ?_ ?_ | with_reducible refine Below.alloc ?_ ?_ _ | with_reducible refine Below.setCell ?_ ?_ _ | with_reducible refine Below.drew ?_)); all_goals (first | omega | (simp only [World.size_alloc, pin_size, World.size_drew, World.size_setCell] <;> omega)))) (HO1.out.next (by (repeat (first | with_reducible exact (Below.refl _ _) | with_reducible refine below_pin ?_ ?_ | with_reducible refine Below.alloc ?_ ?_ _ | with_reducible refine Below.setCell ?_ ?_ _ | with_reducible refine Below.drew ?_)); all_goals (first | omega | (simp only [World.size_alloc, pin_size, World.size_drew, World.size_setCell] <;> omega))))).mono ?_
              rintro e x2 ⟨⟨A2, c2, rfl, hd2⟩, hb2⟩
              have HB2 : Hid (Below w.heap.size w x2) := Below.trans (by (repeat (first | with_reducible exact HB1.out | with_reducible refine below_pin ?_ ?_ | with_reducible refine Below.alloc ?_ ?_ _ | with_reducible refine Below.setCell ?_ ?_ _ | with_reducible refine Below.drew ?_)); all_goals (first | omega | (simp only [World.size_alloc, pin_size, World.size_drew, World.size_setCell] <;> omega))) (hb2.mono (by (first | omega | (simp only [World.size_alloc, pin_size, World.size_drew, World.size_setCell] <;> omega))))
              have hz2 := HB2.out.size
              clear hb2
              have HD2 := Lib.hid hd2
              clear hd2 HO1
              have hca : x2.cell? ⟨b, off + i, none⟩ = some (.int .u64 (a : Int)) := (HB2.out.cell (p := ⟨b, off + i, none⟩) HBW.out).trans HCA.out
              go_wp2_with fail
              refine (L_any l HL.out _).mono ?_
              rintro e x3 ⟨⟨A4, c4, rfl, hd4⟩, hb3⟩
              have HB3 : Hid (Below w.heap.size w x3) := Below.trans (by (repeat (first | with_reducible exact HB2.out | with_reducible refine below_pin ?_ ?_ | with_reducible refine Below.alloc ?_ ?_ _ | with_reducible refine Below.setCell ?_ ?_ _ | with_reducible refine Below.drew ?_)); all_goals (first | omega | (simp only [World.size_alloc, pin_size, World.size_drew, World.size_setCell] <;> omega))) (hb3.mono (by (first | omega | (simp only [World.size_alloc, pin_size, World.size_drew, World.size_setCell] <;> omega))))
              have hz3 := HB3.out.size
              have HD2n := Lib.hid (HD2.out.next (Below.trans (by (repeat (first | with_reducible exact (Below.refl _ _) | with_reducible refine below_pin ?_ ?_ | with_reducible refine Below.alloc ?_ ?_ _ | with_reducible refine Below.setCell ?_ ?_ _ | with_reducible refine Below.drew ?_)); all_goals (first | omega | (simp only [World.size_alloc, pin_size, World.size_drew, World.size_setCell] <;> omega))) (hb3.mono (by (first | omega | (simp only [World.size_alloc, pin_size, World.size_drew, World.size_setCell] <;> omega))))))
              clear HD2
              have HD2 := HD2n
              clear HD2n
              clear hb3
              have HD4 := Lib.hid hd4
              clear hd4
              go_wp2_with fail
              refine (leastY A2 A4 c2 c4 o2 l false HV.out.2.2.1 (decide_eq_false HLT.out) _ (HD2.out.next (by (repeat (first | with_reducible exact (Below.refl _ _) | with_reducible refine below_pin ?_ ?_ | with_reducible refine Below.alloc ?_ ?_ _ | with_reducible refine Below.setCell ?_ ?_ _ | with_reducible refine Below.drew ?_)); all_goals (first | omega | (simp only [World.size_alloc, pin_size, World.size_drew, World.size_setCell] <;> omega)))) (HD4.out.next (by (repeat (first | with_reducible exact (Below.refl _ _) | with_reducible refine below_pin ?_ ?_ | with_reducible refine Below.alloc ?_ ?_ _ | with_reducible refine Below.setCell ?_ ?_ _ | with_reducible refine Below.drew ?_)); all_goals (first | omega | (simp only [World.size_alloc, pin_size, World.size_drew, World.size_setCell] <;> omega))))).mono ?_
              rintro e x4 ⟨rfl, hb4⟩
              have HB4 : Hid (Below w.heap.size w x4) := Below.trans (by (repeat (first | with_reducible exact HB3.out | with_reducible refine below_pin ?_ ?_ | with_reducible refine Below.alloc ?_ ?_ _ | with_reducible refine Below.setCell ?_ ?_ _ | with_reducible refine Below.drew ?_)); all_goals (first | omega | (simp only [World.size_alloc, pin_size, World.size_drew, World.size_setCell] <;> omega))) (hb4.mono (by (first | omega | (simp only [World.size_alloc, pin_size, World.size_drew, World.size_setCell] <;> omega))))
              have hz4 := HB4.out.size
              have HD2n := Lib.hid (HD2.out.next (Below.trans (by (repeat (first | with_reducible exact (Below.refl _ _) | with_reducible refine below_pin ?_ ?_ | with_reducible refine Below.alloc ?_ ?_ _ | with_reducible refine Below.setCell ?_ ?_ _ | with_reducible refine Below.drew ?_)); all_goals (first | omega | (simp only [World.size_alloc, pin_size, World.size_drew, World.size_setCell] <;> omega))) (hb4.mono (by (first | omega | (simp only [World.size_alloc, pin_size, World.size_drew, World.size_setCell] <;> omega))))))
              clear HD2
              have HD2 := HD2n
              clear HD2n
              clear hb4
              clear HD4
              go_wp2_with fail
              refine (L_any l HL.out _).mono ?_
              rintro e x5 ⟨⟨A6, c6, rfl, hd6⟩, hb5⟩
              have HB5 : Hid (Below w.heap.size w x5) := Below.trans (by (repeat (first | with_reducible exact HB4.out | with_reducible refine below_pin ?_ ?_ | with_reducible refine Below.alloc ?_ ?_ _ | with_reducible refine Below.setCell ?_ ?_ _ | with_reducible refine Below.drew ?_)); all_goals (first | omega | (simp only [World.size_alloc, pin_size, World.size_drew, World.size_setCell] <;> omega))) (hb5.mono (by (first | omega | (simp only [World.size_alloc, pin_size, World.size_drew, World.size_setCell] <;> omega))))
              have hz5 := HB5.out.size
              have HD2n := Lib.hid (HD2.out.next (Below.trans (by (repeat (first | with_reducible exact (Below.refl _ _) | with_reducible refine below_pin ?_ ?_ | with_reducible refine Below.alloc ?_ ?_ _ | with_reducible refine Below.setCell ?_ ?_ _ | with_reducible refine Below.drew ?_)); all_goals (first | omega | (simp only [World.size_alloc, pin_size, World.size_drew, World.size_setCell] <;> omega))) (hb5.mono (by (first | omega | (simp only [World.size_alloc, pin_size, World.size_drew, World.size_setCell] <;> omega))))))
              clear HD2
              have HD2 := HD2n
              clear HD2n
              clear hb5
              have HD6 := Lib.hid hd6
              clear hd6
              go_wp2_with fail
              refine (minusY A2 A6 c2 c6 o2 l r HV.out.2.2.1 (Nat.le_of_not_lt HLT.out) HR.out.1 _ (HD2.out.next (by (repeat (first | with_reducible exact (Below.refl _ _) | with_reducible refine below_pin ?_ ?_ | with_reducible refine Below.alloc ?_ ?_ _ | with_reducible refine Below.setCell ?_ ?_ _ | with_reducible refine Below.drew ?_)); all_goals (first | omega | (simp only [World.size_alloc, pin_size, World.size_drew, World.size_setCell] <;> omega)))) (HD6.out.next (by (repeat (first | with_reducible exact (Below.refl _ _) | with_reducible refine below_pin ?_ ?_ | with_reducible refine Below.alloc ?_ ?_ _ | with_reducible refine Below.setCell ?_ ?_ _ | with_reducible refine Below.drew ?_)); all_goals (first | omega | (simp only [World.size_alloc, pin_size, World.size_drew, World.size_setCell] <;> omega))))).mono ?_
              rintro e x6 ⟨⟨A7, c7, rfl, hd7⟩, hb6⟩
              have HB6 : Hid (Below w.heap.size w x6) := Below.trans (by (repeat (first | with_reducible exact HB5.out | with_reducible refine below_pin ?_ ?_ | with_reducible refine Below.alloc ?_ ?_ _ | with_reducible refine Below.setCell ?_ ?_ _ | with_reducible refine Below.drew ?_)); all_goals (first | omega | (simp only [World.size_alloc, pin_size, World.size_drew, World.size_setCell] <;> omega))) (hb6.mono (by (first | omega | (simp only [World.size_alloc, pin_size, World.size_drew, World.size_setCell] <;> omega))))
              have hz6 := HB6.out.size
              clear hb6
              have HD7 := Lib.hid hd7
              clear hd7 HD6
              go_wp2_with fail
              exact ⟨⟨k, r, A7, c7, rfl, rfl, HB6.out, Nat.le_of_lt HK.out, HR.out.2, HD7.out⟩, meas_dn k⟩

end Go.Proofs.YtljolpdpblohcaaDoor
