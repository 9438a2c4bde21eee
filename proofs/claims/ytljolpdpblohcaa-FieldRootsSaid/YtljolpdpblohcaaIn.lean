/-
  Walks: inverses modulo the prime.
-/
import Derived.Test.YtljolpdpblohcaaPw
namespace Go.Proofs.Ytljolpdpblohcaa
open Go.RowKit Go.Proofs.YtljolpdpblohcaaW.PrintLast
set_option linter.unusedSimpArgs false

set_option linter.unusedVariables false
theorem Power_to (A : Option Addr) (c X b n E : Nat) (hx : X < Num.p) (es : List Nat) (hn : es.length = n) (hl : n ≤ 1000) (hby : ∀ b ∈ es, b < 256) (hE : leN es = E) (w : World) (hX : Dn w A c X) (hr : Rd w .u8 (some ⟨b, 0, none⟩) es) :
    Calls Try.prog 38 #[.slice A (dig X).length c, .slice (some ⟨b, 0, none⟩) n n] w fun e w' => (∃ A' c', e = .returned (.slice A' (dig (X ^ E % Num.p)).length c') ∧ Dn w' A' c' (X ^ E % Num.p)) ∧ Below w.heap.size w w' := by
  subst hn
  subst hE
  exact Power_any A (some ⟨b, 0, none⟩) c es.length X hx es hl hby w hX hr
theorem minus_lit (A : Option Addr) (c X g Y : Nat) (hsx : (dig X).length ≤ 1000000) (hY : dig Y = [Y]) (hle : Y ≤ X) (w : World) (hX : Dn w A c X) (hg : w.heap[g]? = some (.cells #[.int .u64 (Y : Int)] 23)) :
    Calls Try.prog 52 #[.slice A (dig X).length c, .slice (some ⟨g, 0, none⟩) 1 1] w fun e w' => (∃ A' c', e = .returned (.slice A' (dig (X - Y)).length c') ∧ Dn w' A' c' (X - Y)) ∧ Below w.heap.size w w' := by
  have h := minus_any A (some ⟨g, 0, none⟩) c 1 X Y hsx hle w hX (dn_lit Y hY hg)
  rw [show (dig Y).length = 1 by rw [hY]; rfl] at h
  exact h
theorem sum_lit (A : Option Addr) (c X g Y : Nat) (hsx : (dig X).length ≤ 1000000) (hY : dig Y = [Y]) (w : World) (hX : Dn w A c X) (hg : w.heap[g]? = some (.cells #[.int .u64 (Y : Int)] 23)) :
    Calls Try.prog 45 #[.slice A (dig X).length c, .slice (some ⟨g, 0, none⟩) 1 1] w fun e w' => (∃ A' c', e = .returned (.slice A' (dig (X + Y)).length c') ∧ Dn w' A' c' (X + Y)) ∧ Below w.heap.size w w' := by
  have h := sum_any A (some ⟨g, 0, none⟩) c 1 X Y hsx (by rw [hY]; exact Nat.le_trans (Nat.le_refl 1) (by decide)) w hX (dn_lit Y hY hg)
  rw [show (dig Y).length = 1 by rw [hY]; rfl] at h
  exact h
theorem bytes_back {n : Nat} (h : n < Num.p) : leN (bytesN 32 n) = n := by rw [leN_bytes, Nat.mod_eq_of_lt (p_bytes h)]

set_option maxRecDepth 100000 in
set_option maxHeartbeats 2000000 in
theorem RInv_any (A : Option Addr) (c X : Nat) (hx : X < Num.p) (w : World) (hX : Dn w A c X) :
    Calls Try.prog 40 #[.slice A (dig X).length c] w fun e w' => (∃ A' c', e = .returned (.slice A' (dig (X ^ (Num.p - 2) % Num.p)).length c') ∧ Dn w' A' c' (X ^ (Num.p - 2) % Num.p)) ∧ Below w.heap.size w w' := by
  have HX := Lib.hid hX
  have HP := Lib.hid hx
  obtain ⟨q, hq⟩ : ∃ q, q = Num.p - 2 := ⟨_, rfl⟩
  have HQ := Lib.hid (show q < Num.p ∧ q = Num.p - 2 by rw [hq]; exact ⟨by decide, rfl⟩)
  rw [← hq]
  clear hX hx hq
  go_enter Try.func40, Try.ntmps40
  go_wp2_with fail
  refine (P_any _).mono ?_
  rintro e x1 ⟨⟨A0, c0, rfl, hd0⟩, hb1⟩
  have HB1 : Hid (Below w.heap.size w x1) := Below.trans (by (repeat (first | with_reducible exact (Below.refl _ _) | with_reducible refine below_pin ?_ ?_ | with_reducible refine Below.alloc ?_ ?_ _ | with_reducible refine Below.setCell ?_ ?_ _ | with_reducible refine Below.drew ?_)); all_goals (first | omega | (simp only [World.size_alloc, pin_size, World.size_drew, World.size_setCell] <;> omega))) (hb1.mono (by (first | omega | (simp only [World.size_alloc, pin_size, World.size_drew, World.size_setCell] <;> omega))))
  have hz1 := HB1.out.size
  clear hb1
  have HD0 := Lib.hid hd0
  clear hd0
  go_wp2_with fail
  refine (minus_lit A0 c0 Num.p x1.heap.size 2 (by rw [digP]; decide) dig2 (by decide) _ (HD0.out.next (by (repeat (first | with_reducible exact (Below.refl _ _) | with_reducible refine below_pin ?_ ?_ | with_reducible refine Below.alloc ?_ ?_ _ | with_reducible refine Below.setCell ?_ ?_ _ | with_reducible refine Below.drew ?_)); all_goals (first | omega | (simp only [World.size_alloc, pin_size, World.size_drew, World.size_setCell] <;> omega)))) (heap_alloc_new _ _)).mono ?_
  rintro e x2 ⟨⟨A1, c1, rfl, hd1⟩, hb2⟩
  have HB2 : Hid (Below w.heap.size w x2) := Below.trans (by (repeat (first | with_reducible exact HB1.out | with_reducible refine below_pin ?_ ?_ | with_reducible refine Below.alloc ?_ ?_ _ | with_reducible refine Below.setCell ?_ ?_ _ | with_reducible refine Below.drew ?_)); all_goals (first | omega | (simp only [World.size_alloc, pin_size, World.size_drew, World.size_setCell] <;> omega))) (hb2.mono (by (first | omega | (simp only [World.size_alloc, pin_size, World.size_drew, World.size_setCell] <;> omega))))
  have hz2 := HB2.out.size
  clear hb2
  rw [← HQ.out.2] at hd1 ⊢
  have HD1 := Lib.hid hd1
  clear hd1
  go_wp2_with fail
  refine (Bytes_any A1 c1 q (p_16 HQ.out.1) _ HD1.out).mono ?_
  rintro e x3 ⟨⟨b, rfl, hrd⟩, hb3⟩
  have HB3 : Hid (Below w.heap.size w x3) := Below.trans (by (repeat (first | with_reducible exact HB2.out | with_reducible refine below_pin ?_ ?_ | with_reducible refine Below.alloc ?_ ?_ _ | with_reducible refine Below.setCell ?_ ?_ _ | with_reducible refine Below.drew ?_)); all_goals (first | omega | (simp only [World.size_alloc, pin_size, World.size_drew, World.size_setCell] <;> omega))) (hb3.mono (by (first | omega | (simp only [World.size_alloc, pin_size, World.size_drew, World.size_setCell] <;> omega))))
  have hz3 := HB3.out.size
  clear hb3
  have HRD := Lib.hid hrd
  clear hrd
  go_wp2_with fail
  refine (Power_to A c X b 32 q HP.out (bytesN 32 q) (bytesN_len _ _) (by decide) (bytesN_lt _ _) (bytes_back HQ.out.1) _ (HX.out.mono HB3.out (Nat.le_refl _)) HRD.out).mono ?_
  rintro e x4 ⟨⟨A2, c2, rfl, hd2⟩, hb4⟩
  have HB4 : Hid (Below w.heap.size w x4) := Below.trans (by (repeat (first | with_reducible exact HB3.out | with_reducible refine below_pin ?_ ?_ | with_reducible refine Below.alloc ?_ ?_ _ | with_reducible refine Below.setCell ?_ ?_ _ | with_reducible refine Below.drew ?_)); all_goals (first | omega | (simp only [World.size_alloc, pin_size, World.size_drew, World.size_setCell] <;> omega))) (hb4.mono (by (first | omega | (simp only [World.size_alloc, pin_size, World.size_drew, World.size_setCell] <;> omega))))
  have hz4 := HB4.out.size
  clear hb4
  have HD2 := Lib.hid hd2
  clear hd2
  go_wp2_with fail
  go_ret
  exact ⟨⟨A2, c2, rfl, HD2.out⟩, (by (repeat (first | with_reducible exact HB4.out | with_reducible refine below_pin ?_ ?_ | with_reducible refine Below.alloc ?_ ?_ _ | with_reducible refine Below.setCell ?_ ?_ _ | with_reducible refine Below.drew ?_)); all_goals (first | omega | (simp only [World.size_alloc, pin_size, World.size_drew, World.size_setCell] <;> omega)))⟩


end Go.Proofs.Ytljolpdpblohcaa
