/-
  Shared, part 32: walks and plain laws; each theorem states its own conditions.
-/
import Derived.Test.YtehfkbaendajbaaGreatDoorB31
namespace Go.Proofs.YtehfkbaendajbaaGreatDoor
set_option linter.unusedSimpArgs false
set_option linter.unusedVariables false
set_option maxRecDepth 100000
set_option maxHeartbeats 8000000
section
open Go.RowKit
def anp (a : Nat) : Nat := if a % Num.p % 2 = 1 then dD 0 a else a
theorem H7 {a b : Nat} (h : a % Num.p = b % Num.p) : anp a % Num.p = anp b % Num.p := by
 unfold anp
 rw [h]
 split
 · rw [oM (a := 0) (c := 0) rfl h]
 · exact h
theorem OO {a b : Nat} (h : a % Num.p = dD 0 b) : anp a % Num.p = anp b % Num.p := by
 have e1 : anp a % Num.p = if a % Num.p % 2 = 1 then (Num.p - a % Num.p) % Num.p else a % Num.p := by
  unfold anp
  split
  · rw [gK, F5]
  · rfl
 have e2 : anp b % Num.p = if b % Num.p % 2 = 1 then (Num.p - b % Num.p) % Num.p else b % Num.p := by
  unfold anp
  split
  · rw [gK, F5]
  · rfl
 rw [e1, e2, h, F5]
 have h3 : b % Num.p < Num.p := Nat.mod_lt _ gJ
 obtain ⟨v, hv⟩ : ∃ v, v = b % Num.p := ⟨_, rfl⟩
 rw [← hv] at h3 ⊢
 clear hv e1 e2 h
 have h5 : Num.p % 2 = 1 := by decide
 by_cases h0 : v = 0
 · subst h0
   rw [Nat.sub_zero, Nat.mod_self]
   decide
 · rw [Nat.mod_eq_of_lt (by omega : Num.p - v < Num.p)]
   by_cases ho : v % 2 = 1
   · rw [if_pos ho, if_neg (by omega)]
   · rw [if_neg ho, if_pos (by omega), Nat.mod_eq_of_lt (by omega)]
     omega
theorem IY {n m A V : Nat} (h : cO n m A V) : dS n m A V = anp (iD n m A V) := by
 unfold dS anp
 rw [if_pos h]
def yF (Q e1 : Nat) : Nat := Q ^ e1 % Num.p
def rH (Q e1 e2 : Nat) : Nat := if yF Q e1 * yF Q e1 % Num.p = Q then yF Q e1 else yF Q e1 * (2 ^ e2 % Num.p) % Num.p
def rG (U V : Nat) : Nat := U * (V ^ (Num.p - 2) % Num.p) % Num.p
theorem EY (U V : Nat) : rG U V < Num.p := Nat.mod_lt _ gJ
theorem XD (Q e1 e2 : Nat) : rH Q e1 e2 < Num.p := by
 unfold rH yF
 split
 · exact Nat.mod_lt _ gJ
 · exact Nat.mod_lt _ gJ
theorem Ht {U V : Nat} (hV : ¬ V % Num.p = 0) : rG U V * V % Num.p = U % Num.p := by
 unfold rG
 have h0 : U * (V ^ (Num.p - 2) % Num.p) % Num.p % Num.p = U * V ^ (Num.p - 2) % Num.p := by rw [Nat.mod_mod, Nat.mul_mod, Nat.mod_mod, ← Nat.mul_mod]
 have h1 : U * (V ^ (Num.p - 2) % Num.p) % Num.p * V % Num.p = U * (V * V ^ (Num.p - 2)) % Num.p := by
  rw [mm h0 (rfl : V % Num.p = V % Num.p), Nat.mul_assoc, Nat.mul_comm (V ^ (Num.p - 2)) V]
 rw [h1, mm (rfl : U % Num.p = U % Num.p) (show V * V ^ (Num.p - 2) % Num.p = 1 % Num.p by rw [inv1 hV]; decide), Nat.mul_one]
section
variable {E1 E2 HP : Nat} (X : yt E1 E2 HP)
include X
theorem MX (Q : Nat) : yF Q (E1 + 1) * yF Q (E1 + 1) % Num.p = Q * Q ^ E2 % Num.p := by
 unfold yF
 rw [← Nat.mul_mod, ← Nat.pow_add, ← X.E12, show E1 + 1 + (E1 + 1) = (E1 + E1 + 1) + 1 by omega, Nat.pow_succ, Nat.mul_comm]
theorem XE (Q : Nat) (hq : Q < Num.p) : rH Q (E1 + 1) E2 * rH Q (E1 + 1) E2 % Num.p = if yF Q (E1 + 1) * yF Q (E1 + 1) % Num.p = Q then Q else (Num.p - 1) * (Q * Q ^ E2) % Num.p := by
 unfold rH
 split
 · rename_i h; exact h
 · rw [← Nat.mul_mod]
   have e : ∀ r i : Nat, r * i * (r * i) = i * i * (r * r) := fun r i => by simp only [Nat.mul_assoc, Nat.mul_comm, Nat.mul_left_comm]
   rw [e]
   refine mm ?_ ?_
   · rw [← Nat.mul_mod, aeZ X]
     exact (Nat.mod_eq_of_lt (by decide)).symm
   · exact MX X Q
theorem aa3 {U V : Nat} (hU : U < Num.p) (hV : ¬ V % Num.p = 0) : (rH (rG U V) (E1 + 1) E2 * rH (rG U V) (E1 + 1) E2 % Num.p = rG U V) ↔ cO E1 E2 U V := by
 have hqv := Ht (U := U) hV
 obtain ⟨Q, hQ⟩ : ∃ Q, Q = rG U V := ⟨_, rfl⟩
 have hq : Q < Num.p := by rw [hQ]; exact EY U V
 rw [← hQ] at hqv ⊢
 by_cases h0 : U = 0
 · 
   have hQ0 : Q = 0 := by
    rw [hQ, h0]
    unfold rG
    rw [Nat.zero_mul]
    decide
   have hr : cO E1 E2 U V := by
    have hR : jg E1 U V = 0 := by rw [h0]; unfold jg; rw [Nat.zero_mul, Nat.zero_mul]
    have hS : iD E1 E2 U V = 0 := by
     unfold iD
     rw [hR]
     split
     · rw [Nat.zero_mul]
     · rfl
    unfold cO
    rw [hS, h0]; simp only [Nat.zero_mul]
   refine ⟨fun _ => hr, fun _ => ?_⟩
   have hd : yF Q (E1 + 1) = 0 := by
    unfold yF
    rw [hQ0, Nat.pow_succ, Nat.mul_zero]
    decide
   have hs : rH Q (E1 + 1) E2 = 0 := by
    unfold rH
    rw [hd, Nat.zero_mul, Nat.zero_mul]
    split
    · rfl
    · decide
   rw [hs, hQ0]
   decide
 · have hU0 : ¬ U % Num.p = 0 := by rw [Nat.mod_eq_of_lt hU]; exact h0
   have hQ0 : ¬ Q % Num.p = 0 := fun h => hU0 (by rw [← hqv, mm (c := 0) (h.trans (by decide)) (rfl : V % Num.p = V % Num.p), Nat.zero_mul]; decide)
   have hQm : Q % Num.p = Q := Nat.mod_eq_of_lt hq
   obtain ⟨c, hc⟩ : ∃ c, c = Q ^ E2 := ⟨_, rfl⟩
   have hVU : (V * U) ^ HP % Num.p = c * c % Num.p := by
    have e1 : V * U % Num.p = V * V * Q % Num.p := by rw [mm (rfl : V % Num.p = V % Num.p) hqv.symm, Nat.mul_comm Q V, ← Nat.mul_assoc]
    rw [Vs HP e1, Nat.mul_pow, Nat.mul_pow, ← Nat.pow_add, X.HP2, hc, ← Nat.pow_add, X.E22, Nat.mul_mod, wP hV, Nat.one_mul, Nat.mod_mod]
   rw [I5 X hU0 hV, hVU, XE X Q hq, MX X, ← hc]
   have p1 : (1 : Nat) % Num.p = 1 := by decide
   constructor
   · intro h
     by_cases hs : Q * c % Num.p = Q
     · have h1 : c % Num.p = 1 % Num.p := cancel hQ0 (by rw [hs, Nat.mul_one, hQm])
       rw [mm h1 h1]
       decide
     · rw [if_neg hs] at h
       have h1 : (Num.p - 1) * c % Num.p = 1 % Num.p := cancel hQ0 (by
        have e : Q * ((Num.p - 1) * c) = (Num.p - 1) * (Q * c) := by simp only [Nat.mul_assoc, Nat.mul_comm, Nat.mul_left_comm]
        rw [e, h, Nat.mul_one, hQm])
       have h2 : c % Num.p = (Num.p - 1) % Num.p := by
        have h3 := mm (rfl : (Num.p - 1) % Num.p = (Num.p - 1) % Num.p) h1
        rw [← Nat.mul_assoc, mm (show (Num.p - 1) * (Num.p - 1) % Num.p = 1 % Num.p by rw [BF]; decide) (rfl : c % Num.p = c % Num.p), Nat.one_mul, Nat.mul_one] at h3
        exact h3
       rw [mm h2 h2, BF]
   · intro h
     have h2 : c * c % Num.p = 1 * 1 % Num.p := by rw [h]; decide
     rcases VW h2 with h3 | h3
     · have h4 : Q * c % Num.p = Q := by rw [mm (rfl : Q % Num.p = Q % Num.p) h3, Nat.mul_one, hQm]
       rw [if_pos h4]
     · have h5 : c % Num.p = (Num.p - 1) % Num.p := by rw [h3, ← gK, neg_mul, Nat.mul_one]
       by_cases hs : Q * c % Num.p = Q
       · rw [if_pos hs]
       · rw [if_neg hs]
         have e : (Num.p - 1) * (Q * c) % Num.p = (Num.p - 1) * (Q * (Num.p - 1)) % Num.p := mm rfl (mm rfl h5)
         have e2 : (Num.p - 1) * (Q * (Num.p - 1)) = (Num.p - 1) * (Num.p - 1) * Q := by simp only [Nat.mul_assoc, Nat.mul_comm, Nat.mul_left_comm]
         rw [e, e2, mm (show (Num.p - 1) * (Num.p - 1) % Num.p = 1 % Num.p by rw [BF]; decide) (rfl : Q % Num.p = Q % Num.p), Nat.one_mul, hQm]
omit X
theorem XH {U V : Nat} (hV : ¬ V % Num.p = 0) (hok : cO E1 E2 U V) (hd : rH (rG U V) (E1 + 1) E2 * rH (rG U V) (E1 + 1) E2 % Num.p = rG U V) : anp (rH (rG U V) (E1 + 1) E2) % Num.p = dS E1 E2 U V % Num.p := by
 rw [IY hok]
 have hqv := Ht (U := U) hV
 have h := hok
 unfold cO at h
 have h1 : rH (rG U V) (E1 + 1) E2 * rH (rG U V) (E1 + 1) E2 % Num.p = iD E1 E2 U V * iD E1 E2 U V % Num.p := by
  refine cancel hV ?_
  rw [Nat.mul_comm V, Nat.mul_comm V, h, mm (show rH (rG U V) (E1 + 1) E2 * rH (rG U V) (E1 + 1) E2 % Num.p = rG U V % Num.p by rw [hd, Nat.mod_eq_of_lt (EY U V)]) (rfl : V % Num.p = V % Num.p), hqv]
 rcases VW h1 with h2 | h2
 · exact H7 h2
 · exact OO h2
theorem Qj {U V : Nat} (hU : U < Num.p) (hV : V = 0) : (cO E1 E2 U V ↔ U = 0) ∧ dS E1 E2 U V % Num.p = 0 := by
 have hR : jg E1 U V = 0 := by rw [hV]; unfold jg; simp
 have hS : iD E1 E2 U V = 0 := by
  unfold iD
  rw [hR]
  split
  · rw [Nat.zero_mul]
  · rfl
 constructor
 · unfold cO
   rw [hS]; simp only [Nat.zero_mul]; rw [Nat.zero_mod, Nat.mod_eq_of_lt hU]
   exact eq_comm
 · unfold dS
   rw [hS]
   split
   · decide
   · decide
end
end
section
open Go.RowKit Go.Proofs.YtehfkbaendajbaaGreatDoorW.PrintLast
theorem fQ (A B : Option Addr) (c d X Y Z : Nat) (hx : X < Num.p) (hy : Y < Num.p) (hz : Z = X * Y % Num.p) (w : World) (hX : Dn w A c X) (hY : Dn w B d Y) :
 Calls Tryz.prog 49 #[.slice A (aB X).length c, .slice B (aB Y).length d] w fun e w' => (∃ A' c', e = .returned (.slice A' (aB Z).length c') ∧ Dn w' A' c' Z) ∧ Below w.heap.size w w' := by
 subst hz
 exact zT A B c d X Y hx hy w hX hY
theorem Gt (A : Option Addr) (c X L Z : Nat) (hx : X < Num.p) (hL : L = (aB X).length) (hz : Z = X ^ (Num.p - 2) % Num.p) (w : World) (hX : Dn w A c X) :
 Calls Tryz.prog 48 #[.slice A L c] w fun e w' => (∃ A' c', e = .returned (.slice A' (aB Z).length c') ∧ Dn w' A' c' Z) ∧ Below w.heap.size w w' := by
 subst hz
 subst hL
 exact Ry A c X hx w hX
theorem Gx (A : Option Addr) (c X b E Z : Nat) (hx : X < Num.p) (hE : E < Num.p) (hz : Z = X ^ E % Num.p) (w : World) (hX : Dn w A c X) (hr : Rd w .u8 (some ⟨b, 0, none⟩) (dw 32 E)) :
 Calls Tryz.prog 92 #[.slice A (aB X).length c, .slice (some ⟨b, 0, none⟩) 32 32] w fun e w' => (∃ A' c', e = .returned (.slice A' (aB Z).length c') ∧ Dn w' A' c' Z) ∧ Below w.heap.size w w' := by
 subst hz
 exact Gy A c X b 32 E hx (dw 32 E) (kV _ _) (by decide) (qj _ _) (AA hE) w hX hr
theorem ER (g X b E Z : Nat) (hd : aB X = [X]) (hx : X < Num.p) (hE : E < Num.p) (hz : Z = X ^ E % Num.p) (w : World) (hX : Dn w (some ⟨g, 0, none⟩) 1 X) (hr : Rd w .u8 (some ⟨b, 0, none⟩) (dw 32 E)) :
 Calls Tryz.prog 92 #[.slice (some ⟨g, 0, none⟩) 1 1, .slice (some ⟨b, 0, none⟩) 32 32] w fun e w' => (∃ A' c', e = .returned (.slice A' (aB Z).length c') ∧ Dn w' A' c' Z) ∧ Below w.heap.size w w' := by
 have h := Gx (some ⟨g, 0, none⟩) 1 X b E Z hx hE hz w hX hr
 rw [show (aB X).length = 1 by rw [hd]; rfl] at h
 exact h
theorem sZ (A : Option Addr) (c X n Z : Nat) (hsz : (aB X).length ≤ 1000000) (hn : n ≤ 1000) (hz : Z = X / 2 ^ n) (w : World) (hX : Dn w A c X) :
 Calls Tryz.prog 118 #[.slice A (aB X).length c, .int .i64 n] w fun e w' => (∃ A' c', e = .returned (.slice A' (aB Z).length c') ∧ Dn w' A' c' Z) ∧ Below w.heap.size w w' := by
 subst hz
 exact TG A c X n hsz hn w hX
theorem LG (A : Option Addr) (c X g Y Z : Nat) (hsx : (aB X).length ≤ 1000000) (hY : aB Y = [Y]) (hz : Z = X + Y) (w : World) (hX : Dn w A c X) (hg : w.heap[g]? = some (.cells #[.int .u64 (Y : Int)] 34)) :
 Calls Tryz.prog 98 #[.slice A (aB X).length c, .slice (some ⟨g, 0, none⟩) 1 1] w fun e w' => (∃ A' c', e = .returned (.slice A' (aB Z).length c') ∧ Dn w' A' c' Z) ∧ Below w.heap.size w w' := by
 subst hz
 exact Y9 A c X g Y hsx hY w hX hg
theorem FI (A : Option Addr) (c X g Y Z : Nat) (hsx : (aB X).length ≤ 1000000) (hY : aB Y = [Y]) (hle : Y ≤ X) (hz : Z = X - Y) (w : World) (hX : Dn w A c X) (hg : w.heap[g]? = some (.cells #[.int .u64 (Y : Int)] 34)) :
 Calls Tryz.prog 93 #[.slice A (aB X).length c, .slice (some ⟨g, 0, none⟩) 1 1] w fun e w' => (∃ A' c', e = .returned (.slice A' (aB Z).length c') ∧ Dn w' A' c' Z) ∧ Below w.heap.size w w' := by
 subst hz
 exact Eh A c X g Y hsx hY hle w hX hg
theorem nX (A B : Option Addr) (c d X Y : Nat) (b : Bool) (hx : X < Num.p) (hy : Y < Num.p) (hb : decide (X = Y) = b) (w : World) (hX : Dn w A c X) (hY : Dn w B d Y) :
 Calls Tryz.prog 119 #[.slice A (aB X).length c, .slice B (aB Y).length d] w fun e w' => e = .returned (.bool b) ∧ Below w.heap.size w w' := by
 subst hb
 exact Oe A B c d X Y (Ep hx) (Ep hy) w hX hY
theorem Jz : aB 3 = [3] := kW [3] (by decide) (by decide)
theorem LZ (B : Option Addr) (d Y Z : Nat) (hy : Y < Num.p) (hz : Z = (Num.p - Y) % Num.p) (L : Nat) (hL : L = (aB Y).length) (w : World) (hY : Dn w B d Y) :
 Calls Tryz.prog 74 #[.slice none 0 0, .slice B L d] w fun e w' => (∃ A' c', e = .returned (.slice A' (aB Z).length c') ∧ Dn w' A' c' Z) ∧ Below w.heap.size w w' := by
 subst hz
 subst hL
 exact Rk B d Y hy w hY
theorem lM {n : Nat} : dg n 0 % 2 = n % 2 := by
 simp only [dg, Nat.pow_zero, Nat.div_one, BB]; omega
theorem XR {n : Nat} (h : n + n + 1 + (n + n + 1) + (n + n + 1 + (n + n + 1)) = Num.p - 1) : n + 1 = (Num.p + 3) / 2 ^ 3 := by
 unfold Num.p at *
 omega
theorem XQ {m : Nat} (h : m + m + (m + m) = Num.p - 1) : m = (Num.p - 1) / 2 ^ 2 := by
 unfold Num.p at *
 omega
theorem Hl {n : Nat} (h : n ≠ 0) : 0 < (aB n).length := by rw [mD h]; exact Nat.succ_pos _
theorem oG {n : Nat} (h : (aB n).length = 0) : n = 0 := by
 have h1 := tC n
 rw [h, Nat.pow_zero] at h1
 omega
theorem Oc (A B : Option Addr) (c d U V n m : Nat) (ex : yt n m HP) (hu : U < Num.p) (hv : V < Num.p) (w : World) (hX : Dn w A c U) (hY : Dn w B d V) :
 Calls Tryz.prog 105 #[.slice A (aB U).length c, .slice B (aB V).length d] w fun e w' => (∃ A' c' r ok, e = .returned (.tuple #[.slice A' (aB r).length c', .bool ok]) ∧ Dn w' A' c' r ∧ r < Num.p ∧ ok = decide (cO n m U V) ∧ small r = small (dS n m U V)) ∧ Below w.heap.size w w' := by
 have HX := Lib.hid hX
 have HY := Lib.hid hY
 have HU := Lib.hid hu
 have HV := Lib.hid hv
 have EX := Lib.hid ex
 clear hX hY hu hv ex
 by_cases hv0 : V = 0
 · have Z := Qj (E1 := n) (E2 := m) (HU.out) hv0
   have HZ := Lib.hid Z
   subst hv0
   rw [show (aB 0).length = 0 by rw [dY]; rfl]
   obtain ⟨L, hL⟩ : ∃ L, L = (aB U).length := ⟨_, rfl⟩
   rw [← hL]
   have hd : decide ((L : Int) = 0) = decide (cO n m U 0) := by
    rw [decide_eq_decide, Z.1]
    constructor
    · intro h; exact oG (by omega)
    · intro h; rw [hL, h, dY]; rfl
   have hd2 : (((L : Int)) == 0) = decide (cO n m U 0) := by rw [← hd]; rfl
   clear hL Z
   go_enter Tryz.func105, Tryz.ntmps105
   go_wp2_with fail
   refine bodyPost_ret (v := .tuple #[.slice none 0 0, .bool (decide (cO n m U 0))]) ?_ rfl ⟨⟨none, 0, 0, decide (cO n m U 0), by rw [dY]; rfl, EU _, gJ, rfl, bY HZ.out.2.symm⟩, (pl (Below.refl _ _))⟩
   · simp [results, Tryz.results105, go_sem, hd, hd2]
 · have hvm : ¬ V % Num.p = 0 := by rw [Nat.mod_eq_of_lt HV.out]; exact hv0
   obtain ⟨L, hL⟩ : ∃ L, L = (aB V).length := ⟨_, rfl⟩
   have HL := Lib.hid hL
   rw [← hL]
   have hl0 : ¬ (L : Int) = 0 := by have := Hl hv0; omega
   have hl1 : decide ((L : Int) = 0) = false := decide_eq_false hl0
   obtain ⟨vi, hvi⟩ : ∃ z, z = V ^ (Num.p - 2) % Num.p := ⟨_, rfl⟩
   obtain ⟨q, hq⟩ : ∃ z, z = rG U V := ⟨_, rfl⟩
   have HQ := Lib.hid (show vi = V ^ (Num.p - 2) % Num.p ∧ vi < Num.p ∧ q = U * vi % Num.p ∧ q < Num.p by rw [hq, hvi]; exact ⟨rfl, Nat.mod_lt _ gJ, rfl, EY U V⟩)
   obtain ⟨r0, hr0⟩ : ∃ z, z = yF q (n + 1) := ⟨_, rfl⟩
   obtain ⟨s0, hs0⟩ : ∃ z, z = r0 * r0 % Num.p := ⟨_, rfl⟩
   obtain ⟨S, hS⟩ : ∃ z, z = rH q (n + 1) m := ⟨_, rfl⟩
   obtain ⟨s1, hs1⟩ : ∃ z, z = S * S % Num.p := ⟨_, rfl⟩
   obtain ⟨p3, hp3⟩ : ∃ z, z = Num.p + 3 := ⟨_, rfl⟩
   obtain ⟨e3, he3⟩ : ∃ z, z = n + 1 := ⟨_, rfl⟩
   have HE := Lib.hid (show p3 = Num.p + 3 ∧ e3 = p3 / 2 ^ 3 ∧ e3 < Num.p ∧ r0 = q ^ e3 % Num.p by
    have h := XR (n := n) (by rw [EX.out.E12, EX.out.E22]; have := EX.out.HP2; have := EX.out.E22; omega)
    refine ⟨hp3, by rw [he3, hp3]; exact h, ?_, by rw [hr0, he3]; rfl⟩
    rw [he3, h]
    decide)
   have HR := Lib.hid (show r0 < Num.p ∧ s0 = r0 * r0 % Num.p ∧ s0 < Num.p ∧ S < Num.p ∧ s1 = S * S % Num.p ∧ s1 < Num.p by rw [hs0, hs1, hr0, hS]; exact ⟨Nat.mod_lt _ gJ, rfl, Nat.mod_lt _ gJ, XD _ _ _, rfl, Nat.mod_lt _ gJ⟩)
   have HP3 := Lib.hid (show (aB p3).length ≤ 1000000 by rw [hp3]; exact Nat.le_trans (dK (show Num.p + 3 < BB ^ 16 by decide)) (by decide))
   have DU := Lib.hid (show (s1 = q ↔ cO n m U V) ∧ (cO n m U V → anp S % Num.p = dS n m U V % Num.p) by
    have h := aa3 EX.out HU.out hvm
    rw [← hq, ← hS, ← hs1] at h
    refine ⟨h, fun hk => ?_⟩
    have h2 := XH hvm hk (by rw [← hq, ← hS, ← hs1]; exact h.mpr hk)
    rw [← hq, ← hS] at h2
    exact h2)
   have HS0 := Lib.hid (show (s0 = q → S = r0) ∧ (¬ s0 = q → S = r0 * (2 ^ m % Num.p) % Num.p) by
    rw [hs0, hr0, hS]
    unfold rH
    exact ⟨fun h => if_pos h, fun h => if_neg h⟩)
   clear hL hvi hq hr0 hs0 hS hs1 hp3 he3 hvm hv0
   by_cases hb0 : s0 = q
   · have ug := Lib.hid hb0
     have hSr : S = r0 := HS0.out.1 hb0
     have jZ : Hid (s1 = q) := Lib.hid (by rw [HR.out.2.2.2.2.1, hSr, ← HR.out.2.1]; exact hb0)
     have HSR := Lib.hid hSr
     clear hSr
     clear hb0
     obtain ⟨LS, TD⟩ : ∃ L, L = (aB S).length := ⟨_, rfl⟩
     have kN := Lib.hid TD
     by_cases hz : LS = 0
     · have HSZ := Lib.hid hz
       have hS0 : S = 0 := oG (by rw [← TD]; exact hz)
       have h1 : decide ((LS : Int) > 0) = false := decide_eq_false (by omega)
       have h2 : decide ((0 : Int) < (LS : Int)) = false := h1
       have h3 : decide (LS > 0) = false := decide_eq_false (by omega)
       have zH : Hid (small S = small (dS n m U V)) := Lib.hid (bY (by
        rw [← DU.out.2 (DU.out.1.mp jZ.out)]
        unfold anp
        rw [if_neg (by rw [hS0]; decide)]))
       clear hz hS0 TD
       go_enter Tryz.func105, Tryz.ntmps105
       go_wp2_with fail
       refine (Gt B d V L vi HV.out HL.out HQ.out.1 _ HY.out).mono ?_
       rintro e x1 ⟨⟨A1, c1, rfl, hd1⟩, hb1⟩
       have HB1 : Hid (Below w.heap.size w x1) := Below.trans (pl (Below.refl _ _)) (hb1.mono sz)
       have hz1 := HB1.out.size
       replace HX := Lib.hid (HX.out.next (bt hb1))
       clear hb1
       have HD1 := Lib.hid hd1
       clear hd1
       go_wp2_with fail
       refine (fQ A A1 c c1 U vi q HU.out HQ.out.2.1 HQ.out.2.2.1 _ (HX.out.next (pl (Below.refl _ _))) (HD1.out.next (pl (Below.refl _ _)))).mono ?_
       rintro e x2 ⟨⟨A2, c2, rfl, hd2⟩, hb2⟩
       have HB2 := aZ HB1.out hb2
       have hz2 := HB2.out.size
       clear hb2
       have HD2 := Lib.hid hd2
       clear hd2
       go_wp2_with fail
       refine (lV _).mono ?_
       rintro e x3 ⟨⟨A3, c3, rfl, hd3⟩, hb3⟩
       have HB3 := aZ HB2.out hb3
       have hz3 := HB3.out.size
       replace HD2 := Lib.hid (HD2.out.next (bt hb3))
       clear hb3
       have HD3 := Lib.hid hd3
       clear hd3
       go_wp2_with fail
       refine (LG A3 c3 Num.p x3.heap.size 3 p3 (by rw [uN]; decide) Jz HE.out.1 _ (HD3.out.next (pl (Below.refl _ _))) (heap_alloc_new _ _)).mono ?_
       rintro e x4 ⟨⟨A4, c4, rfl, hd4⟩, hb4⟩
       have HB4 := aZ HB3.out hb4
       have lT := HB4.out.size
       replace HD2 := Lib.hid (HD2.out.next (bt hb4))
       clear hb4
       have HD4 := Lib.hid hd4
       clear hd4 HD3
       go_wp2_with fail
       refine (sZ A4 c4 p3 3 e3 HP3.out (by decide) HE.out.2.1 _ (HD4.out.next (pl (Below.refl _ _)))).mono ?_
       rintro e x5 ⟨⟨A5, c5, rfl, hd5⟩, hb5⟩
       have kR := aZ HB4.out hb5
       have rP := kR.out.size
       replace HD2 := Lib.hid (HD2.out.next (bt hb5))
       clear hb5
       have HD5 := Lib.hid hd5
       clear hd5 HD4
       go_wp2_with fail
       refine (iE A5 c5 e3 (tK HE.out.2.2.1) _ (HD5.out.next (pl (Below.refl _ _)))).mono ?_
       rintro e x6 ⟨⟨b6, rfl, hrd⟩, hb6⟩
       have mg := aZ kR.out hb6
       have yH := mg.out.size
       replace HD2 := Lib.hid (HD2.out.next (bt hb6))
       clear hb6
       have fM := Lib.hid hrd
       clear hrd HD5
       go_wp2_with fail
       refine (Gx A2 c2 q b6 e3 r0 HQ.out.2.2.2 HE.out.2.2.1 HE.out.2.2.2 _ (HD2.out.next (pl (Below.refl _ _))) fM.out).mono ?_
       rintro e x7 ⟨⟨A7, c7, rfl, hd7⟩, hb7⟩
       have oW := aZ mg.out hb7
       have Ac := oW.out.size
       replace HD2 := Lib.hid (HD2.out.next (bt hb7))
       clear hb7
       have HD7 := Lib.hid hd7
       clear hd7 fM
       go_wp2_with fail
       refine (fQ A7 A7 c7 c7 r0 r0 s0 HR.out.1 HR.out.1 HR.out.2.1 _ (HD7.out.next (pl (Below.refl _ _))) (HD7.out.next (pl (Below.refl _ _)))).mono ?_
       rintro e x8 ⟨⟨A8, c8, rfl, hd8⟩, hb8⟩
       have ru := aZ oW.out hb8
       have Di := ru.out.size
       replace HD2 := Lib.hid (HD2.out.next (bt hb8))
       replace HD7 := Lib.hid (HD7.out.next (bt hb8))
       clear hb8
       have DR := Lib.hid hd8
       clear hd8
       go_wp2_with fail
       refine (nX A8 A2 c8 c2 s0 q true HR.out.2.2.1 HQ.out.2.2.2 (decide_eq_true ug.out) _ (DR.out.next (pl (Below.refl _ _))) (HD2.out.next (pl (Below.refl _ _)))).mono ?_
       rintro e x9 ⟨rfl, kP⟩
       have pW := aZ ru.out kP
       have Fj := pW.out.size
       replace HD2 := Lib.hid (HD2.out.next (bt kP))
       replace HD7 := Lib.hid (HD7.out.next (bt kP))
       clear kP
       clear DR
       go_wp2_with fail
       rw [← HSR.out] at HD7 ⊢
       refine (fQ A7 A7 c7 c7 S S s1 HR.out.2.2.2.1 HR.out.2.2.2.1 HR.out.2.2.2.2.1 _ (HD7.out.next (pl (Below.refl _ _))) (HD7.out.next (pl (Below.refl _ _)))).mono ?_
       rintro e x10 ⟨⟨NT, c15, rfl, qo⟩, dP⟩
       have fB := aZ pW.out dP
       have uQ := fB.out.size
       replace HD2 := Lib.hid (HD2.out.next (bt dP))
       replace HD7 := Lib.hid (HD7.out.next (bt dP))
       clear dP
       have qc := Lib.hid qo
       clear qo
       go_wp2_with fail
       refine (nX NT A2 c15 c2 s1 q true HR.out.2.2.2.2.2 HQ.out.2.2.2 (decide_eq_true jZ.out) _ (qc.out.next (pl (Below.refl _ _))) (HD2.out.next (pl (Below.refl _ _)))).mono ?_
       rintro e x11 ⟨rfl, dG⟩
       have fC := aZ fB.out dG
       have nD := fC.out.size
       replace HD7 := Lib.hid (HD7.out.next (bt dG))
       clear dG
       clear qc HD2
       rw [← kN.out]
       go_wp2_with fail
       have hls := kN.out
       refine bodyPost_ret (v := .tuple #[.slice A7 LS c7, .bool true]) ?_ rfl ⟨⟨A7, c7, S, true, by rw [← kN.out], (HD7.out.next (pl (Below.refl _ _))), HR.out.2.2.2.1, (decide_eq_true (DU.out.1.mp jZ.out)).symm, zH.out⟩, (pl fC.out)⟩
       · simp [results, Tryz.results105, go_sem]
     · have hlt : 0 < LS := by omega
       have hlz : (0 : Int) < (LS : Int) := by omega
       have WZ := Lib.hid hlt
       obtain ⟨dd, hdd⟩ : ∃ d, d = dg S 0 := ⟨_, rfl⟩
       have Zp := Lib.hid hdd
       by_cases ho : S % 2 = 1
       · have t1 : (((dd : Int)).tmod 2 == 1) = true := by have h := ho; rw [← lM, ← hdd] at h; rw [beq_iff_eq, Int.tmod_eq_emod_of_nonneg (by omega)]; omega
         have t2 : (((dd : Int)) % 2 == 1) = true := by have h := ho; rw [← lM, ← hdd] at h; rw [beq_iff_eq]; omega
         obtain ⟨z, hz2⟩ : ∃ z, z = (Num.p - S) % Num.p := ⟨_, rfl⟩
         have zH : Hid (z < Num.p ∧ z = (Num.p - S) % Num.p ∧ small z = small (dS n m U V)) := Lib.hid (by
          refine ⟨by rw [hz2]; exact Nat.mod_lt _ gJ, hz2, bY ?_⟩
          rw [← DU.out.2 (DU.out.1.mp jZ.out)]
          unfold anp
          rw [Nat.mod_eq_of_lt HR.out.2.2.2.1, if_pos ho, gK, F5, Nat.mod_eq_of_lt HR.out.2.2.2.1, hz2, Nat.mod_mod])
         clear hz TD hlt hdd ho hz2
         go_enter Tryz.func105, Tryz.ntmps105
         go_wp2_with fail
         refine (Gt B d V L vi HV.out HL.out HQ.out.1 _ HY.out).mono ?_
         rintro e x1 ⟨⟨A1, c1, rfl, hd1⟩, hb1⟩
         have HB1 : Hid (Below w.heap.size w x1) := Below.trans (pl (Below.refl _ _)) (hb1.mono sz)
         have hz1 := HB1.out.size
         replace HX := Lib.hid (HX.out.next (bt hb1))
         clear hb1
         have HD1 := Lib.hid hd1
         clear hd1
         go_wp2_with fail
         refine (fQ A A1 c c1 U vi q HU.out HQ.out.2.1 HQ.out.2.2.1 _ (HX.out.next (pl (Below.refl _ _))) (HD1.out.next (pl (Below.refl _ _)))).mono ?_
         rintro e x2 ⟨⟨A2, c2, rfl, hd2⟩, hb2⟩
         have HB2 := aZ HB1.out hb2
         have hz2 := HB2.out.size
         clear hb2
         have HD2 := Lib.hid hd2
         clear hd2
         go_wp2_with fail
         refine (lV _).mono ?_
         rintro e x3 ⟨⟨A3, c3, rfl, hd3⟩, hb3⟩
         have HB3 := aZ HB2.out hb3
         have hz3 := HB3.out.size
         replace HD2 := Lib.hid (HD2.out.next (bt hb3))
         clear hb3
         have HD3 := Lib.hid hd3
         clear hd3
         go_wp2_with fail
         refine (LG A3 c3 Num.p x3.heap.size 3 p3 (by rw [uN]; decide) Jz HE.out.1 _ (HD3.out.next (pl (Below.refl _ _))) (heap_alloc_new _ _)).mono ?_
         rintro e x4 ⟨⟨A4, c4, rfl, hd4⟩, hb4⟩
         have HB4 := aZ HB3.out hb4
         have lT := HB4.out.size
         replace HD2 := Lib.hid (HD2.out.next (bt hb4))
         clear hb4
         have HD4 := Lib.hid hd4
         clear hd4 HD3
         go_wp2_with fail
         refine (sZ A4 c4 p3 3 e3 HP3.out (by decide) HE.out.2.1 _ (HD4.out.next (pl (Below.refl _ _)))).mono ?_
         rintro e x5 ⟨⟨A5, c5, rfl, hd5⟩, hb5⟩
         have kR := aZ HB4.out hb5
         have rP := kR.out.size
         replace HD2 := Lib.hid (HD2.out.next (bt hb5))
         clear hb5
         have HD5 := Lib.hid hd5
         clear hd5 HD4
         go_wp2_with fail
         refine (iE A5 c5 e3 (tK HE.out.2.2.1) _ (HD5.out.next (pl (Below.refl _ _)))).mono ?_
         rintro e x6 ⟨⟨b6, rfl, hrd⟩, hb6⟩
         have mg := aZ kR.out hb6
         have yH := mg.out.size
         replace HD2 := Lib.hid (HD2.out.next (bt hb6))
         clear hb6
         have fM := Lib.hid hrd
         clear hrd HD5
         go_wp2_with fail
         refine (Gx A2 c2 q b6 e3 r0 HQ.out.2.2.2 HE.out.2.2.1 HE.out.2.2.2 _ (HD2.out.next (pl (Below.refl _ _))) fM.out).mono ?_
         rintro e x7 ⟨⟨A7, c7, rfl, hd7⟩, hb7⟩
         have oW := aZ mg.out hb7
         have Ac := oW.out.size
         replace HD2 := Lib.hid (HD2.out.next (bt hb7))
         clear hb7
         have HD7 := Lib.hid hd7
         clear hd7 fM
         go_wp2_with fail
         refine (fQ A7 A7 c7 c7 r0 r0 s0 HR.out.1 HR.out.1 HR.out.2.1 _ (HD7.out.next (pl (Below.refl _ _))) (HD7.out.next (pl (Below.refl _ _)))).mono ?_
         rintro e x8 ⟨⟨A8, c8, rfl, hd8⟩, hb8⟩
         have ru := aZ oW.out hb8
         have Di := ru.out.size
         replace HD2 := Lib.hid (HD2.out.next (bt hb8))
         replace HD7 := Lib.hid (HD7.out.next (bt hb8))
         clear hb8
         have DR := Lib.hid hd8
         clear hd8
         go_wp2_with fail
         refine (nX A8 A2 c8 c2 s0 q true HR.out.2.2.1 HQ.out.2.2.2 (decide_eq_true ug.out) _ (DR.out.next (pl (Below.refl _ _))) (HD2.out.next (pl (Below.refl _ _)))).mono ?_
         rintro e x9 ⟨rfl, kP⟩
         have pW := aZ ru.out kP
         have Fj := pW.out.size
         replace HD2 := Lib.hid (HD2.out.next (bt kP))
         replace HD7 := Lib.hid (HD7.out.next (bt kP))
         clear kP
         clear DR
         go_wp2_with fail
         rw [← HSR.out] at HD7 ⊢
         refine (fQ A7 A7 c7 c7 S S s1 HR.out.2.2.2.1 HR.out.2.2.2.1 HR.out.2.2.2.2.1 _ (HD7.out.next (pl (Below.refl _ _))) (HD7.out.next (pl (Below.refl _ _)))).mono ?_
         rintro e x10 ⟨⟨NT, c15, rfl, qo⟩, dP⟩
         have fB := aZ pW.out dP
         have uQ := fB.out.size
         replace HD2 := Lib.hid (HD2.out.next (bt dP))
         replace HD7 := Lib.hid (HD7.out.next (bt dP))
         clear dP
         have qc := Lib.hid qo
         clear qo
         go_wp2_with fail
         refine (nX NT A2 c15 c2 s1 q true HR.out.2.2.2.2.2 HQ.out.2.2.2 (decide_eq_true jZ.out) _ (qc.out.next (pl (Below.refl _ _))) (HD2.out.next (pl (Below.refl _ _)))).mono ?_
         rintro e x11 ⟨rfl, dG⟩
         have fC := aZ fB.out dG
         have nD := fC.out.size
         replace HD7 := Lib.hid (HD7.out.next (bt dG))
         clear dG
         clear qc HD2
         rw [← kN.out]
         obtain ⟨bb, off, zJ, hbw, hcell⟩ := HD7.out.cell (i := 0) (by rw [← kN.out]; exact WZ.out)
         subst zJ
         have hc0 := hcell 0 (by rw [← kN.out]; exact WZ.out)
         rw [Nat.add_zero] at hc0
         have hc1 : x11.cell? ⟨bb, off, none⟩ = some (.int .u64 (dd : Int)) := by rw [Zp.out]; exact hc0
         clear hcell hc0
         go_wp2_with fail
         refine (LZ (some ⟨bb, off, none⟩) c7 S z HR.out.2.2.2.1 zH.out.2.1 LS kN.out _ (HD7.out.next (pl (Below.refl _ _)))).mono ?_
         rintro e x12 ⟨⟨A16, c16, rfl, TJ⟩, bT⟩
         have fG := aZ fC.out bT
         have kF := fG.out.size
         replace HD7 := Lib.hid (HD7.out.next (bt bT))
         clear bT
         have aaj := Lib.hid TJ
         clear TJ
         go_wp2_with fail
         refine bodyPost_ret (v := .tuple #[.slice A16 (aB z).length c16, .bool true]) ?_ rfl ⟨⟨A16, c16, z, true, rfl, aaj.out, zH.out.1, (decide_eq_true (DU.out.1.mp jZ.out)).symm, zH.out.2.2⟩, (pl fG.out)⟩
         · simp [results, Tryz.results105, go_sem]
       · have t1 : (((dd : Int)).tmod 2 == 1) = false := by have h := ho; rw [← lM, ← hdd] at h; rw [beq_eq_false_iff_ne, Int.tmod_eq_emod_of_nonneg (by omega)]; omega
         have t2 : (((dd : Int)) % 2 == 1) = false := by have h := ho; rw [← lM, ← hdd] at h; rw [beq_eq_false_iff_ne]; omega
         have zH : Hid (small S = small (dS n m U V)) := Lib.hid (bY (by
          rw [← DU.out.2 (DU.out.1.mp jZ.out)]
          unfold anp
          rw [Nat.mod_eq_of_lt HR.out.2.2.2.1, if_neg ho, Nat.mod_eq_of_lt HR.out.2.2.2.1]))
         clear hz TD hlt hdd ho
         go_enter Tryz.func105, Tryz.ntmps105
         go_wp2_with fail
         refine (Gt B d V L vi HV.out HL.out HQ.out.1 _ HY.out).mono ?_
         rintro e x1 ⟨⟨A1, c1, rfl, hd1⟩, hb1⟩
         have HB1 : Hid (Below w.heap.size w x1) := Below.trans (pl (Below.refl _ _)) (hb1.mono sz)
         have hz1 := HB1.out.size
         replace HX := Lib.hid (HX.out.next (bt hb1))
         clear hb1
         have HD1 := Lib.hid hd1
         clear hd1
         go_wp2_with fail
         refine (fQ A A1 c c1 U vi q HU.out HQ.out.2.1 HQ.out.2.2.1 _ (HX.out.next (pl (Below.refl _ _))) (HD1.out.next (pl (Below.refl _ _)))).mono ?_
         rintro e x2 ⟨⟨A2, c2, rfl, hd2⟩, hb2⟩
         have HB2 := aZ HB1.out hb2
         have hz2 := HB2.out.size
         clear hb2
         have HD2 := Lib.hid hd2
         clear hd2
         go_wp2_with fail
         refine (lV _).mono ?_
         rintro e x3 ⟨⟨A3, c3, rfl, hd3⟩, hb3⟩
         have HB3 := aZ HB2.out hb3
         have hz3 := HB3.out.size
         replace HD2 := Lib.hid (HD2.out.next (bt hb3))
         clear hb3
         have HD3 := Lib.hid hd3
         clear hd3
         go_wp2_with fail
         refine (LG A3 c3 Num.p x3.heap.size 3 p3 (by rw [uN]; decide) Jz HE.out.1 _ (HD3.out.next (pl (Below.refl _ _))) (heap_alloc_new _ _)).mono ?_
         rintro e x4 ⟨⟨A4, c4, rfl, hd4⟩, hb4⟩
         have HB4 := aZ HB3.out hb4
         have lT := HB4.out.size
         replace HD2 := Lib.hid (HD2.out.next (bt hb4))
         clear hb4
         have HD4 := Lib.hid hd4
         clear hd4 HD3
         go_wp2_with fail
         refine (sZ A4 c4 p3 3 e3 HP3.out (by decide) HE.out.2.1 _ (HD4.out.next (pl (Below.refl _ _)))).mono ?_
         rintro e x5 ⟨⟨A5, c5, rfl, hd5⟩, hb5⟩
         have kR := aZ HB4.out hb5
         have rP := kR.out.size
         replace HD2 := Lib.hid (HD2.out.next (bt hb5))
         clear hb5
         have HD5 := Lib.hid hd5
         clear hd5 HD4
         go_wp2_with fail
         refine (iE A5 c5 e3 (tK HE.out.2.2.1) _ (HD5.out.next (pl (Below.refl _ _)))).mono ?_
         rintro e x6 ⟨⟨b6, rfl, hrd⟩, hb6⟩
         have mg := aZ kR.out hb6
         have yH := mg.out.size
         replace HD2 := Lib.hid (HD2.out.next (bt hb6))
         clear hb6
         have fM := Lib.hid hrd
         clear hrd HD5
         go_wp2_with fail
         refine (Gx A2 c2 q b6 e3 r0 HQ.out.2.2.2 HE.out.2.2.1 HE.out.2.2.2 _ (HD2.out.next (pl (Below.refl _ _))) fM.out).mono ?_
         rintro e x7 ⟨⟨A7, c7, rfl, hd7⟩, hb7⟩
         have oW := aZ mg.out hb7
         have Ac := oW.out.size
         replace HD2 := Lib.hid (HD2.out.next (bt hb7))
         clear hb7
         have HD7 := Lib.hid hd7
         clear hd7 fM
         go_wp2_with fail
         refine (fQ A7 A7 c7 c7 r0 r0 s0 HR.out.1 HR.out.1 HR.out.2.1 _ (HD7.out.next (pl (Below.refl _ _))) (HD7.out.next (pl (Below.refl _ _)))).mono ?_
         rintro e x8 ⟨⟨A8, c8, rfl, hd8⟩, hb8⟩
         have ru := aZ oW.out hb8
         have Di := ru.out.size
         replace HD2 := Lib.hid (HD2.out.next (bt hb8))
         replace HD7 := Lib.hid (HD7.out.next (bt hb8))
         clear hb8
         have DR := Lib.hid hd8
         clear hd8
         go_wp2_with fail
         refine (nX A8 A2 c8 c2 s0 q true HR.out.2.2.1 HQ.out.2.2.2 (decide_eq_true ug.out) _ (DR.out.next (pl (Below.refl _ _))) (HD2.out.next (pl (Below.refl _ _)))).mono ?_
         rintro e x9 ⟨rfl, kP⟩
         have pW := aZ ru.out kP
         have Fj := pW.out.size
         replace HD2 := Lib.hid (HD2.out.next (bt kP))
         replace HD7 := Lib.hid (HD7.out.next (bt kP))
         clear kP
         clear DR
         go_wp2_with fail
         rw [← HSR.out] at HD7 ⊢
         refine (fQ A7 A7 c7 c7 S S s1 HR.out.2.2.2.1 HR.out.2.2.2.1 HR.out.2.2.2.2.1 _ (HD7.out.next (pl (Below.refl _ _))) (HD7.out.next (pl (Below.refl _ _)))).mono ?_
         rintro e x10 ⟨⟨NT, c15, rfl, qo⟩, dP⟩
         have fB := aZ pW.out dP
         have uQ := fB.out.size
         replace HD2 := Lib.hid (HD2.out.next (bt dP))
         replace HD7 := Lib.hid (HD7.out.next (bt dP))
         clear dP
         have qc := Lib.hid qo
         clear qo
         go_wp2_with fail
         refine (nX NT A2 c15 c2 s1 q true HR.out.2.2.2.2.2 HQ.out.2.2.2 (decide_eq_true jZ.out) _ (qc.out.next (pl (Below.refl _ _))) (HD2.out.next (pl (Below.refl _ _)))).mono ?_
         rintro e x11 ⟨rfl, dG⟩
         have fC := aZ fB.out dG
         have nD := fC.out.size
         replace HD7 := Lib.hid (HD7.out.next (bt dG))
         clear dG
         clear qc HD2
         rw [← kN.out]
         obtain ⟨bb, off, zJ, hbw, hcell⟩ := HD7.out.cell (i := 0) (by rw [← kN.out]; exact WZ.out)
         subst zJ
         have hc0 := hcell 0 (by rw [← kN.out]; exact WZ.out)
         rw [Nat.add_zero] at hc0
         have hc1 : x11.cell? ⟨bb, off, none⟩ = some (.int .u64 (dd : Int)) := by rw [Zp.out]; exact hc0
         clear hcell hc0
         go_wp2_with fail
         refine bodyPost_ret (v := .tuple #[.slice (some ⟨bb, off, none⟩) LS c7, .bool true]) ?_ rfl ⟨⟨(some ⟨bb, off, none⟩), c7, S, true, by rw [← kN.out], (HD7.out.next (pl (Below.refl _ _))), HR.out.2.2.2.1, (decide_eq_true (DU.out.1.mp jZ.out)).symm, zH.out⟩, (pl fC.out)⟩
         · simp [results, Tryz.results105, go_sem]
   · have ug := Lib.hid hb0
     obtain ⟨im, him⟩ : ∃ z, z = 2 ^ m % Num.p := ⟨_, rfl⟩
     obtain ⟨p1, hp1⟩ : ∃ z, z = Num.p - 1 := ⟨_, rfl⟩
     have uV := Lib.hid (show p1 = Num.p - 1 ∧ (aB p1).length ≤ 1000000 ∧ m = p1 / 2 ^ 2 ∧ m < Num.p ∧ im = 2 ^ m % Num.p ∧ im < Num.p ∧ S = r0 * im % Num.p by
      have h := XQ (m := m) (by rw [EX.out.E22]; exact EX.out.HP2)
      refine ⟨hp1, by rw [hp1]; exact Ep (by decide), by rw [hp1]; exact h, ?_, him, by rw [him]; exact Nat.mod_lt _ gJ, by rw [him]; exact HS0.out.2 hb0⟩
      rw [h]
      decide)
     clear him hp1
     clear hb0
     by_cases hb1 : s1 = q
     · have jZ := Lib.hid hb1
       clear hb1
       obtain ⟨LS, TD⟩ : ∃ L, L = (aB S).length := ⟨_, rfl⟩
       have kN := Lib.hid TD
       by_cases hz : LS = 0
       · have HSZ := Lib.hid hz
         have hS0 : S = 0 := oG (by rw [← TD]; exact hz)
         have h1 : decide ((LS : Int) > 0) = false := decide_eq_false (by omega)
         have h2 : decide ((0 : Int) < (LS : Int)) = false := h1
         have h3 : decide (LS > 0) = false := decide_eq_false (by omega)
         have zH : Hid (small S = small (dS n m U V)) := Lib.hid (bY (by
          rw [← DU.out.2 (DU.out.1.mp jZ.out)]
          unfold anp
          rw [if_neg (by rw [hS0]; decide)]))
         clear hz hS0 TD
         go_enter Tryz.func105, Tryz.ntmps105
         go_wp2_with fail
         refine (Gt B d V L vi HV.out HL.out HQ.out.1 _ HY.out).mono ?_
         rintro e x1 ⟨⟨A1, c1, rfl, hd1⟩, hb1⟩
         have HB1 : Hid (Below w.heap.size w x1) := Below.trans (pl (Below.refl _ _)) (hb1.mono sz)
         have hz1 := HB1.out.size
         replace HX := Lib.hid (HX.out.next (bt hb1))
         clear hb1
         have HD1 := Lib.hid hd1
         clear hd1
         go_wp2_with fail
         refine (fQ A A1 c c1 U vi q HU.out HQ.out.2.1 HQ.out.2.2.1 _ (HX.out.next (pl (Below.refl _ _))) (HD1.out.next (pl (Below.refl _ _)))).mono ?_
         rintro e x2 ⟨⟨A2, c2, rfl, hd2⟩, hb2⟩
         have HB2 := aZ HB1.out hb2
         have hz2 := HB2.out.size
         clear hb2
         have HD2 := Lib.hid hd2
         clear hd2
         go_wp2_with fail
         refine (lV _).mono ?_
         rintro e x3 ⟨⟨A3, c3, rfl, hd3⟩, hb3⟩
         have HB3 := aZ HB2.out hb3
         have hz3 := HB3.out.size
         replace HD2 := Lib.hid (HD2.out.next (bt hb3))
         clear hb3
         have HD3 := Lib.hid hd3
         clear hd3
         go_wp2_with fail
         refine (LG A3 c3 Num.p x3.heap.size 3 p3 (by rw [uN]; decide) Jz HE.out.1 _ (HD3.out.next (pl (Below.refl _ _))) (heap_alloc_new _ _)).mono ?_
         rintro e x4 ⟨⟨A4, c4, rfl, hd4⟩, hb4⟩
         have HB4 := aZ HB3.out hb4
         have lT := HB4.out.size
         replace HD2 := Lib.hid (HD2.out.next (bt hb4))
         clear hb4
         have HD4 := Lib.hid hd4
         clear hd4 HD3
         go_wp2_with fail
         refine (sZ A4 c4 p3 3 e3 HP3.out (by decide) HE.out.2.1 _ (HD4.out.next (pl (Below.refl _ _)))).mono ?_
         rintro e x5 ⟨⟨A5, c5, rfl, hd5⟩, hb5⟩
         have kR := aZ HB4.out hb5
         have rP := kR.out.size
         replace HD2 := Lib.hid (HD2.out.next (bt hb5))
         clear hb5
         have HD5 := Lib.hid hd5
         clear hd5 HD4
         go_wp2_with fail
         refine (iE A5 c5 e3 (tK HE.out.2.2.1) _ (HD5.out.next (pl (Below.refl _ _)))).mono ?_
         rintro e x6 ⟨⟨b6, rfl, hrd⟩, hb6⟩
         have mg := aZ kR.out hb6
         have yH := mg.out.size
         replace HD2 := Lib.hid (HD2.out.next (bt hb6))
         clear hb6
         have fM := Lib.hid hrd
         clear hrd HD5
         go_wp2_with fail
         refine (Gx A2 c2 q b6 e3 r0 HQ.out.2.2.2 HE.out.2.2.1 HE.out.2.2.2 _ (HD2.out.next (pl (Below.refl _ _))) fM.out).mono ?_
         rintro e x7 ⟨⟨A7, c7, rfl, hd7⟩, hb7⟩
         have oW := aZ mg.out hb7
         have Ac := oW.out.size
         replace HD2 := Lib.hid (HD2.out.next (bt hb7))
         clear hb7
         have HD7 := Lib.hid hd7
         clear hd7 fM
         go_wp2_with fail
         refine (fQ A7 A7 c7 c7 r0 r0 s0 HR.out.1 HR.out.1 HR.out.2.1 _ (HD7.out.next (pl (Below.refl _ _))) (HD7.out.next (pl (Below.refl _ _)))).mono ?_
         rintro e x8 ⟨⟨A8, c8, rfl, hd8⟩, hb8⟩
         have ru := aZ oW.out hb8
         have Di := ru.out.size
         replace HD2 := Lib.hid (HD2.out.next (bt hb8))
         replace HD7 := Lib.hid (HD7.out.next (bt hb8))
         clear hb8
         have DR := Lib.hid hd8
         clear hd8
         go_wp2_with fail
         refine (nX A8 A2 c8 c2 s0 q false HR.out.2.2.1 HQ.out.2.2.2 (decide_eq_false ug.out) _ (DR.out.next (pl (Below.refl _ _))) (HD2.out.next (pl (Below.refl _ _)))).mono ?_
         rintro e x9 ⟨rfl, kP⟩
         have pW := aZ ru.out kP
         have Fj := pW.out.size
         replace HD2 := Lib.hid (HD2.out.next (bt kP))
         replace HD7 := Lib.hid (HD7.out.next (bt kP))
         clear kP
         clear DR
         go_wp2_with fail
         have HT : Hid (Dn (x9.alloc (.cells #[.int .u64 2] 34)) (some ⟨x9.heap.size, 0, none⟩) 1 2) := Lib.hid (lY 2 ET (heap_alloc_new _ _))
         refine (lV _).mono ?_
         rintro e x10 ⟨⟨A9, c9, rfl, hd9⟩, dP⟩
         have fB := aZ pW.out dP
         have uQ := fB.out.size
         replace HD2 := Lib.hid (HD2.out.next (bt dP))
         replace HD7 := Lib.hid (HD7.out.next (bt dP))
         replace HT := Lib.hid (HT.out.next (bt dP))
         clear dP
         have EJ := Lib.hid hd9
         clear hd9
         go_wp2_with fail
         refine (FI A9 c9 Num.p x10.heap.size 1 p1 (by rw [uN]; decide) sQ (by decide) uV.out.1 _ (EJ.out.next (pl (Below.refl _ _))) (heap_alloc_new _ _)).mono ?_
         rintro e x11 ⟨⟨A10, c10, rfl, hd10⟩, dG⟩
         have fC := aZ fB.out dG
         have nD := fC.out.size
         replace HD2 := Lib.hid (HD2.out.next (bt dG))
         replace HD7 := Lib.hid (HD7.out.next (bt dG))
         replace HT := Lib.hid (HT.out.next (bt dG))
         clear dG
         have aQ := Lib.hid hd10
         clear hd10 EJ
         go_wp2_with fail
         refine (sZ A10 c10 p1 2 m uV.out.2.1 (by decide) uV.out.2.2.1 _ (aQ.out.next (pl (Below.refl _ _)))).mono ?_
         rintro e x12 ⟨⟨A11, c11, rfl, hd11⟩, bT⟩
         have fG := aZ fC.out bT
         have kF := fG.out.size
         replace HD2 := Lib.hid (HD2.out.next (bt bT))
         replace HD7 := Lib.hid (HD7.out.next (bt bT))
         replace HT := Lib.hid (HT.out.next (bt bT))
         clear bT
         have Am := Lib.hid hd11
         clear hd11 aQ
         go_wp2_with fail
         refine (iE A11 c11 m (tK uV.out.2.2.2.1) _ (Am.out.next (pl (Below.refl _ _)))).mono ?_
         rintro e DL ⟨⟨b12, rfl, hrd⟩, bM⟩
         have iH := aZ fG.out bM
         have jJ := iH.out.size
         replace HD2 := Lib.hid (HD2.out.next (bt bM))
         replace HD7 := Lib.hid (HD7.out.next (bt bM))
         replace HT := Lib.hid (HT.out.next (bt bM))
         clear bM
         have fM := Lib.hid hrd
         clear hrd Am
         go_wp2_with fail
         refine (ER x9.heap.size 2 b12 m im ET (by decide) uV.out.2.2.2.1 uV.out.2.2.2.2.1 _ (HT.out.next (pl (Below.refl _ _))) fM.out).mono ?_
         rintro e x14 ⟨⟨A13, c13, rfl, Bc⟩, dO⟩
         have jo := aZ iH.out dO
         have lZ := jo.out.size
         replace HD2 := Lib.hid (HD2.out.next (bt dO))
         replace HD7 := Lib.hid (HD7.out.next (bt dO))
         replace HT := Lib.hid (HT.out.next (bt dO))
         clear dO
         have apf := Lib.hid Bc
         clear Bc fM HT
         go_wp2_with fail
         refine (fQ A7 A13 c7 c13 r0 im S HR.out.1 uV.out.2.2.2.2.2.1 uV.out.2.2.2.2.2.2 _ (HD7.out.next (pl (Below.refl _ _))) (apf.out.next (pl (Below.refl _ _)))).mono ?_
         rintro e x15 ⟨⟨NS, c14, rfl, Bd⟩, fH⟩
         have nV := aZ jo.out fH
         have vH := nV.out.size
         replace HD2 := Lib.hid (HD2.out.next (bt fH))
         clear fH
         have jP := Lib.hid Bd
         clear Bd apf HD7
         go_wp2_with fail
         refine (fQ NS NS c14 c14 S S s1 HR.out.2.2.2.1 HR.out.2.2.2.1 HR.out.2.2.2.2.1 _ (jP.out.next (pl (Below.refl _ _))) (jP.out.next (pl (Below.refl _ _)))).mono ?_
         rintro e x16 ⟨⟨NT, c15, rfl, qo⟩, hb16⟩
         have yu := aZ nV.out hb16
         have Un := yu.out.size
         replace HD2 := Lib.hid (HD2.out.next (bt hb16))
         replace jP := Lib.hid (jP.out.next (bt hb16))
         clear hb16
         have qc := Lib.hid qo
         clear qo
         go_wp2_with fail
         refine (nX NT A2 c15 c2 s1 q true HR.out.2.2.2.2.2 HQ.out.2.2.2 (decide_eq_true jZ.out) _ (qc.out.next (pl (Below.refl _ _))) (HD2.out.next (pl (Below.refl _ _)))).mono ?_
         rintro e x17 ⟨rfl, rJ⟩
         have yw := aZ yu.out rJ
         have Uo := yw.out.size
         replace jP := Lib.hid (jP.out.next (bt rJ))
         clear rJ
         clear qc HD2
         rw [← kN.out]
         go_wp2_with fail
         have hls := kN.out
         refine bodyPost_ret (v := .tuple #[.slice NS LS c14, .bool true]) ?_ rfl ⟨⟨NS, c14, S, true, by rw [← kN.out], (jP.out.next (pl (Below.refl _ _))), HR.out.2.2.2.1, (decide_eq_true (DU.out.1.mp jZ.out)).symm, zH.out⟩, (pl yw.out)⟩
         · simp [results, Tryz.results105, go_sem]
       · have hlt : 0 < LS := by omega
         have hlz : (0 : Int) < (LS : Int) := by omega
         have WZ := Lib.hid hlt
         obtain ⟨dd, hdd⟩ : ∃ d, d = dg S 0 := ⟨_, rfl⟩
         have Zp := Lib.hid hdd
         by_cases ho : S % 2 = 1
         · have t1 : (((dd : Int)).tmod 2 == 1) = true := by have h := ho; rw [← lM, ← hdd] at h; rw [beq_iff_eq, Int.tmod_eq_emod_of_nonneg (by omega)]; omega
           have t2 : (((dd : Int)) % 2 == 1) = true := by have h := ho; rw [← lM, ← hdd] at h; rw [beq_iff_eq]; omega
           obtain ⟨z, hz2⟩ : ∃ z, z = (Num.p - S) % Num.p := ⟨_, rfl⟩
           have zH : Hid (z < Num.p ∧ z = (Num.p - S) % Num.p ∧ small z = small (dS n m U V)) := Lib.hid (by
            refine ⟨by rw [hz2]; exact Nat.mod_lt _ gJ, hz2, bY ?_⟩
            rw [← DU.out.2 (DU.out.1.mp jZ.out)]
            unfold anp
            rw [Nat.mod_eq_of_lt HR.out.2.2.2.1, if_pos ho, gK, F5, Nat.mod_eq_of_lt HR.out.2.2.2.1, hz2, Nat.mod_mod])
           clear hz TD hlt hdd ho hz2
           go_enter Tryz.func105, Tryz.ntmps105
           go_wp2_with fail
           refine (Gt B d V L vi HV.out HL.out HQ.out.1 _ HY.out).mono ?_
           rintro e x1 ⟨⟨A1, c1, rfl, hd1⟩, hb1⟩
           have HB1 : Hid (Below w.heap.size w x1) := Below.trans (pl (Below.refl _ _)) (hb1.mono sz)
           have hz1 := HB1.out.size
           replace HX := Lib.hid (HX.out.next (bt hb1))
           clear hb1
           have HD1 := Lib.hid hd1
           clear hd1
           go_wp2_with fail
           refine (fQ A A1 c c1 U vi q HU.out HQ.out.2.1 HQ.out.2.2.1 _ (HX.out.next (pl (Below.refl _ _))) (HD1.out.next (pl (Below.refl _ _)))).mono ?_
           rintro e x2 ⟨⟨A2, c2, rfl, hd2⟩, hb2⟩
           have HB2 := aZ HB1.out hb2
           have hz2 := HB2.out.size
           clear hb2
           have HD2 := Lib.hid hd2
           clear hd2
           go_wp2_with fail
           refine (lV _).mono ?_
           rintro e x3 ⟨⟨A3, c3, rfl, hd3⟩, hb3⟩
           have HB3 := aZ HB2.out hb3
           have hz3 := HB3.out.size
           replace HD2 := Lib.hid (HD2.out.next (bt hb3))
           clear hb3
           have HD3 := Lib.hid hd3
           clear hd3
           go_wp2_with fail
           refine (LG A3 c3 Num.p x3.heap.size 3 p3 (by rw [uN]; decide) Jz HE.out.1 _ (HD3.out.next (pl (Below.refl _ _))) (heap_alloc_new _ _)).mono ?_
           rintro e x4 ⟨⟨A4, c4, rfl, hd4⟩, hb4⟩
           have HB4 := aZ HB3.out hb4
           have lT := HB4.out.size
           replace HD2 := Lib.hid (HD2.out.next (bt hb4))
           clear hb4
           have HD4 := Lib.hid hd4
           clear hd4 HD3
           go_wp2_with fail
           refine (sZ A4 c4 p3 3 e3 HP3.out (by decide) HE.out.2.1 _ (HD4.out.next (pl (Below.refl _ _)))).mono ?_
           rintro e x5 ⟨⟨A5, c5, rfl, hd5⟩, hb5⟩
           have kR := aZ HB4.out hb5
           have rP := kR.out.size
           replace HD2 := Lib.hid (HD2.out.next (bt hb5))
           clear hb5
           have HD5 := Lib.hid hd5
           clear hd5 HD4
           go_wp2_with fail
           refine (iE A5 c5 e3 (tK HE.out.2.2.1) _ (HD5.out.next (pl (Below.refl _ _)))).mono ?_
           rintro e x6 ⟨⟨b6, rfl, hrd⟩, hb6⟩
           have mg := aZ kR.out hb6
           have yH := mg.out.size
           replace HD2 := Lib.hid (HD2.out.next (bt hb6))
           clear hb6
           have fM := Lib.hid hrd
           clear hrd HD5
           go_wp2_with fail
           refine (Gx A2 c2 q b6 e3 r0 HQ.out.2.2.2 HE.out.2.2.1 HE.out.2.2.2 _ (HD2.out.next (pl (Below.refl _ _))) fM.out).mono ?_
           rintro e x7 ⟨⟨A7, c7, rfl, hd7⟩, hb7⟩
           have oW := aZ mg.out hb7
           have Ac := oW.out.size
           replace HD2 := Lib.hid (HD2.out.next (bt hb7))
           clear hb7
           have HD7 := Lib.hid hd7
           clear hd7 fM
           go_wp2_with fail
           refine (fQ A7 A7 c7 c7 r0 r0 s0 HR.out.1 HR.out.1 HR.out.2.1 _ (HD7.out.next (pl (Below.refl _ _))) (HD7.out.next (pl (Below.refl _ _)))).mono ?_
           rintro e x8 ⟨⟨A8, c8, rfl, hd8⟩, hb8⟩
           have ru := aZ oW.out hb8
           have Di := ru.out.size
           replace HD2 := Lib.hid (HD2.out.next (bt hb8))
           replace HD7 := Lib.hid (HD7.out.next (bt hb8))
           clear hb8
           have DR := Lib.hid hd8
           clear hd8
           go_wp2_with fail
           refine (nX A8 A2 c8 c2 s0 q false HR.out.2.2.1 HQ.out.2.2.2 (decide_eq_false ug.out) _ (DR.out.next (pl (Below.refl _ _))) (HD2.out.next (pl (Below.refl _ _)))).mono ?_
           rintro e x9 ⟨rfl, kP⟩
           have pW := aZ ru.out kP
           have Fj := pW.out.size
           replace HD2 := Lib.hid (HD2.out.next (bt kP))
           replace HD7 := Lib.hid (HD7.out.next (bt kP))
           clear kP
           clear DR
           go_wp2_with fail
           have HT : Hid (Dn (x9.alloc (.cells #[.int .u64 2] 34)) (some ⟨x9.heap.size, 0, none⟩) 1 2) := Lib.hid (lY 2 ET (heap_alloc_new _ _))
           refine (lV _).mono ?_
           rintro e x10 ⟨⟨A9, c9, rfl, hd9⟩, dP⟩
           have fB := aZ pW.out dP
           have uQ := fB.out.size
           replace HD2 := Lib.hid (HD2.out.next (bt dP))
           replace HD7 := Lib.hid (HD7.out.next (bt dP))
           replace HT := Lib.hid (HT.out.next (bt dP))
           clear dP
           have EJ := Lib.hid hd9
           clear hd9
           go_wp2_with fail
           refine (FI A9 c9 Num.p x10.heap.size 1 p1 (by rw [uN]; decide) sQ (by decide) uV.out.1 _ (EJ.out.next (pl (Below.refl _ _))) (heap_alloc_new _ _)).mono ?_
           rintro e x11 ⟨⟨A10, c10, rfl, hd10⟩, dG⟩
           have fC := aZ fB.out dG
           have nD := fC.out.size
           replace HD2 := Lib.hid (HD2.out.next (bt dG))
           replace HD7 := Lib.hid (HD7.out.next (bt dG))
           replace HT := Lib.hid (HT.out.next (bt dG))
           clear dG
           have aQ := Lib.hid hd10
           clear hd10 EJ
           go_wp2_with fail
           refine (sZ A10 c10 p1 2 m uV.out.2.1 (by decide) uV.out.2.2.1 _ (aQ.out.next (pl (Below.refl _ _)))).mono ?_
           rintro e x12 ⟨⟨A11, c11, rfl, hd11⟩, bT⟩
           have fG := aZ fC.out bT
           have kF := fG.out.size
           replace HD2 := Lib.hid (HD2.out.next (bt bT))
           replace HD7 := Lib.hid (HD7.out.next (bt bT))
           replace HT := Lib.hid (HT.out.next (bt bT))
           clear bT
           have Am := Lib.hid hd11
           clear hd11 aQ
           go_wp2_with fail
           refine (iE A11 c11 m (tK uV.out.2.2.2.1) _ (Am.out.next (pl (Below.refl _ _)))).mono ?_
           rintro e DL ⟨⟨b12, rfl, hrd⟩, bM⟩
           have iH := aZ fG.out bM
           have jJ := iH.out.size
           replace HD2 := Lib.hid (HD2.out.next (bt bM))
           replace HD7 := Lib.hid (HD7.out.next (bt bM))
           replace HT := Lib.hid (HT.out.next (bt bM))
           clear bM
           have fM := Lib.hid hrd
           clear hrd Am
           go_wp2_with fail
           refine (ER x9.heap.size 2 b12 m im ET (by decide) uV.out.2.2.2.1 uV.out.2.2.2.2.1 _ (HT.out.next (pl (Below.refl _ _))) fM.out).mono ?_
           rintro e x14 ⟨⟨A13, c13, rfl, Bc⟩, dO⟩
           have jo := aZ iH.out dO
           have lZ := jo.out.size
           replace HD2 := Lib.hid (HD2.out.next (bt dO))
           replace HD7 := Lib.hid (HD7.out.next (bt dO))
           replace HT := Lib.hid (HT.out.next (bt dO))
           clear dO
           have apf := Lib.hid Bc
           clear Bc fM HT
           go_wp2_with fail
           refine (fQ A7 A13 c7 c13 r0 im S HR.out.1 uV.out.2.2.2.2.2.1 uV.out.2.2.2.2.2.2 _ (HD7.out.next (pl (Below.refl _ _))) (apf.out.next (pl (Below.refl _ _)))).mono ?_
           rintro e x15 ⟨⟨NS, c14, rfl, Bd⟩, fH⟩
           have nV := aZ jo.out fH
           have vH := nV.out.size
           replace HD2 := Lib.hid (HD2.out.next (bt fH))
           clear fH
           have jP := Lib.hid Bd
           clear Bd apf HD7
           go_wp2_with fail
           refine (fQ NS NS c14 c14 S S s1 HR.out.2.2.2.1 HR.out.2.2.2.1 HR.out.2.2.2.2.1 _ (jP.out.next (pl (Below.refl _ _))) (jP.out.next (pl (Below.refl _ _)))).mono ?_
           rintro e x16 ⟨⟨NT, c15, rfl, qo⟩, hb16⟩
           have yu := aZ nV.out hb16
           have Un := yu.out.size
           replace HD2 := Lib.hid (HD2.out.next (bt hb16))
           replace jP := Lib.hid (jP.out.next (bt hb16))
           clear hb16
           have qc := Lib.hid qo
           clear qo
           go_wp2_with fail
           refine (nX NT A2 c15 c2 s1 q true HR.out.2.2.2.2.2 HQ.out.2.2.2 (decide_eq_true jZ.out) _ (qc.out.next (pl (Below.refl _ _))) (HD2.out.next (pl (Below.refl _ _)))).mono ?_
           rintro e x17 ⟨rfl, rJ⟩
           have yw := aZ yu.out rJ
           have Uo := yw.out.size
           replace jP := Lib.hid (jP.out.next (bt rJ))
           clear rJ
           clear qc HD2
           rw [← kN.out]
           obtain ⟨bb, off, zJ, hbw, hcell⟩ := jP.out.cell (i := 0) (by rw [← kN.out]; exact WZ.out)
           subst zJ
           have hc0 := hcell 0 (by rw [← kN.out]; exact WZ.out)
           rw [Nat.add_zero] at hc0
           have hc1 : x17.cell? ⟨bb, off, none⟩ = some (.int .u64 (dd : Int)) := by rw [Zp.out]; exact hc0
           clear hcell hc0
           go_wp2_with fail
           refine (LZ (some ⟨bb, off, none⟩) c14 S z HR.out.2.2.2.1 zH.out.2.1 LS kN.out _ (jP.out.next (pl (Below.refl _ _)))).mono ?_
           rintro e x18 ⟨⟨A16, c16, rfl, TJ⟩, OV⟩
           have WS := aZ yw.out OV
           have aeT := WS.out.size
           replace jP := Lib.hid (jP.out.next (bt OV))
           clear OV
           have aaj := Lib.hid TJ
           clear TJ
           go_wp2_with fail
           refine bodyPost_ret (v := .tuple #[.slice A16 (aB z).length c16, .bool true]) ?_ rfl ⟨⟨A16, c16, z, true, rfl, aaj.out, zH.out.1, (decide_eq_true (DU.out.1.mp jZ.out)).symm, zH.out.2.2⟩, (pl WS.out)⟩
           · simp [results, Tryz.results105, go_sem]
         · have t1 : (((dd : Int)).tmod 2 == 1) = false := by have h := ho; rw [← lM, ← hdd] at h; rw [beq_eq_false_iff_ne, Int.tmod_eq_emod_of_nonneg (by omega)]; omega
           have t2 : (((dd : Int)) % 2 == 1) = false := by have h := ho; rw [← lM, ← hdd] at h; rw [beq_eq_false_iff_ne]; omega
           have zH : Hid (small S = small (dS n m U V)) := Lib.hid (bY (by
            rw [← DU.out.2 (DU.out.1.mp jZ.out)]
            unfold anp
            rw [Nat.mod_eq_of_lt HR.out.2.2.2.1, if_neg ho, Nat.mod_eq_of_lt HR.out.2.2.2.1]))
           clear hz TD hlt hdd ho
           go_enter Tryz.func105, Tryz.ntmps105
           go_wp2_with fail
           refine (Gt B d V L vi HV.out HL.out HQ.out.1 _ HY.out).mono ?_
           rintro e x1 ⟨⟨A1, c1, rfl, hd1⟩, hb1⟩
           have HB1 : Hid (Below w.heap.size w x1) := Below.trans (pl (Below.refl _ _)) (hb1.mono sz)
           have hz1 := HB1.out.size
           replace HX := Lib.hid (HX.out.next (bt hb1))
           clear hb1
           have HD1 := Lib.hid hd1
           clear hd1
           go_wp2_with fail
           refine (fQ A A1 c c1 U vi q HU.out HQ.out.2.1 HQ.out.2.2.1 _ (HX.out.next (pl (Below.refl _ _))) (HD1.out.next (pl (Below.refl _ _)))).mono ?_
           rintro e x2 ⟨⟨A2, c2, rfl, hd2⟩, hb2⟩
           have HB2 := aZ HB1.out hb2
           have hz2 := HB2.out.size
           clear hb2
           have HD2 := Lib.hid hd2
           clear hd2
           go_wp2_with fail
           refine (lV _).mono ?_
           rintro e x3 ⟨⟨A3, c3, rfl, hd3⟩, hb3⟩
           have HB3 := aZ HB2.out hb3
           have hz3 := HB3.out.size
           replace HD2 := Lib.hid (HD2.out.next (bt hb3))
           clear hb3
           have HD3 := Lib.hid hd3
           clear hd3
           go_wp2_with fail
           refine (LG A3 c3 Num.p x3.heap.size 3 p3 (by rw [uN]; decide) Jz HE.out.1 _ (HD3.out.next (pl (Below.refl _ _))) (heap_alloc_new _ _)).mono ?_
           rintro e x4 ⟨⟨A4, c4, rfl, hd4⟩, hb4⟩
           have HB4 := aZ HB3.out hb4
           have lT := HB4.out.size
           replace HD2 := Lib.hid (HD2.out.next (bt hb4))
           clear hb4
           have HD4 := Lib.hid hd4
           clear hd4 HD3
           go_wp2_with fail
           refine (sZ A4 c4 p3 3 e3 HP3.out (by decide) HE.out.2.1 _ (HD4.out.next (pl (Below.refl _ _)))).mono ?_
           rintro e x5 ⟨⟨A5, c5, rfl, hd5⟩, hb5⟩
           have kR := aZ HB4.out hb5
           have rP := kR.out.size
           replace HD2 := Lib.hid (HD2.out.next (bt hb5))
           clear hb5
           have HD5 := Lib.hid hd5
           clear hd5 HD4
           go_wp2_with fail
           refine (iE A5 c5 e3 (tK HE.out.2.2.1) _ (HD5.out.next (pl (Below.refl _ _)))).mono ?_
           rintro e x6 ⟨⟨b6, rfl, hrd⟩, hb6⟩
           have mg := aZ kR.out hb6
           have yH := mg.out.size
           replace HD2 := Lib.hid (HD2.out.next (bt hb6))
           clear hb6
           have fM := Lib.hid hrd
           clear hrd HD5
           go_wp2_with fail
           refine (Gx A2 c2 q b6 e3 r0 HQ.out.2.2.2 HE.out.2.2.1 HE.out.2.2.2 _ (HD2.out.next (pl (Below.refl _ _))) fM.out).mono ?_
           rintro e x7 ⟨⟨A7, c7, rfl, hd7⟩, hb7⟩
           have oW := aZ mg.out hb7
           have Ac := oW.out.size
           replace HD2 := Lib.hid (HD2.out.next (bt hb7))
           clear hb7
           have HD7 := Lib.hid hd7
           clear hd7 fM
           go_wp2_with fail
           refine (fQ A7 A7 c7 c7 r0 r0 s0 HR.out.1 HR.out.1 HR.out.2.1 _ (HD7.out.next (pl (Below.refl _ _))) (HD7.out.next (pl (Below.refl _ _)))).mono ?_
           rintro e x8 ⟨⟨A8, c8, rfl, hd8⟩, hb8⟩
           have ru := aZ oW.out hb8
           have Di := ru.out.size
           replace HD2 := Lib.hid (HD2.out.next (bt hb8))
           replace HD7 := Lib.hid (HD7.out.next (bt hb8))
           clear hb8
           have DR := Lib.hid hd8
           clear hd8
           go_wp2_with fail
           refine (nX A8 A2 c8 c2 s0 q false HR.out.2.2.1 HQ.out.2.2.2 (decide_eq_false ug.out) _ (DR.out.next (pl (Below.refl _ _))) (HD2.out.next (pl (Below.refl _ _)))).mono ?_
           rintro e x9 ⟨rfl, kP⟩
           have pW := aZ ru.out kP
           have Fj := pW.out.size
           replace HD2 := Lib.hid (HD2.out.next (bt kP))
           replace HD7 := Lib.hid (HD7.out.next (bt kP))
           clear kP
           clear DR
           go_wp2_with fail
           have HT : Hid (Dn (x9.alloc (.cells #[.int .u64 2] 34)) (some ⟨x9.heap.size, 0, none⟩) 1 2) := Lib.hid (lY 2 ET (heap_alloc_new _ _))
           refine (lV _).mono ?_
           rintro e x10 ⟨⟨A9, c9, rfl, hd9⟩, dP⟩
           have fB := aZ pW.out dP
           have uQ := fB.out.size
           replace HD2 := Lib.hid (HD2.out.next (bt dP))
           replace HD7 := Lib.hid (HD7.out.next (bt dP))
           replace HT := Lib.hid (HT.out.next (bt dP))
           clear dP
           have EJ := Lib.hid hd9
           clear hd9
           go_wp2_with fail
           refine (FI A9 c9 Num.p x10.heap.size 1 p1 (by rw [uN]; decide) sQ (by decide) uV.out.1 _ (EJ.out.next (pl (Below.refl _ _))) (heap_alloc_new _ _)).mono ?_
           rintro e x11 ⟨⟨A10, c10, rfl, hd10⟩, dG⟩
           have fC := aZ fB.out dG
           have nD := fC.out.size
           replace HD2 := Lib.hid (HD2.out.next (bt dG))
           replace HD7 := Lib.hid (HD7.out.next (bt dG))
           replace HT := Lib.hid (HT.out.next (bt dG))
           clear dG
           have aQ := Lib.hid hd10
           clear hd10 EJ
           go_wp2_with fail
           refine (sZ A10 c10 p1 2 m uV.out.2.1 (by decide) uV.out.2.2.1 _ (aQ.out.next (pl (Below.refl _ _)))).mono ?_
           rintro e x12 ⟨⟨A11, c11, rfl, hd11⟩, bT⟩
           have fG := aZ fC.out bT
           have kF := fG.out.size
           replace HD2 := Lib.hid (HD2.out.next (bt bT))
           replace HD7 := Lib.hid (HD7.out.next (bt bT))
           replace HT := Lib.hid (HT.out.next (bt bT))
           clear bT
           have Am := Lib.hid hd11
           clear hd11 aQ
           go_wp2_with fail
           refine (iE A11 c11 m (tK uV.out.2.2.2.1) _ (Am.out.next (pl (Below.refl _ _)))).mono ?_
           rintro e DL ⟨⟨b12, rfl, hrd⟩, bM⟩
           have iH := aZ fG.out bM
           have jJ := iH.out.size
           replace HD2 := Lib.hid (HD2.out.next (bt bM))
           replace HD7 := Lib.hid (HD7.out.next (bt bM))
           replace HT := Lib.hid (HT.out.next (bt bM))
           clear bM
           have fM := Lib.hid hrd
           clear hrd Am
           go_wp2_with fail
           refine (ER x9.heap.size 2 b12 m im ET (by decide) uV.out.2.2.2.1 uV.out.2.2.2.2.1 _ (HT.out.next (pl (Below.refl _ _))) fM.out).mono ?_
           rintro e x14 ⟨⟨A13, c13, rfl, Bc⟩, dO⟩
           have jo := aZ iH.out dO
           have lZ := jo.out.size
           replace HD2 := Lib.hid (HD2.out.next (bt dO))
           replace HD7 := Lib.hid (HD7.out.next (bt dO))
           replace HT := Lib.hid (HT.out.next (bt dO))
           clear dO
           have apf := Lib.hid Bc
           clear Bc fM HT
           go_wp2_with fail
           refine (fQ A7 A13 c7 c13 r0 im S HR.out.1 uV.out.2.2.2.2.2.1 uV.out.2.2.2.2.2.2 _ (HD7.out.next (pl (Below.refl _ _))) (apf.out.next (pl (Below.refl _ _)))).mono ?_
           rintro e x15 ⟨⟨NS, c14, rfl, Bd⟩, fH⟩
           have nV := aZ jo.out fH
           have vH := nV.out.size
           replace HD2 := Lib.hid (HD2.out.next (bt fH))
           clear fH
           have jP := Lib.hid Bd
           clear Bd apf HD7
           go_wp2_with fail
           refine (fQ NS NS c14 c14 S S s1 HR.out.2.2.2.1 HR.out.2.2.2.1 HR.out.2.2.2.2.1 _ (jP.out.next (pl (Below.refl _ _))) (jP.out.next (pl (Below.refl _ _)))).mono ?_
           rintro e x16 ⟨⟨NT, c15, rfl, qo⟩, hb16⟩
           have yu := aZ nV.out hb16
           have Un := yu.out.size
           replace HD2 := Lib.hid (HD2.out.next (bt hb16))
           replace jP := Lib.hid (jP.out.next (bt hb16))
           clear hb16
           have qc := Lib.hid qo
           clear qo
           go_wp2_with fail
           refine (nX NT A2 c15 c2 s1 q true HR.out.2.2.2.2.2 HQ.out.2.2.2 (decide_eq_true jZ.out) _ (qc.out.next (pl (Below.refl _ _))) (HD2.out.next (pl (Below.refl _ _)))).mono ?_
           rintro e x17 ⟨rfl, rJ⟩
           have yw := aZ yu.out rJ
           have Uo := yw.out.size
           replace jP := Lib.hid (jP.out.next (bt rJ))
           clear rJ
           clear qc HD2
           rw [← kN.out]
           obtain ⟨bb, off, zJ, hbw, hcell⟩ := jP.out.cell (i := 0) (by rw [← kN.out]; exact WZ.out)
           subst zJ
           have hc0 := hcell 0 (by rw [← kN.out]; exact WZ.out)
           rw [Nat.add_zero] at hc0
           have hc1 : x17.cell? ⟨bb, off, none⟩ = some (.int .u64 (dd : Int)) := by rw [Zp.out]; exact hc0
           clear hcell hc0
           go_wp2_with fail
           refine bodyPost_ret (v := .tuple #[.slice (some ⟨bb, off, none⟩) LS c14, .bool true]) ?_ rfl ⟨⟨(some ⟨bb, off, none⟩), c14, S, true, by rw [← kN.out], (jP.out.next (pl (Below.refl _ _))), HR.out.2.2.2.1, (decide_eq_true (DU.out.1.mp jZ.out)).symm, zH.out⟩, (pl yw.out)⟩
           · simp [results, Tryz.results105, go_sem]
     · have jZ := Lib.hid hb1
       clear hb1
       go_enter Tryz.func105, Tryz.ntmps105
       go_wp2_with fail
       refine (Gt B d V L vi HV.out HL.out HQ.out.1 _ HY.out).mono ?_
       rintro e x1 ⟨⟨A1, c1, rfl, hd1⟩, hb1⟩
       have HB1 : Hid (Below w.heap.size w x1) := Below.trans (pl (Below.refl _ _)) (hb1.mono sz)
       have hz1 := HB1.out.size
       replace HX := Lib.hid (HX.out.next (bt hb1))
       clear hb1
       have HD1 := Lib.hid hd1
       clear hd1
       go_wp2_with fail
       refine (fQ A A1 c c1 U vi q HU.out HQ.out.2.1 HQ.out.2.2.1 _ (HX.out.next (pl (Below.refl _ _))) (HD1.out.next (pl (Below.refl _ _)))).mono ?_
       rintro e x2 ⟨⟨A2, c2, rfl, hd2⟩, hb2⟩
       have HB2 := aZ HB1.out hb2
       have hz2 := HB2.out.size
       clear hb2
       have HD2 := Lib.hid hd2
       clear hd2
       go_wp2_with fail
       refine (lV _).mono ?_
       rintro e x3 ⟨⟨A3, c3, rfl, hd3⟩, hb3⟩
       have HB3 := aZ HB2.out hb3
       have hz3 := HB3.out.size
       replace HD2 := Lib.hid (HD2.out.next (bt hb3))
       clear hb3
       have HD3 := Lib.hid hd3
       clear hd3
       go_wp2_with fail
       refine (LG A3 c3 Num.p x3.heap.size 3 p3 (by rw [uN]; decide) Jz HE.out.1 _ (HD3.out.next (pl (Below.refl _ _))) (heap_alloc_new _ _)).mono ?_
       rintro e x4 ⟨⟨A4, c4, rfl, hd4⟩, hb4⟩
       have HB4 := aZ HB3.out hb4
       have lT := HB4.out.size
       replace HD2 := Lib.hid (HD2.out.next (bt hb4))
       clear hb4
       have HD4 := Lib.hid hd4
       clear hd4 HD3
       go_wp2_with fail
       refine (sZ A4 c4 p3 3 e3 HP3.out (by decide) HE.out.2.1 _ (HD4.out.next (pl (Below.refl _ _)))).mono ?_
       rintro e x5 ⟨⟨A5, c5, rfl, hd5⟩, hb5⟩
       have kR := aZ HB4.out hb5
       have rP := kR.out.size
       replace HD2 := Lib.hid (HD2.out.next (bt hb5))
       clear hb5
       have HD5 := Lib.hid hd5
       clear hd5 HD4
       go_wp2_with fail
       refine (iE A5 c5 e3 (tK HE.out.2.2.1) _ (HD5.out.next (pl (Below.refl _ _)))).mono ?_
       rintro e x6 ⟨⟨b6, rfl, hrd⟩, hb6⟩
       have mg := aZ kR.out hb6
       have yH := mg.out.size
       replace HD2 := Lib.hid (HD2.out.next (bt hb6))
       clear hb6
       have fM := Lib.hid hrd
       clear hrd HD5
       go_wp2_with fail
       refine (Gx A2 c2 q b6 e3 r0 HQ.out.2.2.2 HE.out.2.2.1 HE.out.2.2.2 _ (HD2.out.next (pl (Below.refl _ _))) fM.out).mono ?_
       rintro e x7 ⟨⟨A7, c7, rfl, hd7⟩, hb7⟩
       have oW := aZ mg.out hb7
       have Ac := oW.out.size
       replace HD2 := Lib.hid (HD2.out.next (bt hb7))
       clear hb7
       have HD7 := Lib.hid hd7
       clear hd7 fM
       go_wp2_with fail
       refine (fQ A7 A7 c7 c7 r0 r0 s0 HR.out.1 HR.out.1 HR.out.2.1 _ (HD7.out.next (pl (Below.refl _ _))) (HD7.out.next (pl (Below.refl _ _)))).mono ?_
       rintro e x8 ⟨⟨A8, c8, rfl, hd8⟩, hb8⟩
       have ru := aZ oW.out hb8
       have Di := ru.out.size
       replace HD2 := Lib.hid (HD2.out.next (bt hb8))
       replace HD7 := Lib.hid (HD7.out.next (bt hb8))
       clear hb8
       have DR := Lib.hid hd8
       clear hd8
       go_wp2_with fail
       refine (nX A8 A2 c8 c2 s0 q false HR.out.2.2.1 HQ.out.2.2.2 (decide_eq_false ug.out) _ (DR.out.next (pl (Below.refl _ _))) (HD2.out.next (pl (Below.refl _ _)))).mono ?_
       rintro e x9 ⟨rfl, kP⟩
       have pW := aZ ru.out kP
       have Fj := pW.out.size
       replace HD2 := Lib.hid (HD2.out.next (bt kP))
       replace HD7 := Lib.hid (HD7.out.next (bt kP))
       clear kP
       clear DR
       go_wp2_with fail
       have HT : Hid (Dn (x9.alloc (.cells #[.int .u64 2] 34)) (some ⟨x9.heap.size, 0, none⟩) 1 2) := Lib.hid (lY 2 ET (heap_alloc_new _ _))
       refine (lV _).mono ?_
       rintro e x10 ⟨⟨A9, c9, rfl, hd9⟩, dP⟩
       have fB := aZ pW.out dP
       have uQ := fB.out.size
       replace HD2 := Lib.hid (HD2.out.next (bt dP))
       replace HD7 := Lib.hid (HD7.out.next (bt dP))
       replace HT := Lib.hid (HT.out.next (bt dP))
       clear dP
       have EJ := Lib.hid hd9
       clear hd9
       go_wp2_with fail
       refine (FI A9 c9 Num.p x10.heap.size 1 p1 (by rw [uN]; decide) sQ (by decide) uV.out.1 _ (EJ.out.next (pl (Below.refl _ _))) (heap_alloc_new _ _)).mono ?_
       rintro e x11 ⟨⟨A10, c10, rfl, hd10⟩, dG⟩
       have fC := aZ fB.out dG
       have nD := fC.out.size
       replace HD2 := Lib.hid (HD2.out.next (bt dG))
       replace HD7 := Lib.hid (HD7.out.next (bt dG))
       replace HT := Lib.hid (HT.out.next (bt dG))
       clear dG
       have aQ := Lib.hid hd10
       clear hd10 EJ
       go_wp2_with fail
       refine (sZ A10 c10 p1 2 m uV.out.2.1 (by decide) uV.out.2.2.1 _ (aQ.out.next (pl (Below.refl _ _)))).mono ?_
       rintro e x12 ⟨⟨A11, c11, rfl, hd11⟩, bT⟩
       have fG := aZ fC.out bT
       have kF := fG.out.size
       replace HD2 := Lib.hid (HD2.out.next (bt bT))
       replace HD7 := Lib.hid (HD7.out.next (bt bT))
       replace HT := Lib.hid (HT.out.next (bt bT))
       clear bT
       have Am := Lib.hid hd11
       clear hd11 aQ
       go_wp2_with fail
       refine (iE A11 c11 m (tK uV.out.2.2.2.1) _ (Am.out.next (pl (Below.refl _ _)))).mono ?_
       rintro e DL ⟨⟨b12, rfl, hrd⟩, bM⟩
       have iH := aZ fG.out bM
       have jJ := iH.out.size
       replace HD2 := Lib.hid (HD2.out.next (bt bM))
       replace HD7 := Lib.hid (HD7.out.next (bt bM))
       replace HT := Lib.hid (HT.out.next (bt bM))
       clear bM
       have fM := Lib.hid hrd
       clear hrd Am
       go_wp2_with fail
       refine (ER x9.heap.size 2 b12 m im ET (by decide) uV.out.2.2.2.1 uV.out.2.2.2.2.1 _ (HT.out.next (pl (Below.refl _ _))) fM.out).mono ?_
       rintro e x14 ⟨⟨A13, c13, rfl, Bc⟩, dO⟩
       have jo := aZ iH.out dO
       have lZ := jo.out.size
       replace HD2 := Lib.hid (HD2.out.next (bt dO))
       replace HD7 := Lib.hid (HD7.out.next (bt dO))
       replace HT := Lib.hid (HT.out.next (bt dO))
       clear dO
       have apf := Lib.hid Bc
       clear Bc fM HT
       go_wp2_with fail
       refine (fQ A7 A13 c7 c13 r0 im S HR.out.1 uV.out.2.2.2.2.2.1 uV.out.2.2.2.2.2.2 _ (HD7.out.next (pl (Below.refl _ _))) (apf.out.next (pl (Below.refl _ _)))).mono ?_
       rintro e x15 ⟨⟨NS, c14, rfl, Bd⟩, fH⟩
       have nV := aZ jo.out fH
       have vH := nV.out.size
       replace HD2 := Lib.hid (HD2.out.next (bt fH))
       clear fH
       have jP := Lib.hid Bd
       clear Bd apf HD7
       go_wp2_with fail
       refine (fQ NS NS c14 c14 S S s1 HR.out.2.2.2.1 HR.out.2.2.2.1 HR.out.2.2.2.2.1 _ (jP.out.next (pl (Below.refl _ _))) (jP.out.next (pl (Below.refl _ _)))).mono ?_
       rintro e x16 ⟨⟨NT, c15, rfl, qo⟩, hb16⟩
       have yu := aZ nV.out hb16
       have Un := yu.out.size
       replace HD2 := Lib.hid (HD2.out.next (bt hb16))
       replace jP := Lib.hid (jP.out.next (bt hb16))
       clear hb16
       have qc := Lib.hid qo
       clear qo
       go_wp2_with fail
       refine (nX NT A2 c15 c2 s1 q false HR.out.2.2.2.2.2 HQ.out.2.2.2 (decide_eq_false jZ.out) _ (qc.out.next (pl (Below.refl _ _))) (HD2.out.next (pl (Below.refl _ _)))).mono ?_
       rintro e x17 ⟨rfl, rJ⟩
       have yw := aZ yu.out rJ
       have Uo := yw.out.size
       replace jP := Lib.hid (jP.out.next (bt rJ))
       clear rJ
       clear qc HD2
       go_wp2_with fail
       refine bodyPost_ret (v := .tuple #[.slice none 0 0, .bool false]) ?_ rfl ⟨⟨none, 0, 0, false, by rw [dY]; rfl, EU _, gJ, (decide_eq_false (fun h => jZ.out (DU.out.1.mpr h))).symm, bY (by unfold dS; rw [if_neg (fun h => jZ.out (DU.out.1.mpr h))])⟩, (pl yw.out)⟩
       · simp [results, Tryz.results105, go_sem]
end
end Go.Proofs.YtehfkbaendajbaaGreatDoor
