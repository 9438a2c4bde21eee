/-
  Shared, part 45: walks and plain laws; each theorem states its own conditions.
-/
import Derived.Test.YtehfkbaendajbaaGreatDoorB27
import Derived.Test.YtehfkbaendajbaaGreatDoorB41
namespace Go.Proofs.YtehfkbaendajbaaGreatDoor
set_option linter.unusedSimpArgs false
set_option linter.unusedVariables false
set_option maxRecDepth 100000
set_option maxHeartbeats 8000000
section
open Go.RowKit Go.Proofs.YtehfkbaendajbaaGreatDoorW.PrintLast
structure Sg5 (w : World) : Prop where
 h : vg w
 c : kE w
 b : nU w
 r : DW w
theorem Sg5.next {w w' : World} (h : Sg5 w) (hb : Below w.heap.size w w') : Sg5 w' := ⟨h.h.next hb, h.c.next hb, h.b.next hb, h.r.next hb⟩
theorem acQ {w : World} {A : Option Addr} {c : Nat} {bs : List Nat} (hr : Rd w .u8 A bs) (hby : ∀ z ∈ bs, z < 256) : QH.ok ⟨A, c, bs⟩ w := ⟨hr, fun b off e h0 => by
 obtain ⟨b', off', e', hb, _⟩ := hr.place h0
 rw [show A = _ from e'] at e
 cases e
 exact hb, hby⟩
theorem acZ {w : World} {g : Nat} {t : TypeId} {T U S : QH} {a b c : Value} (h : w.heap[g]? = some (.cells #[a, b, c] t)) (ea : a = T.v) (eb : b = U.v) (ec : c = S.v) (h1 : T.ok w) (h2 : U.ok w) (h3 : S.ok w) : Xg w g 0 [T, U, S] := by
 subst ea eb ec
 intro i hi
 have hi' : i < 3 := hi
 rcases i with _ | _ | _ | i
 · exact ⟨by simp [World.cell?, h], h1⟩
 · exact ⟨by simp [World.cell?, h], h2⟩
 · exact ⟨by simp [World.cell?, h], h3⟩
 · omega
theorem acS (T U S : QH) : kK [T, U, S] = T.bs ++ (U.bs ++ S.bs) := by simp [kK]
def ab3 (m : List Nat) : Nat := bW (Ai aV m) % LO
theorem afU : 0 < LO := by decide
theorem alU : LO ≤ 256 ^ 32 := by decide +kernel
theorem acL (n : Nat) (h : n < LO) : bW (dw 32 n) = n := by
 rw [yM]
 exact Nat.mod_eq_of_lt (Nat.lt_of_lt_of_le h alU)
theorem agG (m : List Nat) : ab3 m < LO := Nat.mod_lt _ afU
theorem aki (A : Option Addr) (c : Nat) (H B : List Nat) (hl : H.length = 64) (hby : ∀ b ∈ H, b < 256) (hB : B = dw 32 (bW H % LO)) (w : World) (hr : Rd w .u8 A H) (ho : DW w) : Calls Tryz.prog 41 #[.slice A 64 c] w fun e w' => (∃ b, w.heap.size ≤ b ∧ e = .returned (.tuple #[.slice (some ⟨b, 0, none⟩) 32 32, .int .i64 0]) ∧ w'.heap[b]? = some (.cells (bF B) 5)) ∧ Below w.heap.size w w' := by
 subst hB
 have h := akh A c H hby (by omega) w hr ho
 rw [hl] at h
 exact h
theorem akL (l : List QH) (H : List Nat) (gl ol cl : Nat) (hl : (kK l).length ≤ 1048576) (hsm : l.length ≤ 1000) (hH : H = Ai aV (kK l)) (w : World) (hh : vg w) (htx : Xg w gl ol l) :
 Calls Tryz.prog 40 #[.slice (some ⟨gl, ol, none⟩) l.length cl] w fun e w' => (∃ b, w.heap.size ≤ b ∧ e = .returned (.slice (some ⟨b, 0, none⟩) 64 64) ∧ w'.heap[b]? = some (.cells (bF H) 5)) ∧ Below w.heap.size w w' := by
 subst hH
 exact Yo l gl ol cl hl hsm w hh.1 hh.2 htx
theorem adq (l : List QH) (gl ol cl : Nat) (hl : (kK l).length ≤ 1048576) (hsm : l.length ≤ 1000) (w : World) (hg : Sg5 w) (htx : Xg w gl ol l) :
 Calls Tryz.prog 18 #[.slice (some ⟨gl, ol, none⟩) l.length cl] w fun e w' => (∃ b, w.heap.size ≤ b ∧ e = .returned (.slice (some ⟨b, 0, none⟩) 32 32) ∧ w'.heap[b]? = some (.cells (bF (dw 32 (ab3 (kK l)))) 5)) ∧ Below w.heap.size w w' := by
 obtain ⟨H, hH⟩ : ∃ z, z = Ai aV (kK l) := ⟨_, rfl⟩
 obtain ⟨R, hR⟩ : ∃ z, z = dw 32 (ab3 (kK l)) := ⟨_, rfl⟩
 rw [← hR]
 have HH : Hid (H = Ai aV (kK l) ∧ H.length = 64 ∧ (∀ z ∈ H, z < 256) ∧ R = dw 32 (bW H % LO)) := Lib.hid ⟨hH, by rw [hH]; exact Ce _, by rw [hH]; exact NH _, by rw [hR, hH]; rfl⟩
 have HL := Lib.hid (And.intro hl hsm)
 have HG := Lib.hid hg
 have HTx := Lib.hid htx
 clear hH hR hl hsm hg htx
 go_enter Tryz.func18, Tryz.ntmps18
 go_wp2_with fail
 refine (akL l H gl ol cl HL.out.1 HL.out.2 HH.out.1 _ HG.out.h HTx.out).mono ?_
 rintro e y1 ⟨⟨gh, TK, rfl, alR⟩, hb1⟩
 replace HG := Lib.hid (HG.out.next (bt hb1))
 have gI : Keeps w _ y1 := ak alR (aO (Below.trans (pl (Below.refl _ _)) (hb1.mono sz)))
 obtain ⟨x1, rfl, hk1, hz1, l10⟩ := gI.jE
 have HB1 : Hid (Below w.heap.size w x1) := hk1.below
 have HG1 : w.heap.size ≤ gh := by (try simp only [eF] at TK); omega
 clear gI hk1 hb1 alR TK
 go_wp2_with fail
 refine (aki (some ⟨gh, 0, none⟩) 64 H R HH.out.2.1 HH.out.2.2.1 HH.out.2.2.2 _ (nS ob) (HG.out.next (pl (Below.refl _ _))).r).mono ?_
 rintro e y2 ⟨⟨gb, zK, rfl, rO⟩, hb2⟩
 replace HG := Lib.hid (HG.out.next (bt hb2))
 have gI : Keeps w _ y2 := ak (b := gh) ((hb2.block _ sz).trans ob) (ak rO (aO (Below.trans (pl HB1.out) (hb2.mono sz))))
 obtain ⟨x2, rfl, hk2, hz2, kD, rQ⟩ := gI.iL
 have HB2 : Hid (Below w.heap.size w x2) := hk2.below
 have HG2 : w.heap.size ≤ gb := by have := HB1.out.size; (try simp only [eF] at zK); omega
 have abq : gh < gb := by (try simp only [eF] at zK); omega
 clear gI hk2 hb2 rO zK
 go_wp2_with fail
 exact bodyPost_ret (v := .slice (some ⟨gb, 0, none⟩) 32 32) (by simp [results, Tryz.results18, go_sem]) rfl ⟨⟨gb, HG2, rfl, ob⟩, pl HB2.out⟩
theorem afM (T U S : QH) (R : List Nat) (g c : Nat) (hl : T.bs.length + (U.bs.length + S.bs.length) ≤ 1048576) (hR : R = dw 32 (ab3 (T.bs ++ (U.bs ++ S.bs)))) (w : World) (hg : Sg5 w) (htx : Xg w g 0 [T, U, S]) : Calls Tryz.prog 18 #[.slice (some ⟨g, 0, none⟩) 3 c] w fun e w' => (∃ b, w.heap.size ≤ b ∧ e = .returned (.slice (some ⟨b, 0, none⟩) 32 32) ∧ w'.heap[b]? = some (.cells (bF R) 5)) ∧ Below w.heap.size w w' := by
 subst hR
 have h := adq [T, U, S] g 0 c (by rw [acS, List.length_append, List.length_append]; exact hl) (by simp) w hg htx
 rw [acS] at h
 exact h
end
section
open Go.RowKit Go.Proofs.YtehfkbaendajbaaGreatDoorW.PrintLast
theorem amV {R : List Nat} {n : Nat} (h : R = dw 32 n) : R.length = 32 ∧ ∀ z ∈ R, z < 256 := by subst h; exact ⟨kV _ _, qj _ _⟩
theorem lF {F : List Nat} {P : EP} (h : F = iM P) : F.length = 32 ∧ ∀ z ∈ F, z < 256 := by subst h; exact ⟨kV _ _, qj _ _⟩
end
end Go.Proofs.YtehfkbaendajbaaGreatDoor
