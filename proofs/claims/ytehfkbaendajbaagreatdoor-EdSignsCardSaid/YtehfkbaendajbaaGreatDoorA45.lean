/-
  Shared, part 45: walks and plain laws; each theorem states its own conditions.
-/
import Derived.Test.YtehfkbaendajbaaGreatDoorA27
import Derived.Test.YtehfkbaendajbaaGreatDoorA41
namespace Go.Proofs.YtehfkbaendajbaaGreatDoor
set_option linter.unusedSimpArgs false
set_option linter.unusedVariables false
set_option maxRecDepth 100000
set_option maxHeartbeats 8000000
section
open Go.RowKit Go.Proofs.YtehfkbaendajbaaGreatDoorW.PrintLast
structure Sg5 (w : World) : Prop where
 h : vg w
 c : kE w
 b : nU w
 r : DW w
theorem Sg5.next {w w' : World} (h : Sg5 w) (hb : Below w.heap.size w w') : Sg5 w' := ⟨h.h.next hb, h.c.next hb, h.b.next hb, h.r.next hb⟩
theorem acQ {w : World} {A : Option Addr} {c : Nat} {bs : List Nat} (hr : Rd w .u8 A bs) (hby : ∀ z ∈ bs, z < 256) : QH.ok ⟨A, c, bs⟩ w := ⟨hr, fun b off e h0 => by
 obtain ⟨b', off', e', hb, _⟩ := hr.place h0
 rw [show A = _ from e'] at e
 cases e
 exact hb, hby⟩
theorem akb {w : World} {g : Nat} {t : TypeId} {T U : QH} {a b : Value} (h : w.heap[g]? = some (.cells #[a, b] t)) (ea : a = T.v) (eb : b = U.v) (h1 : T.ok w) (h2 : U.ok w) : Xg w g 0 [T, U] := by
 subst ea eb
 intro i hi
 have hi' : i < 2 := hi
 rcases i with _ | _ | i
 · exact ⟨by simp [World.cell?, h], h1⟩
 · exact ⟨by simp [World.cell?, h], h2⟩
 · omega
theorem acZ {w : World} {g : Nat} {t : TypeId} {T U S : QH} {a b c : Value} (h : w.heap[g]? = some (.cells #[a, b, c] t)) (ea : a = T.v) (eb : b = U.v) (ec : c = S.v) (h1 : T.ok w) (h2 : U.ok w) (h3 : S.ok w) : Xg w g 0 [T, U, S] := by
 subst ea eb ec
 intro i hi
 have hi' : i < 3 := hi
 rcases i with _ | _ | _ | i
 · exact ⟨by simp [World.cell?, h], h1⟩
 · exact ⟨by simp [World.cell?, h], h2⟩
 · exact ⟨by simp [World.cell?, h], h3⟩
 · omega
theorem adZ (T U : QH) : kK [T, U] = T.bs ++ U.bs := by simp [kK]
theorem acS (T U S : QH) : kK [T, U, S] = T.bs ++ (U.bs ++ S.bs) := by simp [kK]
theorem af9 {w : World} {g : Nat} {t : TypeId} (n1 n2 : List Nat) (hl : n1.length = 32) (h : w.heap[g]? = some (.cells (bF (n1 ++ n2)) t)) : Rd w .u8 (some ⟨g, 0, none⟩) n1 ∧ Rd w .u8 (some ⟨g, 32, none⟩) n2 := by
 constructor
 · refine jC h fun i hi => ?_
   rw [jr, List.getElem?_append_left hi, List.getElem?_eq_getElem hi]
   rfl
 · intro i hi
   refine ⟨g, 32, rfl, ?_⟩
   simp only [World.cell?, h]
   rw [jr, List.getElem?_append_right (by omega), hl, show 32 + i - 32 = i by omega, List.getElem?_eq_getElem hi]
   simp
theorem akP {w : World} {B g n : Nat} {xs : List Nat} (hB : B ≤ g) (h : w.heap[g]? = some (.cells (bF xs) 5)) (hn : xs.length = n) (hm : n ≤ maxLen) : gu w B (.slice (some ⟨g, 0, none⟩) n n) xs := by
 subst hn
 refine ⟨by simp, Or.inr ⟨g, xs.length, bF xs, rfl, hB, h, Nat.le_refl _, hm, by simp [bF], ?_⟩⟩
 rw [Nat.mul_one, List.take_of_length_le (by simp [bF])]
 simp only [bF, bv]
def ab3 (m : List Nat) : Nat := bW (Ai aV m) % LO
def acR (sd : List Nat) : Nat := bW (kC (Ai aV sd))
def akR (sd m : List Nat) : Nat := ab3 ((Ai aV sd).drop 32 ++ m)
def alB (sd m : List Nat) : List Nat := iM (Pt.smul (akR sd m) iZ)
def akQ (sd m : List Nat) : Nat := ab3 (alB sd m ++ (Yb sd ++ m))
def alC (sd m : List Nat) : Nat := (akQ sd m * acR sd + akR sd m) % LO
def ajk (sd m : List Nat) : List Nat := alB sd m ++ dw 32 (alC sd m)
theorem afU : 0 < LO := by decide
theorem alU : LO ≤ 256 ^ 32 := by decide +kernel
theorem acL (n : Nat) (h : n < LO) : bW (dw 32 n) = n := by
 rw [yM]
 exact Nat.mod_eq_of_lt (Nat.lt_of_lt_of_le h alU)
theorem agG (m : List Nat) : ab3 m < LO := Nat.mod_lt _ afU
theorem aki (A : Option Addr) (c : Nat) (H B : List Nat) (hl : H.length = 64) (hby : ∀ b ∈ H, b < 256) (hB : B = dw 32 (bW H % LO)) (w : World) (hr : Rd w .u8 A H) (ho : DW w) : Calls Tryz.prog 41 #[.slice A 64 c] w fun e w' => (∃ b, w.heap.size ≤ b ∧ e = .returned (.tuple #[.slice (some ⟨b, 0, none⟩) 32 32, .int .i64 0]) ∧ w'.heap[b]? = some (.cells (bF B) 5)) ∧ Below w.heap.size w w' := by
 subst hB
 have h := akh A c H hby (by omega) w hr ho
 rw [hl] at h
 exact h
theorem ahU (A : Option Addr) (c : Nat) (ns L : List Nat) (hn : ns.length = 32) (hbn : ∀ b ∈ ns, b < 256) (hL : L = iM (Pt.smul (bW ns) iZ)) (w : World) (h : Sg5 w) (hr : Rd w .u8 A ns) : Calls Tryz.prog 17 #[.slice A 32 c] w fun e w' => (∃ b, w.heap.size ≤ b ∧ e = .returned (.slice (some ⟨b, 0, none⟩) 32 32) ∧ w'.heap[b]? = some (.cells (bF L) 5)) ∧ Below w.heap.size w w' := by
 subst hL
 exact ae1 A c ns hn hbn w h.c h.b hr
theorem ahF (A0 A1 A2 : Option Addr) (c0 c1 c2 : Nat) (b0 b1 b2 B : List Nat) (l0 : b0.length = 32) (l1 : b1.length = 32) (l2 : b2.length = 32) (jq : ∀ b ∈ b0, b < 256) (jH : ∀ b ∈ b1, b < 256) (oQ : ∀ b ∈ b2, b < 256) (hB : B = dw 32 ((bW b0 * bW b1 + bW b2) % LO)) (w : World) (r0 : Rd w .u8 A0 b0) (r1 : Rd w .u8 A1 b1) (r2 : Rd w .u8 A2 b2) (ho : DW w) :
 Calls Tryz.prog 19 #[.slice A0 32 c0, .slice A1 32 c1, .slice A2 32 c2] w fun e w' => (∃ b, w.heap.size ≤ b ∧ e = .returned (.tuple #[.slice (some ⟨b, 0, none⟩) 32 32, .int .i64 0]) ∧ w'.heap[b]? = some (.cells (bF B) 5)) ∧ Below w.heap.size w w' := by
 subst hB
 have h := ahE A0 c0 b0 jq (by omega) A1 c1 b1 jH (by omega) A2 c2 b2 oQ (by omega) w r0 r1 r2 ho
 rw [l0, l1, l2] at h
 exact h
theorem alA (m n1 n2 : List Nat) (A : Option Addr) (c : Nat) (hm : m.length = 32) (hby : ∀ z ∈ m, z < 256) (h1 : n1 = kC (Ai aV m)) (h2 : n2 = (Ai aV m).drop 32) (w : World) (hh : vg w) (hr : Rd w .u8 A m) : Calls Tryz.prog 16 #[.slice A 32 c] w fun e w' => (∃ b, w.heap.size ≤ b ∧ e = .returned (.tuple #[.slice (some ⟨b, 0, none⟩) 32 32, .slice (some ⟨b, 32, none⟩) 32 32]) ∧ w'.heap[b]? = some (.cells (bF (n1 ++ n2)) 5)) ∧ Below w.heap.size w w' := by
 subst h1 h2
 exact afz m A c hm hby w hh hr (fun b off e => by
  obtain ⟨b', off', e', hb, _⟩ := hr.place (by omega)
  rw [e'] at e
  cases e
  exact hb)
theorem akL (l : List QH) (H : List Nat) (gl ol cl : Nat) (hl : (kK l).length ≤ 1048576) (hsm : l.length ≤ 1000) (hH : H = Ai aV (kK l)) (w : World) (hh : vg w) (htx : Xg w gl ol l) :
 Calls Tryz.prog 40 #[.slice (some ⟨gl, ol, none⟩) l.length cl] w fun e w' => (∃ b, w.heap.size ≤ b ∧ e = .returned (.slice (some ⟨b, 0, none⟩) 64 64) ∧ w'.heap[b]? = some (.cells (bF H) 5)) ∧ Below w.heap.size w w' := by
 subst hH
 exact Yo l gl ol cl hl hsm w hh.1 hh.2 htx
theorem adq (l : List QH) (gl ol cl : Nat) (hl : (kK l).length ≤ 1048576) (hsm : l.length ≤ 1000) (w : World) (hg : Sg5 w) (htx : Xg w gl ol l) :
 Calls Tryz.prog 18 #[.slice (some ⟨gl, ol, none⟩) l.length cl] w fun e w' => (∃ b, w.heap.size ≤ b ∧ e = .returned (.slice (some ⟨b, 0, none⟩) 32 32) ∧ w'.heap[b]? = some (.cells (bF (dw 32 (ab3 (kK l)))) 5)) ∧ Below w.heap.size w w' := by
 obtain ⟨H, hH⟩ : ∃ z, z = Ai aV (kK l) := ⟨_, rfl⟩
 obtain ⟨R, hR⟩ : ∃ z, z = dw 32 (ab3 (kK l)) := ⟨_, rfl⟩
 rw [← hR]
 have HH : Hid (H = Ai aV (kK l) ∧ H.length = 64 ∧ (∀ z ∈ H, z < 256) ∧ R = dw 32 (bW H % LO)) := Lib.hid ⟨hH, by rw [hH]; exact Ce _, by rw [hH]; exact NH _, by rw [hR, hH]; rfl⟩
 have HL := Lib.hid (And.intro hl hsm)
 have HG := Lib.hid hg
 have HTx := Lib.hid htx
 clear hH hR hl hsm hg htx
 go_enter Tryz.func18, Tryz.ntmps18
 go_wp2_with fail
 refine (akL l H gl ol cl HL.out.1 HL.out.2 HH.out.1 _ HG.out.h HTx.out).mono ?_
 rintro e y1 ⟨⟨gh, TK, rfl, alR⟩, hb1⟩
 replace HG := Lib.hid (HG.out.next (bt hb1))
 have gI : Keeps w _ y1 := ak alR (aO (Below.trans (pl (Below.refl _ _)) (hb1.mono sz)))
 obtain ⟨x1, rfl, hk1, hz1, l10⟩ := gI.jE
 have HB1 : Hid (Below w.heap.size w x1) := hk1.below
 have HG1 : w.heap.size ≤ gh := by (try simp only [dU] at TK); omega
 clear gI hk1 hb1 alR TK
 go_wp2_with fail
 refine (aki (some ⟨gh, 0, none⟩) 64 H R HH.out.2.1 HH.out.2.2.1 HH.out.2.2.2 _ (nS ob) (HG.out.next (pl (Below.refl _ _))).r).mono ?_
 rintro e y2 ⟨⟨gb, zK, rfl, rO⟩, hb2⟩
 replace HG := Lib.hid (HG.out.next (bt hb2))
 have gI : Keeps w _ y2 := ak (b := gh) ((hb2.block _ sz).trans ob) (ak rO (aO (Below.trans (pl HB1.out) (hb2.mono sz))))
 obtain ⟨x2, rfl, hk2, hz2, kD, rQ⟩ := gI.iL
 have HB2 : Hid (Below w.heap.size w x2) := hk2.below
 have HG2 : w.heap.size ≤ gb := by have := HB1.out.size; (try simp only [dU] at zK); omega
 have abq : gh < gb := by (try simp only [dU] at zK); omega
 clear gI hk2 hb2 rO zK
 go_wp2_with fail
 exact bodyPost_ret (v := .slice (some ⟨gb, 0, none⟩) 32 32) (by simp [results, Tryz.results18, go_sem]) rfl ⟨⟨gb, HG2, rfl, ob⟩, pl HB2.out⟩
theorem aiQ (T U : QH) (R : List Nat) (g c : Nat) (hl : T.bs.length + U.bs.length ≤ 1048576) (hR : R = dw 32 (ab3 (T.bs ++ U.bs))) (w : World) (hg : Sg5 w) (htx : Xg w g 0 [T, U]) : Calls Tryz.prog 18 #[.slice (some ⟨g, 0, none⟩) 2 c] w fun e w' => (∃ b, w.heap.size ≤ b ∧ e = .returned (.slice (some ⟨b, 0, none⟩) 32 32) ∧ w'.heap[b]? = some (.cells (bF R) 5)) ∧ Below w.heap.size w w' := by
 subst hR
 have h := adq [T, U] g 0 c (by rw [adZ, List.length_append]; exact hl) (by simp) w hg htx
 rw [adZ] at h
 exact h
theorem afM (T U S : QH) (R : List Nat) (g c : Nat) (hl : T.bs.length + (U.bs.length + S.bs.length) ≤ 1048576) (hR : R = dw 32 (ab3 (T.bs ++ (U.bs ++ S.bs)))) (w : World) (hg : Sg5 w) (htx : Xg w g 0 [T, U, S]) : Calls Tryz.prog 18 #[.slice (some ⟨g, 0, none⟩) 3 c] w fun e w' => (∃ b, w.heap.size ≤ b ∧ e = .returned (.slice (some ⟨b, 0, none⟩) 32 32) ∧ w'.heap[b]? = some (.cells (bF R) 5)) ∧ Below w.heap.size w w' := by
 subst hR
 have h := adq [T, U, S] g 0 c (by rw [acS, List.length_append, List.length_append]; exact hl) (by simp) w hg htx
 rw [acS] at h
 exact h
def afW (w : World) (sig : List Nat) (e : Ending) (w' : World) : Prop := ∃ q cap, e = .returned (.tuple #[.slice (some ⟨q, 0, none⟩) 64 cap, .int .i64 0]) ∧ w.heap.size ≤ q ∧ 64 ≤ cap ∧ Rd w' .u8 (some ⟨q, 0, none⟩) sig
end
section
open Go.RowKit Go.Proofs.YtehfkbaendajbaaGreatDoorW.PrintLast
structure SgF (sd m n1 n2 R F K1 KK S : List Nat) : Prop where
 en1 : n1 = kC (Ai aV sd)
 en2 : n2 = (Ai aV sd).drop 32
 l1 : n1.length = 32
 l2 : n2.length = 32
 b1 : ∀ z ∈ n1, z < 256
 b2 : ∀ z ∈ n2, z < 256
 eR : R = dw 32 (ab3 (n2 ++ m))
 eF : F = iM (Pt.smul (bW R) iZ)
 eK1 : K1 = iM (Pt.smul (bW n1) iZ)
 eKK : KK = dw 32 (ab3 (F ++ (K1 ++ m)))
 eS : S = dw 32 ((bW KK * bW n1 + bW R) % LO)
 sig : F ++ S = ajk sd m
theorem aiR (sd m : List Nat) : ∃ n1 n2 R F K1 KK S, SgF sd m n1 n2 R F K1 KK S := by
 refine ⟨_, _, _, _, _, _, _, rfl, rfl, AB _ (Ce sd), by rw [List.length_drop, Ce], Oq _ (NH sd), fun z hz => NH sd z (List.mem_of_mem_drop hz), rfl, rfl, rfl, rfl, rfl, ?_⟩
 simp only [acL _ (agG _)]
 rfl
theorem lS {R : List Nat} {n : Nat} (h : R = dw 32 n) : R.length = 32 ∧ ∀ z ∈ R, z < 256 := by subst h; exact ⟨kV _ _, qj _ _⟩
theorem lF {F : List Nat} {P : EP} (h : F = iM P) : F.length = 32 ∧ ∀ z ∈ F, z < 256 := by subst h; exact ⟨kV _ _, qj _ _⟩
theorem sign_eq (A0 A1 : Option Addr) (c0 c1 : Nat) (sd m : List Nat) (hsd : sd.length = 32) (hm : m.length ≤ 65536) (akB : ∀ z ∈ sd, z < 256) (akD : ∀ z ∈ m, z < 256) (w : World) (hg : Sg5 w) (hr0 : Rd w .u8 A0 sd) (hr1 : Rd w .u8 A1 m) :
 Calls Tryz.prog 7 #[.slice A0 32 c0, .slice A1 m.length c1] w fun e w' => afW w (ajk sd m) e w' ∧ Below w.heap.size w w' := by
 obtain ⟨n1, n2, R, F, K1, KK, S, hF⟩ := aiR sd m
 have HF := Lib.hid hF
 have HSd := Lib.hid (And.intro hsd akB)
 have HM := Lib.hid (And.intro hm akD)
 have HG := Lib.hid hg
 have HR0 := Lib.hid hr0
 have HR1 := Lib.hid hr1
 have hI : ((65536 : Int) < (m.length : Int)) = False := eq_false (by omega)
 have hJ : decide (65536 < m.length) = false := decide_eq_false (by omega)
 clear hF hsd akB hm akD hg hr0 hr1
 go_enter Tryz.func7, Tryz.ntmps7
 go_wp2_with fail
 refine (alA sd n1 n2 A0 c0 HSd.out.1 HSd.out.2 HF.out.en1 HF.out.en2 _ (HG.out.next (pl (Below.refl _ _))).h (HR0.out.next (pl (Below.refl _ _)))).mono ?_
 rintro e y1 ⟨⟨gs, TK, rfl, alR⟩, hb1⟩
 have gI : Keeps w _ y1 := ak alR (aO (Below.trans (pl (Below.refl _ _)) (hb1.mono sz)))
 obtain ⟨x1, rfl, hk1, hz1, l10⟩ := gI.jE
 have HB1 : Hid (Below w.heap.size w x1) := hk1.below
 have HG1 : w.heap.size ≤ gs := by (try simp only [dU] at TK); omega
 clear gI hk1 hb1 alR TK
 go_wp2_with fail
 refine (aiQ ⟨some ⟨gs, 32, none⟩, 32, n2⟩ ⟨A1, c1, m⟩ R x1.heap.size 2 (by have := HF.out.l2; have := HM.out.1; simp only; omega) HF.out.eR _ (HG.out.next (pl HB1.out)) (akb ob (by rw [QH.v, HF.out.l2]) rfl (acQ (A := some ⟨gs, 32, none⟩) (c := 32) (af9 n1 n2 HF.out.l1 ob).2 HF.out.b2) (acQ (A := A1) (c := c1) (bs := m) (HR1.out.next (pl HB1.out)) HM.out.2))).mono ?_
 rintro e y2 ⟨⟨gr, zK, rfl, rO⟩, hb2⟩
 have gI : Keeps w _ y2 := ak (b := gs) ((hb2.block _ sz).trans ob) (ak rO (aO (Below.trans (pl HB1.out) (hb2.mono sz))))
 obtain ⟨x2, rfl, hk2, hz2, kD, rQ⟩ := gI.iL
 have HB2 : Hid (Below w.heap.size w x2) := hk2.below
 have HG2 : w.heap.size ≤ gr := by have := HB1.out.size; (try simp only [dU] at zK); omega
 have abq : gs < gr := by (try simp only [dU] at zK); omega
 clear gI hk2 hb2 rO zK
 go_wp2_with fail
 refine (ahU (some ⟨gr, 0, none⟩) 32 R F (lS HF.out.eR).1 (lS HF.out.eR).2 HF.out.eF _ (HG.out.next (pl HB2.out)) (nS ob)).mono ?_
 rintro e y3 ⟨⟨gf, zL, rfl, Ie⟩, hb3⟩
 have gI : Keeps w _ y3 := ak (b := gs) ((hb3.block _ sz).trans ob) (ak (b := gr) ((hb3.block _ sz).trans ob) (ak Ie (aO (Below.trans (pl HB2.out) (hb3.mono sz)))))
 obtain ⟨x3, rfl, hk3, hz3, nN, uq, zn⟩ := gI.eG
 have HB3 : Hid (Below w.heap.size w x3) := hk3.below
 have HG3 : w.heap.size ≤ gf := by have := HB2.out.size; (try simp only [dU] at zL); omega
 have abr : gs < gf := by (try simp only [dU] at zL); omega
 have abt : gr < gf := by (try simp only [dU] at zL); omega
 clear gI hk3 hb3 Ie zL
 go_wp2_with fail
 refine (ahU (some ⟨gs, 0, none⟩) 32 n1 K1 HF.out.l1 HF.out.b1 HF.out.eK1 _ (HG.out.next (pl HB3.out)) (af9 n1 n2 HF.out.l1 ob).1).mono ?_
 rintro e y4 ⟨⟨gk, hge4, rfl, Ig⟩, hb4⟩
 have gI : Keeps w _ y4 := ak (b := gs) ((hb4.block _ sz).trans ob) (ak (b := gr) ((hb4.block _ sz).trans ob) (ak (b := gf) ((hb4.block _ sz).trans ob) (ak Ig (aO (Below.trans (pl HB3.out) (hb4.mono sz))))))
 obtain ⟨x4, rfl, hk4, lT, rU, yL, Dj, Yf⟩ := gI.iO
 have HB4 : Hid (Below w.heap.size w x4) := hk4.below
 have HG4 : w.heap.size ≤ gk := by have := HB3.out.size; (try simp only [dU] at hge4); omega
 have abu : gs < gk := by (try simp only [dU] at hge4); omega
 have anC : gr < gk := by (try simp only [dU] at hge4); omega
 have anD : gf < gk := by (try simp only [dU] at hge4); omega
 clear gI hk4 hb4 Ig hge4
 go_wp2_with fail
 refine (afM ⟨some ⟨gf, 0, none⟩, 32, F⟩ ⟨some ⟨gk, 0, none⟩, 32, K1⟩ ⟨A1, c1, m⟩ KK x4.heap.size 3 (by have := (lF HF.out.eF).1; have := (lF HF.out.eK1).1; have := HM.out.1; simp only; omega) HF.out.eKK _ (HG.out.next (pl HB4.out)) (acZ ob (by rw [QH.v, (lF HF.out.eF).1]) (by rw [QH.v, (lF HF.out.eK1).1]) rfl (acQ (A := some ⟨gf, 0, none⟩) (c := 32) (nS ob) (lF HF.out.eF).2) (acQ (A := some ⟨gk, 0, none⟩) (c := 32) (nS ob) (lF HF.out.eK1).2) (acQ (A := A1) (c := c1) (bs := m) (HR1.out.next (pl HB4.out)) HM.out.2))).mono ?_
 rintro e y5 ⟨⟨gq, Du, rfl, TN⟩, hb5⟩
 have gI : Keeps w _ y5 := ak (b := gs) ((hb5.block _ sz).trans ob) (ak (b := gr) ((hb5.block _ sz).trans ob) (ak (b := gf) ((hb5.block _ sz).trans ob) (ak TN (aO (Below.trans (pl HB4.out) (hb5.mono sz))))))
 obtain ⟨x5, rfl, hk5, rP, Ae, l51, Gi, WC⟩ := gI.iO
 have kR : Hid (Below w.heap.size w x5) := hk5.below
 have HG5 : w.heap.size ≤ gq := by have := HB4.out.size; (try simp only [dU] at Du); omega
 have abv : gs < gq := by (try simp only [dU] at Du); omega
 have abw : gr < gq := by (try simp only [dU] at Du); omega
 have aiD : gf < gq := by (try simp only [dU] at Du); omega
 clear gI hk5 hb5 TN Du
 go_wp2_with fail
 refine (ahF (some ⟨gq, 0, none⟩) (some ⟨gs, 0, none⟩) (some ⟨gr, 0, none⟩) 32 32 32 KK n1 R S (lS HF.out.eKK).1 HF.out.l1 (lS HF.out.eR).1 (lS HF.out.eKK).2 HF.out.b1 (lS HF.out.eR).2 HF.out.eS _ (nS ob) (af9 n1 n2 HF.out.l1 ob).1 (nS ob) (HG.out.next (pl kR.out)).r).mono ?_
 rintro e y6 ⟨⟨gt, acy, rfl, afV⟩, hb6⟩
 have gI : Keeps w _ y6 := ak (b := gf) ((hb6.block _ sz).trans ob) (ak afV (aO (Below.trans (pl kR.out) (hb6.mono sz))))
 obtain ⟨x6, rfl, hk6, yH, Gj, Jk⟩ := gI.iL
 have mg : Hid (Below w.heap.size w x6) := hk6.below
 have HG6 : w.heap.size ≤ gt := by have := kR.out.size; (try simp only [dU] at acy); omega
 have ajK : gf < gt := by (try simp only [dU] at acy); omega
 clear gI hk6 hb6 afV acy
 go_wp2_with (at_builtin; refine bH (.tmp 43) (.tmp 44) rfl rfl w.heap.size (.slice (some ⟨gf, 0, none⟩) 32 32) F S (some ⟨gt, 0, none⟩) 32 32 rfl rfl (lS HF.out.eS).1.symm (akP HG3 ob (lF HF.out.eF).1 (by decide)) (nS ob) (by have := (lS HF.out.eS).1; have := (lF HF.out.eF).1; omega) (by have := mg.out.size; (try simp only [dU]); omega) ?_)
 intro v1 w1 hrow1 hgrow1 lI
 have HBE : Hid (Below w.heap.size w w1) := Lib.hid (Below.grown (pl mg.out) hgrow1 (by have := mg.out.size; (try simp only [dU]); omega) (fun k h => by simp [Value.ownBlock] at h; omega))
 obtain ⟨q, cap, cur, rfl, hq, wU, hcur⟩ := gu.own hrow1 (by have := (lF HF.out.eF).1; rw [List.length_append]; omega)
 have aeu : (F ++ S).length = 64 := by rw [List.length_append, (lF HF.out.eF).1, (lS HF.out.eS).1]
 rw [aeu]
 have hcap : 64 ≤ cap := by
  obtain ⟨A, c, e1, e2, _⟩ := hrow1.form
  cases e1
  omega
 have HE : Hid (afW w (ajk sd m) (.returned (.tuple #[.slice (some ⟨q, 0, none⟩) 64 cap, .int .i64 0])) w1) := Lib.hid ⟨q, cap, rfl, hq, hcap, by rw [← HF.out.sig]; exact BI wU hcur⟩
 clear hrow1 hgrow1 lI wU hcur hq aeu
 go_wp2_with fail
 exact bodyPost_ret (v := .tuple #[.slice (some ⟨q, 0, none⟩) 64 cap, .int .i64 0]) (by simp [results, Tryz.results7, go_sem]) rfl ⟨HE.out, pl HBE.out⟩
end
end Go.Proofs.YtehfkbaendajbaaGreatDoor
