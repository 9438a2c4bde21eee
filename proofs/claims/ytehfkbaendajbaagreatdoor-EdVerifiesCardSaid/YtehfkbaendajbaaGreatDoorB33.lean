/-
  Shared, part 33: walks and plain laws; each theorem states its own conditions.
-/
import Derived.Test.YtehfkbaendajbaaGreatDoorB17
import Derived.Test.YtehfkbaendajbaaGreatDoorB32
import Derived.Test.YtehfkbaendajbaaGreatDoorB26
import Derived.Laws.CopyRow
namespace Go.Proofs.YtehfkbaendajbaaGreatDoor
set_option linter.unusedSimpArgs false
set_option linter.unusedVariables false
set_option maxRecDepth 100000
set_option maxHeartbeats 8000000
section
open Go.RowKit Go.Proofs.YtehfkbaendajbaaGreatDoorW.PrintLast
theorem DX (A B : Option Addr) (c d X Y Z : Nat) (hx : X < Num.p) (hy : Y < Num.p) (hz : Z = (X + Y) % Num.p) (w : World) (hX : Dn w A c X) (hY : Dn w B d Y) :
 Calls Tryz.prog 106 #[.slice A (aB X).length c, .slice B (aB Y).length d] w fun e w' => (∃ A' c', e = .returned (.slice A' (aB Z).length c') ∧ Dn w' A' c' Z) ∧ Below w.heap.size w w' := by
 subst hz
 exact Rw A B c d X Y hx hy w hX hY
theorem Gu (A B : Option Addr) (c d X Y Z : Nat) (hx : X < Num.p) (hy : Y < Num.p) (hz : Z = (X + (Num.p - Y)) % Num.p) (w : World) (hX : Dn w A c X) (hY : Dn w B d Y) :
 Calls Tryz.prog 74 #[.slice A (aB X).length c, .slice B (aB Y).length d] w fun e w' => (∃ A' c', e = .returned (.slice A' (aB Z).length c') ∧ Dn w' A' c' Z) ∧ Below w.heap.size w w' := by
 subst hz
 exact Gv A B c d X Y hx hy w hX hY
theorem iC {z n : Nat} (h : z = n % Num.p) : z < Num.p := by rw [h]; exact Nat.mod_lt _ gJ
structure Dp where
 A : Option Addr
 a : Nat
 x : Nat
 B : Option Addr
 b : Nat
 y : Nat
 C : Option Addr
 c : Nat
 z : Nat
abbrev Dp.v (p : Dp) : Value := .agg #[.slice p.A (aB p.x).length p.a, .slice p.B (aB p.y).length p.b, .slice p.C (aB p.z).length p.c]
structure Dp.ok (p : Dp) (w : World) : Prop where
 x : Dn w p.A p.a p.x
 y : Dn w p.B p.b p.y
 z : Dn w p.C p.c p.z
theorem Dp.ok.next {p : Dp} {w w' : World} (h : p.ok w) (hb : Below w.heap.size w w') : p.ok w' := ⟨h.x.next hb, h.y.next hb, h.z.next hb⟩
structure Dp.lt (p : Dp) : Prop where
 x : p.x < Num.p
 y : p.y < Num.p
 z : p.z < Num.p
def Dp.of (p : Dp) (P : EP) : Prop := p.lt ∧ WO (fe p.x) (fe p.y) (fe p.z) P
theorem Rd.IL {x : World} {g : Nat} {o' : Obj} {k : IntKind} {A : Option Addr} {xs : List Nat} (hg : g < x.heap.size) (h : Rd (x.pin g (.cells #[.slice none 0 0, .slice none 0 0, .slice none 0 0] 47)) k A xs) : Rd (x.pin g o') k A xs := fun i hi => by
 obtain ⟨b, off, e, hc⟩ := h i hi
 refine ⟨b, off, e, ?_⟩
 by_cases hb : b = g
 · exfalso
   subst hb
   have h1 := eY (o := .cells #[.slice none 0 0, .slice none 0 0, .slice none 0 0] 47) hg
   simp only [World.cell?, h1] at hc
   generalize off + i = j at hc
   rcases j with _ | _ | _ | j <;> simp at hc
 · rw [jM hb] at hc ⊢
   exact hc
theorem Dn.IL {x : World} {g : Nat} {o' : Obj} {A : Option Addr} {c n : Nat} (h : Dn (x.pin g (.cells #[.slice none 0 0, .slice none 0 0, .slice none 0 0] 47)) A c n) (hg : g < x.heap.size) : Dn (x.pin g o') A c n := ⟨Rd.IL hg h.1, h.2⟩
theorem Oz (p q : Dp) (A : Option Addr) (cd dv : Nat) (hdv : dv < Num.p) (lp : p.lt) (lq : q.lt) (a b c e1 ce f g h s1 s2 s3 s4 s5 ag xo ah ec yo zo : Nat) (Ha : Hid (a = p.z * q.z % Num.p)) (Hb : Hid (b = a * a % Num.p)) (Hc : Hid (c = p.x * q.x % Num.p)) (He : Hid (e1 = p.y * q.y % Num.p)) (Hce : Hid (ce = c * e1 % Num.p)) (Hf : Hid (f = dv * ce % Num.p)) (Hg : Hid (g = (b + (Num.p - f)) % Num.p)) (Hh : Hid (h = (b + f) % Num.p)) (WA : Hid (s1 = (p.x + p.y) % Num.p)) (Ri : Hid (s2 = (q.x + q.y) % Num.p)) (Hs3 : Hid (s3 = s1 * s2 % Num.p)) (Hs4 : Hid (s4 = (s3 + (Num.p - c)) % Num.p)) (Hs5 : Hid (s5 = (s4 + (Num.p - e1)) % Num.p)) (Hag : Hid (ag = a * g % Num.p)) (Hxo : Hid (xo = ag * s5 % Num.p)) (Hah : Hid (ah = a * h % Num.p)) (Hec : Hid (ec = (e1 + c) % Num.p)) (Hyo : Hid (yo = ah * ec % Num.p)) (Hzo : Hid (zo = g * h % Num.p)) (w : World) (hp : p.ok w) (hq : q.ok w) (hd : Dn w A cd dv) :
 Calls Tryz.prog 72 #[p.v, q.v, .slice A (aB dv).length cd] w fun e w' => (∃ o : Dp, e = .returned o.v ∧ o.ok w' ∧ o.x = xo ∧ o.y = yo ∧ o.z = zo) ∧ Below w.heap.size w w' := by
 have HP := Lib.hid hp
 have HQ := Lib.hid hq
 have pX := Lib.hid lp
 have Gp := Lib.hid lq
 have HD := Lib.hid hd
 clear hp hq lp lq hd
 go_enter Tryz.func72, Tryz.ntmps72
 go_wp2_with fail
 refine (fQ _ _ _ _ p.z q.z a pX.out.z Gp.out.z Ha.out _ (HP.out.next (pl (Below.refl _ _))).z (HQ.out.next (pl (Below.refl _ _))).z).mono ?_
 rintro e y1 ⟨⟨R1, r1, rfl, hr1⟩, hb1⟩
 replace HP := Lib.hid (HP.out.next (bt hb1))
 replace HQ := Lib.hid (HQ.out.next (bt hb1))
 replace HD := Lib.hid (HD.out.next (bt hb1))
 obtain ⟨x1, rfl, hc1, hz1, l10, nG, l12⟩ := bZ (b0 := w.heap.size) (b1 := w.heap.size + 1) (b2 := w.heap.size + 1 + 1) hb1 rfl ob ob ob
 have HB1 : Hid (Below w.heap.size w x1) := Below.trans (pl (Below.refl _ _)) (hc1.mono sz)
 clear hb1 hc1
 try simp only [eF] at hz1
 have HR1 := Lib.hid hr1
 clear hr1
 go_wp2_with fail
 refine (fQ _ _ _ _ a a b (iC Ha.out) (iC Ha.out) Hb.out _ (HR1.out.next (pl (Below.refl _ _))) (HR1.out.next (pl (Below.refl _ _)))).mono ?_
 rintro e y2 ⟨⟨R2, r2, rfl, hr2⟩, hb2⟩
 replace HP := Lib.hid (HP.out.next (bt hb2))
 replace HQ := Lib.hid (HQ.out.next (bt hb2))
 replace HD := Lib.hid (HD.out.next (bt hb2))
 replace HR1 := Lib.hid (HR1.out.next (bt hb2))
 obtain ⟨x2, rfl, hc2, hz2, kD, rQ, Gh⟩ := bZ (b0 := w.heap.size) (b1 := w.heap.size + 1) (b2 := w.heap.size + 1 + 1) hb2 rfl ob ob ob
 have HB2 := aZ HB1.out hc2
 clear hb2 hc2
 try simp only [eF] at hz2
 have HR2 := Lib.hid hr2
 clear hr2
 go_wp2_with fail
 refine (fQ _ _ _ _ p.x q.x c pX.out.x Gp.out.x Hc.out _ (HP.out.next (pl (Below.refl _ _))).x (HQ.out.next (pl (Below.refl _ _))).x).mono ?_
 rintro e y3 ⟨⟨R3, r3, rfl, hr3⟩, hb3⟩
 replace HP := Lib.hid (HP.out.next (bt hb3))
 replace HQ := Lib.hid (HQ.out.next (bt hb3))
 replace HD := Lib.hid (HD.out.next (bt hb3))
 replace HR1 := Lib.hid (HR1.out.next (bt hb3))
 replace HR2 := Lib.hid (HR2.out.next (bt hb3))
 obtain ⟨x3, rfl, hc3, hz3, nN, uq, zn⟩ := bZ (b0 := w.heap.size) (b1 := w.heap.size + 1) (b2 := w.heap.size + 1 + 1) hb3 rfl ob ob ob
 have HB3 := aZ HB2.out hc3
 clear hb3 hc3
 try simp only [eF] at hz3
 have HR3 := Lib.hid hr3
 clear hr3
 go_wp2_with fail
 refine (fQ _ _ _ _ p.y q.y e1 pX.out.y Gp.out.y He.out _ (HP.out.next (pl (Below.refl _ _))).y (HQ.out.next (pl (Below.refl _ _))).y).mono ?_
 rintro e y4 ⟨⟨R4, r4, rfl, hr4⟩, hb4⟩
 replace HP := Lib.hid (HP.out.next (bt hb4))
 replace HQ := Lib.hid (HQ.out.next (bt hb4))
 replace HD := Lib.hid (HD.out.next (bt hb4))
 replace HR1 := Lib.hid (HR1.out.next (bt hb4))
 replace HR2 := Lib.hid (HR2.out.next (bt hb4))
 replace HR3 := Lib.hid (HR3.out.next (bt hb4))
 obtain ⟨x4, rfl, hc4, lT, rU, yL, Dj⟩ := bZ (b0 := w.heap.size) (b1 := w.heap.size + 1) (b2 := w.heap.size + 1 + 1) hb4 rfl ob ob ob
 have HB4 := aZ HB3.out hc4
 clear hb4 hc4
 try simp only [eF] at lT
 have HR4 := Lib.hid hr4
 clear hr4
 go_wp2_with fail
 refine (fQ _ _ _ _ c e1 ce (iC Hc.out) (iC He.out) Hce.out _ (HR3.out.next (pl (Below.refl _ _))) (HR4.out.next (pl (Below.refl _ _)))).mono ?_
 rintro e y5 ⟨⟨R5, r5, rfl, Nl⟩, hb5⟩
 replace HP := Lib.hid (HP.out.next (bt hb5))
 replace HQ := Lib.hid (HQ.out.next (bt hb5))
 replace HD := Lib.hid (HD.out.next (bt hb5))
 replace HR1 := Lib.hid (HR1.out.next (bt hb5))
 replace HR2 := Lib.hid (HR2.out.next (bt hb5))
 replace HR3 := Lib.hid (HR3.out.next (bt hb5))
 replace HR4 := Lib.hid (HR4.out.next (bt hb5))
 obtain ⟨x5, rfl, hc5, rP, Ae, l51, Gi⟩ := bZ (b0 := w.heap.size) (b1 := w.heap.size + 1) (b2 := w.heap.size + 1 + 1) hb5 rfl ob ob ob
 have kR := aZ HB4.out hc5
 clear hb5 hc5
 try simp only [eF] at rP
 have jG := Lib.hid Nl
 clear Nl
 go_wp2_with fail
 refine (fQ _ _ _ _ dv ce f hdv (iC Hce.out) Hf.out _ (HD.out.next (pl (Below.refl _ _))) (jG.out.next (pl (Below.refl _ _)))).mono ?_
 rintro e y6 ⟨⟨R6, r6, rfl, Io⟩, hb6⟩
 replace HP := Lib.hid (HP.out.next (bt hb6))
 replace HQ := Lib.hid (HQ.out.next (bt hb6))
 replace HD := Lib.hid (HD.out.next (bt hb6))
 replace HR1 := Lib.hid (HR1.out.next (bt hb6))
 replace HR2 := Lib.hid (HR2.out.next (bt hb6))
 replace HR3 := Lib.hid (HR3.out.next (bt hb6))
 replace HR4 := Lib.hid (HR4.out.next (bt hb6))
 replace jG := Lib.hid (jG.out.next (bt hb6))
 obtain ⟨x6, rfl, hc6, yH, Gj, Jk, Kz⟩ := bZ (b0 := w.heap.size) (b1 := w.heap.size + 1) (b2 := w.heap.size + 1 + 1) hb6 rfl ob ob ob
 have mg := aZ kR.out hc6
 clear hb6 hc6
 try simp only [eF] at yH
 have jk := Lib.hid Io
 clear Io
 go_wp2_with fail
 refine (Gu _ _ _ _ b f g (iC Hb.out) (iC Hf.out) Hg.out _ (HR2.out.next (pl (Below.refl _ _))) (jk.out.next (pl (Below.refl _ _)))).mono ?_
 rintro e y7 ⟨⟨R7, r7, rfl, Ip⟩, hb7⟩
 replace HP := Lib.hid (HP.out.next (bt hb7))
 replace HQ := Lib.hid (HQ.out.next (bt hb7))
 replace HD := Lib.hid (HD.out.next (bt hb7))
 replace HR1 := Lib.hid (HR1.out.next (bt hb7))
 replace HR2 := Lib.hid (HR2.out.next (bt hb7))
 replace HR3 := Lib.hid (HR3.out.next (bt hb7))
 replace HR4 := Lib.hid (HR4.out.next (bt hb7))
 replace jG := Lib.hid (jG.out.next (bt hb7))
 replace jk := Lib.hid (jk.out.next (bt hb7))
 obtain ⟨x7, rfl, Ef, Ac, KA, Pz, QJ⟩ := bZ (b0 := w.heap.size) (b1 := w.heap.size + 1) (b2 := w.heap.size + 1 + 1) hb7 rfl ob ob ob
 have oW := aZ mg.out Ef
 clear hb7 Ef
 try simp only [eF] at Ac
 have jQ := Lib.hid Ip
 clear Ip
 go_wp2_with fail
 refine (DX _ _ _ _ b f h (iC Hb.out) (iC Hf.out) Hh.out _ (HR2.out.next (pl (Below.refl _ _))) (jk.out.next (pl (Below.refl _ _)))).mono ?_
 rintro e y8 ⟨⟨R8, r8, rfl, ZE⟩, hb8⟩
 replace HP := Lib.hid (HP.out.next (bt hb8))
 replace HQ := Lib.hid (HQ.out.next (bt hb8))
 replace HD := Lib.hid (HD.out.next (bt hb8))
 replace HR1 := Lib.hid (HR1.out.next (bt hb8))
 replace HR2 := Lib.hid (HR2.out.next (bt hb8))
 replace HR3 := Lib.hid (HR3.out.next (bt hb8))
 replace HR4 := Lib.hid (HR4.out.next (bt hb8))
 replace jG := Lib.hid (jG.out.next (bt hb8))
 replace jk := Lib.hid (jk.out.next (bt hb8))
 replace jQ := Lib.hid (jQ.out.next (bt hb8))
 obtain ⟨x8, rfl, hc8, Di, PD, QK, UG⟩ := bZ (b0 := w.heap.size) (b1 := w.heap.size + 1) (b2 := w.heap.size + 1 + 1) hb8 rfl ob ob ob
 have ru := aZ oW.out hc8
 clear hb8 hc8
 try simp only [eF] at Di
 have ny := Lib.hid ZE
 clear ZE
 go_wp2_with fail
 refine st1 w [] 16 (ak (b := w.heap.size) ob (ak (b := w.heap.size + 1) ob (ak (b := w.heap.size + 1 + 1) ob (aO (pl ru.out))))) (fun HS => ?_)
 refine tk3 0 (some 44) HS (h := ?_)
 refine tk3 1 (some 45) HS (h := ?_)
 refine tk3 2 (some 46) HS (h := ?_)
 refine tk3 3 (some 47) HS (h := ?_)
 refine tk3 5 (some 49) HS (h := ?_)
 refine tk3 6 (some 50) HS (h := ?_)
 refine tk3 7 (some 51) HS (h := ?_)
 refine tk3 8 (some 52) HS (h := ?_)
 refine tk3 11 (some 55) HS (h := ?_)
 refine tk3 13 (some 57) HS (h := ?_)
 refine dH 4 (some 48) (h := fun K hK => ?_)
 go_simp
 refine (DX _ _ _ _ p.x p.y s1 pX.out.x pX.out.y WA.out _ (HP.out.next (pl (Below.refl _ _))).x (HP.out.next (pl (Below.refl _ _))).y).mono ?_
 rintro e y ⟨⟨T1, t1, rfl, ht1⟩, hb⟩
 refine hK.out _ _ (HS.step hb rfl) ?_
 have LW := Lib.hid (HP.out.next (by first | exact hb | exact Below.trans (Below.drew (Below.refl _ _)) hb))
 clear HP
 have HP := LW
 clear LW
 have LX := Lib.hid (HQ.out.next (by first | exact hb | exact Below.trans (Below.drew (Below.refl _ _)) hb))
 clear HQ
 have HQ := LX
 clear LX
 have HDn := Lib.hid (HD.out.next (by first | exact hb | exact Below.trans (Below.drew (Below.refl _ _)) hb))
 clear HD
 have HD := HDn
 clear HDn
 have vS := Lib.hid (HR1.out.next (by first | exact hb | exact Below.trans (Below.drew (Below.refl _ _)) hb))
 clear HR1
 have HR1 := vS
 clear vS
 have vT := Lib.hid (HR2.out.next (by first | exact hb | exact Below.trans (Below.drew (Below.refl _ _)) hb))
 clear HR2
 have HR2 := vT
 clear vT
 have vU := Lib.hid (HR3.out.next (by first | exact hb | exact Below.trans (Below.drew (Below.refl _ _)) hb))
 clear HR3
 have HR3 := vU
 clear vU
 have vV := Lib.hid (HR4.out.next (by first | exact hb | exact Below.trans (Below.drew (Below.refl _ _)) hb))
 clear HR4
 have HR4 := vV
 clear vV
 have vW := Lib.hid (jG.out.next (by first | exact hb | exact Below.trans (Below.drew (Below.refl _ _)) hb))
 clear jG
 have jG := vW
 clear vW
 have vX := Lib.hid (jk.out.next (by first | exact hb | exact Below.trans (Below.drew (Below.refl _ _)) hb))
 clear jk
 have jk := vX
 clear vX
 have vY := Lib.hid (jQ.out.next (by first | exact hb | exact Below.trans (Below.drew (Below.refl _ _)) hb))
 clear jQ
 have jQ := vY
 clear vY
 have vZ := Lib.hid (ny.out.next (by first | exact hb | exact Below.trans (Below.drew (Below.refl _ _)) hb))
 clear ny
 have ny := vZ
 clear vZ
 clear HS hb
 intro HS
 have HT1 := Lib.hid ht1
 clear ht1
 refine dH 9 (some 53) (h := fun K hK => ?_)
 go_simp
 refine (DX _ _ _ _ q.x q.y s2 Gp.out.x Gp.out.y Ri.out _ (HQ.out.next (pl (Below.refl _ _))).x (HQ.out.next (pl (Below.refl _ _))).y).mono ?_
 rintro e y ⟨⟨T2, t2, rfl, ht2⟩, hb⟩
 refine hK.out _ _ (HS.step hb rfl) ?_
 have LW := Lib.hid (HP.out.next (by first | exact hb | exact Below.trans (Below.drew (Below.refl _ _)) hb))
 clear HP
 have HP := LW
 clear LW
 have LX := Lib.hid (HQ.out.next (by first | exact hb | exact Below.trans (Below.drew (Below.refl _ _)) hb))
 clear HQ
 have HQ := LX
 clear LX
 have HDn := Lib.hid (HD.out.next (by first | exact hb | exact Below.trans (Below.drew (Below.refl _ _)) hb))
 clear HD
 have HD := HDn
 clear HDn
 have vS := Lib.hid (HR1.out.next (by first | exact hb | exact Below.trans (Below.drew (Below.refl _ _)) hb))
 clear HR1
 have HR1 := vS
 clear vS
 have vT := Lib.hid (HR2.out.next (by first | exact hb | exact Below.trans (Below.drew (Below.refl _ _)) hb))
 clear HR2
 have HR2 := vT
 clear vT
 have vU := Lib.hid (HR3.out.next (by first | exact hb | exact Below.trans (Below.drew (Below.refl _ _)) hb))
 clear HR3
 have HR3 := vU
 clear vU
 have vV := Lib.hid (HR4.out.next (by first | exact hb | exact Below.trans (Below.drew (Below.refl _ _)) hb))
 clear HR4
 have HR4 := vV
 clear vV
 have vW := Lib.hid (jG.out.next (by first | exact hb | exact Below.trans (Below.drew (Below.refl _ _)) hb))
 clear jG
 have jG := vW
 clear vW
 have vX := Lib.hid (jk.out.next (by first | exact hb | exact Below.trans (Below.drew (Below.refl _ _)) hb))
 clear jk
 have jk := vX
 clear vX
 have vY := Lib.hid (jQ.out.next (by first | exact hb | exact Below.trans (Below.drew (Below.refl _ _)) hb))
 clear jQ
 have jQ := vY
 clear vY
 have vZ := Lib.hid (ny.out.next (by first | exact hb | exact Below.trans (Below.drew (Below.refl _ _)) hb))
 clear ny
 have ny := vZ
 clear vZ
 have Aq := Lib.hid (HT1.out.next (by first | exact hb | exact Below.trans (Below.drew (Below.refl _ _)) hb))
 clear HT1
 have HT1 := Aq
 clear Aq
 clear HS hb
 intro HS
 have HT2 := Lib.hid ht2
 clear ht2
 refine dH 10 (some 54) (h := fun K hK => ?_)
 go_simp
 refine (fQ _ _ _ _ s1 s2 s3 (iC WA.out) (iC Ri.out) Hs3.out _ (HT1.out.next (pl (Below.refl _ _))) (HT2.out.next (pl (Below.refl _ _)))).mono ?_
 rintro e y ⟨⟨T3, t3, rfl, ht3⟩, hb⟩
 refine hK.out _ _ (HS.step hb rfl) ?_
 have LW := Lib.hid (HP.out.next (by first | exact hb | exact Below.trans (Below.drew (Below.refl _ _)) hb))
 clear HP
 have HP := LW
 clear LW
 have LX := Lib.hid (HQ.out.next (by first | exact hb | exact Below.trans (Below.drew (Below.refl _ _)) hb))
 clear HQ
 have HQ := LX
 clear LX
 have HDn := Lib.hid (HD.out.next (by first | exact hb | exact Below.trans (Below.drew (Below.refl _ _)) hb))
 clear HD
 have HD := HDn
 clear HDn
 have vS := Lib.hid (HR1.out.next (by first | exact hb | exact Below.trans (Below.drew (Below.refl _ _)) hb))
 clear HR1
 have HR1 := vS
 clear vS
 have vT := Lib.hid (HR2.out.next (by first | exact hb | exact Below.trans (Below.drew (Below.refl _ _)) hb))
 clear HR2
 have HR2 := vT
 clear vT
 have vU := Lib.hid (HR3.out.next (by first | exact hb | exact Below.trans (Below.drew (Below.refl _ _)) hb))
 clear HR3
 have HR3 := vU
 clear vU
 have vV := Lib.hid (HR4.out.next (by first | exact hb | exact Below.trans (Below.drew (Below.refl _ _)) hb))
 clear HR4
 have HR4 := vV
 clear vV
 have vW := Lib.hid (jG.out.next (by first | exact hb | exact Below.trans (Below.drew (Below.refl _ _)) hb))
 clear jG
 have jG := vW
 clear vW
 have vX := Lib.hid (jk.out.next (by first | exact hb | exact Below.trans (Below.drew (Below.refl _ _)) hb))
 clear jk
 have jk := vX
 clear vX
 have vY := Lib.hid (jQ.out.next (by first | exact hb | exact Below.trans (Below.drew (Below.refl _ _)) hb))
 clear jQ
 have jQ := vY
 clear vY
 have vZ := Lib.hid (ny.out.next (by first | exact hb | exact Below.trans (Below.drew (Below.refl _ _)) hb))
 clear ny
 have ny := vZ
 clear vZ
 have Aq := Lib.hid (HT1.out.next (by first | exact hb | exact Below.trans (Below.drew (Below.refl _ _)) hb))
 clear HT1
 have HT1 := Aq
 clear Aq
 have Gq := Lib.hid (HT2.out.next (by first | exact hb | exact Below.trans (Below.drew (Below.refl _ _)) hb))
 clear HT2
 have HT2 := Gq
 clear Gq
 clear HS hb
 intro HS
 have HT3 := Lib.hid ht3
 clear ht3
 refine dH 12 (some 56) (h := fun K hK => ?_)
 go_simp
 refine (Gu _ _ _ _ s3 c s4 (iC Hs3.out) (iC Hc.out) Hs4.out _ (HT3.out.next (pl (Below.refl _ _))) (HR3.out.next (pl (Below.refl _ _)))).mono ?_
 rintro e y ⟨⟨T4, t4, rfl, ht4⟩, hb⟩
 refine hK.out _ _ (HS.step hb rfl) ?_
 have LW := Lib.hid (HP.out.next (by first | exact hb | exact Below.trans (Below.drew (Below.refl _ _)) hb))
 clear HP
 have HP := LW
 clear LW
 have LX := Lib.hid (HQ.out.next (by first | exact hb | exact Below.trans (Below.drew (Below.refl _ _)) hb))
 clear HQ
 have HQ := LX
 clear LX
 have HDn := Lib.hid (HD.out.next (by first | exact hb | exact Below.trans (Below.drew (Below.refl _ _)) hb))
 clear HD
 have HD := HDn
 clear HDn
 have vS := Lib.hid (HR1.out.next (by first | exact hb | exact Below.trans (Below.drew (Below.refl _ _)) hb))
 clear HR1
 have HR1 := vS
 clear vS
 have vT := Lib.hid (HR2.out.next (by first | exact hb | exact Below.trans (Below.drew (Below.refl _ _)) hb))
 clear HR2
 have HR2 := vT
 clear vT
 have vU := Lib.hid (HR3.out.next (by first | exact hb | exact Below.trans (Below.drew (Below.refl _ _)) hb))
 clear HR3
 have HR3 := vU
 clear vU
 have vV := Lib.hid (HR4.out.next (by first | exact hb | exact Below.trans (Below.drew (Below.refl _ _)) hb))
 clear HR4
 have HR4 := vV
 clear vV
 have vW := Lib.hid (jG.out.next (by first | exact hb | exact Below.trans (Below.drew (Below.refl _ _)) hb))
 clear jG
 have jG := vW
 clear vW
 have vX := Lib.hid (jk.out.next (by first | exact hb | exact Below.trans (Below.drew (Below.refl _ _)) hb))
 clear jk
 have jk := vX
 clear vX
 have vY := Lib.hid (jQ.out.next (by first | exact hb | exact Below.trans (Below.drew (Below.refl _ _)) hb))
 clear jQ
 have jQ := vY
 clear vY
 have vZ := Lib.hid (ny.out.next (by first | exact hb | exact Below.trans (Below.drew (Below.refl _ _)) hb))
 clear ny
 have ny := vZ
 clear vZ
 have Aq := Lib.hid (HT1.out.next (by first | exact hb | exact Below.trans (Below.drew (Below.refl _ _)) hb))
 clear HT1
 have HT1 := Aq
 clear Aq
 have Gq := Lib.hid (HT2.out.next (by first | exact hb | exact Below.trans (Below.drew (Below.refl _ _)) hb))
 clear HT2
 have HT2 := Gq
 clear Gq
 have QZ := Lib.hid (HT3.out.next (by first | exact hb | exact Below.trans (Below.drew (Below.refl _ _)) hb))
 clear HT3
 have HT3 := QZ
 clear QZ
 clear HS hb
 intro HS
 have HT4 := Lib.hid ht4
 clear ht4
 refine dH 14 (some 58) (h := fun K hK => ?_)
 go_simp
 refine (Gu _ _ _ _ s4 e1 s5 (iC Hs4.out) (iC He.out) Hs5.out _ (HT4.out.next (pl (Below.refl _ _))) (HR4.out.next (pl (Below.refl _ _)))).mono ?_
 rintro e y ⟨⟨T5, t5, rfl, ht5⟩, hb⟩
 refine hK.out _ _ (HS.step hb rfl) ?_
 have LW := Lib.hid (HP.out.next (by first | exact hb | exact Below.trans (Below.drew (Below.refl _ _)) hb))
 clear HP
 have HP := LW
 clear LW
 have LX := Lib.hid (HQ.out.next (by first | exact hb | exact Below.trans (Below.drew (Below.refl _ _)) hb))
 clear HQ
 have HQ := LX
 clear LX
 have HDn := Lib.hid (HD.out.next (by first | exact hb | exact Below.trans (Below.drew (Below.refl _ _)) hb))
 clear HD
 have HD := HDn
 clear HDn
 have vS := Lib.hid (HR1.out.next (by first | exact hb | exact Below.trans (Below.drew (Below.refl _ _)) hb))
 clear HR1
 have HR1 := vS
 clear vS
 have vT := Lib.hid (HR2.out.next (by first | exact hb | exact Below.trans (Below.drew (Below.refl _ _)) hb))
 clear HR2
 have HR2 := vT
 clear vT
 have vU := Lib.hid (HR3.out.next (by first | exact hb | exact Below.trans (Below.drew (Below.refl _ _)) hb))
 clear HR3
 have HR3 := vU
 clear vU
 have vV := Lib.hid (HR4.out.next (by first | exact hb | exact Below.trans (Below.drew (Below.refl _ _)) hb))
 clear HR4
 have HR4 := vV
 clear vV
 have vW := Lib.hid (jG.out.next (by first | exact hb | exact Below.trans (Below.drew (Below.refl _ _)) hb))
 clear jG
 have jG := vW
 clear vW
 have vX := Lib.hid (jk.out.next (by first | exact hb | exact Below.trans (Below.drew (Below.refl _ _)) hb))
 clear jk
 have jk := vX
 clear vX
 have vY := Lib.hid (jQ.out.next (by first | exact hb | exact Below.trans (Below.drew (Below.refl _ _)) hb))
 clear jQ
 have jQ := vY
 clear vY
 have vZ := Lib.hid (ny.out.next (by first | exact hb | exact Below.trans (Below.drew (Below.refl _ _)) hb))
 clear ny
 have ny := vZ
 clear vZ
 have Aq := Lib.hid (HT1.out.next (by first | exact hb | exact Below.trans (Below.drew (Below.refl _ _)) hb))
 clear HT1
 have HT1 := Aq
 clear Aq
 have Gq := Lib.hid (HT2.out.next (by first | exact hb | exact Below.trans (Below.drew (Below.refl _ _)) hb))
 clear HT2
 have HT2 := Gq
 clear Gq
 have QZ := Lib.hid (HT3.out.next (by first | exact hb | exact Below.trans (Below.drew (Below.refl _ _)) hb))
 clear HT3
 have HT3 := QZ
 clear QZ
 have adk := Lib.hid (HT4.out.next (by first | exact hb | exact Below.trans (Below.drew (Below.refl _ _)) hb))
 clear HT4
 have HT4 := adk
 clear adk
 clear HS hb
 intro HS
 have N8 := Lib.hid ht5
 clear ht5
 refine tk3 15 (some 14) HS (h := ?_)
 obtain ⟨x9, rfl, hk9, Fj, WG, Yi, ZR⟩ := HS.eG
 have pW : Hid (Below w.heap.size w x9) := hk9.below
 clear HS hk9
 refine done_ (by kernel_rfl) ?_
 go_wp2_with fail
 refine (fQ _ _ _ _ a g ag (iC Ha.out) (iC Hg.out) Hag.out _ (HR1.out.next (pl (Below.refl _ _))) (jQ.out.next (pl (Below.refl _ _)))).mono ?_
 rintro e y10 ⟨⟨R9, r9, rfl, ZF⟩, dP⟩
 replace HP := Lib.hid (HP.out.next (bt dP))
 replace HQ := Lib.hid (HQ.out.next (bt dP))
 replace HD := Lib.hid (HD.out.next (bt dP))
 replace HR1 := Lib.hid (HR1.out.next (bt dP))
 replace HR2 := Lib.hid (HR2.out.next (bt dP))
 replace HR3 := Lib.hid (HR3.out.next (bt dP))
 replace HR4 := Lib.hid (HR4.out.next (bt dP))
 replace jG := Lib.hid (jG.out.next (bt dP))
 replace jk := Lib.hid (jk.out.next (bt dP))
 replace jQ := Lib.hid (jQ.out.next (bt dP))
 replace ny := Lib.hid (ny.out.next (bt dP))
 replace HT1 := Lib.hid (HT1.out.next (bt dP))
 replace HT2 := Lib.hid (HT2.out.next (bt dP))
 replace HT3 := Lib.hid (HT3.out.next (bt dP))
 replace HT4 := Lib.hid (HT4.out.next (bt dP))
 replace N8 := Lib.hid (N8.out.next (bt dP))
 obtain ⟨x10, rfl, wQ, uQ, Kq, Pm, Po⟩ := bZ (b0 := w.heap.size) (b1 := w.heap.size + 1) (b2 := w.heap.size + 1 + 1) dP rfl ob ob ob
 have fB := aZ pW.out wQ
 clear dP wQ
 try simp only [eF] at uQ
 have wu := Lib.hid ZF
 clear ZF
 go_wp2_with fail
 refine (fQ _ _ _ _ ag s5 xo (iC Hag.out) (iC Hs5.out) Hxo.out _ (wu.out.next (pl (Below.refl _ _))) (N8.out.next (pl (Below.refl _ _)))).mono ?_
 rintro e y11 ⟨⟨R10, r10, rfl, TV⟩, dG⟩
 replace HP := Lib.hid (HP.out.next (bt dG))
 replace HQ := Lib.hid (HQ.out.next (bt dG))
 replace HD := Lib.hid (HD.out.next (bt dG))
 replace HR1 := Lib.hid (HR1.out.next (bt dG))
 replace HR2 := Lib.hid (HR2.out.next (bt dG))
 replace HR3 := Lib.hid (HR3.out.next (bt dG))
 replace HR4 := Lib.hid (HR4.out.next (bt dG))
 replace jG := Lib.hid (jG.out.next (bt dG))
 replace jk := Lib.hid (jk.out.next (bt dG))
 replace jQ := Lib.hid (jQ.out.next (bt dG))
 replace ny := Lib.hid (ny.out.next (bt dG))
 replace HT1 := Lib.hid (HT1.out.next (bt dG))
 replace HT2 := Lib.hid (HT2.out.next (bt dG))
 replace HT3 := Lib.hid (HT3.out.next (bt dG))
 replace HT4 := Lib.hid (HT4.out.next (bt dG))
 replace N8 := Lib.hid (N8.out.next (bt dG))
 replace wu := Lib.hid (wu.out.next (bt dG))
 obtain ⟨x11, rfl, mQ, nD, Bo, Kr, Kt⟩ := bZ (b0 := w.heap.size) (b1 := w.heap.size + 1) (b2 := w.heap.size + 1 + 1) dG rfl ob ob ob
 have fC := aZ fB.out mQ
 clear dG mQ
 try simp only [eF] at nD
 have pK := Lib.hid TV
 clear TV
 go_wp2_with fail
 refine (fQ _ _ _ _ a h ah (iC Ha.out) (iC Hh.out) Hah.out _ (HR1.out.next (pl (Below.refl _ _))) (ny.out.next (pl (Below.refl _ _)))).mono ?_
 rintro e QN ⟨⟨R11, r11, rfl, TW⟩, bT⟩
 replace HP := Lib.hid (HP.out.next (bt bT))
 replace HQ := Lib.hid (HQ.out.next (bt bT))
 replace HD := Lib.hid (HD.out.next (bt bT))
 replace HR1 := Lib.hid (HR1.out.next (bt bT))
 replace HR2 := Lib.hid (HR2.out.next (bt bT))
 replace HR3 := Lib.hid (HR3.out.next (bt bT))
 replace HR4 := Lib.hid (HR4.out.next (bt bT))
 replace jG := Lib.hid (jG.out.next (bt bT))
 replace jk := Lib.hid (jk.out.next (bt bT))
 replace jQ := Lib.hid (jQ.out.next (bt bT))
 replace ny := Lib.hid (ny.out.next (bt bT))
 replace HT1 := Lib.hid (HT1.out.next (bt bT))
 replace HT2 := Lib.hid (HT2.out.next (bt bT))
 replace HT3 := Lib.hid (HT3.out.next (bt bT))
 replace HT4 := Lib.hid (HT4.out.next (bt bT))
 replace N8 := Lib.hid (N8.out.next (bt bT))
 replace wu := Lib.hid (wu.out.next (bt bT))
 replace pK := Lib.hid (pK.out.next (bt bT))
 obtain ⟨x12, rfl, hc12, kF, uS, vI, vJ⟩ := bZ (b0 := w.heap.size) (b1 := w.heap.size + 1) (b2 := w.heap.size + 1 + 1) bT rfl ob ob ob
 have fG := aZ fC.out hc12
 clear bT hc12
 try simp only [eF] at kF
 have sD := Lib.hid TW
 clear TW
 go_wp2_with fail
 refine (DX _ _ _ _ e1 c ec (iC He.out) (iC Hc.out) Hec.out _ (HR4.out.next (pl (Below.refl _ _))) (HR3.out.next (pl (Below.refl _ _)))).mono ?_
 rintro e y13 ⟨⟨R12, r12, rfl, TY⟩, bM⟩
 replace HP := Lib.hid (HP.out.next (bt bM))
 replace HQ := Lib.hid (HQ.out.next (bt bM))
 replace HD := Lib.hid (HD.out.next (bt bM))
 replace HR1 := Lib.hid (HR1.out.next (bt bM))
 replace HR2 := Lib.hid (HR2.out.next (bt bM))
 replace HR3 := Lib.hid (HR3.out.next (bt bM))
 replace HR4 := Lib.hid (HR4.out.next (bt bM))
 replace jG := Lib.hid (jG.out.next (bt bM))
 replace jk := Lib.hid (jk.out.next (bt bM))
 replace jQ := Lib.hid (jQ.out.next (bt bM))
 replace ny := Lib.hid (ny.out.next (bt bM))
 replace HT1 := Lib.hid (HT1.out.next (bt bM))
 replace HT2 := Lib.hid (HT2.out.next (bt bM))
 replace HT3 := Lib.hid (HT3.out.next (bt bM))
 replace HT4 := Lib.hid (HT4.out.next (bt bM))
 replace N8 := Lib.hid (N8.out.next (bt bM))
 replace wu := Lib.hid (wu.out.next (bt bM))
 replace pK := Lib.hid (pK.out.next (bt bM))
 replace sD := Lib.hid (sD.out.next (bt bM))
 obtain ⟨DL, rfl, hc13, jJ, tq, xg, xk⟩ := bZ (b0 := w.heap.size) (b1 := w.heap.size + 1) (b2 := w.heap.size + 1 + 1) bM rfl ob ob ob
 have iH := aZ fG.out hc13
 clear bM hc13
 try simp only [eF] at jJ
 have yx := Lib.hid TY
 clear TY
 go_wp2_with fail
 refine (fQ _ _ _ _ ah ec yo (iC Hah.out) (iC Hec.out) Hyo.out _ (sD.out.next (pl (Below.refl _ _))) (yx.out.next (pl (Below.refl _ _)))).mono ?_
 rintro e Zl ⟨⟨R13, r13, rfl, Ua⟩, dO⟩
 replace HP := Lib.hid (HP.out.next (bt dO))
 replace HQ := Lib.hid (HQ.out.next (bt dO))
 replace HD := Lib.hid (HD.out.next (bt dO))
 replace HR1 := Lib.hid (HR1.out.next (bt dO))
 replace HR2 := Lib.hid (HR2.out.next (bt dO))
 replace HR3 := Lib.hid (HR3.out.next (bt dO))
 replace HR4 := Lib.hid (HR4.out.next (bt dO))
 replace jG := Lib.hid (jG.out.next (bt dO))
 replace jk := Lib.hid (jk.out.next (bt dO))
 replace jQ := Lib.hid (jQ.out.next (bt dO))
 replace ny := Lib.hid (ny.out.next (bt dO))
 replace HT1 := Lib.hid (HT1.out.next (bt dO))
 replace HT2 := Lib.hid (HT2.out.next (bt dO))
 replace HT3 := Lib.hid (HT3.out.next (bt dO))
 replace HT4 := Lib.hid (HT4.out.next (bt dO))
 replace N8 := Lib.hid (N8.out.next (bt dO))
 replace wu := Lib.hid (wu.out.next (bt dO))
 replace pK := Lib.hid (pK.out.next (bt dO))
 replace sD := Lib.hid (sD.out.next (bt dO))
 replace yx := Lib.hid (yx.out.next (bt dO))
 obtain ⟨x14, rfl, lH, lZ, xq, xu, xw⟩ := bZ (b0 := w.heap.size) (b1 := w.heap.size + 1) (b2 := w.heap.size + 1 + 1) dO rfl ob ob ob
 have jo := aZ iH.out lH
 clear dO lH
 try simp only [eF] at lZ
 have EL := Lib.hid Ua
 clear Ua
 go_wp2_with fail
 refine (fQ _ _ _ _ g h zo (iC Hg.out) (iC Hh.out) Hzo.out _ (jQ.out.next (pl (Below.refl _ _))) (ny.out.next (pl (Below.refl _ _)))).mono ?_
 rintro e y15 ⟨⟨R14, YM, rfl, Ub⟩, fH⟩
 replace HP := Lib.hid (HP.out.next (bt fH))
 replace HQ := Lib.hid (HQ.out.next (bt fH))
 replace HD := Lib.hid (HD.out.next (bt fH))
 replace HR1 := Lib.hid (HR1.out.next (bt fH))
 replace HR2 := Lib.hid (HR2.out.next (bt fH))
 replace HR3 := Lib.hid (HR3.out.next (bt fH))
 replace HR4 := Lib.hid (HR4.out.next (bt fH))
 replace jG := Lib.hid (jG.out.next (bt fH))
 replace jk := Lib.hid (jk.out.next (bt fH))
 replace jQ := Lib.hid (jQ.out.next (bt fH))
 replace ny := Lib.hid (ny.out.next (bt fH))
 replace HT1 := Lib.hid (HT1.out.next (bt fH))
 replace HT2 := Lib.hid (HT2.out.next (bt fH))
 replace HT3 := Lib.hid (HT3.out.next (bt fH))
 replace HT4 := Lib.hid (HT4.out.next (bt fH))
 replace N8 := Lib.hid (N8.out.next (bt fH))
 replace wu := Lib.hid (wu.out.next (bt fH))
 replace pK := Lib.hid (pK.out.next (bt fH))
 replace sD := Lib.hid (sD.out.next (bt fH))
 replace yx := Lib.hid (yx.out.next (bt fH))
 replace EL := Lib.hid (EL.out.next (bt fH))
 obtain ⟨x15, rfl, rM, vH, Pq, Pv, Px⟩ := bZ (b0 := w.heap.size) (b1 := w.heap.size + 1) (b2 := w.heap.size + 1 + 1) fH rfl ob ob ob
 have nV := aZ jo.out rM
 clear fH rM
 try simp only [eF] at vH
 have QW := Lib.hid Ub
 clear Ub
 go_wp2_with fail
 exact bodyPost_ret (v := .agg #[.slice R10 (aB xo).length r10, .slice R13 (aB yo).length r13, .slice R14 (aB zo).length YM]) (fA rfl rfl (bC 47 (w.heap.size + 1 + 1) #[.slice R10 (aB xo).length r10, .slice R13 (aB yo).length r13, .slice R14 (aB zo).length YM] 47 (by kernel_rfl) (by kernel_rfl) (eY sz))) rfl ⟨⟨⟨R10, r10, xo, R13, r13, yo, R14, YM, zo⟩, rfl, ⟨pK.out.IL sz, EL.out.IL sz, QW.out.IL sz⟩, rfl, rfl, rfl⟩, pl nV.out⟩
end
section
open Go.RowKit Go.Proofs.YtehfkbaendajbaaGreatDoorW.PrintLast
theorem qO {X Y : Nat} (h : Y < Num.p) : fe ((X + (Num.p - Y)) % Num.p) = fe X - fe Y := by rw [dA, XO h]
theorem lC (p q : Dp) (P Q : EP) (hp : p.of P) (hq : q.of Q) (A : Option Addr) (cd : Nat) (w : World) (kp : p.ok w) (kq : q.ok w) (kd : Dn w A cd dN) : Calls Tryz.prog 72 #[p.v, q.v, .slice A (aB dN).length cd] w fun e w' => (∃ o : Dp, e = .returned o.v ∧ o.ok w' ∧ o.of (P + Q)) ∧ Below w.heap.size w w' := by
 obtain ⟨a, ha⟩ : ∃ z, z = p.z * q.z % Num.p := ⟨_, rfl⟩
 obtain ⟨b, hb⟩ : ∃ z, z = a * a % Num.p := ⟨_, rfl⟩
 obtain ⟨c, hc⟩ : ∃ z, z = p.x * q.x % Num.p := ⟨_, rfl⟩
 obtain ⟨e1, he⟩ : ∃ z, z = p.y * q.y % Num.p := ⟨_, rfl⟩
 obtain ⟨ce, hce⟩ : ∃ z, z = c * e1 % Num.p := ⟨_, rfl⟩
 obtain ⟨f, hf⟩ : ∃ z, z = dN * ce % Num.p := ⟨_, rfl⟩
 obtain ⟨g, hg⟩ : ∃ z, z = (b + (Num.p - f)) % Num.p := ⟨_, rfl⟩
 obtain ⟨h, hh⟩ : ∃ z, z = (b + f) % Num.p := ⟨_, rfl⟩
 obtain ⟨s1, hs1⟩ : ∃ z, z = (p.x + p.y) % Num.p := ⟨_, rfl⟩
 obtain ⟨s2, hs2⟩ : ∃ z, z = (q.x + q.y) % Num.p := ⟨_, rfl⟩
 obtain ⟨s3, hs3⟩ : ∃ z, z = s1 * s2 % Num.p := ⟨_, rfl⟩
 obtain ⟨s4, hs4⟩ : ∃ z, z = (s3 + (Num.p - c)) % Num.p := ⟨_, rfl⟩
 obtain ⟨s5, hs5⟩ : ∃ z, z = (s4 + (Num.p - e1)) % Num.p := ⟨_, rfl⟩
 obtain ⟨ag, hag⟩ : ∃ z, z = a * g % Num.p := ⟨_, rfl⟩
 obtain ⟨xo, hxo⟩ : ∃ z, z = ag * s5 % Num.p := ⟨_, rfl⟩
 obtain ⟨ah, hah⟩ : ∃ z, z = a * h % Num.p := ⟨_, rfl⟩
 obtain ⟨ec, hec⟩ : ∃ z, z = (e1 + c) % Num.p := ⟨_, rfl⟩
 obtain ⟨yo, hyo⟩ : ∃ z, z = ah * ec % Num.p := ⟨_, rfl⟩
 obtain ⟨zo, hzo⟩ : ∃ z, z = g * h % Num.p := ⟨_, rfl⟩
 refine (Oz p q A cd dN (by decide) hp.1 hq.1 a b c e1 ce f g h s1 s2 s3 s4 s5 ag xo ah ec yo zo (Lib.hid ha) (Lib.hid hb) (Lib.hid hc) (Lib.hid he) (Lib.hid hce) (Lib.hid hf) (Lib.hid hg) (Lib.hid hh) (Lib.hid hs1) (Lib.hid hs2) (Lib.hid hs3) (Lib.hid hs4) (Lib.hid hs5) (Lib.hid hag) (Lib.hid hxo) (Lib.hid hah) (Lib.hid hec) (Lib.hid hyo) (Lib.hid hzo) w kp kq kd).mono ?_
 rintro e w' ⟨⟨o, rfl, hok, h1, h2, h3⟩, hbl⟩
 refine ⟨⟨o, rfl, hok, ⟨⟨by rw [h1]; exact iC hxo, by rw [h2]; exact iC hyo, by rw [h3]; exact iC hzo⟩, ?_⟩⟩, hbl⟩
 have key := Xt P Q hp.2 hq.2 (a := fe a) (b := fe b) (c := fe c) (e := fe e1) (f := fe f) (g := fe g) (h := fe h) (cross := fe s5)
  (by rw [ha, dA, aS]) (by rw [hb, dA, aS]) (by rw [hc, dA, aS]) (by rw [he, dA, aS]) (by rw [hf, dA, aS, hce, dA, aS]; rfl) (by rw [hg, qO (iC hf)]) (by rw [hh, dA, iJ])
  (by rw [hs5, qO (iC he), hs4, qO (iC hc), hs3, dA, aS, hs1, hs2, dA, dA, iJ, iJ])
 rw [h1, h2, h3, hxo, hyo, hzo, hag, hah, hec]
 rw [dA, aS, dA, aS, dA, aS, dA, aS, dA, iJ, dA, aS]
 exact key
theorem adP : aB dN = [30883, 4953, 19914, 30187, 55467, 16705, 2637, 112, 59544, 30585, 16505, 36039, 65139, 11119, 27886, 20995] := by
 have h := kW [30883, 4953, 19914, 30187, 55467, 16705, 2637, 112, 59544, 30585, 16505, 36039, 65139, 11119, 27886, 20995] (by decide) (by decide)
 have e : oC [30883, 4953, 19914, 30187, 55467, 16705, 2637, 112, 59544, 30585, 16505, 36039, 65139, 11119, 27886, 20995] = dN := by decide
 rw [e] at h
 exact h
theorem G8 : aB fF = [54554, 36645, 11616, 51542, 42930, 38181, 51040, 26924, 56412, 64982, 57905, 49316, 21502, 52590, 14035, 8553] := by
 have h := kW [54554, 36645, 11616, 51542, 42930, 38181, 51040, 26924, 56412, 64982, 57905, 49316, 21502, 52590, 14035, 8553] (by decide) (by decide)
 have e : oC [54554, 36645, 11616, 51542, 42930, 38181, 51040, 26924, 56412, 64982, 57905, 49316, 21502, 52590, 14035, 8553] = fF := by decide
 rw [e] at h
 exact h
theorem G9 : aB dQ = [26200, 26214, 26214, 26214, 26214, 26214, 26214, 26214, 26214, 26214, 26214, 26214, 26214, 26214, 26214, 26214] := by
 have h := kW [26200, 26214, 26214, 26214, 26214, 26214, 26214, 26214, 26214, 26214, 26214, 26214, 26214, 26214, 26214, 26214] (by decide) (by decide)
 have e : oC [26200, 26214, 26214, 26214, 26214, 26214, 26214, 26214, 26214, 26214, 26214, 26214, 26214, 26214, 26214, 26214] = dQ := by decide
 rw [e] at h
 exact h
theorem aj9 : 0 < Num.p := by decide
theorem KP : 1 < Num.p := by decide
theorem ab6 : fF < Num.p := by decide
theorem ab7 : dQ < Num.p := by decide
theorem aco : fe 1 ≠ 0 := nI.mpr (by decide)
theorem IB {w : World} {g n : Nat} {l : List Nat} {t : TypeId} (hn : aB n = l) (hl : l.length = 16) (h : w.heap[g]? = some (.cells (l.map fun x => Value.int .u64 ((x : Nat) : Int)).toArray t)) : Dn w (some ⟨g, 0, none⟩) 16 n := by
 refine ⟨?_, by rw [hn]; omega⟩
 rw [hn]
 exact jC h (fun i hi => by simp [hi])
theorem D7 (w : World) :
 Calls Tryz.prog 71 #[] w fun e w' => (∃ A' c', e = .returned (.slice A' (aB dN).length c') ∧ Dn w' A' c' dN) ∧ Below w.heap.size w w' := by
 go_enter Tryz.func71, Tryz.ntmps71
 go_wp2
 go_ret
 refine ⟨⟨some ⟨w.heap.size, 0, none⟩, 16, ?_, IB adP rfl (alloc_at rfl)⟩, (pl (Below.refl _ _))⟩
 rw [adP]; rfl
theorem AO (w : World) :
 Calls Tryz.prog 51 #[] w fun e w' => (∃ o : Dp, e = .returned o.v ∧ o.ok w' ∧ o.of (Pt.zero)) ∧ Below w.heap.size w w' := by
 go_enter Tryz.func51, Tryz.ntmps51
 go_wp2_with fail
 have o0 : (((w.alloc (.cells #[.slice none 0 0, .slice (some ⟨w.heap.size + 1, 0, none⟩) 1 1, .slice (some ⟨w.heap.size + 1 + 1, 0, none⟩) 1 1] 47)).alloc (.cells #[.int .u64 1] 34)).alloc (.cells #[.int .u64 1] 34)).heap[w.heap.size]? = some (.cells #[.slice none 0 0, .slice (some ⟨w.heap.size + 1, 0, none⟩) 1 1, .slice (some ⟨w.heap.size + 1 + 1, 0, none⟩) 1 1] 47) := ob
 have o1 : (((w.alloc (.cells #[.slice none 0 0, .slice (some ⟨w.heap.size + 1, 0, none⟩) 1 1, .slice (some ⟨w.heap.size + 1 + 1, 0, none⟩) 1 1] 47)).alloc (.cells #[.int .u64 1] 34)).alloc (.cells #[.int .u64 1] 34)).heap[w.heap.size + 1]? = some (.cells #[.int .u64 1] 34) := ob
 have o2 : (((w.alloc (.cells #[.slice none 0 0, .slice (some ⟨w.heap.size + 1, 0, none⟩) 1 1, .slice (some ⟨w.heap.size + 1 + 1, 0, none⟩) 1 1] 47)).alloc (.cells #[.int .u64 1] 34)).alloc (.cells #[.int .u64 1] 34)).heap[w.heap.size + 1 + 1]? = some (.cells #[.int .u64 1] 34) := ob
 refine bodyPost_ret (v := .agg #[.slice none 0 0, .slice (some ⟨w.heap.size + 1, 0, none⟩) 1 1, .slice (some ⟨w.heap.size + 1 + 1, 0, none⟩) 1 1]) (fA rfl rfl (bC 47 (w.heap.size) #[.slice none 0 0, .slice (some ⟨w.heap.size + 1, 0, none⟩) 1 1, .slice (some ⟨w.heap.size + 1 + 1, 0, none⟩) 1 1] 47 (by kernel_rfl) (by kernel_rfl) o0)) rfl ⟨⟨⟨none, 0, 0, some ⟨w.heap.size + 1, 0, none⟩, 1, 1, some ⟨w.heap.size + 1 + 1, 0, none⟩, 1, 1⟩, ?_, ⟨EU _, lY 1 sQ o1, lY 1 sQ o2⟩, ⟨⟨aj9, KP, KP⟩, ?_⟩⟩, pl (Below.refl _ _)⟩
 · show Ending.returned (.agg #[.slice none 0 0, .slice (some ⟨w.heap.size + 1, 0, none⟩) 1 1, .slice (some ⟨w.heap.size + 1 + 1, 0, none⟩) 1 1]) = .returned (.agg #[.slice none (aB 0).length 0, .slice (some ⟨w.heap.size + 1, 0, none⟩) (aB 1).length 1, .slice (some ⟨w.heap.size + 1 + 1, 0, none⟩) (aB 1).length 1])
   rw [dY, sQ]
   rfl
 · refine ⟨aco, ?_, ?_⟩
   · show fe 0 = 0 * fe 1
     rw [← jc, ← aS]
   · show fe 1 = 1 * fe 1
     rw [← iK, ← aS]
theorem D6 (w : World) :
 Calls Tryz.prog 23 #[] w fun e w' => (∃ gx gy gz, e = .returned (.agg #[.slice (some ⟨gx, 0, none⟩) 16 16, .slice (some ⟨gy, 0, none⟩) 16 16, .slice (some ⟨gz, 0, none⟩) 1 1]) ∧ w'.heap[gx]? = some (.cells #[.int .u64 54554, .int .u64 36645, .int .u64 11616, .int .u64 51542, .int .u64 42930, .int .u64 38181, .int .u64 51040, .int .u64 26924, .int .u64 56412, .int .u64 64982, .int .u64 57905, .int .u64 49316, .int .u64 21502, .int .u64 52590, .int .u64 14035, .int .u64 8553] 34) ∧ w'.heap[gy]? = some (.cells #[.int .u64 26200, .int .u64 26214, .int .u64 26214, .int .u64 26214, .int .u64 26214, .int .u64 26214, .int .u64 26214, .int .u64 26214, .int .u64 26214, .int .u64 26214, .int .u64 26214, .int .u64 26214, .int .u64 26214, .int .u64 26214, .int .u64 26214, .int .u64 26214] 34) ∧ w'.heap[gz]? = some (.cells #[.int .u64 1] 34)) ∧ Below w.heap.size w w' := by
 go_enter Tryz.func23, Tryz.ntmps23
 go_wp2_with fail
 have o0 : ((((w.alloc (.cells #[.slice (some ⟨w.heap.size + 1, 0, none⟩) 16 16, .slice (some ⟨w.heap.size + 1 + 1, 0, none⟩) 16 16, .slice (some ⟨w.heap.size + 1 + 1 + 1, 0, none⟩) 1 1] 47)).alloc (.cells #[.int .u64 54554, .int .u64 36645, .int .u64 11616, .int .u64 51542, .int .u64 42930, .int .u64 38181, .int .u64 51040, .int .u64 26924, .int .u64 56412, .int .u64 64982, .int .u64 57905, .int .u64 49316, .int .u64 21502, .int .u64 52590, .int .u64 14035, .int .u64 8553] 34)).alloc (.cells #[.int .u64 26200, .int .u64 26214, .int .u64 26214, .int .u64 26214, .int .u64 26214, .int .u64 26214, .int .u64 26214, .int .u64 26214, .int .u64 26214, .int .u64 26214, .int .u64 26214, .int .u64 26214, .int .u64 26214, .int .u64 26214, .int .u64 26214, .int .u64 26214] 34)).alloc (.cells #[.int .u64 1] 34)).heap[w.heap.size]? = some (.cells #[.slice (some ⟨w.heap.size + 1, 0, none⟩) 16 16, .slice (some ⟨w.heap.size + 1 + 1, 0, none⟩) 16 16, .slice (some ⟨w.heap.size + 1 + 1 + 1, 0, none⟩) 1 1] 47) := ob
 have o1 : ((((w.alloc (.cells #[.slice (some ⟨w.heap.size + 1, 0, none⟩) 16 16, .slice (some ⟨w.heap.size + 1 + 1, 0, none⟩) 16 16, .slice (some ⟨w.heap.size + 1 + 1 + 1, 0, none⟩) 1 1] 47)).alloc (.cells #[.int .u64 54554, .int .u64 36645, .int .u64 11616, .int .u64 51542, .int .u64 42930, .int .u64 38181, .int .u64 51040, .int .u64 26924, .int .u64 56412, .int .u64 64982, .int .u64 57905, .int .u64 49316, .int .u64 21502, .int .u64 52590, .int .u64 14035, .int .u64 8553] 34)).alloc (.cells #[.int .u64 26200, .int .u64 26214, .int .u64 26214, .int .u64 26214, .int .u64 26214, .int .u64 26214, .int .u64 26214, .int .u64 26214, .int .u64 26214, .int .u64 26214, .int .u64 26214, .int .u64 26214, .int .u64 26214, .int .u64 26214, .int .u64 26214, .int .u64 26214] 34)).alloc (.cells #[.int .u64 1] 34)).heap[w.heap.size + 1]? = some (.cells #[.int .u64 54554, .int .u64 36645, .int .u64 11616, .int .u64 51542, .int .u64 42930, .int .u64 38181, .int .u64 51040, .int .u64 26924, .int .u64 56412, .int .u64 64982, .int .u64 57905, .int .u64 49316, .int .u64 21502, .int .u64 52590, .int .u64 14035, .int .u64 8553] 34) := ob
 have o2 : ((((w.alloc (.cells #[.slice (some ⟨w.heap.size + 1, 0, none⟩) 16 16, .slice (some ⟨w.heap.size + 1 + 1, 0, none⟩) 16 16, .slice (some ⟨w.heap.size + 1 + 1 + 1, 0, none⟩) 1 1] 47)).alloc (.cells #[.int .u64 54554, .int .u64 36645, .int .u64 11616, .int .u64 51542, .int .u64 42930, .int .u64 38181, .int .u64 51040, .int .u64 26924, .int .u64 56412, .int .u64 64982, .int .u64 57905, .int .u64 49316, .int .u64 21502, .int .u64 52590, .int .u64 14035, .int .u64 8553] 34)).alloc (.cells #[.int .u64 26200, .int .u64 26214, .int .u64 26214, .int .u64 26214, .int .u64 26214, .int .u64 26214, .int .u64 26214, .int .u64 26214, .int .u64 26214, .int .u64 26214, .int .u64 26214, .int .u64 26214, .int .u64 26214, .int .u64 26214, .int .u64 26214, .int .u64 26214] 34)).alloc (.cells #[.int .u64 1] 34)).heap[w.heap.size + 1 + 1]? = some (.cells #[.int .u64 26200, .int .u64 26214, .int .u64 26214, .int .u64 26214, .int .u64 26214, .int .u64 26214, .int .u64 26214, .int .u64 26214, .int .u64 26214, .int .u64 26214, .int .u64 26214, .int .u64 26214, .int .u64 26214, .int .u64 26214, .int .u64 26214, .int .u64 26214] 34) := ob
 have o3 : ((((w.alloc (.cells #[.slice (some ⟨w.heap.size + 1, 0, none⟩) 16 16, .slice (some ⟨w.heap.size + 1 + 1, 0, none⟩) 16 16, .slice (some ⟨w.heap.size + 1 + 1 + 1, 0, none⟩) 1 1] 47)).alloc (.cells #[.int .u64 54554, .int .u64 36645, .int .u64 11616, .int .u64 51542, .int .u64 42930, .int .u64 38181, .int .u64 51040, .int .u64 26924, .int .u64 56412, .int .u64 64982, .int .u64 57905, .int .u64 49316, .int .u64 21502, .int .u64 52590, .int .u64 14035, .int .u64 8553] 34)).alloc (.cells #[.int .u64 26200, .int .u64 26214, .int .u64 26214, .int .u64 26214, .int .u64 26214, .int .u64 26214, .int .u64 26214, .int .u64 26214, .int .u64 26214, .int .u64 26214, .int .u64 26214, .int .u64 26214, .int .u64 26214, .int .u64 26214, .int .u64 26214, .int .u64 26214] 34)).alloc (.cells #[.int .u64 1] 34)).heap[w.heap.size + 1 + 1 + 1]? = some (.cells #[.int .u64 1] 34) := ob
 refine bodyPost_ret (v := .agg #[.slice (some ⟨w.heap.size + 1, 0, none⟩) 16 16, .slice (some ⟨w.heap.size + 1 + 1, 0, none⟩) 16 16, .slice (some ⟨w.heap.size + 1 + 1 + 1, 0, none⟩) 1 1]) (fA rfl rfl (bC 47 (w.heap.size) #[.slice (some ⟨w.heap.size + 1, 0, none⟩) 16 16, .slice (some ⟨w.heap.size + 1 + 1, 0, none⟩) 16 16, .slice (some ⟨w.heap.size + 1 + 1 + 1, 0, none⟩) 1 1] 47 (by kernel_rfl) (by kernel_rfl) o0)) rfl ⟨⟨_, _, _, rfl, o1, o2, o3⟩, pl (Below.refl _ _)⟩
theorem SA (gx gy gz : Nat) {w : World} (hx : w.heap[gx]? = some (.cells #[.int .u64 54554, .int .u64 36645, .int .u64 11616, .int .u64 51542, .int .u64 42930, .int .u64 38181, .int .u64 51040, .int .u64 26924, .int .u64 56412, .int .u64 64982, .int .u64 57905, .int .u64 49316, .int .u64 21502, .int .u64 52590, .int .u64 14035, .int .u64 8553] 34)) (hy : w.heap[gy]? = some (.cells #[.int .u64 26200, .int .u64 26214, .int .u64 26214, .int .u64 26214, .int .u64 26214, .int .u64 26214, .int .u64 26214, .int .u64 26214, .int .u64 26214, .int .u64 26214, .int .u64 26214, .int .u64 26214, .int .u64 26214, .int .u64 26214, .int .u64 26214, .int .u64 26214] 34)) (hz : w.heap[gz]? = some (.cells #[.int .u64 1] 34)) : Value.agg #[.slice (some ⟨gx, 0, none⟩) 16 16, .slice (some ⟨gy, 0, none⟩) 16 16, .slice (some ⟨gz, 0, none⟩) 1 1] = (⟨some ⟨gx, 0, none⟩, 16, fF, some ⟨gy, 0, none⟩, 16, dQ, some ⟨gz, 0, none⟩, 1, 1⟩ : Dp).v ∧ (⟨some ⟨gx, 0, none⟩, 16, fF, some ⟨gy, 0, none⟩, 16, dQ, some ⟨gz, 0, none⟩, 1, 1⟩ : Dp).ok w ∧ (⟨some ⟨gx, 0, none⟩, 16, fF, some ⟨gy, 0, none⟩, 16, dQ, some ⟨gz, 0, none⟩, 1, 1⟩ : Dp).of iZ := by
 refine ⟨?_, ⟨IB G8 rfl hx, IB G9 rfl hy, lY 1 sQ hz⟩, ⟨⟨ab6, ab7, KP⟩, aco, ?_, ?_⟩⟩
 · show Value.agg #[.slice (some ⟨gx, 0, none⟩) 16 16, .slice (some ⟨gy, 0, none⟩) 16 16, .slice (some ⟨gz, 0, none⟩) 1 1] = .agg #[.slice (some ⟨gx, 0, none⟩) (aB fF).length 16, .slice (some ⟨gy, 0, none⟩) (aB dQ).length 16, .slice (some ⟨gz, 0, none⟩) (aB 1).length 1]
   rw [G8, G9, sQ]
   rfl
 · show fe fF = fe fF * fe 1
   rw [← aS, Nat.mul_one]
 · show fe dQ = fe dQ * fe 1
   rw [← aS, Nat.mul_one]
theorem GU (w : World) : Calls Tryz.prog 23 #[] w fun e w' => (∃ o : Dp, e = .returned o.v ∧ o.ok w' ∧ o.of (iZ)) ∧ Below w.heap.size w w' := by
 refine (D6 w).mono ?_
 rintro e w' ⟨⟨gx, gy, gz, rfl, hx, hy, hz⟩, hb⟩
 have h := SA gx gy gz hx hy hz
 exact ⟨⟨_, by rw [h.1], h.2.1, h.2.2⟩, hb⟩
end
section
open Go.RowKit Go.Proofs.YtehfkbaendajbaaGreatDoorW.PrintLast
theorem Rd.oI {x : World} {g : Nat} {o' : Obj} {k : IntKind} {A A1 A2 A3 : Option Addr} {n1 n2 n3 c1 c2 c3 : Nat} {xs : List Nat} (hg : g < x.heap.size) (h : Rd (x.pin g (.cells #[.slice A1 n1 c1, .slice A2 n2 c2, .slice A3 n3 c3] 47)) k A xs) : Rd (x.pin g o') k A xs := fun i hi => by
 obtain ⟨b, off, e, hc⟩ := h i hi
 refine ⟨b, off, e, ?_⟩
 by_cases hb : b = g
 · exfalso
   subst hb
   have h1 := eY (o := .cells #[.slice A1 n1 c1, .slice A2 n2 c2, .slice A3 n3 c3] 47) hg
   simp only [World.cell?, h1] at hc
   generalize off + i = j at hc
   rcases j with _ | _ | _ | j <;> simp at hc
 · rw [jM hb] at hc ⊢
   exact hc
theorem Dn.oI {x : World} {g : Nat} {o' : Obj} {A A1 A2 A3 : Option Addr} {c n n1 n2 n3 c1 c2 c3 : Nat} (h : Dn (x.pin g (.cells #[.slice A1 n1 c1, .slice A2 n2 c2, .slice A3 n3 c3] 47)) A c n) (hg : g < x.heap.size) : Dn (x.pin g o') A c n := ⟨Rd.oI hg h.1, h.2⟩
theorem Dp.ok.oI {x : World} {g : Nat} {o' : Obj} {p : Dp} {A1 A2 A3 : Option Addr} {n1 n2 n3 c1 c2 c3 : Nat} (h : p.ok (x.pin g (.cells #[.slice A1 n1 c1, .slice A2 n2 c2, .slice A3 n3 c3] 47))) (hg : g < x.heap.size) : p.ok (x.pin g o') := ⟨h.x.oI hg, h.y.oI hg, h.z.oI hg⟩
theorem qA (x : World) {a b : Nat} (h : a ≠ b) {o o' : Obj} : (x.pin a o).pin b o' = (x.pin b o').pin a o := by
 simp only [World.pin]
 congr 1
 exact Array.setIfInBounds_comm _ _ h
theorem OC (p : Dp) (lp : p.lt) (z : Nat) (Hz : Hid (z = (Num.p - p.x) % Num.p)) (w : World) (hp : p.ok w) :
 Calls Tryz.prog 35 #[p.v] w fun e w' => (∃ o : Dp, e = .returned o.v ∧ o.ok w' ∧ o.x = z ∧ o.y = p.y ∧ o.z = p.z) ∧ Below w.heap.size w w' := by
 have HP := Lib.hid hp
 have pX := Lib.hid lp
 clear hp lp
 go_enter Tryz.func35, Tryz.ntmps35
 go_wp2_with fail
 refine (LZ _ _ p.x z pX.out.x Hz.out _ rfl _ (HP.out.next (pl (Below.refl _ _))).x).mono ?_
 rintro e y1 ⟨⟨R1, r1, rfl, hr1⟩, hb1⟩
 replace HP := Lib.hid (HP.out.next (bt hb1))
 obtain ⟨x1, rfl, hc1, hz1, l10, nG⟩ := fO (b0 := w.heap.size) (b1 := w.heap.size + 1) hb1 rfl ob ob
 have HB1 : Hid (Below w.heap.size w x1) := Below.trans (pl (Below.refl _ _)) (hc1.mono sz)
 clear hb1 hc1
 try simp only [eF] at hz1
 have HR1 := Lib.hid hr1
 clear hr1
 go_wp2_with fail
 have HF : ∀ o1 o2 : Obj, Hid (Dn ((x1.pin w.heap.size o1).pin (w.heap.size + 1) o2) R1 r1 z ∧ p.ok ((x1.pin w.heap.size o1).pin (w.heap.size + 1) o2)) := fun o1 o2 => Lib.hid ⟨by
  have h := HR1.out.oI (o' := o2) sz
  rw [qA _ (Nat.ne_of_lt (Nat.lt_succ_self _))] at h ⊢
  exact h.oI sz, by
  have h := HP.out.oI (o' := o2) sz
  rw [qA _ (Nat.ne_of_lt (Nat.lt_succ_self _))] at h ⊢
  exact h.oI sz⟩
 exact bodyPost_ret (v := .agg #[.slice R1 (aB z).length r1, .slice p.B (aB p.y).length p.b, .slice p.C (aB p.z).length p.c]) (fA rfl rfl (bC 47 (w.heap.size + 1) #[.slice R1 (aB z).length r1, .slice p.B (aB p.y).length p.b, .slice p.C (aB p.z).length p.c] 47 (by kernel_rfl) (by kernel_rfl) (eY sz))) rfl ⟨⟨⟨R1, r1, z, p.B, p.b, p.y, p.C, p.c, p.z⟩, rfl, ⟨(HF _ _).out.1, (HF _ _).out.2.y, (HF _ _).out.2.z⟩, rfl, rfl, rfl⟩, pl HB1.out⟩
theorem Y3 (v m : Nat) : (((v : Int) / 2 ^ m).tmod 2 == 1) = decide (v / 2 ^ m % 2 = 1) := by
 have h1 : (v : Int) / 2 ^ m = ((v / 2 ^ m : Nat) : Int) := by rw [Int.natCast_ediv, Int.natCast_pow]; rfl
 rw [h1, Int.tmod_eq_emod_of_nonneg (Int.natCast_nonneg _)]
 generalize v / 2 ^ m = q
 rw [Bool.eq_iff_iff]
 simp only [beq_iff_eq, decide_eq_true_eq]
 omega
theorem Hr (A : Option Addr) (c : Nat) (ns : List Nat) (i : Nat) (hi : i ≤ 8000) (h : i / 8 < ns.length) (hby : ∀ z ∈ ns, z < 256) (w : World) (hr : Rd w .u8 A ns) :
 Calls Tryz.prog 73 #[.slice A ns.length c, .int .i64 (i : Int)] w fun e w' => e = .returned (.bool (decide (ns.getD (i / 8) 0 / 2 ^ (i % 8) % 2 = 1))) ∧ Below w.heap.size w w' := by
 obtain ⟨gb, off, rfl, hgb, hc⟩ := hr.place (by omega)
 obtain ⟨k, hk⟩ : ∃ k, k = i / 8 := ⟨_, rfl⟩
 obtain ⟨m, hm⟩ : ∃ m, m = i % 8 := ⟨_, rfl⟩
 have hm8 : m < 8 := by omega
 rw [← hk] at h ⊢
 rw [← hm]
 obtain ⟨v, hv⟩ : ∃ z, z = ns.getD k 0 := ⟨_, rfl⟩
 have hcell := hc k h
 rw [show ns[k] = v by rw [hv, List.getD_eq_getElem?_getD, List.getElem?_eq_getElem h]; rfl] at hcell
 rw [← hv]
 have e1 : (i : Int) / 8 = (k : Int) := by omega
 have e2 : (i : Int) % 8 = (m : Int) := by omega
 have e3 : eX (m : Int) = (m : Int) := by unfold eX; rw [IntKind.wrap_u64]; omega
 have hkI : (k : Int) < (ns.length : Int) := by omega
 have ZG : v < 256 := by rw [hv]; exact getD_lt rfl hby k h
 have HI := Lib.hid (And.intro hk hm)
 clear hc hr hv hk hm hby
 go_enter Tryz.func73, Tryz.ntmps73
 go_wp2_with fail
 have e4 := Y3 v m
 exact bodyPost_ret (v := .bool (decide (v / 2 ^ m % 2 = 1))) (by simp [results, Tryz.results73, go_sem, e4]) rfl ⟨rfl, pl (Below.refl _ _)⟩
theorem Ho (A : Option Addr) (c : Nat) (ns : List Nat) (i : Nat) (hi : i ≤ 8000) (h : ns.length ≤ i / 8) (w : World) :
 Calls Tryz.prog 73 #[.slice A ns.length c, .int .i64 (i : Int)] w fun e w' => e = .returned (.bool false) ∧ Below w.heap.size w w' := by
 have e1 : ¬ (i : Int) / 8 < (ns.length : Int) := by omega
 go_enter Tryz.func73, Tryz.ntmps73
 go_wp2_with fail
 exact bodyPost_ret (v := .bool false) (by simp [results, Tryz.results73, go_sem]) rfl ⟨rfl, pl (Below.refl _ _)⟩
theorem digit_eq (A : Option Addr) (c : Nat) (ns : List Nat) (i : Nat) (hi : i ≤ 8000) (hby : ∀ z ∈ ns, z < 256) (w : World) (hr : Rd w .u8 A ns) : Calls Tryz.prog 73 #[.slice A ns.length c, .int .i64 (i : Int)] w fun e w' => e = .returned (.bool (decide (bW ns / 2 ^ i % 2 = 1))) ∧ Below w.heap.size w w' := by
 by_cases h : i / 8 < ns.length
 · have h1 := Hr A c ns i hi h hby w hr
   rw [xA ns hby i h, show ns[i / 8] = ns.getD (i / 8) 0 by rw [List.getD_eq_getElem?_getD, List.getElem?_eq_getElem h]; rfl]
   exact h1
 · have h1 := Ho A c ns i hi (by omega) w
   have h2 : bW ns / 2 ^ i = 0 := Nat.div_eq_of_lt (Nat.lt_of_lt_of_le (oD ns hby) (by rw [show (256 : Nat) = 2 ^ 8 from rfl, ← Nat.pow_mul]; exact Nat.pow_le_pow_right (by decide) (by omega)))
   rw [h2]
   exact h1
theorem Xw (p : Dp) (P : EP) (hp : p.of P) (w : World) (kp : p.ok w) : Calls Tryz.prog 35 #[p.v] w fun e w' => (∃ o : Dp, e = .returned o.v ∧ o.ok w' ∧ o.of (-P)) ∧ Below w.heap.size w w' := by
 obtain ⟨z, hz⟩ : ∃ z, z = (Num.p - p.x) % Num.p := ⟨_, rfl⟩
 refine (OC p hp.1 z (Lib.hid hz) w kp).mono ?_
 rintro e w' ⟨⟨o, rfl, hok, h1, h2, h3⟩, hbl⟩
 refine ⟨⟨o, rfl, hok, ⟨⟨by rw [h1]; exact iC hz, by rw [h2]; exact hp.1.y, by rw [h3]; exact hp.1.z⟩, ?_⟩⟩, hbl⟩
 have h := Xu P hp.2
 have e1 : fe z = -fe p.x := by
  have := qO (X := 0) hp.1.x
  rw [Nat.zero_add, jc] at this
  rw [hz, this, ← lG, agJ, jc]
 rw [h1, h2, h3, e1]
 exact h
end
section
open Go.RowKit Go.Proofs.YtehfkbaendajbaaGreatDoorW.PrintLast
abbrev LO : Nat := 7237005577332262213973186563042994240857116359379907606001950938285454250989
def DW (w : World) : Prop := ∀ j, j < 4 → w.cell? ⟨4, j, none⟩ = some (.int .u64 ((lim LO j : Nat) : Int))
theorem DW.next {w w' : World} (h : DW w) (hb : Below w.heap.size w w') : DW w' := fun j hj => (hb.cell (p := ⟨4, j, none⟩) (World.block_lt_of_cell? w _ (h j hj))).trans (h j hj)
theorem DW.mono {w w' : World} (h : DW w) {B : Nat} (hb : Below B w w') (hB : w.heap.size ≤ B) : DW w' := fun j hj => (hb.cell (p := ⟨4, j, none⟩) (Nat.lt_of_lt_of_le (World.block_lt_of_cell? w _ (h j hj)) hB)).trans (h j hj)
theorem afN {w : World} {b : Nat} {old cs : Array Value} {t : TypeId} (h : w.heap[b]? = some (.cells old t)) : w.setRow b cs = w.pin b (.cells cs t) := by
 simp only [World.setRow, World.pin]
 congr 1
 apply Array.ext_getElem?
 intro k
 rw [Array.getElem?_modify, Array.getElem?_setIfInBounds]
 by_cases hk : b = k
 · subst hk
   have hlt := (Array.getElem?_eq_some_iff.mp h).1
   rw [if_pos rfl, h]
   simp [hlt]
 · simp [hk]
theorem agD (v : World) (g o l c : Nat) (ho9 : o + 4 ≤ 9) (hl : l = 4 ∨ l = 9) (hg : v.heap[g]? = some (.cells #[.int .u64 0, .int .u64 0, .int .u64 0, .int .u64 0, .int .u64 0, .int .u64 0, .int .u64 0, .int .u64 0, .int .u64 0] 66)) (ho : DW v) (ty : TypeId) :
 (Builtin.copy_ #[45, 45] ty #[.slice (some ⟨g, o, none⟩) l c, .slice (some ⟨4, 0, none⟩) 4 4]).run Tryz.prog v = .ok (.int .i64 4) (v.pin g (.cells (((row 9 (lim 0)).toList.take o ++ (row 4 (lim LO)).toList ++ (row 9 (lim 0)).toList.drop (o + 4)).toArray) 66)) := by
 have hz : (.cells #[.int .u64 0, .int .u64 0, .int .u64 0, .int .u64 0, .int .u64 0, .int .u64 0, .int .u64 0, .int .u64 0, .int .u64 0] 66) = (Obj.cells (row 9 (lim 0)) 66) := by rw [← akf]
 rw [hz] at hg
 have hlen : (row 4 (lim LO)).toList.length = Nat.min 4 l := by rcases hl with rfl | rfl <;> rfl
 have h := run_copy_row (P := Tryz.prog) v 45 45 ty 34 g o l c ⟨4, 0, none⟩ 4 4 (row 9 (lim 0)) 66 (row 4 (lim LO)).toList (by kernel_rfl) (by kernel_rfl) hg hlen ?_ (by rw [Array.length_toList, BN, BN]; exact ho9) ?_
 · rw [h, afN hg]
   rfl
 · intro j u hj
   have hj4 : j < 4 := by
    have := (List.getElem?_eq_some_iff.mp hj).1
    simpa [BN] using this
   have hu : u = .int .u64 ((lim LO j : Nat) : Int) := by
    have h1 := gV (lim LO) hj4
    rw [Array.getElem?_toList] at hj
    rw [h1] at hj
    exact (Option.some.inj hj).symm
   rw [Addr.add_lit, hu, Nat.zero_add]
   exact ho j hj4
 · intro u hu
   simp only [row, List.mem_map] at hu
   obtain ⟨j, _, rfl⟩ := hu
   rfl
def acK (x k N M : Nat) : Prop := M = LO * 2 ^ 320 / 2 ^ k ∧ N % LO = x % LO ∧ N * 2 ^ k < LO * 2 ^ 321 ∧ k ≤ 321
theorem afL {k : Nat} (hk : k ≤ 320) : LO * 2 ^ 320 / 2 ^ k = LO * 2 ^ (320 - k) := by
 have e : LO * 2 ^ 320 = LO * 2 ^ (320 - k) * 2 ^ k := by rw [Nat.mul_assoc, ← Nat.pow_add, Nat.sub_add_cancel hk]
 rw [e, Nat.mul_div_cancel _ (Nat.pow_pos (by decide))]
theorem acM {x k N M : Nat} (h : acK x k N M) : N < WW ^ 9 ∧ M < WW ^ 9 := by
 obtain ⟨h1, h2, h3, h4⟩ := h
 have hc : LO * 2 ^ 321 < WW ^ 9 := by decide +kernel
 have hc2 : LO * 2 ^ 320 < WW ^ 9 := by decide +kernel
 have hp : 0 < 2 ^ k := Nat.pow_pos (by decide)
 refine ⟨?_, ?_⟩
 · exact Nat.lt_of_le_of_lt (Nat.le_mul_of_pos_right N hp) (Nat.lt_trans h3 hc)
 · rw [h1]
   exact Nat.lt_of_le_of_lt (Nat.div_le_self _ _) hc2
theorem adp (k : Nat) : LO * 2 ^ 320 / 2 ^ k / 2 = LO * 2 ^ 320 / 2 ^ (k + 1) := by rw [Nat.div_div_eq_div_mul, ← Nat.pow_succ]
theorem acY {k : Nat} (hk : k ≤ 320) : LO * 2 ^ (320 - k) * 2 ^ (k + 1) = LO * 2 ^ 321 := by
 rw [Nat.mul_assoc, ← Nat.pow_add, show 320 - k + (k + 1) = 321 by omega]
theorem agA {x k N M : Nat} (h : acK x k N M) (hk : k < 321) (hlt : N < M) : acK x (k + 1) N (M / 2) := by
 obtain ⟨h1, h2, h3, h4⟩ := h
 refine ⟨by rw [h1, adp], h2, ?_, hk⟩
 rw [h1, afL (by omega)] at hlt
 have h5 := Nat.mul_lt_mul_of_pos_right hlt (show 0 < 2 ^ (k + 1) from Nat.pow_pos (by decide))
 rw [acY (by omega)] at h5
 exact h5
theorem ahu {x k N M : Nat} (h : acK x k N M) (hk : k < 321) (hle : M ≤ N) : acK x (k + 1) (N - M) (M / 2) := by
 obtain ⟨h1, h2, h3, h4⟩ := h
 have hM := h1
 rw [afL (by omega)] at hM
 refine ⟨by rw [h1, adp], ?_, ?_, hk⟩
 · rw [← h2]
   obtain ⟨d, hd⟩ : ∃ d, N = M + d := ⟨N - M, by omega⟩
   rw [hd, Nat.add_sub_cancel_left, hM, Nat.add_comm, Nat.add_mul_mod_self_left]
 · have h5 : N < M + M := by
    have h6 : (M + M) * 2 ^ k = LO * 2 ^ 321 := by
     rw [← Nat.two_mul, hM, ← acY (k := k) (by omega), Nat.pow_succ]
     simp only [Nat.mul_assoc, Nat.mul_comm, Nat.mul_left_comm]
    rw [← h6] at h3
    exact Nat.lt_of_mul_lt_mul_right h3
   have h7 : N - M < M := by omega
   have h8 := Nat.mul_lt_mul_of_pos_right h7 (show 0 < 2 ^ (k + 1) from Nat.pow_pos (by decide))
   rw [hM, acY (by omega), ← hM] at h8
   exact h8
theorem rest_start {x : Nat} (hx : x < LO * 2 ^ 321) : acK x 0 x (LO * 2 ^ 320) := ⟨by rw [Nat.pow_zero, Nat.div_one], rfl, by rw [Nat.pow_zero, Nat.mul_one]; exact hx, by decide⟩
theorem rest_end {x N M : Nat} (h : acK x 321 N M) : N = x % LO := by
 obtain ⟨h1, h2, h3, h4⟩ := h
 have h5 : N < LO := Nat.lt_of_mul_lt_mul_right h3
 rw [← h2, Nat.mod_eq_of_lt h5]
theorem anQ : (((row 9 (lim 0)).toList.take 5 ++ (row 4 (lim LO)).toList ++ (row 9 (lim 0)).toList.drop (5 + 4)).toArray) = row 9 (lim (LO * 2 ^ 320)) := by kernel_rfl
theorem anP : (((row 9 (lim 0)).toList.take 0 ++ (row 4 (lim LO)).toList ++ (row 9 (lim 0)).toList.drop (0 + 4)).toArray) = row 9 (lim LO) := by kernel_rfl
theorem ad1 (x y : Nat) (b : Bool) (hx : x < WW ^ 9) (hy : y < WW ^ 9) (hb : decide (x < y) = b) (w : World) : Calls Tryz.prog 60 #[Lv x, Lv y] w fun e w' => e = .returned (.bool b) ∧ Below w.heap.size w w' := by
 have h := ag8 x y hx hy w
 rw [hb] at h
 exact h
theorem aiA (x : Nat) (hx : x < LO * 2 ^ 321) (w : World) (ho : DW w) :
 Calls Tryz.prog 46 #[Lv x] w fun e w' => e = .returned (Lv (x % LO)) ∧ Below w.heap.size w w' := by
 have HO := Lib.hid ho
 have HX := Lib.hid hx
 clear ho hx
 go_enter Tryz.func46, Tryz.ntmps46
 go_wp2_with fail
 obtain ⟨v, hv⟩ : ∃ v, v = (((w.alloc (.cells #[.int .u64 ((lim x 0 : Nat) : Int), .int .u64 ((lim x 1 : Nat) : Int), .int .u64 ((lim x 2 : Nat) : Int), .int .u64 ((lim x 3 : Nat) : Int), .int .u64 ((lim x 4 : Nat) : Int), .int .u64 ((lim x 5 : Nat) : Int), .int .u64 ((lim x 6 : Nat) : Int), .int .u64 ((lim x 7 : Nat) : Int), .int .u64 ((lim x 8 : Nat) : Int)] 66)).alloc (.cells #[.int .u64 0, .int .u64 0, .int .u64 0, .int .u64 0, .int .u64 0, .int .u64 0, .int .u64 0, .int .u64 0, .int .u64 0] 66)).alloc (.cells #[.int .u64 0, .int .u64 0, .int .u64 0, .int .u64 0, .int .u64 0, .int .u64 0, .int .u64 0, .int .u64 0, .int .u64 0] 66)) := ⟨_, rfl⟩
 have hv2 : v.heap[w.heap.size + 2]? = some (.cells #[.int .u64 0, .int .u64 0, .int .u64 0, .int .u64 0, .int .u64 0, .int .u64 0, .int .u64 0, .int .u64 0, .int .u64 0] 66) := by rw [hv]; exact ob
 have HVO : DW v := by rw [hv]; exact HO.out.next (pl (Below.refl _ _))
 rw [← hv]
 have hcp := fun ty => agD v.drew (w.heap.size + 1 + 1) 5 4 4 (by decide) (.inl rfl) hv2 (fun j hj => HVO j hj) ty
 obtain ⟨M, hM⟩ : ∃ M, M = LO * 2 ^ 320 := ⟨_, rfl⟩
 rw [anQ, ← hM, alS M] at hcp
 have HI0 : Hid (acK x 0 x M) := Lib.hid (by rw [hM]; exact rest_start HX.out)
 have HVV := Lib.hid hv
 clear hM HVO hv2 hv
 refine wp_region_still_tail 2 (by kernel_rfl) (by kernel_rfl) ?_
 simp only [List.take_succ_cons, List.take_zero, List.drop_succ_cons, List.drop_zero, World.drew_eq]
 (repeat still_step)
 refine wpStill_nil ?_
 go_wp2_with fail
 have hv := HVV.out
 subst hv
 go_loopw [7] (fun kv wr => ∃ (k N M : Nat) (z : World), kv = .int .i64 (k : Int) ∧ wr = (((z.pin (w.heap.size) (.cells #[.int .u64 ((lim N 0 : Nat) : Int), .int .u64 ((lim N 1 : Nat) : Int), .int .u64 ((lim N 2 : Nat) : Int), .int .u64 ((lim N 3 : Nat) : Int), .int .u64 ((lim N 4 : Nat) : Int), .int .u64 ((lim N 5 : Nat) : Int), .int .u64 ((lim N 6 : Nat) : Int), .int .u64 ((lim N 7 : Nat) : Int), .int .u64 ((lim N 8 : Nat) : Int)] 66)).pin (w.heap.size + 1) (.cells #[.int .u64 0, .int .u64 0, .int .u64 0, .int .u64 0, .int .u64 0, .int .u64 0, .int .u64 0, .int .u64 0, .int .u64 0] 66)).pin (w.heap.size + 2) (.cells #[.int .u64 ((lim M 0 : Nat) : Int), .int .u64 ((lim M 1 : Nat) : Int), .int .u64 ((lim M 2 : Nat) : Int), .int .u64 ((lim M 3 : Nat) : Int), .int .u64 ((lim M 4 : Nat) : Int), .int .u64 ((lim M 5 : Nat) : Int), .int .u64 ((lim M 6 : Nat) : Int), .int .u64 ((lim M 7 : Nat) : Int), .int .u64 ((lim M 8 : Nat) : Int)] 66)) ∧ w.heap.size < z.heap.size ∧ w.heap.size + 1 < z.heap.size ∧ w.heap.size + 2 < z.heap.size ∧ Hid (Below w.heap.size w z ∧ acK x k N M)) (fun kv _ => (321 - intOf kv).toNat)
 case atStart => exact ⟨0, x, M, _, rfl, aif ob ob ob (by rfl) (by rfl) (by rfl), sz, sz, sz, (pl (Below.refl _ _)), HI0.out⟩
 case round =>
  clear hcp HI0
  obtain ⟨k, N, M, z, rfl, rfl, q0, q1, q2, H⟩ := hrel
  have HB1 : Hid (Below w.heap.size w z) := H.out.1
  by_cases hk : k < 321
  · have hkz : (k : Int) < 321 := by omega
    have HK := Lib.hid hk
    clear hk
    by_cases hlt : N < M
    · have HBe := Lib.hid (ad1 N M true (acM H.out.2).1 (acM H.out.2).2 (decide_eq_true hlt))
      have HE := Lib.hid (agA H.out.2 HK.out hlt)
      have HMW := Lib.hid (acM H.out.2).2
      clear H hlt
      go_wp2_with fail
      refine (HBe.out _).mono ?_
      rintro e y2 ⟨rfl, hb2⟩
      obtain ⟨x2, rfl, hc2, hz2, kD, rQ, Gh⟩ := bZ (b0 := w.heap.size) (b1 := w.heap.size + 1) (b2 := w.heap.size + 2) hb2 rfl ob ob ob
      have HB2 := aZ HB1.out hc2
      clear hb2 hc2
      try simp only [eF] at hz2
      go_wp2_with fail
      refine (adl M HMW.out _).mono ?_
      rintro e y3 ⟨rfl, hb3⟩
      obtain ⟨x3, rfl, hc3, hz3, nN, uq, zn⟩ := bZ (b0 := w.heap.size) (b1 := w.heap.size + 1) (b2 := w.heap.size + 2) hb3 rfl ob ob ob
      have HB3 := aZ HB2.out hc3
      clear hb3 hc3
      try simp only [eF] at hz3
      go_wp2_with fail
      exact ⟨⟨k + 1, N, M / 2, x3, vi0 k, rfl, nN, uq, zn, HB3.out, HE.out⟩, tH 321 k HK.out⟩
    · have HBe := Lib.hid (ad1 N M false (acM H.out.2).1 (acM H.out.2).2 (decide_eq_false hlt))
      have HE := Lib.hid (ahu H.out.2 HK.out (by omega))
      have HMW := Lib.hid (acM H.out.2).2
      have WY := Lib.hid (show M ≤ N by omega)
      clear H hlt
      go_wp2_with fail
      refine (HBe.out _).mono ?_
      rintro e y2 ⟨rfl, hb2⟩
      obtain ⟨x2, rfl, hc2, hz2, kD, rQ, Gh⟩ := bZ (b0 := w.heap.size) (b1 := w.heap.size + 1) (b2 := w.heap.size + 2) hb2 rfl ob ob ob
      have HB2 := aZ HB1.out hc2
      clear hb2 hc2
      try simp only [eF] at hz2
      go_wp2_with fail
      refine (ah7 N M WY.out _).mono ?_
      rintro e y3 ⟨rfl, hb3⟩
      obtain ⟨x3, rfl, hc3, hz3, nN, uq, zn⟩ := bZ (b0 := w.heap.size) (b1 := w.heap.size + 1) (b2 := w.heap.size + 2) hb3 rfl ob ob ob
      have HB3 := aZ HB2.out hc3
      clear hb3 hc3
      try simp only [eF] at hz3
      go_wp2_with fail
      refine (adl M HMW.out _).mono ?_
      rintro e y4 ⟨rfl, hb4⟩
      obtain ⟨x4, rfl, hc4, lT, rU, yL, Dj⟩ := bZ (b0 := w.heap.size) (b1 := w.heap.size + 1) (b2 := w.heap.size + 2) hb4 rfl ob ob ob
      have HB4 := aZ HB3.out hc4
      clear hb4 hc4
      try simp only [eF] at lT
      go_wp2_with fail
      exact ⟨⟨k + 1, N - M, M / 2, x4, vi0 k, rfl, rU, yL, Dj, HB4.out, HE.out⟩, tH 321 k HK.out⟩
  · have hk' : k = 321 := by have := H.out.2.2.2.2; omega
    subst hk'
    have HE := Lib.hid (rest_end H.out.2)
    clear H
    go_wp2_with fail
    refine bodyPost_ret (v := Lv N) ?_ rfl ⟨by rw [HE.out], ?_⟩
    · simp [results, Tryz.results46, go_sem, q0, q1, q2]
    · exact (pl HB1.out)
end
section
open Go.RowKit Go.Proofs.YtehfkbaendajbaaGreatDoorW.PrintLast
theorem adn : aB LO = [54253, 23797, 25370, 22546, 40150, 41719, 63966, 5342, 0, 0, 0, 0, 0, 0, 0, 4096] := by
 have h := kW [54253, 23797, 25370, 22546, 40150, 41719, 63966, 5342, 0, 0, 0, 0, 0, 0, 0, 4096] (by decide) (by decide)
 have e : oC [54253, 23797, 25370, 22546, 40150, 41719, 63966, 5342, 0, 0, 0, 0, 0, 0, 0, 4096] = LO := by decide
 rw [e] at h
 exact h
theorem aoq (X : Nat) : X < 2 ^ (16 * (aB X).length) := by
 have h := tC X
 rw [show BB ^ (aB X).length = 2 ^ (16 * (aB X).length) by rw [show BB = 2 ^ 16 by decide, ← Nat.pow_mul]] at h
 exact h
theorem ao6 : aB 1 = [1] := kW [1] (by decide) (by decide)
theorem aoI {w : World} {g : Nat} (v : Nat) (hv : aB v = [v]) (hg : w.heap[g]? = some (.cells #[.int .u64 (v : Int)] 34)) : Dn w (some ⟨g, 0, none⟩) 1 v := by
  refine ⟨?_, by rw [hv]; exact Nat.le_refl 1⟩
  rw [hv]
  exact jC hg (by intro i hi; have : i = 0 := by simpa using hi
                  subst this; rfl)
theorem aoJ (w : World) : Dn w none 0 0 := ⟨by rw [dY]; exact Rd.nil _ _ _, by rw [dY]; exact Nat.le_refl _⟩
theorem am4 {n : Nat} (h : n < BB ^ 17) : (aB n).length ≤ 1000000 := Nat.le_trans (dK h) (by decide)
theorem anO {n : Nat} (h : n < LO + LO) : n < BB ^ 17 := Nat.lt_trans h (by decide)
theorem aoe (ev q : Nat) (b : Bool) (h : decide (ev / 2 ^ q % 2 = 1) = b) : (((ev : Int) / 2 ^ q).tmod 2 == 1) = b := by
 have e1 : ((ev : Int) / 2 ^ q) = ((ev / 2 ^ q : Nat) : Int) := by rw [Int.natCast_ediv, Int.natCast_pow]; rfl
 rw [e1, ← h]
 generalize ev / 2 ^ q = z
 rw [Bool.eq_iff_iff, beq_iff_eq, decide_eq_true_eq, Int.tmod_eq_emod_of_nonneg (by omega)]
 omega
theorem aod (ev q : Nat) (b : Bool) (h : decide (ev / 2 ^ q % 2 = 1) = b) : (((ev : Int) / 2 ^ q) % 2 == 1) = b := by
 have e1 : ((ev : Int) / 2 ^ q) = ((ev / 2 ^ q : Nat) : Int) := by rw [Int.natCast_ediv, Int.natCast_pow]; rfl
 rw [e1, ← h]
 generalize ev / 2 ^ q = z
 rw [Bool.eq_iff_iff, beq_iff_eq, decide_eq_true_eq]
 omega
theorem nO (k : Nat) : (intOf (.int .i64 ((k : Int) - 1)) + 1).toNat < (intOf (.int .i64 (k : Int)) + 1).toNat := by
 show ((k : Int) - 1 + 1).toNat < ((k : Int) + 1).toNat
 omega
theorem vkm (n : Nat) (h : n ≤ 1000000) : Value.int .i64 (wrap64 ((n : Int) - 1)) = Value.int .i64 ((n : Int) - 1) := congrArg (Value.int .i64) (kX _ (by omega))
theorem mX (k : Nat) (h : k ≤ 1000000) : (intOf (.int .i64 (wrap64 ((k : Int) - 1))) + 1).toNat < (intOf (.int .i64 (k : Int)) + 1).toNat := by
 rw [kX _ (by omega)]
 exact nO k
theorem anq {X e o b s r : Nat} (ho : o = X / 2 ^ (e + 1) % LO) (hb : b = X / 2 ^ e % 2) (hs : s = o + o + b) (hr : r = if s < LO then s else s - LO) : r = X / 2 ^ e % LO ∧ s < LO + LO := by
 have e1 : X / 2 ^ (e + 1) = X / 2 ^ e / 2 := by rw [Nat.pow_succ, Nat.div_div_eq_div_mul]
 rw [e1] at ho
 generalize X / 2 ^ e = q at *
 subst hr hs ho hb
 simp only [LO]
 split <;> omega
theorem aog (X i k : Nat) (hk : k < 16) : dg X i / 2 ^ k % 2 = X / 2 ^ (16 * i + k) % 2 := by
 simp only [dg]
 rw [show BB ^ i = 2 ^ (16 * i) by rw [show BB = 2 ^ 16 by decide, ← Nat.pow_mul], Nat.pow_add, ← Nat.div_div_eq_div_mul]
 generalize X / 2 ^ (16 * i) = q
 have : k = 0 ∨ k = 1 ∨ k = 2 ∨ k = 3 ∨ k = 4 ∨ k = 5 ∨ k = 6 ∨ k = 7 ∨ k = 8 ∨ k = 9 ∨ k = 10 ∨ k = 11 ∨ k = 12 ∨ k = 13 ∨ k = 14 ∨ k = 15 := by omega
 rcases this with h | h | h | h | h | h | h | h | h | h | h | h | h | h | h | h <;> rw [h] <;> simp only [BB, Nat.reducePow] <;> omega
theorem aov (A B : Option Addr) (c d X Y Z : Nat) (hsx : (aB X).length ≤ 1000000) (hsy : (aB Y).length ≤ 1000000) (hz : Z = X + Y) (w : World) (hX : Dn w A c X) (hY : Dn w B d Y) :
 Calls Tryz.prog 98 #[.slice A (aB X).length c, .slice B (aB Y).length d] w fun e w' => (∃ A' c', e = .returned (.slice A' (aB (Z)).length c') ∧ Dn w' A' c' (Z)) ∧ Below w.heap.size w w' := by
 subst hz
 exact sum_any A B c d X Y hsx hsy w hX hY
theorem aqJ (A : Option Addr) (c X g Y Z : Nat) (hsx : (aB X).length ≤ 1000000) (hY : aB Y = [Y]) (hz : Z = X + Y) (w : World) (hX : Dn w A c X) (hg : w.heap[g]? = some (.cells #[.int .u64 (Y : Int)] 34)) :
 Calls Tryz.prog 98 #[.slice A (aB X).length c, .slice (some ⟨g, 0, none⟩) 1 1] w fun e w' => (∃ A' c', e = .returned (.slice A' (aB (Z)).length c') ∧ Dn w' A' c' (Z)) ∧ Below w.heap.size w w' := by
 subst hz
 have h := sum_any A (some ⟨g, 0, none⟩) c 1 X Y hsx (by rw [hY]; exact Nat.le_trans (Nat.le_refl 1) (by decide)) w hX (aoI Y hY hg)
 rw [show (aB Y).length = 1 by rw [hY]; rfl] at h
 exact h
theorem aon (A B : Option Addr) (c d X Y Z : Nat) (hsx : (aB X).length ≤ 1000000) (hle : Y ≤ X) (hz : Z = X - Y) (w : World) (hX : Dn w A c X) (hY : Dn w B d Y) :
 Calls Tryz.prog 93 #[.slice A (aB X).length c, .slice B (aB Y).length d] w fun e w' => (∃ A' c', e = .returned (.slice A' (aB (Z)).length c') ∧ Dn w' A' c' (Z)) ∧ Below w.heap.size w w' := by
 subst hz
 exact yO A B c d X Y hsx hle w hX hY
theorem am2 (A B : Option Addr) (c d X Y : Nat) (b : Bool) (hsx : (aB X).length ≤ 1000000) (hb : decide (X < Y) = b) (w : World) (hX : Dn w A c X) (hY : Dn w B d Y) :
 Calls Tryz.prog 68 #[.slice A (aB X).length c, .slice B (aB Y).length d] w fun e w' => e = .returned (.bool b) ∧ Below w.heap.size w w' := by
 subst hb
 exact jU A B c d X Y hsx w hX hY
theorem ac4 (w : World)  :
 Calls Tryz.prog 69 #[] w fun e w' => (∃ A' c', e = .returned (.slice A' (aB (LO)).length c') ∧ Dn w' A' c' (LO)) ∧ Below w.heap.size w w' := by
 go_enter Tryz.func69, Tryz.ntmps69
 go_wp2
 go_ret
 refine ⟨⟨some ⟨w.heap.size, 0, none⟩, 16, ?_, ?_, ?_⟩, (pl (Below.refl _ _))⟩
 · rw [adn]; rfl
 · rw [adn]
   exact jC (alloc_at rfl) (by intro i hi; have hi' : i < 16 := hi; rcases i with _ | _ | _ | _ | _ | _ | _ | _ | _ | _ | _ | _ | _ | _ | _ | _ | i; all_goals first | rfl | omega)
 · rw [adn]; decide
theorem afR (l : Nat) (hl : l = LO) (w : World) : Calls Tryz.prog 69 #[] w fun e w' => (∃ A' c', e = .returned (.slice A' (aB (l)).length c') ∧ Dn w' A' c' (l)) ∧ Below w.heap.size w w' := by
 subst hl
 exact ac4 w
theorem aob (A : Option Addr) (c X : Nat) (hsz : (aB X).length ≤ 1000000) (w : World) (hX : Dn w A c X) :
 Calls Tryz.prog 97 #[.slice A (aB X).length c] w fun e w' => (∃ A' c', e = .returned (.slice A' (aB (X % LO)).length c') ∧ Dn w' A' c' (X % LO)) ∧ Below w.heap.size w w' := by
 have HX := Lib.hid hX
 have HS := Lib.hid hsz
 obtain ⟨n, hn⟩ : ∃ n, n = (aB X).length := ⟨_, rfl⟩
 have HN := Lib.hid hn
 have HNS := Lib.hid (show n ≤ 1000000 by rw [hn]; exact hsz)
 obtain ⟨l, hl⟩ : ∃ l, l = LO := ⟨_, rfl⟩
 have HL := Lib.hid hl
 rw [← hn]
 clear hX hsz hn hl
 go_enter Tryz.func97, Tryz.ntmps97
 go_wp2_with fail
 go_loopw [3, 4] (fun ov iv wr => ∃ (i o : Nat) (A' : Option Addr) (c' : Nat), ov = .slice A' (aB o).length c' ∧ iv = .int .i64 ((i : Int) - 1) ∧ Hid (Below w.heap.size w wr ∧ i ≤ n ∧ o = X / 2 ^ (16 * i) % LO ∧ Dn wr A' c' o)) (fun _ iv _ => (intOf iv + 1).toNat)
 case atStart => exact ⟨n, 0, none, 0, by rw [dY]; rfl, vkm n HNS.out, (pl (Below.refl _ _)), Nat.le_refl _, by rw [Nat.div_eq_of_lt (by rw [HN.out]; exact aoq X)]; rfl, aoJ _⟩
 case round =>
  obtain ⟨i, o, A', c', rfl, rfl, H⟩ := hrel
  rcases i with _ | i
  · go_wp2_with fail
    go_ret
    have he : o = X % LO := by rw [H.out.2.2.1, Nat.mul_zero, Nat.pow_zero, Nat.div_one]
    exact ⟨⟨A', c', by rw [← he]; rfl, by rw [← he]; exact H.out.2.2.2⟩, H.out.1⟩
  · rw [show (((i + 1 : Nat) : Int) - 1) = (i : Int) from by omega]
    obtain ⟨b, off, rfl, hbw, hcell⟩ := HX.out.cell (i := i) (by rw [← HN.out]; have := H.out.2.1; omega)
    obtain ⟨a, ha⟩ : ∃ a, a = dg X i := ⟨_, rfl⟩
    have hca := hcell i (by rw [← HN.out]; have := H.out.2.1; omega)
    have HCA : Hid (w.cell? ⟨b, off + i, none⟩ = some (.int .u64 (a : Int))) := Lib.hid (by rw [ha]; exact hca)
    have HA := Lib.hid ha
    have EI := Lib.hid hbw
    have HI := Lib.hid (show i < n by have := H.out.2.1; omega)
    have hil : (0 : Int) ≤ (i : Int) := by omega
    have hin : (i : Int) < (n : Int) := by have := HI.out; omega
    clear ha hca hcell hbw
    go_wp2_with fail
    go_loopw [3, 5] (fun ov kv wv => ∃ (k o : Nat) (A' : Option Addr) (c' : Nat), ov = .slice A' (aB o).length c' ∧ kv = .int .i64 ((k : Int) - 1) ∧ Hid (Below w.heap.size w wv ∧ k ≤ 16 ∧ o = X / 2 ^ (16 * i + k) % LO ∧ Dn wv A' c' o)) (fun _ kv _ => (intOf kv + 1).toNat)
    case atStart => exact ⟨16, o, A', c', rfl, rfl, H.out.1, Nat.le_refl _, by rw [H.out.2.2.1, Nat.mul_add, Nat.mul_one], H.out.2.2.2⟩
    case round =>
     clear H
     obtain ⟨k, o, A', c', rfl, rfl, H⟩ := hrel
     rcases k with _ | k
     · go_wp2_with fail
       exact ⟨⟨i, o, A', c', rfl, vkm i (Nat.le_trans (Nat.le_of_lt HI.out) HNS.out), H.out.1, Nat.le_of_lt HI.out, by rw [H.out.2.2.1, Nat.add_zero], H.out.2.2.2⟩, mX i (Nat.le_trans (Nat.le_of_lt HI.out) HNS.out)⟩
     · rw [show (((k + 1 : Nat) : Int) - 1) = (k : Int) from by omega]
       have HK := Lib.hid (show k < 16 by have := H.out.2.1; omega)
       obtain ⟨wo, hwo⟩ : ∃ z, z = wr := ⟨_, rfl⟩
       subst hwo
       have HB1 : Hid (Below w.heap.size w wo) := H.out.1
       have hz1 := HB1.out.size
       have HO1 : Hid (Dn wo A' c' o) := H.out.2.2.2
       have hlo : o < LO := by rw [H.out.2.2.1]; exact Nat.mod_lt _ (by decide)
       obtain ⟨o2, ho2⟩ : ∃ z, z = o + o := ⟨_, rfl⟩
       have EK := Lib.hid (show o2 = o + o ∧ (aB o).length ≤ 1000000 ∧ (aB o2).length ≤ 1000000 by rw [ho2]; exact ⟨rfl, am4 (anO (by omega)), am4 (anO (by omega))⟩)
       have hkz : (0 : Int) ≤ (k : Int) := by omega
       have auE : ¬ (k : Int) < 0 := by omega
       have b5 : k < 16 := HK.out
       have s1 : eX (k : Int) = (k : Int) := nH k (by have := HK.out; omega)
       by_cases hb : a / 2 ^ k % 2 = 1
       · have hb1 := aoe a k true (decide_eq_true hb)
         have hb2 := aod a k true (decide_eq_true hb)
         obtain ⟨s, hs⟩ : ∃ s, s = o2 + 1 := ⟨_, rfl⟩
         have e0 : s = o2 + 1 := hs
         have anw : 1 = X / 2 ^ (16 * i + k) % 2 := by rw [← aog X i k HK.out, ← HA.out]; exact hb.symm
         have hrb := anq (X := X) (e := 16 * i + k) (o := o) (s := s) (r := if s < LO then s else s - LO) (by rw [H.out.2.2.1]; rfl) anw (by rw [e0, ho2]) rfl
         have HV := Lib.hid (show s = o2 + 1 ∧ s < LO + LO ∧ (aB s).length ≤ 1000000 ∧ True from ⟨hs, hrb.2, am4 (anO hrb.2), trivial⟩)
         by_cases hlt : s < l
         · have aC := Lib.hid hlt
           have HR := Lib.hid (show s = X / 2 ^ (16 * i + k) % LO by rw [← hrb.1, if_pos (by rw [← HL.out]; exact hlt)])
           clear hrb hlt hb H hlo ho2 e0 anw
           clear hs
           go_wp2_with fail
           refine (aov A' A' c' c' o o o2 EK.out.2.1 EK.out.2.1 EK.out.1 _ (HO1.out.next (pl (Below.refl _ _))) (HO1.out.next (pl (Below.refl _ _)))).mono ?_
           rintro e x2 ⟨⟨A2, c2, rfl, hd2⟩, hb2⟩
           have HB2 := aZ HB1.out hb2
           have hz2 := HB2.out.size
           clear hb2
           have HD2 := Lib.hid hd2
           clear hd2 HO1
           have hca : x2.cell? ⟨b, off + i, none⟩ = some (.int .u64 (a : Int)) := (HB2.out.cell (p := ⟨b, off + i, none⟩) EI.out).trans HCA.out
           go_wp2_with fail
           refine (aqJ A2 c2 o2 x2.heap.size 1 s EK.out.2.2 ao6 HV.out.1 _ (HD2.out.next (pl (Below.refl _ _))) (heap_alloc_new _ _)).mono ?_
           rintro e x3 ⟨⟨A3, c3, rfl, hd3⟩, hb3⟩
           have HB3 := aZ HB2.out hb3
           have hz3 := HB3.out.size
           clear hb3
           have HD3 := Lib.hid hd3
           clear hd3 HD2 hca
           go_wp2_with fail
           refine (afR l HL.out _).mono ?_
           rintro e x4 ⟨⟨A4, c4, rfl, hd4⟩, hb4⟩
           have HB4 := aZ HB3.out hb4
           have lT := HB4.out.size
           replace HD3 := Lib.hid (HD3.out.next (bt hb4))
           clear hb4
           have HD4 := Lib.hid hd4
           clear hd4
           go_wp2_with fail
           refine (am2 A3 A4 c3 c4 s l true HV.out.2.2.1 (decide_eq_true aC.out) _ (HD3.out.next (pl (Below.refl _ _))) (HD4.out.next (pl (Below.refl _ _)))).mono ?_
           rintro e x5 ⟨rfl, hb5⟩
           have kR := aZ HB4.out hb5
           have rP := kR.out.size
           replace HD3 := Lib.hid (HD3.out.next (bt hb5))
           clear hb5
           clear HD4
           go_wp2_with fail
           exact ⟨⟨k, s, A3, c3, rfl, rfl, kR.out, Nat.le_of_lt HK.out, HR.out, (HD3.out.next (pl (Below.refl _ _)))⟩, nO k⟩
         · have aC := Lib.hid hlt
           obtain ⟨r, hr⟩ : ∃ r, r = s - l := ⟨_, rfl⟩
           have HR := Lib.hid (show r = s - l ∧ r = X / 2 ^ (16 * i + k) % LO by rw [← hrb.1, if_neg (by rw [← HL.out]; exact hlt), hr, HL.out]; exact ⟨rfl, rfl⟩)
           clear hr
           clear hrb hlt hb H hlo ho2 e0 anw
           clear hs
           go_wp2_with fail
           refine (aov A' A' c' c' o o o2 EK.out.2.1 EK.out.2.1 EK.out.1 _ (HO1.out.next (pl (Below.refl _ _))) (HO1.out.next (pl (Below.refl _ _)))).mono ?_
           rintro e x2 ⟨⟨A2, c2, rfl, hd2⟩, hb2⟩
           have HB2 := aZ HB1.out hb2
           have hz2 := HB2.out.size
           clear hb2
           have HD2 := Lib.hid hd2
           clear hd2 HO1
           have hca : x2.cell? ⟨b, off + i, none⟩ = some (.int .u64 (a : Int)) := (HB2.out.cell (p := ⟨b, off + i, none⟩) EI.out).trans HCA.out
           go_wp2_with fail
           refine (aqJ A2 c2 o2 x2.heap.size 1 s EK.out.2.2 ao6 HV.out.1 _ (HD2.out.next (pl (Below.refl _ _))) (heap_alloc_new _ _)).mono ?_
           rintro e x3 ⟨⟨A3, c3, rfl, hd3⟩, hb3⟩
           have HB3 := aZ HB2.out hb3
           have hz3 := HB3.out.size
           clear hb3
           have HD3 := Lib.hid hd3
           clear hd3 HD2 hca
           go_wp2_with fail
           refine (afR l HL.out _).mono ?_
           rintro e x4 ⟨⟨A4, c4, rfl, hd4⟩, hb4⟩
           have HB4 := aZ HB3.out hb4
           have lT := HB4.out.size
           replace HD3 := Lib.hid (HD3.out.next (bt hb4))
           clear hb4
           have HD4 := Lib.hid hd4
           clear hd4
           go_wp2_with fail
           refine (am2 A3 A4 c3 c4 s l false HV.out.2.2.1 (decide_eq_false aC.out) _ (HD3.out.next (pl (Below.refl _ _))) (HD4.out.next (pl (Below.refl _ _)))).mono ?_
           rintro e x5 ⟨rfl, hb5⟩
           have kR := aZ HB4.out hb5
           have rP := kR.out.size
           replace HD3 := Lib.hid (HD3.out.next (bt hb5))
           clear hb5
           clear HD4
           go_wp2_with fail
           refine (afR l HL.out _).mono ?_
           rintro e x6 ⟨⟨A6, c6, rfl, hd6⟩, hb6⟩
           have mg := aZ kR.out hb6
           have yH := mg.out.size
           replace HD3 := Lib.hid (HD3.out.next (bt hb6))
           clear hb6
           have HD6 := Lib.hid hd6
           clear hd6
           go_wp2_with fail
           refine (aon A3 A6 c3 c6 s l r HV.out.2.2.1 (Nat.le_of_not_lt aC.out) HR.out.1 _ (HD3.out.next (pl (Below.refl _ _))) (HD6.out.next (pl (Below.refl _ _)))).mono ?_
           rintro e x7 ⟨⟨A7, c7, rfl, hd7⟩, hb7⟩
           have oW := aZ mg.out hb7
           have Ac := oW.out.size
           clear hb7
           have HD7 := Lib.hid hd7
           clear hd7 HD6
           go_wp2_with fail
           exact ⟨⟨k, r, A7, c7, rfl, rfl, oW.out, Nat.le_of_lt HK.out, HR.out.2, HD7.out⟩, nO k⟩
       · have hb1 := aoe a k false (decide_eq_false hb)
         have hb2 := aod a k false (decide_eq_false hb)
         obtain ⟨s, hs⟩ : ∃ s, s = o2 := ⟨_, rfl⟩
         have e0 : s = o2 + 0 := by omega
         have anw : 0 = X / 2 ^ (16 * i + k) % 2 := by rw [← aog X i k HK.out, ← HA.out]; omega
         have hrb := anq (X := X) (e := 16 * i + k) (o := o) (s := s) (r := if s < LO then s else s - LO) (by rw [H.out.2.2.1]; rfl) anw (by rw [e0, ho2]) rfl
         have HV := Lib.hid (show s = o2 ∧ s < LO + LO ∧ (aB s).length ≤ 1000000 ∧ True from ⟨hs, hrb.2, am4 (anO hrb.2), trivial⟩)
         by_cases hlt : s < l
         · have aC := Lib.hid hlt
           have HR := Lib.hid (show s = X / 2 ^ (16 * i + k) % LO by rw [← hrb.1, if_pos (by rw [← HL.out]; exact hlt)])
           clear hrb hlt hb H hlo ho2 e0 anw
           have hso : o2 = s := hs.symm
           clear hs
           subst hso
           go_wp2_with fail
           refine (aov A' A' c' c' o o o2 EK.out.2.1 EK.out.2.1 EK.out.1 _ (HO1.out.next (pl (Below.refl _ _))) (HO1.out.next (pl (Below.refl _ _)))).mono ?_
           rintro e x2 ⟨⟨A2, c2, rfl, hd2⟩, hb2⟩
           have HB2 := aZ HB1.out hb2
           have hz2 := HB2.out.size
           clear hb2
           have HD2 := Lib.hid hd2
           clear hd2 HO1
           have hca : x2.cell? ⟨b, off + i, none⟩ = some (.int .u64 (a : Int)) := (HB2.out.cell (p := ⟨b, off + i, none⟩) EI.out).trans HCA.out
           go_wp2_with fail
           refine (afR l HL.out _).mono ?_
           rintro e x3 ⟨⟨A4, c4, rfl, hd4⟩, hb3⟩
           have HB3 := aZ HB2.out hb3
           have hz3 := HB3.out.size
           replace HD2 := Lib.hid (HD2.out.next (bt hb3))
           clear hb3
           have HD4 := Lib.hid hd4
           clear hd4
           go_wp2_with fail
           refine (am2 A2 A4 c2 c4 o2 l true HV.out.2.2.1 (decide_eq_true aC.out) _ (HD2.out.next (pl (Below.refl _ _))) (HD4.out.next (pl (Below.refl _ _)))).mono ?_
           rintro e x4 ⟨rfl, hb4⟩
           have HB4 := aZ HB3.out hb4
           have lT := HB4.out.size
           replace HD2 := Lib.hid (HD2.out.next (bt hb4))
           clear hb4
           clear HD4
           go_wp2_with fail
           exact ⟨⟨k, o2, A2, c2, rfl, rfl, HB4.out, Nat.le_of_lt HK.out, HR.out, (HD2.out.next (pl (Below.refl _ _)))⟩, nO k⟩
         · have aC := Lib.hid hlt
           obtain ⟨r, hr⟩ : ∃ r, r = s - l := ⟨_, rfl⟩
           have HR := Lib.hid (show r = s - l ∧ r = X / 2 ^ (16 * i + k) % LO by rw [← hrb.1, if_neg (by rw [← HL.out]; exact hlt), hr, HL.out]; exact ⟨rfl, rfl⟩)
           clear hr
           clear hrb hlt hb H hlo ho2 e0 anw
           have hso : o2 = s := hs.symm
           clear hs
           subst hso
           go_wp2_with fail
           refine (aov A' A' c' c' o o o2 EK.out.2.1 EK.out.2.1 EK.out.1 _ (HO1.out.next (pl (Below.refl _ _))) (HO1.out.next (pl (Below.refl _ _)))).mono ?_
           rintro e x2 ⟨⟨A2, c2, rfl, hd2⟩, hb2⟩
           have HB2 := aZ HB1.out hb2
           have hz2 := HB2.out.size
           clear hb2
           have HD2 := Lib.hid hd2
           clear hd2 HO1
           have hca : x2.cell? ⟨b, off + i, none⟩ = some (.int .u64 (a : Int)) := (HB2.out.cell (p := ⟨b, off + i, none⟩) EI.out).trans HCA.out
           go_wp2_with fail
           refine (afR l HL.out _).mono ?_
           rintro e x3 ⟨⟨A4, c4, rfl, hd4⟩, hb3⟩
           have HB3 := aZ HB2.out hb3
           have hz3 := HB3.out.size
           replace HD2 := Lib.hid (HD2.out.next (bt hb3))
           clear hb3
           have HD4 := Lib.hid hd4
           clear hd4
           go_wp2_with fail
           refine (am2 A2 A4 c2 c4 o2 l false HV.out.2.2.1 (decide_eq_false aC.out) _ (HD2.out.next (pl (Below.refl _ _))) (HD4.out.next (pl (Below.refl _ _)))).mono ?_
           rintro e x4 ⟨rfl, hb4⟩
           have HB4 := aZ HB3.out hb4
           have lT := HB4.out.size
           replace HD2 := Lib.hid (HD2.out.next (bt hb4))
           clear hb4
           clear HD4
           go_wp2_with fail
           refine (afR l HL.out _).mono ?_
           rintro e x5 ⟨⟨A6, c6, rfl, hd6⟩, hb5⟩
           have kR := aZ HB4.out hb5
           have rP := kR.out.size
           replace HD2 := Lib.hid (HD2.out.next (bt hb5))
           clear hb5
           have HD6 := Lib.hid hd6
           clear hd6
           go_wp2_with fail
           refine (aon A2 A6 c2 c6 o2 l r HV.out.2.2.1 (Nat.le_of_not_lt aC.out) HR.out.1 _ (HD2.out.next (pl (Below.refl _ _))) (HD6.out.next (pl (Below.refl _ _)))).mono ?_
           rintro e x6 ⟨⟨A7, c7, rfl, hd7⟩, hb6⟩
           have mg := aZ kR.out hb6
           have yH := mg.out.size
           clear hb6
           have HD7 := Lib.hid hd7
           clear hd7 HD6
           go_wp2_with fail
           exact ⟨⟨k, r, A7, c7, rfl, rfl, mg.out, Nat.le_of_lt HK.out, HR.out.2, HD7.out⟩, nO k⟩
end
end Go.Proofs.YtehfkbaendajbaaGreatDoor
