/-
  Shared, part 39r1235: walks and plain laws; each theorem states its own conditions.
-/
import Derived.Test.YtbghdkmpjiffeaaDoorM36
namespace Go.Proofs.YtbghdkmpjiffeaaDoor
set_option linter.unusedSimpArgs false
set_option linter.unusedVariables false
set_option maxRecDepth 100000
set_option maxHeartbeats 8000000
section
open Go.RowKit Go.Proofs.YtbghdkmpjiffeaaDoorW.PrintLast
theorem Gg (a : Fn) (Z : Nat) (ha : a.lt 18446744073709551616) (hz : Z = a.val % Num.p) (w : World) : Calls Tryd.prog 51 #[a.v] w fun e w' => (∃ A' c', e = .returned (.slice A' (aB Z).length c') ∧ Dn w' A' c' Z) ∧ Below w.heap.size w w' := by
 subst hz
 exact aaK a ha w
theorem Au (A B : Option Addr) (c d X Y : Nat) (b : Bool) (hx : X < Num.p) (hy : Y < Num.p) (hb : decide (X = Y) = b) (w : World) (hX : Dn w A c X) (hY : Dn w B d Y) :
 Calls Tryd.prog 52 #[.slice A (aB X).length c, .slice B (aB Y).length d] w fun e w' => e = .returned (.bool b) ∧ Below w.heap.size w w' := nX A B c d X Y b hx hy hb w hX hY
theorem adC (p : Pn) (lp : p.lt) (X Y Z T : Nat) (HX : Hid (X = p.x.val % Num.p)) (HY : Hid (Y = p.y.val % Num.p)) (HZ : Hid (Z = p.z.val % Num.p)) (HT : Hid (T = p.t.val % Num.p)) (XY ZT YY XX LE ZZ TT DT RI : Nat) (HXY : Hid (XY = X * Y % Num.p)) (HZT : Hid (ZT = Z * T % Num.p)) (HYY : Hid (YY = Y * Y % Num.p)) (HXX : Hid (XX = X * X % Num.p)) (WY : Hid (LE = (YY + (Num.p - XX)) % Num.p)) (HZZ : Hid (ZZ = Z * Z % Num.p)) (HTT : Hid (TT = T * T % Num.p)) (HDT : Hid (DT = dN * TT % Num.p)) (HRI : Hid (RI = (ZZ + DT) % Num.p)) (HZ0 : Hid (Z = 0)) (b : Bool) (HB : Hid (b = false)) (w : World) :
 Calls Tryd.prog 21 #[p.v] w fun e w' => e = .returned (.bool b) ∧ Below w.heap.size w w' := by
 have pX := Lib.hid lp
 clear lp
 go_enter Tryd.func21, Tryd.ntmps21
 go_wp2_with fail
 refine st1 w [] 16 (ak (b := w.heap.size) ob (aO (pl (Below.refl _ _)))) (fun HS => ?_)
 refine tk1 0 (some 9) HS (h := ?_)
 refine tk1 1 (some 10) HS (h := ?_)
 refine tk1 3 (some 12) HS (h := ?_)
 refine tk1 4 (some 13) HS (h := ?_)
 refine tk1 6 (some 15) HS (h := ?_)
 refine tk1 7 (some 16) HS (h := ?_)
 refine tk1 9 (some 18) HS (h := ?_)
 refine tk1 10 (some 19) HS (h := ?_)
 refine dH 2 (some 11) (h := fun K hK => ?_)
 go_simp
 refine (Gg p.x X pX.out.1 HX.out _).mono ?_
 rintro e y ⟨⟨R1, r1, rfl, hr1⟩, hb⟩
 refine hK.out _ _ (HS.step hb rfl) ?_
 clear HS hb
 intro HS
 have HR1 := Lib.hid hr1
 clear hr1
 refine dH 5 (some 14) (h := fun K hK => ?_)
 go_simp
 refine (Gg p.y Y pX.out.2.1 HY.out _).mono ?_
 rintro e y ⟨⟨R2, r2, rfl, hr2⟩, hb⟩
 refine hK.out _ _ (HS.step hb rfl) ?_
 replace HR1 := Lib.hid (HR1.out.next (bt hb))
 clear HS hb
 intro HS
 have HR2 := Lib.hid hr2
 clear hr2
 refine dH 8 (some 17) (h := fun K hK => ?_)
 go_simp
 refine (Gg p.z Z pX.out.2.2.1 HZ.out _).mono ?_
 rintro e y ⟨⟨R3, r3, rfl, hr3⟩, hb⟩
 refine hK.out _ _ (HS.step hb rfl) ?_
 replace HR1 := Lib.hid (HR1.out.next (bt hb))
 replace HR2 := Lib.hid (HR2.out.next (bt hb))
 clear HS hb
 intro HS
 have HR3 := Lib.hid hr3
 clear hr3
 refine dH 11 (some 20) (h := fun K hK => ?_)
 go_simp
 refine (Gg p.t T pX.out.2.2.2 HT.out _).mono ?_
 rintro e y ⟨⟨R4, r4, rfl, hr4⟩, hb⟩
 refine hK.out _ _ (HS.step hb rfl) ?_
 replace HR1 := Lib.hid (HR1.out.next (bt hb))
 replace HR2 := Lib.hid (HR2.out.next (bt hb))
 replace HR3 := Lib.hid (HR3.out.next (bt hb))
 clear HS hb
 intro HS
 have HR4 := Lib.hid hr4
 clear hr4
 refine tk1 12 (some 3) HS (h := ?_)
 refine tk1 13 (some 4) HS (h := ?_)
 refine tk1 14 (some 5) HS (h := ?_)
 refine tk1 15 (some 6) HS (h := ?_)
 obtain ⟨x1, rfl, hk1, hz1, l10⟩ := HS.jE
 have HB1 : Hid (Below w.heap.size w x1) := hk1.below
 clear HS hk1
 refine done_ (by kernel_rfl) ?_
 obtain ⟨L, hL⟩ : ∃ z, z = (aB Z).length := ⟨_, rfl⟩
 have HL := Lib.hid hL
 rw [← hL]
 clear hL
 have hl : L = 0 := by rw [HL.out, HZ0.out, dY]; rfl
 have hlI : (L : Int) = 0 := by omega
 clear hl
 go_wp2_with fail
 exact bodyPost_ret (v := .bool false) (by simp [results, Tryd.results21, go_sem]) rfl ⟨by rw [HB.out], pl HB1.out⟩
theorem adA (p : Pn) (lp : p.lt) (X Y Z T : Nat) (HX : Hid (X = p.x.val % Num.p)) (HY : Hid (Y = p.y.val % Num.p)) (HZ : Hid (Z = p.z.val % Num.p)) (HT : Hid (T = p.t.val % Num.p)) (XY ZT YY XX LE ZZ TT DT RI : Nat) (HXY : Hid (XY = X * Y % Num.p)) (HZT : Hid (ZT = Z * T % Num.p)) (HYY : Hid (YY = Y * Y % Num.p)) (HXX : Hid (XX = X * X % Num.p)) (WY : Hid (LE = (YY + (Num.p - XX)) % Num.p)) (HZZ : Hid (ZZ = Z * Z % Num.p)) (HTT : Hid (TT = T * T % Num.p)) (HDT : Hid (DT = dN * TT % Num.p)) (HRI : Hid (RI = (ZZ + DT) % Num.p)) (HZ0 : Hid (Z ≠ 0)) (HE : Hid (decide (XY = ZT) = false)) (b : Bool) (HB : Hid (b = false)) (w : World) :
 Calls Tryd.prog 21 #[p.v] w fun e w' => e = .returned (.bool b) ∧ Below w.heap.size w w' := by
 have pX := Lib.hid lp
 clear lp
 go_enter Tryd.func21, Tryd.ntmps21
 go_wp2_with fail
 refine st1 w [] 16 (ak (b := w.heap.size) ob (aO (pl (Below.refl _ _)))) (fun HS => ?_)
 refine tk1 0 (some 9) HS (h := ?_)
 refine tk1 1 (some 10) HS (h := ?_)
 refine tk1 3 (some 12) HS (h := ?_)
 refine tk1 4 (some 13) HS (h := ?_)
 refine tk1 6 (some 15) HS (h := ?_)
 refine tk1 7 (some 16) HS (h := ?_)
 refine tk1 9 (some 18) HS (h := ?_)
 refine tk1 10 (some 19) HS (h := ?_)
 refine dH 2 (some 11) (h := fun K hK => ?_)
 go_simp
 refine (Gg p.x X pX.out.1 HX.out _).mono ?_
 rintro e y ⟨⟨R1, r1, rfl, hr1⟩, hb⟩
 refine hK.out _ _ (HS.step hb rfl) ?_
 clear HS hb
 intro HS
 have HR1 := Lib.hid hr1
 clear hr1
 refine dH 5 (some 14) (h := fun K hK => ?_)
 go_simp
 refine (Gg p.y Y pX.out.2.1 HY.out _).mono ?_
 rintro e y ⟨⟨R2, r2, rfl, hr2⟩, hb⟩
 refine hK.out _ _ (HS.step hb rfl) ?_
 replace HR1 := Lib.hid (HR1.out.next (bt hb))
 clear HS hb
 intro HS
 have HR2 := Lib.hid hr2
 clear hr2
 refine dH 8 (some 17) (h := fun K hK => ?_)
 go_simp
 refine (Gg p.z Z pX.out.2.2.1 HZ.out _).mono ?_
 rintro e y ⟨⟨R3, r3, rfl, hr3⟩, hb⟩
 refine hK.out _ _ (HS.step hb rfl) ?_
 replace HR1 := Lib.hid (HR1.out.next (bt hb))
 replace HR2 := Lib.hid (HR2.out.next (bt hb))
 clear HS hb
 intro HS
 have HR3 := Lib.hid hr3
 clear hr3
 refine dH 11 (some 20) (h := fun K hK => ?_)
 go_simp
 refine (Gg p.t T pX.out.2.2.2 HT.out _).mono ?_
 rintro e y ⟨⟨R4, r4, rfl, hr4⟩, hb⟩
 refine hK.out _ _ (HS.step hb rfl) ?_
 replace HR1 := Lib.hid (HR1.out.next (bt hb))
 replace HR2 := Lib.hid (HR2.out.next (bt hb))
 replace HR3 := Lib.hid (HR3.out.next (bt hb))
 clear HS hb
 intro HS
 have HR4 := Lib.hid hr4
 clear hr4
 refine tk1 12 (some 3) HS (h := ?_)
 refine tk1 13 (some 4) HS (h := ?_)
 refine tk1 14 (some 5) HS (h := ?_)
 refine tk1 15 (some 6) HS (h := ?_)
 obtain ⟨x1, rfl, hk1, hz1, l10⟩ := HS.jE
 have HB1 : Hid (Below w.heap.size w x1) := hk1.below
 clear HS hk1
 refine done_ (by kernel_rfl) ?_
 obtain ⟨L, hL⟩ : ∃ z, z = (aB Z).length := ⟨_, rfl⟩
 have HL := Lib.hid hL
 rw [← hL]
 clear hL
 have hl : L ≠ 0 := fun h => HZ0.out (oG (by rw [← HL.out]; exact h))
 have hlI : ((L : Int) = 0) = False := eq_false (by omega)
 have hlJ : ¬ (L : Int) = 0 := by omega
 have hlK : ((L : Int) == 0) = false := beq_eq_false_iff_ne.mpr hlJ
 clear hl hlI
 go_wp2_with fail
 refine (fQ _ _ _ _ X Y XY (iC HX.out) (iC HY.out) HXY.out _ (HR1.out.next (pl (Below.refl _ _))) (HR2.out.next (pl (Below.refl _ _)))).mono ?_
 rintro e y2 ⟨⟨R5, r5, rfl, Nl⟩, hb2⟩
 replace HR1 := Lib.hid (HR1.out.next (bt hb2))
 replace HR2 := Lib.hid (HR2.out.next (bt hb2))
 replace HR3 := Lib.hid (HR3.out.next (bt hb2))
 replace HR4 := Lib.hid (HR4.out.next (bt hb2))
 obtain ⟨x2, rfl, hc2, hz2, kD⟩ := bQ (b := w.heap.size) hb2 rfl ob
 have HB2 := aZ HB1.out hc2
 clear hb2 hc2
 try simp only [bF] at hz2
 have jG := Lib.hid Nl
 clear Nl
 go_wp2_with fail
 try rw [HL.out]
 refine (fQ _ _ _ _ Z T ZT (iC HZ.out) (iC HT.out) HZT.out _ (HR3.out.next (pl (Below.refl _ _))) (HR4.out.next (pl (Below.refl _ _)))).mono ?_
 rintro e y3 ⟨⟨R6, r6, rfl, Io⟩, hb3⟩
 replace HR1 := Lib.hid (HR1.out.next (bt hb3))
 replace HR2 := Lib.hid (HR2.out.next (bt hb3))
 replace HR3 := Lib.hid (HR3.out.next (bt hb3))
 replace HR4 := Lib.hid (HR4.out.next (bt hb3))
 replace jG := Lib.hid (jG.out.next (bt hb3))
 obtain ⟨x3, rfl, hc3, hz3, nN⟩ := bQ (b := w.heap.size) hb3 rfl ob
 have HB3 := aZ HB2.out hc3
 clear hb3 hc3
 try simp only [bF] at hz3
 have jk := Lib.hid Io
 clear Io
 go_wp2_with fail
 refine (Au _ _ _ _ XY ZT false (iC HXY.out) (iC HZT.out) HE.out _ (jG.out.next (pl (Below.refl _ _))) (jk.out.next (pl (Below.refl _ _)))).mono ?_
 rintro e y4 ⟨rfl, hb4⟩
 replace HR1 := Lib.hid (HR1.out.next (bt hb4))
 replace HR2 := Lib.hid (HR2.out.next (bt hb4))
 replace HR3 := Lib.hid (HR3.out.next (bt hb4))
 replace HR4 := Lib.hid (HR4.out.next (bt hb4))
 replace jG := Lib.hid (jG.out.next (bt hb4))
 replace jk := Lib.hid (jk.out.next (bt hb4))
 obtain ⟨x4, rfl, hc4, lT, rU⟩ := bQ (b := w.heap.size) hb4 rfl ob
 have HB4 := aZ HB3.out hc4
 clear hb4 hc4
 try simp only [bF] at lT
 go_wp2_with fail
 exact bodyPost_ret (v := .bool false) (by simp [results, Tryd.results21, go_sem]) rfl ⟨by rw [HB.out], pl HB4.out⟩
theorem adB (p : Pn) (lp : p.lt) (X Y Z T : Nat) (HX : Hid (X = p.x.val % Num.p)) (HY : Hid (Y = p.y.val % Num.p)) (HZ : Hid (Z = p.z.val % Num.p)) (HT : Hid (T = p.t.val % Num.p)) (XY ZT YY XX LE ZZ TT DT RI : Nat) (HXY : Hid (XY = X * Y % Num.p)) (HZT : Hid (ZT = Z * T % Num.p)) (HYY : Hid (YY = Y * Y % Num.p)) (HXX : Hid (XX = X * X % Num.p)) (WY : Hid (LE = (YY + (Num.p - XX)) % Num.p)) (HZZ : Hid (ZZ = Z * Z % Num.p)) (HTT : Hid (TT = T * T % Num.p)) (HDT : Hid (DT = dN * TT % Num.p)) (HRI : Hid (RI = (ZZ + DT) % Num.p)) (HZ0 : Hid (Z ≠ 0)) (HE : Hid (decide (XY = ZT) = true)) (b : Bool) (HB : Hid (b = decide (LE = RI))) (w : World) :
 Calls Tryd.prog 21 #[p.v] w fun e w' => e = .returned (.bool b) ∧ Below w.heap.size w w' := by
 have pX := Lib.hid lp
 clear lp
 go_enter Tryd.func21, Tryd.ntmps21
 go_wp2_with fail
 refine st1 w [] 16 (ak (b := w.heap.size) ob (aO (pl (Below.refl _ _)))) (fun HS => ?_)
 refine tk1 0 (some 9) HS (h := ?_)
 refine tk1 1 (some 10) HS (h := ?_)
 refine tk1 3 (some 12) HS (h := ?_)
 refine tk1 4 (some 13) HS (h := ?_)
 refine tk1 6 (some 15) HS (h := ?_)
 refine tk1 7 (some 16) HS (h := ?_)
 refine tk1 9 (some 18) HS (h := ?_)
 refine tk1 10 (some 19) HS (h := ?_)
 refine dH 2 (some 11) (h := fun K hK => ?_)
 go_simp
 refine (Gg p.x X pX.out.1 HX.out _).mono ?_
 rintro e y ⟨⟨R1, r1, rfl, hr1⟩, hb⟩
 refine hK.out _ _ (HS.step hb rfl) ?_
 clear HS hb
 intro HS
 have HR1 := Lib.hid hr1
 clear hr1
 refine dH 5 (some 14) (h := fun K hK => ?_)
 go_simp
 refine (Gg p.y Y pX.out.2.1 HY.out _).mono ?_
 rintro e y ⟨⟨R2, r2, rfl, hr2⟩, hb⟩
 refine hK.out _ _ (HS.step hb rfl) ?_
 replace HR1 := Lib.hid (HR1.out.next (bt hb))
 clear HS hb
 intro HS
 have HR2 := Lib.hid hr2
 clear hr2
 refine dH 8 (some 17) (h := fun K hK => ?_)
 go_simp
 refine (Gg p.z Z pX.out.2.2.1 HZ.out _).mono ?_
 rintro e y ⟨⟨R3, r3, rfl, hr3⟩, hb⟩
 refine hK.out _ _ (HS.step hb rfl) ?_
 replace HR1 := Lib.hid (HR1.out.next (bt hb))
 replace HR2 := Lib.hid (HR2.out.next (bt hb))
 clear HS hb
 intro HS
 have HR3 := Lib.hid hr3
 clear hr3
 refine dH 11 (some 20) (h := fun K hK => ?_)
 go_simp
 refine (Gg p.t T pX.out.2.2.2 HT.out _).mono ?_
 rintro e y ⟨⟨R4, r4, rfl, hr4⟩, hb⟩
 refine hK.out _ _ (HS.step hb rfl) ?_
 replace HR1 := Lib.hid (HR1.out.next (bt hb))
 replace HR2 := Lib.hid (HR2.out.next (bt hb))
 replace HR3 := Lib.hid (HR3.out.next (bt hb))
 clear HS hb
 intro HS
 have HR4 := Lib.hid hr4
 clear hr4
 refine tk1 12 (some 3) HS (h := ?_)
 refine tk1 13 (some 4) HS (h := ?_)
 refine tk1 14 (some 5) HS (h := ?_)
 refine tk1 15 (some 6) HS (h := ?_)
 obtain ⟨x1, rfl, hk1, hz1, l10⟩ := HS.jE
 have HB1 : Hid (Below w.heap.size w x1) := hk1.below
 clear HS hk1
 refine done_ (by kernel_rfl) ?_
 obtain ⟨L, hL⟩ : ∃ z, z = (aB Z).length := ⟨_, rfl⟩
 have HL := Lib.hid hL
 rw [← hL]
 clear hL
 have hl : L ≠ 0 := fun h => HZ0.out (oG (by rw [← HL.out]; exact h))
 have hlI : ((L : Int) = 0) = False := eq_false (by omega)
 have hlJ : ¬ (L : Int) = 0 := by omega
 have hlK : ((L : Int) == 0) = false := beq_eq_false_iff_ne.mpr hlJ
 clear hl hlI
 go_wp2_with fail
 refine (fQ _ _ _ _ X Y XY (iC HX.out) (iC HY.out) HXY.out _ (HR1.out.next (pl (Below.refl _ _))) (HR2.out.next (pl (Below.refl _ _)))).mono ?_
 rintro e y2 ⟨⟨R5, r5, rfl, Nl⟩, hb2⟩
 replace HR1 := Lib.hid (HR1.out.next (bt hb2))
 replace HR2 := Lib.hid (HR2.out.next (bt hb2))
 replace HR3 := Lib.hid (HR3.out.next (bt hb2))
 replace HR4 := Lib.hid (HR4.out.next (bt hb2))
 obtain ⟨x2, rfl, hc2, hz2, kD⟩ := bQ (b := w.heap.size) hb2 rfl ob
 have HB2 := aZ HB1.out hc2
 clear hb2 hc2
 try simp only [bF] at hz2
 have jG := Lib.hid Nl
 clear Nl
 go_wp2_with fail
 try rw [HL.out]
 refine (fQ _ _ _ _ Z T ZT (iC HZ.out) (iC HT.out) HZT.out _ (HR3.out.next (pl (Below.refl _ _))) (HR4.out.next (pl (Below.refl _ _)))).mono ?_
 rintro e y3 ⟨⟨R6, r6, rfl, Io⟩, hb3⟩
 replace HR1 := Lib.hid (HR1.out.next (bt hb3))
 replace HR2 := Lib.hid (HR2.out.next (bt hb3))
 replace HR3 := Lib.hid (HR3.out.next (bt hb3))
 replace HR4 := Lib.hid (HR4.out.next (bt hb3))
 replace jG := Lib.hid (jG.out.next (bt hb3))
 obtain ⟨x3, rfl, hc3, hz3, nN⟩ := bQ (b := w.heap.size) hb3 rfl ob
 have HB3 := aZ HB2.out hc3
 clear hb3 hc3
 try simp only [bF] at hz3
 have jk := Lib.hid Io
 clear Io
 go_wp2_with fail
 refine (Au _ _ _ _ XY ZT true (iC HXY.out) (iC HZT.out) HE.out _ (jG.out.next (pl (Below.refl _ _))) (jk.out.next (pl (Below.refl _ _)))).mono ?_
 rintro e y4 ⟨rfl, hb4⟩
 replace HR1 := Lib.hid (HR1.out.next (bt hb4))
 replace HR2 := Lib.hid (HR2.out.next (bt hb4))
 replace HR3 := Lib.hid (HR3.out.next (bt hb4))
 replace HR4 := Lib.hid (HR4.out.next (bt hb4))
 replace jG := Lib.hid (jG.out.next (bt hb4))
 replace jk := Lib.hid (jk.out.next (bt hb4))
 obtain ⟨x4, rfl, hc4, lT, rU⟩ := bQ (b := w.heap.size) hb4 rfl ob
 have HB4 := aZ HB3.out hc4
 clear hb4 hc4
 try simp only [bF] at lT
 go_wp2_with fail
 refine (fQ _ _ _ _ Y Y YY (iC HY.out) (iC HY.out) HYY.out _ (HR2.out.next (pl (Below.refl _ _))) (HR2.out.next (pl (Below.refl _ _)))).mono ?_
 rintro e y5 ⟨⟨R7, r7, rfl, Ip⟩, hb5⟩
 replace HR1 := Lib.hid (HR1.out.next (bt hb5))
 replace HR2 := Lib.hid (HR2.out.next (bt hb5))
 replace HR3 := Lib.hid (HR3.out.next (bt hb5))
 replace HR4 := Lib.hid (HR4.out.next (bt hb5))
 replace jG := Lib.hid (jG.out.next (bt hb5))
 replace jk := Lib.hid (jk.out.next (bt hb5))
 obtain ⟨x5, rfl, hc5, rP, Ae⟩ := bQ (b := w.heap.size) hb5 rfl ob
 have kR := aZ HB4.out hc5
 clear hb5 hc5
 try simp only [bF] at rP
 have jQ := Lib.hid Ip
 clear Ip
 go_wp2_with fail
 refine (fQ _ _ _ _ X X XX (iC HX.out) (iC HX.out) HXX.out _ (HR1.out.next (pl (Below.refl _ _))) (HR1.out.next (pl (Below.refl _ _)))).mono ?_
 rintro e y6 ⟨⟨R8, r8, rfl, ZE⟩, hb6⟩
 replace HR1 := Lib.hid (HR1.out.next (bt hb6))
 replace HR2 := Lib.hid (HR2.out.next (bt hb6))
 replace HR3 := Lib.hid (HR3.out.next (bt hb6))
 replace HR4 := Lib.hid (HR4.out.next (bt hb6))
 replace jG := Lib.hid (jG.out.next (bt hb6))
 replace jk := Lib.hid (jk.out.next (bt hb6))
 replace jQ := Lib.hid (jQ.out.next (bt hb6))
 obtain ⟨x6, rfl, hc6, yH, Gj⟩ := bQ (b := w.heap.size) hb6 rfl ob
 have mg := aZ kR.out hc6
 clear hb6 hc6
 try simp only [bF] at yH
 have ny := Lib.hid ZE
 clear ZE
 go_wp2_with fail
 refine (Gu _ _ _ _ YY XX LE (iC HYY.out) (iC HXX.out) WY.out _ (jQ.out.next (pl (Below.refl _ _))) (ny.out.next (pl (Below.refl _ _)))).mono ?_
 rintro e y7 ⟨⟨R9, r9, rfl, ZF⟩, hb7⟩
 replace HR1 := Lib.hid (HR1.out.next (bt hb7))
 replace HR2 := Lib.hid (HR2.out.next (bt hb7))
 replace HR3 := Lib.hid (HR3.out.next (bt hb7))
 replace HR4 := Lib.hid (HR4.out.next (bt hb7))
 replace jG := Lib.hid (jG.out.next (bt hb7))
 replace jk := Lib.hid (jk.out.next (bt hb7))
 replace jQ := Lib.hid (jQ.out.next (bt hb7))
 replace ny := Lib.hid (ny.out.next (bt hb7))
 obtain ⟨x7, rfl, Ef, Ac, KA⟩ := bQ (b := w.heap.size) hb7 rfl ob
 have oW := aZ mg.out Ef
 clear hb7 Ef
 try simp only [bF] at Ac
 have wu := Lib.hid ZF
 clear ZF
 go_wp2_with fail
 try rw [HL.out]
 refine (fQ _ _ _ _ Z Z ZZ (iC HZ.out) (iC HZ.out) HZZ.out _ (HR3.out.next (pl (Below.refl _ _))) (HR3.out.next (pl (Below.refl _ _)))).mono ?_
 rintro e y8 ⟨⟨R10, r10, rfl, TV⟩, hb8⟩
 replace HR1 := Lib.hid (HR1.out.next (bt hb8))
 replace HR2 := Lib.hid (HR2.out.next (bt hb8))
 replace HR3 := Lib.hid (HR3.out.next (bt hb8))
 replace HR4 := Lib.hid (HR4.out.next (bt hb8))
 replace jG := Lib.hid (jG.out.next (bt hb8))
 replace jk := Lib.hid (jk.out.next (bt hb8))
 replace jQ := Lib.hid (jQ.out.next (bt hb8))
 replace ny := Lib.hid (ny.out.next (bt hb8))
 replace wu := Lib.hid (wu.out.next (bt hb8))
 obtain ⟨x8, rfl, hc8, Di, PD⟩ := bQ (b := w.heap.size) hb8 rfl ob
 have ru := aZ oW.out hc8
 clear hb8 hc8
 try simp only [bF] at Di
 have pK := Lib.hid TV
 clear TV
 go_wp2_with fail
 refine (D7 _).mono ?_
 rintro e y9 ⟨⟨R11, r11, rfl, TW⟩, kP⟩
 replace HR1 := Lib.hid (HR1.out.next (bt kP))
 replace HR2 := Lib.hid (HR2.out.next (bt kP))
 replace HR3 := Lib.hid (HR3.out.next (bt kP))
 replace HR4 := Lib.hid (HR4.out.next (bt kP))
 replace jG := Lib.hid (jG.out.next (bt kP))
 replace jk := Lib.hid (jk.out.next (bt kP))
 replace jQ := Lib.hid (jQ.out.next (bt kP))
 replace ny := Lib.hid (ny.out.next (bt kP))
 replace wu := Lib.hid (wu.out.next (bt kP))
 replace pK := Lib.hid (pK.out.next (bt kP))
 obtain ⟨x9, rfl, Ib, Fj, WG⟩ := bQ (b := w.heap.size) kP rfl ob
 have pW := aZ ru.out Ib
 clear kP Ib
 try simp only [bF] at Fj
 have sD := Lib.hid TW
 clear TW
 go_wp2_with fail
 refine (fQ _ _ _ _ T T TT (iC HT.out) (iC HT.out) HTT.out _ (HR4.out.next (pl (Below.refl _ _))) (HR4.out.next (pl (Below.refl _ _)))).mono ?_
 rintro e y10 ⟨⟨R12, r12, rfl, TY⟩, dP⟩
 replace HR1 := Lib.hid (HR1.out.next (bt dP))
 replace HR2 := Lib.hid (HR2.out.next (bt dP))
 replace HR3 := Lib.hid (HR3.out.next (bt dP))
 replace HR4 := Lib.hid (HR4.out.next (bt dP))
 replace jG := Lib.hid (jG.out.next (bt dP))
 replace jk := Lib.hid (jk.out.next (bt dP))
 replace jQ := Lib.hid (jQ.out.next (bt dP))
 replace ny := Lib.hid (ny.out.next (bt dP))
 replace wu := Lib.hid (wu.out.next (bt dP))
 replace pK := Lib.hid (pK.out.next (bt dP))
 replace sD := Lib.hid (sD.out.next (bt dP))
 obtain ⟨x10, rfl, wQ, uQ, Kq⟩ := bQ (b := w.heap.size) dP rfl ob
 have fB := aZ pW.out wQ
 clear dP wQ
 try simp only [bF] at uQ
 have yx := Lib.hid TY
 clear TY
 go_wp2_with fail
 refine (fQ _ _ _ _ dN TT DT (by decide) (iC HTT.out) HDT.out _ (sD.out.next (pl (Below.refl _ _))) (yx.out.next (pl (Below.refl _ _)))).mono ?_
 rintro e y11 ⟨⟨R13, r13, rfl, Ua⟩, dG⟩
 replace HR1 := Lib.hid (HR1.out.next (bt dG))
 replace HR2 := Lib.hid (HR2.out.next (bt dG))
 replace HR3 := Lib.hid (HR3.out.next (bt dG))
 replace HR4 := Lib.hid (HR4.out.next (bt dG))
 replace jG := Lib.hid (jG.out.next (bt dG))
 replace jk := Lib.hid (jk.out.next (bt dG))
 replace jQ := Lib.hid (jQ.out.next (bt dG))
 replace ny := Lib.hid (ny.out.next (bt dG))
 replace wu := Lib.hid (wu.out.next (bt dG))
 replace pK := Lib.hid (pK.out.next (bt dG))
 replace sD := Lib.hid (sD.out.next (bt dG))
 replace yx := Lib.hid (yx.out.next (bt dG))
 obtain ⟨x11, rfl, mQ, nD, Bo⟩ := bQ (b := w.heap.size) dG rfl ob
 have fC := aZ fB.out mQ
 clear dG mQ
 try simp only [bF] at nD
 have EL := Lib.hid Ua
 clear Ua
 go_wp2_with fail
 refine (DX _ _ _ _ ZZ DT RI (iC HZZ.out) (iC HDT.out) HRI.out _ (pK.out.next (pl (Below.refl _ _))) (EL.out.next (pl (Below.refl _ _)))).mono ?_
 rintro e QN ⟨⟨R14, YM, rfl, Ub⟩, bT⟩
 replace HR1 := Lib.hid (HR1.out.next (bt bT))
 replace HR2 := Lib.hid (HR2.out.next (bt bT))
 replace HR3 := Lib.hid (HR3.out.next (bt bT))
 replace HR4 := Lib.hid (HR4.out.next (bt bT))
 replace jG := Lib.hid (jG.out.next (bt bT))
 replace jk := Lib.hid (jk.out.next (bt bT))
 replace jQ := Lib.hid (jQ.out.next (bt bT))
 replace ny := Lib.hid (ny.out.next (bt bT))
 replace wu := Lib.hid (wu.out.next (bt bT))
 replace pK := Lib.hid (pK.out.next (bt bT))
 replace sD := Lib.hid (sD.out.next (bt bT))
 replace yx := Lib.hid (yx.out.next (bt bT))
 replace EL := Lib.hid (EL.out.next (bt bT))
 obtain ⟨x12, rfl, hc12, kF, uS⟩ := bQ (b := w.heap.size) bT rfl ob
 have fG := aZ fC.out hc12
 clear bT hc12
 try simp only [bF] at kF
 have QW := Lib.hid Ub
 clear Ub
 go_wp2_with fail
 refine (Au _ _ _ _ LE RI b (iC WY.out) (iC HRI.out) HB.out.symm _ (wu.out.next (pl (Below.refl _ _))) (QW.out.next (pl (Below.refl _ _)))).mono ?_
 rintro e y13 ⟨rfl, bM⟩
 replace HR1 := Lib.hid (HR1.out.next (bt bM))
 replace HR2 := Lib.hid (HR2.out.next (bt bM))
 replace HR3 := Lib.hid (HR3.out.next (bt bM))
 replace HR4 := Lib.hid (HR4.out.next (bt bM))
 replace jG := Lib.hid (jG.out.next (bt bM))
 replace jk := Lib.hid (jk.out.next (bt bM))
 replace jQ := Lib.hid (jQ.out.next (bt bM))
 replace ny := Lib.hid (ny.out.next (bt bM))
 replace wu := Lib.hid (wu.out.next (bt bM))
 replace pK := Lib.hid (pK.out.next (bt bM))
 replace sD := Lib.hid (sD.out.next (bt bM))
 replace yx := Lib.hid (yx.out.next (bt bM))
 replace EL := Lib.hid (EL.out.next (bt bM))
 replace QW := Lib.hid (QW.out.next (bt bM))
 obtain ⟨DL, rfl, hc13, jJ, tq⟩ := bQ (b := w.heap.size) bM rfl ob
 have iH := aZ fG.out hc13
 clear bM hc13
 try simp only [bF] at jJ
 go_wp2_with fail
 exact bodyPost_ret (v := .bool b) (by simp [results, Tryd.results21, go_sem]) rfl ⟨rfl, pl iH.out⟩
theorem dec_lt {a b : Nat} (ha : a < Num.p) (hb : b < Num.p) {x y : Fin Num.p} (hx : fe a = x) (hy : fe b = y) : decide (a = b) = decide (x = y) := by
 subst hx hy
 refine decide_eq_decide.mpr ⟨fun h => by rw [h], fun h => ?_⟩
 have := wO.mp h
 rwa [Nat.mod_eq_of_lt ha, Nat.mod_eq_of_lt hb] at this
theorem aaZ (p : Pn) (lp : p.lt) (w : World) : Calls Tryd.prog 21 #[p.v] w fun e w' => e = .returned (.bool p.on) ∧ Below w.heap.size w w' := by
 obtain ⟨X, hX⟩ : ∃ z, z = p.x.val % Num.p := ⟨_, rfl⟩
 obtain ⟨Y, hY⟩ : ∃ z, z = p.y.val % Num.p := ⟨_, rfl⟩
 obtain ⟨Z, hZ⟩ : ∃ z, z = p.z.val % Num.p := ⟨_, rfl⟩
 obtain ⟨T, hT⟩ : ∃ z, z = p.t.val % Num.p := ⟨_, rfl⟩
 obtain ⟨XY, hXY⟩ : ∃ z, z = X * Y % Num.p := ⟨_, rfl⟩
 obtain ⟨ZT, hZT⟩ : ∃ z, z = Z * T % Num.p := ⟨_, rfl⟩
 obtain ⟨YY, hYY⟩ : ∃ z, z = Y * Y % Num.p := ⟨_, rfl⟩
 obtain ⟨XX, hXX⟩ : ∃ z, z = X * X % Num.p := ⟨_, rfl⟩
 obtain ⟨LE, hLE⟩ : ∃ z, z = (YY + (Num.p - XX)) % Num.p := ⟨_, rfl⟩
 obtain ⟨ZZ, hZZ⟩ : ∃ z, z = Z * Z % Num.p := ⟨_, rfl⟩
 obtain ⟨TT, hTT⟩ : ∃ z, z = T * T % Num.p := ⟨_, rfl⟩
 obtain ⟨DT, hDT⟩ : ∃ z, z = dN * TT % Num.p := ⟨_, rfl⟩
 obtain ⟨RI, hRI⟩ : ∃ z, z = (ZZ + DT) % Num.p := ⟨_, rfl⟩
 have fX : fe X = fe p.x.val := by rw [hX, dA]
 have fY : fe Y = fe p.y.val := by rw [hY, dA]
 have fZ : fe Z = fe p.z.val := by rw [hZ, dA]
 have fT : fe T = fe p.t.val := by rw [hT, dA]
 have e0 : decide (Z = 0) = decide (fe p.z.val = 0) := dec_lt (iC hZ) gJ fZ jc
 have e1 : decide (XY = ZT) = decide (fe p.x.val * fe p.y.val = fe p.z.val * fe p.t.val) := dec_lt (iC hXY) (iC hZT) (by rw [hXY, dA, aS, fX, fY]) (by rw [hZT, dA, aS, fZ, fT])
 have e2 : decide (LE = RI) = decide (fe p.y.val * fe p.y.val - fe p.x.val * fe p.x.val = fe p.z.val * fe p.z.val + fe dN * (fe p.t.val * fe p.t.val)) := dec_lt (iC hLE) (iC hRI) (by rw [hLE, qO (iC hXX), hYY, hXX, dA, dA, aS, aS, fX, fY]) (by rw [hRI, dA, iJ, hZZ, dA, aS, hDT, dA, aS, hTT, dA, aS, fZ, fT])
 have hon : p.on = (!decide (Z = 0) && (decide (XY = ZT) && decide (LE = RI))) := by rw [e0, e1, e2]; rfl
 rw [hon]
 by_cases h0 : Z = 0
 · exact adC p lp X Y Z T (Lib.hid hX) (Lib.hid hY) (Lib.hid hZ) (Lib.hid hT) XY ZT YY XX LE ZZ TT DT RI (Lib.hid hXY) (Lib.hid hZT) (Lib.hid hYY) (Lib.hid hXX) (Lib.hid hLE) (Lib.hid hZZ) (Lib.hid hTT) (Lib.hid hDT) (Lib.hid hRI) (Lib.hid h0) _ (Lib.hid (by rw [decide_eq_true h0]; rfl)) w
 · by_cases h1 : XY = ZT
   · exact adB p lp X Y Z T (Lib.hid hX) (Lib.hid hY) (Lib.hid hZ) (Lib.hid hT) XY ZT YY XX LE ZZ TT DT RI (Lib.hid hXY) (Lib.hid hZT) (Lib.hid hYY) (Lib.hid hXX) (Lib.hid hLE) (Lib.hid hZZ) (Lib.hid hTT) (Lib.hid hDT) (Lib.hid hRI) (Lib.hid h0) (Lib.hid (decide_eq_true h1)) _ (Lib.hid (by rw [decide_eq_false h0, decide_eq_true h1]; rfl)) w
   · exact adA p lp X Y Z T (Lib.hid hX) (Lib.hid hY) (Lib.hid hZ) (Lib.hid hT) XY ZT YY XX LE ZZ TT DT RI (Lib.hid hXY) (Lib.hid hZT) (Lib.hid hYY) (Lib.hid hXX) (Lib.hid hLE) (Lib.hid hZZ) (Lib.hid hTT) (Lib.hid hDT) (Lib.hid hRI) (Lib.hid h0) (Lib.hid (decide_eq_false h1)) _ (Lib.hid (by rw [decide_eq_false h0, decide_eq_false h1]; rfl)) w
end
section
open Go.RowKit Go.Proofs.YtbghdkmpjiffeaaDoorW.PrintLast
theorem Jv (p : Pn) (lp : p.lt) (b : Bool) (hb : p.on = b) (w : World) : Calls Tryd.prog 21 #[p.v] w fun e w' => e = .returned (.bool b) ∧ Below w.heap.size w w' := by
 subst hb
 exact aaZ p lp w
theorem adx (p : Pn) (q : Dp) (lp : p.lt) (lq : q.lt) (X Y Z : Nat) (HX : Hid (X = p.x.val % Num.p)) (HY : Hid (Y = p.y.val % Num.p)) (HZ : Hid (Z = p.z.val % Num.p)) (HO : Hid (p.on = true)) (a b : Nat) (Ha : Hid (a = X * q.z % Num.p)) (Hb : Hid (b = q.x * Z % Num.p)) (HE : Hid (decide (a = b) = false)) (w : World) (kq : q.ok w) :
 Calls Tryd.prog 15 #[p.v, q.v] w fun e w' => e = .returned (.bool false) ∧ Below w.heap.size w w' := by
 have pX := Lib.hid lp
 have Gp := Lib.hid lq
 have HQ := Lib.hid kq
 clear lp lq kq
 go_enter Tryd.func15, Tryd.ntmps15
 go_wp2_with fail
 have HQ2 := Lib.hid (HQ.out.next (pl (Below.refl _ _) : Below w.heap.size w ((w.alloc (.cells p.cA 28)).alloc (.cells #[.slice q.A (aB q.x).length q.a, .slice q.B (aB q.y).length q.b, .slice q.C (aB q.z).length q.c] 34))))
 clear HQ
 have HQ := HQ2
 clear HQ2
 refine st1 w [] 12 (ak (b := w.heap.size) ob (ak (b := w.heap.size + 1) ob (aO (pl (Below.refl _ _))))) (fun HS => ?_)
 refine tk2 0 (some 8) HS (h := ?_)
 refine tk2 1 (some 9) HS (h := ?_)
 refine tk2 3 (some 11) HS (h := ?_)
 refine tk2 4 (some 12) HS (h := ?_)
 refine tk2 6 (some 14) HS (h := ?_)
 refine tk2 7 (some 15) HS (h := ?_)
 refine dH 2 (some 10) (h := fun K hK => ?_)
 go_simp
 refine (Gg p.x X pX.out.1 HX.out _).mono ?_
 rintro e y ⟨⟨R1, r1, rfl, hr1⟩, hb⟩
 refine hK.out _ _ (HS.step hb rfl) ?_
 replace HQ := Lib.hid (HQ.out.next (bt hb))
 clear HS hb
 intro HS
 have HR1 := Lib.hid hr1
 clear hr1
 refine dH 5 (some 13) (h := fun K hK => ?_)
 go_simp
 refine (Gg p.y Y pX.out.2.1 HY.out _).mono ?_
 rintro e y ⟨⟨R2, r2, rfl, hr2⟩, hb⟩
 refine hK.out _ _ (HS.step hb rfl) ?_
 replace HQ := Lib.hid (HQ.out.next (bt hb))
 replace HR1 := Lib.hid (HR1.out.next (bt hb))
 clear HS hb
 intro HS
 have HR2 := Lib.hid hr2
 clear hr2
 refine dH 8 (some 16) (h := fun K hK => ?_)
 go_simp
 refine (Gg p.z Z pX.out.2.2.1 HZ.out _).mono ?_
 rintro e y ⟨⟨R3, r3, rfl, hr3⟩, hb⟩
 refine hK.out _ _ (HS.step hb rfl) ?_
 replace HQ := Lib.hid (HQ.out.next (bt hb))
 replace HR1 := Lib.hid (HR1.out.next (bt hb))
 replace HR2 := Lib.hid (HR2.out.next (bt hb))
 clear HS hb
 intro HS
 have HR3 := Lib.hid hr3
 clear hr3
 refine tk2 9 (some 5) HS (h := ?_)
 refine tk2 10 (some 6) HS (h := ?_)
 refine tk2 11 (some 7) HS (h := ?_)
 obtain ⟨x1, rfl, hk1, hz1, l10, nG⟩ := HS.iL
 have HB1 : Hid (Below w.heap.size w x1) := hk1.below
 clear HS hk1
 refine done_ (by kernel_rfl) ?_
 go_wp2_with fail
 refine st1 w [] 25 (ak (b := w.heap.size) ob (ak (b := w.heap.size + 1) ob (aO (pl HB1.out)))) (fun HS => ?_)
 refine tk2 0 (some 17) HS (v := p.v) (hy := by (intro v hv; obtain ⟨x, rfl, _, _, n0, n1⟩ := hv.iL; exact aG 28 (.tmp 2) rfl (w.heap.size) 0 rfl p.cL p.cA 28 ob (by kernel_rfl) (by kernel_rfl) (by kernel_rfl))) (h := ?_)
 refine dH 1 (some 18) (h := fun K hK => ?_)
 go_simp
 refine (Jv p pX.out true HO.out _).mono ?_
 rintro e y ⟨rfl, hb⟩
 refine hK.out _ _ (HS.step hb rfl) ?_
 replace HQ := Lib.hid (HQ.out.next (bt hb))
 replace HR1 := Lib.hid (HR1.out.next (bt hb))
 replace HR2 := Lib.hid (HR2.out.next (bt hb))
 replace HR3 := Lib.hid (HR3.out.next (bt hb))
 clear HS hb
 intro HS
 refine tk2 2 (some 19) HS (v := .bool true) (h := ?_)
 refine tk2 3 (some 20) HS (h := ?_)
 refine tk2 4 (some 21) HS (h := ?_)
 refine tk2 5 (some 22) HS (h := ?_)
 refine tk2 7 (some 24) HS (h := ?_)
 refine tk2 8 (some 25) HS (h := ?_)
 refine tk2 9 (some 26) HS (h := ?_)
 refine dH 6 (some 23) (h := fun K hK => ?_)
 go_simp
 refine (fQ _ _ _ _ X q.z a (iC HX.out) Gp.out.z Ha.out _ (HR1.out.next (pl (Below.refl _ _))) (HQ.out.next (pl (Below.refl _ _))).z).mono ?_
 rintro e y ⟨⟨R6, r6, rfl, Io⟩, hb⟩
 refine hK.out _ _ (HS.step hb rfl) ?_
 replace HQ := Lib.hid (HQ.out.next (bt hb))
 replace HR1 := Lib.hid (HR1.out.next (bt hb))
 replace HR2 := Lib.hid (HR2.out.next (bt hb))
 replace HR3 := Lib.hid (HR3.out.next (bt hb))
 clear HS hb
 intro HS
 have jk := Lib.hid Io
 clear Io
 refine dH 10 (some 27) (h := fun K hK => ?_)
 go_simp
 refine (fQ _ _ _ _ q.x Z b Gp.out.x (iC HZ.out) Hb.out _ (HQ.out.next (pl (Below.refl _ _))).x (HR3.out.next (pl (Below.refl _ _)))).mono ?_
 rintro e y ⟨⟨R7, r7, rfl, Ip⟩, hb⟩
 refine hK.out _ _ (HS.step hb rfl) ?_
 replace HQ := Lib.hid (HQ.out.next (bt hb))
 replace HR1 := Lib.hid (HR1.out.next (bt hb))
 replace HR2 := Lib.hid (HR2.out.next (bt hb))
 replace HR3 := Lib.hid (HR3.out.next (bt hb))
 replace jk := Lib.hid (jk.out.next (bt hb))
 clear HS hb
 intro HS
 have jQ := Lib.hid Ip
 clear Ip
 refine dH 11 (some 28) (h := fun K hK => ?_)
 go_simp
 refine (Au _ _ _ _ a b false (iC Ha.out) (iC Hb.out) HE.out _ (jk.out.next (pl (Below.refl _ _))) (jQ.out.next (pl (Below.refl _ _)))).mono ?_
 rintro e y ⟨rfl, hb⟩
 refine hK.out _ _ (HS.step hb rfl) ?_
 replace HQ := Lib.hid (HQ.out.next (bt hb))
 replace HR1 := Lib.hid (HR1.out.next (bt hb))
 replace HR2 := Lib.hid (HR2.out.next (bt hb))
 replace HR3 := Lib.hid (HR3.out.next (bt hb))
 replace jk := Lib.hid (jk.out.next (bt hb))
 replace jQ := Lib.hid (jQ.out.next (bt hb))
 clear HS hb
 intro HS
 refine tk2 12 (some 29) HS (v := .bool false) (h := ?_)
 refine tk2 13 (some 30) HS (v := .bool false) (h := ?_)
 refine uZ 14 (some 31) HS (h := ?_)
 refine uZ 15 (some 32) HS (h := ?_)
 refine uZ 16 (some 33) HS (h := ?_)
 refine uZ 17 (some 34) HS (h := ?_)
 refine uZ 18 (some 35) HS (h := ?_)
 refine uZ 19 (some 36) HS (h := ?_)
 refine uZ 20 (some 37) HS (h := ?_)
 refine uZ 21 (some 38) HS (h := ?_)
 refine uZ 22 (some 39) HS (h := ?_)
 refine tk2 23 (some 40) HS (v := .bool false) (h := ?_)
 refine tk2 24 (some 4) HS (h := ?_)
 obtain ⟨x2, rfl, hk2, hz2, kD, rQ⟩ := HS.iL
 have HB2 : Hid (Below w.heap.size w x2) := hk2.below
 clear HS hk2
 refine done_ (by kernel_rfl) ?_
 go_wp2_with fail
 exact bodyPost_ret (v := .bool false) (by simp [results, Tryd.results15, go_sem]) rfl ⟨rfl, pl HB2.out⟩
theorem ady (p : Pn) (q : Dp) (lp : p.lt) (lq : q.lt) (X Y Z : Nat) (HX : Hid (X = p.x.val % Num.p)) (HY : Hid (Y = p.y.val % Num.p)) (HZ : Hid (Z = p.z.val % Num.p)) (HO : Hid (p.on = true)) (a b : Nat) (Ha : Hid (a = X * q.z % Num.p)) (Hb : Hid (b = q.x * Z % Num.p)) (HE : Hid (decide (a = b) = true)) (c d : Nat) (Hc : Hid (c = Y * q.z % Num.p)) (Hd : Hid (d = q.y * Z % Num.p)) (r : Bool) (HF : Hid (decide (c = d) = r)) (w : World) (kq : q.ok w) :
 Calls Tryd.prog 15 #[p.v, q.v] w fun e w' => e = .returned (.bool r) ∧ Below w.heap.size w w' := by
 have pX := Lib.hid lp
 have Gp := Lib.hid lq
 have HQ := Lib.hid kq
 clear lp lq kq
 go_enter Tryd.func15, Tryd.ntmps15
 go_wp2_with fail
 have HQ2 := Lib.hid (HQ.out.next (pl (Below.refl _ _) : Below w.heap.size w ((w.alloc (.cells p.cA 28)).alloc (.cells #[.slice q.A (aB q.x).length q.a, .slice q.B (aB q.y).length q.b, .slice q.C (aB q.z).length q.c] 34))))
 clear HQ
 have HQ := HQ2
 clear HQ2
 refine st1 w [] 12 (ak (b := w.heap.size) ob (ak (b := w.heap.size + 1) ob (aO (pl (Below.refl _ _))))) (fun HS => ?_)
 refine tk2 0 (some 8) HS (h := ?_)
 refine tk2 1 (some 9) HS (h := ?_)
 refine tk2 3 (some 11) HS (h := ?_)
 refine tk2 4 (some 12) HS (h := ?_)
 refine tk2 6 (some 14) HS (h := ?_)
 refine tk2 7 (some 15) HS (h := ?_)
 refine dH 2 (some 10) (h := fun K hK => ?_)
 go_simp
 refine (Gg p.x X pX.out.1 HX.out _).mono ?_
 rintro e y ⟨⟨R1, r1, rfl, hr1⟩, hb⟩
 refine hK.out _ _ (HS.step hb rfl) ?_
 replace HQ := Lib.hid (HQ.out.next (bt hb))
 clear HS hb
 intro HS
 have HR1 := Lib.hid hr1
 clear hr1
 refine dH 5 (some 13) (h := fun K hK => ?_)
 go_simp
 refine (Gg p.y Y pX.out.2.1 HY.out _).mono ?_
 rintro e y ⟨⟨R2, r2, rfl, hr2⟩, hb⟩
 refine hK.out _ _ (HS.step hb rfl) ?_
 replace HQ := Lib.hid (HQ.out.next (bt hb))
 replace HR1 := Lib.hid (HR1.out.next (bt hb))
 clear HS hb
 intro HS
 have HR2 := Lib.hid hr2
 clear hr2
 refine dH 8 (some 16) (h := fun K hK => ?_)
 go_simp
 refine (Gg p.z Z pX.out.2.2.1 HZ.out _).mono ?_
 rintro e y ⟨⟨R3, r3, rfl, hr3⟩, hb⟩
 refine hK.out _ _ (HS.step hb rfl) ?_
 replace HQ := Lib.hid (HQ.out.next (bt hb))
 replace HR1 := Lib.hid (HR1.out.next (bt hb))
 replace HR2 := Lib.hid (HR2.out.next (bt hb))
 clear HS hb
 intro HS
 have HR3 := Lib.hid hr3
 clear hr3
 refine tk2 9 (some 5) HS (h := ?_)
 refine tk2 10 (some 6) HS (h := ?_)
 refine tk2 11 (some 7) HS (h := ?_)
 obtain ⟨x1, rfl, hk1, hz1, l10, nG⟩ := HS.iL
 have HB1 : Hid (Below w.heap.size w x1) := hk1.below
 clear HS hk1
 refine done_ (by kernel_rfl) ?_
 go_wp2_with fail
 refine st1 w [] 25 (ak (b := w.heap.size) ob (ak (b := w.heap.size + 1) ob (aO (pl HB1.out)))) (fun HS => ?_)
 refine tk2 0 (some 17) HS (v := p.v) (hy := by (intro v hv; obtain ⟨x, rfl, _, _, n0, n1⟩ := hv.iL; exact aG 28 (.tmp 2) rfl (w.heap.size) 0 rfl p.cL p.cA 28 ob (by kernel_rfl) (by kernel_rfl) (by kernel_rfl))) (h := ?_)
 refine dH 1 (some 18) (h := fun K hK => ?_)
 go_simp
 refine (Jv p pX.out true HO.out _).mono ?_
 rintro e y ⟨rfl, hb⟩
 refine hK.out _ _ (HS.step hb rfl) ?_
 replace HQ := Lib.hid (HQ.out.next (bt hb))
 replace HR1 := Lib.hid (HR1.out.next (bt hb))
 replace HR2 := Lib.hid (HR2.out.next (bt hb))
 replace HR3 := Lib.hid (HR3.out.next (bt hb))
 clear HS hb
 intro HS
 refine tk2 2 (some 19) HS (v := .bool true) (h := ?_)
 refine tk2 3 (some 20) HS (h := ?_)
 refine tk2 4 (some 21) HS (h := ?_)
 refine tk2 5 (some 22) HS (h := ?_)
 refine tk2 7 (some 24) HS (h := ?_)
 refine tk2 8 (some 25) HS (h := ?_)
 refine tk2 9 (some 26) HS (h := ?_)
 refine dH 6 (some 23) (h := fun K hK => ?_)
 go_simp
 refine (fQ _ _ _ _ X q.z a (iC HX.out) Gp.out.z Ha.out _ (HR1.out.next (pl (Below.refl _ _))) (HQ.out.next (pl (Below.refl _ _))).z).mono ?_
 rintro e y ⟨⟨R6, r6, rfl, Io⟩, hb⟩
 refine hK.out _ _ (HS.step hb rfl) ?_
 replace HQ := Lib.hid (HQ.out.next (bt hb))
 replace HR1 := Lib.hid (HR1.out.next (bt hb))
 replace HR2 := Lib.hid (HR2.out.next (bt hb))
 replace HR3 := Lib.hid (HR3.out.next (bt hb))
 clear HS hb
 intro HS
 have jk := Lib.hid Io
 clear Io
 refine dH 10 (some 27) (h := fun K hK => ?_)
 go_simp
 refine (fQ _ _ _ _ q.x Z b Gp.out.x (iC HZ.out) Hb.out _ (HQ.out.next (pl (Below.refl _ _))).x (HR3.out.next (pl (Below.refl _ _)))).mono ?_
 rintro e y ⟨⟨R7, r7, rfl, Ip⟩, hb⟩
 refine hK.out _ _ (HS.step hb rfl) ?_
 replace HQ := Lib.hid (HQ.out.next (bt hb))
 replace HR1 := Lib.hid (HR1.out.next (bt hb))
 replace HR2 := Lib.hid (HR2.out.next (bt hb))
 replace HR3 := Lib.hid (HR3.out.next (bt hb))
 replace jk := Lib.hid (jk.out.next (bt hb))
 clear HS hb
 intro HS
 have jQ := Lib.hid Ip
 clear Ip
 refine dH 11 (some 28) (h := fun K hK => ?_)
 go_simp
 refine (Au _ _ _ _ a b true (iC Ha.out) (iC Hb.out) HE.out _ (jk.out.next (pl (Below.refl _ _))) (jQ.out.next (pl (Below.refl _ _)))).mono ?_
 rintro e y ⟨rfl, hb⟩
 refine hK.out _ _ (HS.step hb rfl) ?_
 replace HQ := Lib.hid (HQ.out.next (bt hb))
 replace HR1 := Lib.hid (HR1.out.next (bt hb))
 replace HR2 := Lib.hid (HR2.out.next (bt hb))
 replace HR3 := Lib.hid (HR3.out.next (bt hb))
 replace jk := Lib.hid (jk.out.next (bt hb))
 replace jQ := Lib.hid (jQ.out.next (bt hb))
 clear HS hb
 intro HS
 refine tk2 12 (some 29) HS (v := .bool true) (h := ?_)
 refine tk2 13 (some 30) HS (v := .bool true) (h := ?_)
 refine tk2 14 (some 31) HS (h := ?_)
 refine tk2 15 (some 32) HS (h := ?_)
 refine tk2 16 (some 33) HS (h := ?_)
 refine tk2 18 (some 35) HS (h := ?_)
 refine tk2 19 (some 36) HS (h := ?_)
 refine tk2 20 (some 37) HS (h := ?_)
 refine dH 17 (some 34) (h := fun K hK => ?_)
 go_simp
 refine (fQ _ _ _ _ Y q.z c (iC HY.out) Gp.out.z Hc.out _ (HR2.out.next (pl (Below.refl _ _))) (HQ.out.next (pl (Below.refl _ _))).z).mono ?_
 rintro e y ⟨⟨R8, r8, rfl, ZE⟩, hb⟩
 refine hK.out _ _ (HS.step hb rfl) ?_
 replace HQ := Lib.hid (HQ.out.next (bt hb))
 replace HR1 := Lib.hid (HR1.out.next (bt hb))
 replace HR2 := Lib.hid (HR2.out.next (bt hb))
 replace HR3 := Lib.hid (HR3.out.next (bt hb))
 replace jk := Lib.hid (jk.out.next (bt hb))
 replace jQ := Lib.hid (jQ.out.next (bt hb))
 clear HS hb
 intro HS
 have ny := Lib.hid ZE
 clear ZE
 refine dH 21 (some 38) (h := fun K hK => ?_)
 go_simp
 refine (fQ _ _ _ _ q.y Z d Gp.out.y (iC HZ.out) Hd.out _ (HQ.out.next (pl (Below.refl _ _))).y (HR3.out.next (pl (Below.refl _ _)))).mono ?_
 rintro e y ⟨⟨R9, r9, rfl, ZF⟩, hb⟩
 refine hK.out _ _ (HS.step hb rfl) ?_
 replace HQ := Lib.hid (HQ.out.next (bt hb))
 replace HR1 := Lib.hid (HR1.out.next (bt hb))
 replace HR2 := Lib.hid (HR2.out.next (bt hb))
 replace HR3 := Lib.hid (HR3.out.next (bt hb))
 replace jk := Lib.hid (jk.out.next (bt hb))
 replace jQ := Lib.hid (jQ.out.next (bt hb))
 replace ny := Lib.hid (ny.out.next (bt hb))
 clear HS hb
 intro HS
 have wu := Lib.hid ZF
 clear ZF
 refine dH 22 (some 39) (h := fun K hK => ?_)
 go_simp
 refine (Au _ _ _ _ c d r (iC Hc.out) (iC Hd.out) HF.out _ (ny.out.next (pl (Below.refl _ _))) (wu.out.next (pl (Below.refl _ _)))).mono ?_
 rintro e y ⟨rfl, hb⟩
 refine hK.out _ _ (HS.step hb rfl) ?_
 replace HQ := Lib.hid (HQ.out.next (bt hb))
 replace HR1 := Lib.hid (HR1.out.next (bt hb))
 replace HR2 := Lib.hid (HR2.out.next (bt hb))
 replace HR3 := Lib.hid (HR3.out.next (bt hb))
 replace jk := Lib.hid (jk.out.next (bt hb))
 replace jQ := Lib.hid (jQ.out.next (bt hb))
 replace ny := Lib.hid (ny.out.next (bt hb))
 replace wu := Lib.hid (wu.out.next (bt hb))
 clear HS hb
 intro HS
 refine tk2 23 (some 40) HS (v := .bool r) (h := ?_)
 refine tk2 24 (some 4) HS (h := ?_)
 obtain ⟨x2, rfl, hk2, hz2, kD, rQ⟩ := HS.iL
 have HB2 : Hid (Below w.heap.size w x2) := hk2.below
 clear HS hk2
 refine done_ (by kernel_rfl) ?_
 go_wp2_with fail
 exact bodyPost_ret (v := .bool r) (by simp [results, Tryd.results15, go_sem]) rfl ⟨rfl, pl HB2.out⟩
end
section
open Go.RowKit Go.Proofs.YtbghdkmpjiffeaaDoorW.PrintLast
theorem vC (p : Pn) (q : Dp) (P Q : EP) (hp : p.of P) (hq : q.of Q) (r : Bool) (hr : r = true ↔ P = Q) (w : World) (kq : q.ok w) : Calls Tryd.prog 15 #[p.v, q.v] w fun e w' => e = .returned (.bool r) ∧ Below w.heap.size w w' := by
 have hs := MH P Q hp.2.co3 hq.2
 have hon := hp.on
 obtain ⟨X, hX⟩ : ∃ z, z = p.x.val % Num.p := ⟨_, rfl⟩
 obtain ⟨Y, hY⟩ : ∃ z, z = p.y.val % Num.p := ⟨_, rfl⟩
 obtain ⟨Z, hZ⟩ : ∃ z, z = p.z.val % Num.p := ⟨_, rfl⟩
 obtain ⟨a, ha⟩ : ∃ z, z = X * q.z % Num.p := ⟨_, rfl⟩
 obtain ⟨b, hb⟩ : ∃ z, z = q.x * Z % Num.p := ⟨_, rfl⟩
 obtain ⟨c, hc⟩ : ∃ z, z = Y * q.z % Num.p := ⟨_, rfl⟩
 obtain ⟨d, hd⟩ : ∃ z, z = q.y * Z % Num.p := ⟨_, rfl⟩
 have fX : fe X = fe p.x.val := by rw [hX, dA]
 have fY : fe Y = fe p.y.val := by rw [hY, dA]
 have fZ : fe Z = fe p.z.val := by rw [hZ, dA]
 have e1 : decide (a = b) = decide (fe p.x.val * fe q.z = fe q.x * fe p.z.val) := dec_lt (iC ha) (iC hb) (by rw [ha, dA, aS, fX]) (by rw [hb, dA, aS, fZ])
 have e2 : decide (c = d) = decide (fe p.y.val * fe q.z = fe q.y * fe p.z.val) := dec_lt (iC hc) (iC hd) (by rw [hc, dA, aS, fY]) (by rw [hd, dA, aS, fZ])
 by_cases hx : fe p.x.val * fe q.z = fe q.x * fe p.z.val
 · rw [decide_eq_true hx] at e1
   have e3 : decide (fe p.y.val * fe q.z = fe q.y * fe p.z.val) = r := by
    by_cases hy : fe p.y.val * fe q.z = fe q.y * fe p.z.val
    · rw [decide_eq_true hy, hr.mpr (hs.mp ⟨hx, hy⟩)]
    · rw [decide_eq_false hy]
      cases r with
      | true => exact absurd (hs.mpr (hr.mp rfl)).2 hy
      | false => rfl
   exact ady p q hp.1 hq.1 X Y Z (Lib.hid hX) (Lib.hid hY) (Lib.hid hZ) (Lib.hid hon) a b (Lib.hid ha) (Lib.hid hb) (Lib.hid e1) c d (Lib.hid hc) (Lib.hid hd) r (Lib.hid (e2.trans e3)) w kq
 · rw [decide_eq_false hx] at e1
   have e3 : r = false := by
    cases r with
    | true => exact absurd (hs.mpr (hr.mp rfl)).1 hx
    | false => rfl
   rw [e3]
   exact adx p q hp.1 hq.1 X Y Z (Lib.hid hX) (Lib.hid hY) (Lib.hid hZ) (Lib.hid hon) a b (Lib.hid ha) (Lib.hid hb) (Lib.hid e1) w kq
end
end Go.Proofs.YtbghdkmpjiffeaaDoor
