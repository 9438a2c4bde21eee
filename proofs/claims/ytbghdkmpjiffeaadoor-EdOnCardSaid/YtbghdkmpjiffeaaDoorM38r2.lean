/-
  Shared, part 38r2: walks and plain laws; each theorem states its own conditions.
-/
import Derived.Test.YtbghdkmpjiffeaaDoorM37r2356
import Derived.Test.YtbghdkmpjiffeaaDoorM39r1235
namespace Go.Proofs.YtbghdkmpjiffeaaDoor
set_option linter.unusedSimpArgs false
set_option linter.unusedVariables false
set_option maxRecDepth 100000
set_option maxHeartbeats 8000000
section
open Go.RowKit Go.Proofs.YtbghdkmpjiffeaaDoorW.PrintLast
theorem ads (A B : Option Addr) (c d L M X Y Z : Nat) (hL : (aB X).length = L) (hM : (aB Y).length = M) (hx : X < Num.p) (hy : Y < Num.p) (hz : Z = X * Y % Num.p) (w : World) (hX : Dn w A c X) (hY : Dn w B d Y) : Calls Tryd.prog 53 #[.slice A L c, .slice B M d] w fun e w' => (∃ A' c', e = .returned (.slice A' (aB Z).length c') ∧ Dn w' A' c' Z) ∧ Below w.heap.size w w' := by
 subst hL hM
 exact fQ A B c d X Y Z hx hy hz w hX hY
theorem Jq (A B : Option Addr) (c d L M X Y : Nat) (b : Bool) (hL : (aB X).length = L) (hM : (aB Y).length = M) (hx : X < Num.p) (hy : Y < Num.p) (hb : decide (X = Y) = b) (w : World) (hX : Dn w A c X) (hY : Dn w B d Y) : Calls Tryd.prog 52 #[.slice A L c, .slice B M d] w fun e w' => e = .returned (.bool b) ∧ Below w.heap.size w w' := by
 subst hL hM
 exact Au A B c d X Y b hx hy hb w hX hY
theorem EW {w : World} {g n : Nat} {l : List Nat} {t : TypeId} (hn : aB n = l) (h : w.heap[g]? = some (.cells (l.map fun x => Value.int .u64 ((x : Nat) : Int)).toArray t)) : Dn w (some ⟨g, 0, none⟩) l.length n := by
 refine ⟨?_, by rw [hn]; exact Nat.le_refl _⟩
 rw [hn]
 exact jC h (fun i hi => by simp [hi])
theorem adN : aB 121666 = [56130, 1] := by
 have h := kW [56130, 1] (by decide) (by decide)
 have e : oC [56130, 1] = 121666 := by decide
 rw [e] at h
 exact h
theorem adO : aB 121665 = [56129, 1] := by
 have h := kW [56129, 1] (by decide) (by decide)
 have e : oC [56129, 1] = 121665 := by decide
 rw [e] at h
 exact h
theorem adM : aB 5 = [5] := by
 have h := kW [5] (by decide) (by decide)
 have e : oC [5] = 5 := by decide
 rw [e] at h
 exact h
theorem adL : aB 4 = [4] := by
 have h := kW [4] (by decide) (by decide)
 have e : oC [4] = 4 := by decide
 rw [e] at h
 exact h
theorem aaP : iZ.x.val = fF := by decide +kernel
theorem aaQ : iZ.y.val = dQ := by decide +kernel
theorem Qi {n m : Nat} (ex : yt n m HP) : cO n m (dU dQ) (dV dQ) ∧ dS n m (dU dQ) (dV dQ) % Num.p = fF := by
 have h := sN ex iZ
 have hl := AY iZ
 obtain ⟨N, hN⟩ : ∃ N, N = sV iZ := ⟨_, rfl⟩
 obtain ⟨D, hD⟩ : ∃ D, D = 2 ^ 255 := ⟨_, rfl⟩
 unfold sK sO at h
 rw [← hN, ← hD] at h hl
 rw [hl.1, hl.2, aaP, aaQ, if_neg (by decide)] at h
 exact ⟨h.1.2.1, h.2⟩
theorem SE (A : Option Addr) (c : Nat) (w : World) (hY : Dn w A c dQ) : Calls Tryd.prog 49 #[.slice A 16 c, .bool false] w fun e w' => (∃ o : Dp, e = .returned (.tuple #[o.v, .bool true]) ∧ o.ok w' ∧ o.x = fF) ∧ Below w.heap.size w w' := by
 have h := GX A c dQ ab7 false _ _ wM _ _ _ _ (Lib.hid rfl) (Lib.hid rfl) (Lib.hid rfl) (Lib.hid rfl) w hY
 rw [show (aB dQ).length = 16 by rw [G9]; rfl] at h
 refine h.mono ?_
 rintro e w' ⟨⟨r, ok, hr, hok, WB, hif⟩, hb⟩
 refine ⟨?_, hb⟩
 have TI := oL (n := bW (iq 253 15)) (m := bW (iq 251 31)) (XF dQ) (XG dQ)
 rw [tN (n := bW (iq 253 15)) (m := bW (iq 251 31)) (XF dQ) (XG dQ)] at WB
 have hB := Qi wM
 have hk : ok = true := by rw [hok]; exact decide_eq_true (TI.1.mpr hB.1)
 have hx : r = fF := by
  have h1 := yU WB
  rw [hB.2, Nat.mod_eq_of_lt hr] at h1
  exact h1
 rw [if_pos ⟨hk, fun h => absurd h.1 (by decide)⟩] at hif
 obtain ⟨o, he, hoo, h1, _⟩ := hif
 exact ⟨o, he, hoo, by rw [h1, if_neg (by decide), hx]⟩
theorem fx1 : dN * 121666 % Num.p = (Num.p - 121665) % Num.p := by decide +kernel
theorem fx2 : dQ * 5 % Num.p = 4 := by decide +kernel
theorem Yr (n : Nat) (h : n ≤ 121666) : n < Num.p := Nat.lt_of_le_of_lt h (by decide)
theorem afI {w : World} {gx : Nat} (h : Dn w (some ⟨gx, 0, none⟩) 16 fF) : w.cell? ⟨gx, 0, none⟩ = some (.int .u64 54554) := by
 have h1 := h.1
 rw [G8] at h1
 obtain ⟨b, off, e, hc⟩ := h1 0 (by decide)
 simp only [Option.some.injEq, Addr.mk.injEq] at e
 obtain ⟨rfl, rfl, _⟩ := e
 exact hc
theorem Tz (w : World) :
 Calls Tryd.prog 20 #[] w fun e w' => e = .returned (.bool true) ∧ Below w.heap.size w w' := by
 go_enter Tryd.func20, Tryd.ntmps20
 go_wp2_with fail
 refine (D6 _).mono ?_
 rintro e x1 ⟨⟨gx, gy, gz, rfl, hbx, hby, hbz⟩, hb1⟩
 have HB1 : Hid (Below w.heap.size w x1) := Below.trans (pl (Below.refl _ _)) (hb1.mono sz)
 have hz1 := HB1.out.size
 clear hb1
 have HX : Hid (Dn x1 (some ⟨gx, 0, none⟩) 16 fF) := Lib.hid (IB G8 rfl hbx)
 have HY : Hid (Dn x1 (some ⟨gy, 0, none⟩) 16 dQ) := Lib.hid (IB G9 rfl hby)
 clear hbx hby hbz
 go_wp2_with fail
 refine (SE _ _ _ (HY.out.next (pl (Below.refl _ _)))).mono ?_
 rintro e y2 ⟨⟨o, rfl, hok, hox⟩, hb2⟩
 replace HX := Lib.hid (HX.out.next (bt hb2))
 replace HY := Lib.hid (HY.out.next (bt hb2))
 obtain ⟨x2, rfl, hc2, hz2, kD⟩ := bQ (b := x1.heap.size) hb2 rfl ob
 have HB2 := aZ HB1.out hc2
 clear hb2 hc2
 try simp only [bF] at hz2
 have HO := Lib.hid hok
 have HOX := Lib.hid hox
 clear hok hox
 go_wp2_with fail
 refine (D7 _).mono ?_
 rintro e y3 ⟨⟨RD, rd, rfl, hrd⟩, hb3⟩
 replace HX := Lib.hid (HX.out.next (bt hb3))
 replace HY := Lib.hid (HY.out.next (bt hb3))
 replace HO := Lib.hid (HO.out.next (bt hb3))
 obtain ⟨x3, rfl, hc3, hz3, nN, uq⟩ := fO (b0 := x1.heap.size) (b1 := x2.heap.size) hb3 rfl ob ob
 have HB3 := aZ HB2.out hc3
 clear hb3 hc3
 try simp only [bF] at hz3
 have fM := Lib.hid hrd
 clear hrd
 obtain ⟨LD, hLD⟩ : ∃ z, z = (aB dN).length := ⟨_, rfl⟩
 rw [← hLD]
 have HLD := Lib.hid hLD
 clear hLD
 go_wp2_with fail
 obtain ⟨za, hza⟩ : ∃ z, z = dN * 121666 % Num.p := ⟨_, rfl⟩
 have HZA := Lib.hid hza
 obtain ⟨zb, hzb⟩ : ∃ z, z = (Num.p - 121665) % Num.p := ⟨_, rfl⟩
 have HZB := Lib.hid hzb
 obtain ⟨zc, hzc⟩ : ∃ z, z = dQ * 5 % Num.p := ⟨_, rfl⟩
 have HZC := Lib.hid hzc
 clear hza hzb hzc
 refine (ads RD (some ⟨x3.heap.size, 0, none⟩) rd 2 LD 2 dN 121666 za HLD.out.symm (by rw [adN]; rfl) (by decide) (Yr _ (by decide)) HZA.out _ (fM.out.next (pl (Below.refl _ _))) (EW adN (show _ = some (.cells #[.int .u64 56130, .int .u64 1] 24) from ob))).mono ?_
 rintro e y4 ⟨⟨R4, r4, rfl, hr4⟩, hb4⟩
 replace HX := Lib.hid (HX.out.next (bt hb4))
 replace HY := Lib.hid (HY.out.next (bt hb4))
 replace HO := Lib.hid (HO.out.next (bt hb4))
 replace fM := Lib.hid (fM.out.next (bt hb4))
 obtain ⟨x4, rfl, hc4, lT, rU, yL⟩ := fO (b0 := x1.heap.size) (b1 := x2.heap.size) hb4 rfl ob ob
 have HB4 := aZ HB3.out hc4
 clear hb4 hc4
 try simp only [bF] at lT
 have HR4 := Lib.hid hr4
 clear hr4
 obtain ⟨L4, hL4⟩ : ∃ z, z = (aB za).length := ⟨_, rfl⟩
 rw [← hL4]
 have HL4 := Lib.hid hL4
 clear hL4
 go_wp2_with fail
 refine (Rj (some ⟨x4.heap.size, 0, none⟩) 2 121665 zb 2 (Yr _ (by decide)) (by rw [adO]; rfl) HZB.out _ (EW adO (show _ = some (.cells #[.int .u64 56129, .int .u64 1] 24) from ob))).mono ?_
 rintro e y5 ⟨⟨R5, r5, rfl, Nl⟩, hb5⟩
 replace HX := Lib.hid (HX.out.next (bt hb5))
 replace HY := Lib.hid (HY.out.next (bt hb5))
 replace HO := Lib.hid (HO.out.next (bt hb5))
 replace HR4 := Lib.hid (HR4.out.next (bt hb5))
 obtain ⟨x5, rfl, hc5, rP, Ae, l51⟩ := fO (b0 := x1.heap.size) (b1 := x2.heap.size) hb5 rfl ob ob
 have kR := aZ HB4.out hc5
 clear hb5 hc5
 try simp only [bF] at rP
 have jG := Lib.hid Nl
 clear Nl
 obtain ⟨L5, hL5⟩ : ∃ z, z = (aB zb).length := ⟨_, rfl⟩
 rw [← hL5]
 have HL5 := Lib.hid hL5
 clear hL5
 go_wp2_with fail
 refine (Jq R4 R5 r4 r5 L4 L5 za zb true HL4.out.symm HL5.out.symm (iC HZA.out) (iC HZB.out) (decide_eq_true (by rw [HZA.out, HZB.out]; exact fx1)) _ (HR4.out.next (pl (Below.refl _ _))) (jG.out.next (pl (Below.refl _ _)))).mono ?_
 rintro e y6 ⟨rfl, hb6⟩
 replace HX := Lib.hid (HX.out.next (bt hb6))
 replace HY := Lib.hid (HY.out.next (bt hb6))
 replace HO := Lib.hid (HO.out.next (bt hb6))
 replace HR4 := Lib.hid (HR4.out.next (bt hb6))
 replace jG := Lib.hid (jG.out.next (bt hb6))
 obtain ⟨x6, rfl, hc6, yH, Gj, Jk⟩ := fO (b0 := x1.heap.size) (b1 := x2.heap.size) hb6 rfl ob ob
 have mg := aZ kR.out hc6
 clear hb6 hc6
 try simp only [bF] at yH
 go_wp2_with fail
 refine (ads (some ⟨gy, 0, none⟩) (some ⟨x6.heap.size, 0, none⟩) 16 1 16 1 dQ 5 zc (by rw [G9]; rfl) (by rw [adM]; rfl) ab7 (Yr _ (by decide)) HZC.out _ (HY.out.next (pl (Below.refl _ _))) (EW adM (show _ = some (.cells #[.int .u64 5] 24) from ob))).mono ?_
 rintro e y7 ⟨⟨R7, r7, rfl, Ip⟩, hb7⟩
 replace HX := Lib.hid (HX.out.next (bt hb7))
 replace HY := Lib.hid (HY.out.next (bt hb7))
 replace HO := Lib.hid (HO.out.next (bt hb7))
 obtain ⟨x7, rfl, Ef, Ac, KA, Pz⟩ := fO (b0 := x1.heap.size) (b1 := x2.heap.size) hb7 rfl ob ob
 have oW := aZ mg.out Ef
 clear hb7 Ef
 try simp only [bF] at Ac
 have jQ := Lib.hid Ip
 clear Ip
 obtain ⟨L7, hL7⟩ : ∃ z, z = (aB zc).length := ⟨_, rfl⟩
 rw [← hL7]
 have HL7 := Lib.hid hL7
 clear hL7
 go_wp2_with fail
 refine (Jq R7 (some ⟨x7.heap.size, 0, none⟩) r7 1 L7 1 zc 4 true HL7.out.symm (by rw [adL]; rfl) (iC HZC.out) (Yr _ (by decide)) (decide_eq_true (by rw [HZC.out]; exact fx2)) _ (jQ.out.next (pl (Below.refl _ _))) (EW adL (show _ = some (.cells #[.int .u64 4] 24) from ob))).mono ?_
 rintro e y8 ⟨rfl, hb8⟩
 replace HX := Lib.hid (HX.out.next (bt hb8))
 replace HY := Lib.hid (HY.out.next (bt hb8))
 replace HO := Lib.hid (HO.out.next (bt hb8))
 replace jQ := Lib.hid (jQ.out.next (bt hb8))
 obtain ⟨x8, rfl, hc8, Di, PD, QK⟩ := fO (b0 := x1.heap.size) (b1 := x2.heap.size) hb8 rfl ob ob
 have ru := aZ oW.out hc8
 clear hb8 hc8
 try simp only [bF] at Di
 go_wp2_with fail
 refine (Jq o.A (some ⟨gx, 0, none⟩) o.a 16 (aB o.x).length 16 o.x fF true rfl (by rw [G8]; rfl) (by rw [HOX.out]; exact ab6) ab6 (decide_eq_true HOX.out) _ (HO.out.next (pl (Below.refl _ _))).x (HX.out.next (pl (Below.refl _ _)))).mono ?_
 rintro e y9 ⟨rfl, kP⟩
 replace HX := Lib.hid (HX.out.next (bt kP))
 replace HO := Lib.hid (HO.out.next (bt kP))
 obtain ⟨x9, rfl, Ib, Fj, WG, Yi⟩ := fO (b0 := x1.heap.size) (b1 := x2.heap.size) kP rfl ob ob
 have pW := aZ ru.out Ib
 clear kP Ib
 try simp only [bF] at Fj
 have hcx := afI HX.out
 go_wp2_with fail
 go_ret
 exact ⟨rfl, (pl pW.out)⟩
end
end Go.Proofs.YtbghdkmpjiffeaaDoor
