/-
 The statement EdGroup.
-/
import Derived.Test.YtbghdkmpjiffeaaDoorCards
import Derived.Test.YtbghdkmpjiffeaaDoorTie
import Derived.Test.YtbghdkmpjiffeaaDoorM40r2356
import Derived.SevenTiedAt
namespace Go.Proofs.YtbghdkmpjiffeaaDoor
open Go.RowKit Go.ChangeShapes Go.WideShapes Go.ChangeAt Go.Proofs.YtbghdkmpjiffeaaDoorW.PrintLast
set_option linter.unusedSimpArgs false
set_option linter.unusedVariables false
set_option maxRecDepth 100000 in
set_option maxHeartbeats 8000000 in
theorem KE (A0 : Option Addr) (c0 : Nat) (bV : List Nat) (jq : ∀ b ∈ bV, b < 256) (jv : bV.length ≤ c0) (kZ : c0 ≤ maxLen) (A1 : Option Addr) (c1 : Nat) (dM : List Nat) (jH : ∀ b ∈ dM, b < 256) (jK : dM.length ≤ c1) (lW : c1 ≤ maxLen) (A2 : Option Addr) (c2 : Nat) (gQ : List Nat) (oQ : ∀ b ∈ gQ, b < 256) (oU : gQ.length ≤ c2) (sJ : c2 ≤ maxLen) (hl : 100 < bV.length) (w : World) (jA : Rd w .u8 A0 bV) (jO : Rd w .u8 A1 dM) (oV : Rd w .u8 A2 gQ) (h5 : uU w) :
 Calls Tryd.prog 8 #[.slice A0 bV.length c0, .slice A1 dM.length c1, .slice A2 gQ.length c2] w fun e w' => e = .returned (.bool true) ∧ Below w.heap.size w w' := by
 have HE := Lib.hid h5
 clear h5
 have HR0 := Lib.hid jA
 have au := Lib.hid (And.intro jv jq)
 clear jA jv jq kZ
 have HR1 := Lib.hid jO
 have aH := Lib.hid (And.intro jK jH)
 clear jO jK jH lW
 have HR2 := Lib.hid oV
 have aT := Lib.hid (And.intro oU oQ)
 clear oV oU oQ sJ
 have hI0 : (100 : Int) < (bV.length : Int) := by omega
 have hK0 : decide (100 < bV.length) = true := decide_eq_true (by omega)
 go_enter Tryd.func8, Tryd.ntmps8
 go_wp2_with fail
 refine (fJ _ (HE.out.next (pl (Below.refl _ _)))).mono ?_
 rintro e x1 ⟨rfl, hb1⟩
 have HB1 : Hid (Below w.heap.size w x1) := Below.trans (pl (Below.refl _ _)) (hb1.mono sz)
 have hz1 := HB1.out.size
 clear hb1
 go_wp2_with fail
 go_ret
 exact ⟨rfl, (pl HB1.out)⟩
set_option maxRecDepth 100000 in
set_option maxHeartbeats 8000000 in
theorem KF (A0 : Option Addr) (c0 : Nat) (bV : List Nat) (jq : ∀ b ∈ bV, b < 256) (jv : bV.length ≤ c0) (kZ : c0 ≤ maxLen) (A1 : Option Addr) (c1 : Nat) (dM : List Nat) (jH : ∀ b ∈ dM, b < 256) (jK : dM.length ≤ c1) (lW : c1 ≤ maxLen) (A2 : Option Addr) (c2 : Nat) (gQ : List Nat) (oQ : ∀ b ∈ gQ, b < 256) (oU : gQ.length ≤ c2) (sJ : c2 ≤ maxLen) (hl : bV.length ≤ 100) (hm : 100 < dM.length) (w : World) (jA : Rd w .u8 A0 bV) (jO : Rd w .u8 A1 dM) (oV : Rd w .u8 A2 gQ) (h5 : uU w) :
 Calls Tryd.prog 8 #[.slice A0 bV.length c0, .slice A1 dM.length c1, .slice A2 gQ.length c2] w fun e w' => e = .returned (.bool true) ∧ Below w.heap.size w w' := by
 have HE := Lib.hid h5
 clear h5
 have HR0 := Lib.hid jA
 have au := Lib.hid (And.intro jv jq)
 clear jA jv jq kZ
 have HR1 := Lib.hid jO
 have aH := Lib.hid (And.intro jK jH)
 clear jO jK jH lW
 have HR2 := Lib.hid oV
 have aT := Lib.hid (And.intro oU oQ)
 clear oV oU oQ sJ
 have hI0 : ((100 : Int) < (bV.length : Int)) = False := eq_false (by omega)
 have hK0 : decide (100 < bV.length) = false := decide_eq_false (by omega)
 have hI1 : (100 : Int) < (dM.length : Int) := by omega
 have hK1 : decide (100 < dM.length) = true := decide_eq_true (by omega)
 go_enter Tryd.func8, Tryd.ntmps8
 go_wp2_with fail
 refine (fJ _ (HE.out.next (pl (Below.refl _ _)))).mono ?_
 rintro e x1 ⟨rfl, hb1⟩
 have HB1 : Hid (Below w.heap.size w x1) := Below.trans (pl (Below.refl _ _)) (hb1.mono sz)
 have hz1 := HB1.out.size
 clear hb1
 go_wp2_with fail
 go_ret
 exact ⟨rfl, (pl HB1.out)⟩
set_option maxRecDepth 100000 in
set_option maxHeartbeats 8000000 in
theorem KG (A0 : Option Addr) (c0 : Nat) (bV : List Nat) (jq : ∀ b ∈ bV, b < 256) (jv : bV.length ≤ c0) (kZ : c0 ≤ maxLen) (A1 : Option Addr) (c1 : Nat) (dM : List Nat) (jH : ∀ b ∈ dM, b < 256) (jK : dM.length ≤ c1) (lW : c1 ≤ maxLen) (A2 : Option Addr) (c2 : Nat) (gQ : List Nat) (oQ : ∀ b ∈ gQ, b < 256) (oU : gQ.length ≤ c2) (sJ : c2 ≤ maxLen) (hl : bV.length ≤ 100) (hm : dM.length ≤ 100) (hn : 100 < gQ.length) (w : World) (jA : Rd w .u8 A0 bV) (jO : Rd w .u8 A1 dM) (oV : Rd w .u8 A2 gQ) (h5 : uU w) :
 Calls Tryd.prog 8 #[.slice A0 bV.length c0, .slice A1 dM.length c1, .slice A2 gQ.length c2] w fun e w' => e = .returned (.bool true) ∧ Below w.heap.size w w' := by
 have HE := Lib.hid h5
 clear h5
 have HR0 := Lib.hid jA
 have au := Lib.hid (And.intro jv jq)
 clear jA jv jq kZ
 have HR1 := Lib.hid jO
 have aH := Lib.hid (And.intro jK jH)
 clear jO jK jH lW
 have HR2 := Lib.hid oV
 have aT := Lib.hid (And.intro oU oQ)
 clear oV oU oQ sJ
 have hI0 : ((100 : Int) < (bV.length : Int)) = False := eq_false (by omega)
 have hK0 : decide (100 < bV.length) = false := decide_eq_false (by omega)
 have hI1 : ((100 : Int) < (dM.length : Int)) = False := eq_false (by omega)
 have hK1 : decide (100 < dM.length) = false := decide_eq_false (by omega)
 have hI2 : (100 : Int) < (gQ.length : Int) := by omega
 have hK2 : decide (100 < gQ.length) = true := decide_eq_true (by omega)
 go_enter Tryd.func8, Tryd.ntmps8
 go_wp2_with fail
 refine (fJ _ (HE.out.next (pl (Below.refl _ _)))).mono ?_
 rintro e x1 ⟨rfl, hb1⟩
 have HB1 : Hid (Below w.heap.size w x1) := Below.trans (pl (Below.refl _ _)) (hb1.mono sz)
 have hz1 := HB1.out.size
 clear hb1
 go_wp2_with fail
 go_ret
 exact ⟨rfl, (pl HB1.out)⟩
set_option maxRecDepth 100000 in
set_option maxHeartbeats 8000000 in
theorem KH (A0 : Option Addr) (c0 : Nat) (bV : List Nat) (jq : ∀ b ∈ bV, b < 256) (jv : bV.length ≤ c0) (kZ : c0 ≤ maxLen) (A1 : Option Addr) (c1 : Nat) (dM : List Nat) (jH : ∀ b ∈ dM, b < 256) (jK : dM.length ≤ c1) (lW : c1 ≤ maxLen) (A2 : Option Addr) (c2 : Nat) (gQ : List Nat) (oQ : ∀ b ∈ gQ, b < 256) (oU : gQ.length ≤ c2) (sJ : c2 ≤ maxLen) (hl : bV.length ≤ 100 ∧ dM.length ≤ 100 ∧ gQ.length ≤ 100) (w : World) (jA : Rd w .u8 A0 bV) (jO : Rd w .u8 A1 dM) (oV : Rd w .u8 A2 gQ) (h5 : uU w) :
 Calls Tryd.prog 8 #[.slice A0 bV.length c0, .slice A1 dM.length c1, .slice A2 gQ.length c2] w fun e w' => e = .returned (.bool true) ∧ Below w.heap.size w w' := by
 have HE := Lib.hid h5
 clear h5
 have HR0 := Lib.hid jA
 have au := Lib.hid (And.intro jv jq)
 clear jA jv jq kZ
 have HR1 := Lib.hid jO
 have aH := Lib.hid (And.intro jK jH)
 clear jO jK jH lW
 have HR2 := Lib.hid oV
 have aT := Lib.hid (And.intro oU oQ)
 clear oV oU oQ sJ
 have hI0 : ((100 : Int) < (bV.length : Int)) = False := eq_false (by omega)
 have hK0 : decide (100 < bV.length) = false := decide_eq_false (by omega)
 have hI1 : ((100 : Int) < (dM.length : Int)) = False := eq_false (by omega)
 have hK1 : decide (100 < dM.length) = false := decide_eq_false (by omega)
 have hI2 : ((100 : Int) < (gQ.length : Int)) = False := eq_false (by omega)
 have hK2 : decide (100 < gQ.length) = false := decide_eq_false (by omega)
 have HL := Lib.hid hl
 clear hl
 go_enter Tryd.func8, Tryd.ntmps8
 go_wp2_with fail
 refine (lN A0 c0 bV au.out.1 HL.out.1 au.out.2 _ (HE.out.next (pl (Below.refl _ _))) (HR0.out.next (pl (Below.refl _ _)))).mono ?_
 rintro e x1 ⟨⟨P0, p0, q0, rfl, TP, TS, TU⟩, hb1⟩
 have HB1 : Hid (Below w.heap.size w x1) := Below.trans (pl (Below.refl _ _)) (hb1.mono sz)
 have hz1 := HB1.out.size
 clear hb1
 have QE := Lib.hid TP
 have HF0 := Lib.hid TS
 have ug := Lib.hid TU
 clear TP TS TU
 go_wp2_with (first | (refine aI (.tmp 7) (.tmp 30) rfl (by rfl) (x1.heap.size) p0 28 rfl rfl bP rfl ob ?_) | (refine aI (.tmp 9) (.tmp 35) rfl (by rfl) (x2.heap.size) p1 28 rfl rfl bP rfl ob ?_) | (refine aI (.tmp 11) (.tmp 40) rfl (by rfl) (x3.heap.size) p2 28 rfl rfl bP rfl ob ?_))
 refine (lN A1 c1 dM aH.out.1 HL.out.2.1 aH.out.2 _ (HE.out.next (pl HB1.out)) (HR1.out.next (pl HB1.out))).mono ?_
 rintro e y2 ⟨⟨P1, p1, q1, rfl, wV, wY, wZ⟩, hb2⟩
 obtain ⟨x2, rfl, hc2, hz2, kD⟩ := bQ (b := x1.heap.size) hb2 rfl ob
 have HB2 := aZ HB1.out hc2
 clear hb2 hc2
 try simp only [bF] at hz2
 have QF := Lib.hid wV
 have Gf := Lib.hid wY
 have jZ := Lib.hid wZ
 clear wV wY wZ
 go_wp2_with (first | (refine aI (.tmp 7) (.tmp 30) rfl (by rfl) (x1.heap.size) p0 28 rfl rfl bP rfl ob ?_) | (refine aI (.tmp 9) (.tmp 35) rfl (by rfl) (x2.heap.size) p1 28 rfl rfl bP rfl ob ?_) | (refine aI (.tmp 11) (.tmp 40) rfl (by rfl) (x3.heap.size) p2 28 rfl rfl bP rfl ob ?_))
 refine (lN A2 c2 gQ aT.out.1 HL.out.2.2 aT.out.2 _ (HE.out.next (pl HB2.out)) (HR2.out.next (pl HB2.out))).mono ?_
 rintro e y3 ⟨⟨P2, p2, q2, rfl, aeG, aeH, aeI⟩, hb3⟩
 obtain ⟨x3, rfl, hc3, hz3, nN, uq⟩ := fO (b0 := x1.heap.size) (b1 := x2.heap.size) hb3 rfl ob ob
 have HB3 := aZ HB2.out hc3
 clear hb3 hc3
 try simp only [bF] at hz3
 have HP2 := Lib.hid aeG
 have HF2 := Lib.hid aeH
 have HQ2 := Lib.hid aeI
 clear aeG aeH aeI
 go_wp2_with (first | (refine aI (.tmp 7) (.tmp 30) rfl (by rfl) (x1.heap.size) p0 28 rfl rfl bP rfl ob ?_) | (refine aI (.tmp 9) (.tmp 35) rfl (by rfl) (x2.heap.size) p1 28 rfl rfl bP rfl ob ?_) | (refine aI (.tmp 11) (.tmp 40) rfl (by rfl) (x3.heap.size) p2 28 rfl rfl bP rfl ob ?_))
 obtain ⟨pq, hpq, cpq⟩ := rY p0 p1 (P0) (P1) QE.out QF.out
 have Hpq := Lib.hid hpq
 have Cpq := Lib.hid cpq
 clear hpq cpq
 obtain ⟨qp, hqp, cqp⟩ := rY p1 p0 (P1) (P0) QF.out QE.out
 have Hqp := Lib.hid hqp
 have Cqp := Lib.hid cqp
 clear hqp cqp
 obtain ⟨a1, ha1, ca1⟩ := rY pq p2 (P0 + P1) (P2) Hpq.out HP2.out
 have Ha1 := Lib.hid ha1
 have Ca1 := Lib.hid ca1
 clear ha1 ca1
 obtain ⟨qr, hqr, cqr⟩ := rY p1 p2 (P1) (P2) QF.out HP2.out
 have Hqr := Lib.hid hqr
 have Cqr := Lib.hid cqr
 clear hqr cqr
 obtain ⟨a2, ha2, ca2⟩ := rY p0 qr (P0) (P1 + P2) QE.out Hqr.out
 have Ha2 := Lib.hid ha2
 have Ca2 := Lib.hid ca2
 clear ha2 ca2
 obtain ⟨pz, hpz, cpz⟩ := rY p0 iR (P0) (Pt.zero) QE.out oH
 have Hpz := Lib.hid hpz
 have Cpz := Lib.hid cpz
 clear hpz cpz
 obtain ⟨np, hnp, cnp⟩ := Rt p0 P0 QE.out
 have Hnp := Lib.hid hnp
 have Cnp := Lib.hid cnp
 clear hnp cnp
 obtain ⟨pn, hpn, cpn⟩ := rY p0 np (P0) (-P0) QE.out Hnp.out
 have Hpn := Lib.hid hpn
 have Cpn := Lib.hid cpn
 clear hpn cpn
 refine st1 w [] 45 (ak (b := x1.heap.size) ob (ak (b := x2.heap.size) ob (ak (b := x3.heap.size) ob (aO (pl HB3.out))))) (fun HS => ?_)
 refine tk3 0 (some 42) HS (v := p0.v) (hy := by (intro v hv; obtain ⟨x, rfl, _, _, n0, n1, n2⟩ := hv.eG; exact aG 28 (.tmp 7) rfl (x1.heap.size) 0 rfl p0.cL p0.cA 28 ob (by kernel_rfl) (by kernel_rfl) (by kernel_rfl))) (h := ?_)
 refine tk3 1 (some 43) HS (v := p1.v) (hy := by (intro v hv; obtain ⟨x, rfl, _, _, n0, n1, n2⟩ := hv.eG; exact aG 28 (.tmp 9) rfl (x2.heap.size) 0 rfl p1.cL p1.cA 28 ob (by kernel_rfl) (by kernel_rfl) (by kernel_rfl))) (h := ?_)
 refine tk3 3 (some 45) HS (v := p1.v) (hy := by (intro v hv; obtain ⟨x, rfl, _, _, n0, n1, n2⟩ := hv.eG; exact aG 28 (.tmp 9) rfl (x2.heap.size) 0 rfl p1.cL p1.cA 28 ob (by kernel_rfl) (by kernel_rfl) (by kernel_rfl))) (h := ?_)
 refine tk3 4 (some 46) HS (v := p0.v) (hy := by (intro v hv; obtain ⟨x, rfl, _, _, n0, n1, n2⟩ := hv.eG; exact aG 28 (.tmp 7) rfl (x1.heap.size) 0 rfl p0.cL p0.cA 28 ob (by kernel_rfl) (by kernel_rfl) (by kernel_rfl))) (h := ?_)
 refine dH 2 (some 44) (h := fun K hK => ?_)
 go_simp
 refine (Cpq.out _ (HE.out.next HS.1).c).mono ?_
 rintro e y ⟨rfl, hb⟩
 refine hK.out _ _ (HS.step hb rfl) ?_
 clear HS hb
 intro HS
 refine dH 5 (some 47) (h := fun K hK => ?_)
 go_simp
 refine (Cqp.out _ (HE.out.next HS.1).c).mono ?_
 rintro e y ⟨rfl, hb⟩
 refine hK.out _ _ (HS.step hb rfl) ?_
 clear HS hb
 intro HS
 refine dH 6 (some 48) (h := fun K hK => ?_)
 go_simp
 refine (wC pq qp _ _ Hpq.out Hqp.out true ⟨fun _ => Pt.comm _ _, fun _ => rfl⟩ _).mono ?_
 rintro e y ⟨rfl, hb⟩
 refine hK.out _ _ (HS.step hb rfl) ?_
 clear HS hb
 intro HS
 refine tk3 7 (some 49) HS (h := ?_)
 refine tk3 8 (some 50) HS (v := p0.v) (hy := by (intro v hv; obtain ⟨x, rfl, _, _, n0, n1, n2⟩ := hv.eG; exact aG 28 (.tmp 7) rfl (x1.heap.size) 0 rfl p0.cL p0.cA 28 ob (by kernel_rfl) (by kernel_rfl) (by kernel_rfl))) (h := ?_)
 refine tk3 9 (some 51) HS (v := p1.v) (hy := by (intro v hv; obtain ⟨x, rfl, _, _, n0, n1, n2⟩ := hv.eG; exact aG 28 (.tmp 9) rfl (x2.heap.size) 0 rfl p1.cL p1.cA 28 ob (by kernel_rfl) (by kernel_rfl) (by kernel_rfl))) (h := ?_)
 refine tk3 11 (some 53) HS (v := p2.v) (hy := by (intro v hv; obtain ⟨x, rfl, _, _, n0, n1, n2⟩ := hv.eG; exact aG 28 (.tmp 11) rfl (x3.heap.size) 0 rfl p2.cL p2.cA 28 ob (by kernel_rfl) (by kernel_rfl) (by kernel_rfl))) (h := ?_)
 refine tk3 13 (some 55) HS (v := p0.v) (hy := by (intro v hv; obtain ⟨x, rfl, _, _, n0, n1, n2⟩ := hv.eG; exact aG 28 (.tmp 7) rfl (x1.heap.size) 0 rfl p0.cL p0.cA 28 ob (by kernel_rfl) (by kernel_rfl) (by kernel_rfl))) (h := ?_)
 refine tk3 14 (some 56) HS (v := p1.v) (hy := by (intro v hv; obtain ⟨x, rfl, _, _, n0, n1, n2⟩ := hv.eG; exact aG 28 (.tmp 9) rfl (x2.heap.size) 0 rfl p1.cL p1.cA 28 ob (by kernel_rfl) (by kernel_rfl) (by kernel_rfl))) (h := ?_)
 refine tk3 15 (some 57) HS (v := p2.v) (hy := by (intro v hv; obtain ⟨x, rfl, _, _, n0, n1, n2⟩ := hv.eG; exact aG 28 (.tmp 11) rfl (x3.heap.size) 0 rfl p2.cL p2.cA 28 ob (by kernel_rfl) (by kernel_rfl) (by kernel_rfl))) (h := ?_)
 refine dH 10 (some 52) (h := fun K hK => ?_)
 go_simp
 refine (Cpq.out _ (HE.out.next HS.1).c).mono ?_
 rintro e y ⟨rfl, hb⟩
 refine hK.out _ _ (HS.step hb rfl) ?_
 clear HS hb
 intro HS
 refine dH 12 (some 54) (h := fun K hK => ?_)
 go_simp
 refine (Ca1.out _ (HE.out.next HS.1).c).mono ?_
 rintro e y ⟨rfl, hb⟩
 refine hK.out _ _ (HS.step hb rfl) ?_
 clear HS hb
 intro HS
 refine dH 16 (some 58) (h := fun K hK => ?_)
 go_simp
 refine (Cqr.out _ (HE.out.next HS.1).c).mono ?_
 rintro e y ⟨rfl, hb⟩
 refine hK.out _ _ (HS.step hb rfl) ?_
 clear HS hb
 intro HS
 refine dH 17 (some 59) (h := fun K hK => ?_)
 go_simp
 refine (Ca2.out _ (HE.out.next HS.1).c).mono ?_
 rintro e y ⟨rfl, hb⟩
 refine hK.out _ _ (HS.step hb rfl) ?_
 clear HS hb
 intro HS
 refine dH 18 (some 60) (h := fun K hK => ?_)
 go_simp
 refine (wC a1 a2 _ _ Ha1.out Ha2.out true ⟨fun _ => Pt.assoc _ _ _, fun _ => rfl⟩ _).mono ?_
 rintro e y ⟨rfl, hb⟩
 refine hK.out _ _ (HS.step hb rfl) ?_
 clear HS hb
 intro HS
 refine tk3 19 (some 61) HS (h := ?_)
 refine tk3 20 (some 62) HS (h := ?_)
 refine tk3 21 (some 63) HS (v := p0.v) (hy := by (intro v hv; obtain ⟨x, rfl, _, _, n0, n1, n2⟩ := hv.eG; exact aG 28 (.tmp 7) rfl (x1.heap.size) 0 rfl p0.cL p0.cA 28 ob (by kernel_rfl) (by kernel_rfl) (by kernel_rfl))) (h := ?_)
 refine tk3 24 (some 66) HS (v := p0.v) (hy := by (intro v hv; obtain ⟨x, rfl, _, _, n0, n1, n2⟩ := hv.eG; exact aG 28 (.tmp 7) rfl (x1.heap.size) 0 rfl p0.cL p0.cA 28 ob (by kernel_rfl) (by kernel_rfl) (by kernel_rfl))) (h := ?_)
 refine dH 22 (some 64) (h := fun K hK => ?_)
 go_simp
 refine (qm _).mono ?_
 rintro e y ⟨rfl, hb⟩
 refine hK.out _ _ (HS.step hb rfl) ?_
 clear HS hb
 intro HS
 refine dH 23 (some 65) (h := fun K hK => ?_)
 go_simp
 refine (Cpz.out _ (HE.out.next HS.1).c).mono ?_
 rintro e y ⟨rfl, hb⟩
 refine hK.out _ _ (HS.step hb rfl) ?_
 clear HS hb
 intro HS
 refine dH 25 (some 67) (h := fun K hK => ?_)
 go_simp
 refine (wC pz p0 _ _ Hpz.out QE.out true ⟨fun _ => Pt.add_zero _, fun _ => rfl⟩ _).mono ?_
 rintro e y ⟨rfl, hb⟩
 refine hK.out _ _ (HS.step hb rfl) ?_
 clear HS hb
 intro HS
 refine tk3 26 (some 68) HS (h := ?_)
 refine tk3 27 (some 69) HS (h := ?_)
 refine tk3 28 (some 70) HS (v := p0.v) (hy := by (intro v hv; obtain ⟨x, rfl, _, _, n0, n1, n2⟩ := hv.eG; exact aG 28 (.tmp 7) rfl (x1.heap.size) 0 rfl p0.cL p0.cA 28 ob (by kernel_rfl) (by kernel_rfl) (by kernel_rfl))) (h := ?_)
 refine tk3 29 (some 71) HS (v := p0.v) (hy := by (intro v hv; obtain ⟨x, rfl, _, _, n0, n1, n2⟩ := hv.eG; exact aG 28 (.tmp 7) rfl (x1.heap.size) 0 rfl p0.cL p0.cA 28 ob (by kernel_rfl) (by kernel_rfl) (by kernel_rfl))) (h := ?_)
 refine dH 30 (some 72) (h := fun K hK => ?_)
 go_simp
 refine (Cnp.out _).mono ?_
 rintro e y ⟨rfl, hb⟩
 refine hK.out _ _ (HS.step hb rfl) ?_
 clear HS hb
 intro HS
 refine dH 31 (some 73) (h := fun K hK => ?_)
 go_simp
 refine (Cpn.out _ (HE.out.next HS.1).c).mono ?_
 rintro e y ⟨rfl, hb⟩
 refine hK.out _ _ (HS.step hb rfl) ?_
 clear HS hb
 intro HS
 refine dH 32 (some 74) (h := fun K hK => ?_)
 go_simp
 refine (qm _).mono ?_
 rintro e y ⟨rfl, hb⟩
 refine hK.out _ _ (HS.step hb rfl) ?_
 clear HS hb
 intro HS
 refine dH 33 (some 75) (h := fun K hK => ?_)
 go_simp
 refine (wC pn iR _ _ Hpn.out oH true ⟨fun _ => Pt.add_neg _, fun _ => rfl⟩ _).mono ?_
 rintro e y ⟨rfl, hb⟩
 refine hK.out _ _ (HS.step hb rfl) ?_
 clear HS hb
 intro HS
 refine tk3 34 (some 76) HS (h := ?_)
 refine tk3 35 (some 77) HS (h := ?_)
 refine tk3 36 (some 78) HS (v := p0.v) (hy := by (intro v hv; obtain ⟨x, rfl, _, _, n0, n1, n2⟩ := hv.eG; exact aG 28 (.tmp 7) rfl (x1.heap.size) 0 rfl p0.cL p0.cA 28 ob (by kernel_rfl) (by kernel_rfl) (by kernel_rfl))) (h := ?_)
 refine tk3 37 (some 79) HS (v := p1.v) (hy := by (intro v hv; obtain ⟨x, rfl, _, _, n0, n1, n2⟩ := hv.eG; exact aG 28 (.tmp 9) rfl (x2.heap.size) 0 rfl p1.cL p1.cA 28 ob (by kernel_rfl) (by kernel_rfl) (by kernel_rfl))) (h := ?_)
 refine dH 38 (some 80) (h := fun K hK => ?_)
 go_simp
 refine (Cpq.out _ (HE.out.next HS.1).c).mono ?_
 rintro e y ⟨rfl, hb⟩
 refine hK.out _ _ (HS.step hb rfl) ?_
 clear HS hb
 intro HS
 refine dH 39 (some 81) (h := fun K hK => ?_)
 go_simp
 refine (L9 pq Hpq.out.1 true Hpq.out.on _ (HE.out.next HS.1).o).mono ?_
 rintro e y ⟨rfl, hb⟩
 refine hK.out _ _ (HS.step hb rfl) ?_
 clear HS hb
 intro HS
 refine tk3 40 (some 82) HS (h := ?_)
 refine tk3 41 (some 83) HS (h := ?_)
 refine dH 42 (some 84) (h := fun K hK => ?_)
 go_simp
 refine (fJ _ (HE.out.next HS.1)).mono ?_
 rintro e y ⟨rfl, hb⟩
 refine hK.out _ _ (HS.step hb rfl) ?_
 clear HS hb
 intro HS
 refine tk3 43 (some 85) HS (h := ?_)
 refine tk3 44 (some 6) HS (h := ?_)
 obtain ⟨x4, rfl, hk4, lT, rU, yL, Dj⟩ := HS.eG
 have HB4 : Hid (Below w.heap.size w x4) := hk4.below
 clear HS hk4
 refine done_ (by kernel_rfl) ?_
 go_wp2_with fail
 go_ret
 exact ⟨rfl, (pl HB4.out)⟩
theorem Dw (A0 : Option Addr) (c0 : Nat) (bV : List Nat) (jq : ∀ b ∈ bV, b < 256) (jv : bV.length ≤ c0) (kZ : c0 ≤ maxLen) (A1 : Option Addr) (c1 : Nat) (dM : List Nat) (jH : ∀ b ∈ dM, b < 256) (jK : dM.length ≤ c1) (lW : c1 ≤ maxLen) (A2 : Option Addr) (c2 : Nat) (gQ : List Nat) (oQ : ∀ b ∈ gQ, b < 256) (oU : gQ.length ≤ c2) (sJ : c2 ≤ maxLen) (w : World) (jA : Rd w .u8 A0 bV) (jO : Rd w .u8 A1 dM) (oV : Rd w .u8 A2 gQ) (h5 : uU w) : Calls Tryd.prog 8 #[.slice A0 bV.length c0, .slice A1 dM.length c1, .slice A2 gQ.length c2] w fun e w' => e = .returned (.bool true) ∧ Below w.heap.size w w' := by
 by_cases h1 : 100 < bV.length
 · exact KE A0 c0 bV jq jv kZ A1 c1 dM jH jK lW A2 c2 gQ oQ oU sJ h1 w jA jO oV h5
 · by_cases h2 : 100 < dM.length
   · exact KF A0 c0 bV jq jv kZ A1 c1 dM jH jK lW A2 c2 gQ oQ oU sJ (by omega) h2 w jA jO oV h5
   · by_cases h3 : 100 < gQ.length
     · exact KG A0 c0 bV jq jv kZ A1 c1 dM jH jK lW A2 c2 gQ oQ oU sJ (by omega) (by omega) h3 w jA jO oV h5
     · exact KH A0 c0 bV jq jv kZ A1 c1 dM jH jK lW A2 c2 gQ oQ oU sJ ⟨by omega, by omega, by omega⟩ w jA jO oV h5
set_option maxRecDepth 100000 in
theorem zM (os : Os) (started : os.Started) (H : Type) (enc : TypeId × Value → H) :
 ReturnsInHanded {} Tryd.checked os 8 .any (fun w args => (Rows.edGroupSpec.pre enc Tryd.prog Tryd.f8 [] false w args ∧ laidMetH Tryd.prog fP w) ∧ sizedMet enc Tryd.prog Tryd.f8 (OpenSpec.ofChange Rows.edGroupSpec) false w args) (Rows.edGroupSpec.post enc Tryd.prog Tryd.f8 false true false false) := by
 refine returnsInHanded_of_change_and (C := Tryd.checked) (X := fun w _ => laidMetH Tryd.prog fP w) (fun _ _ _ hh h => h.of_heap hh) own started (by kernel_rfl) Tryd.func8
  (ChangeSpec.witness_shaped (enc := enc) (C := Tryd.checked) (os := os) (X := fun w _ => laidMetH Tryd.prog fP w) false (World.doorLaid Tryd.prog 49 os) #[.slice none 0 0, .slice none 0 0, .slice none 0 0] 8 rfl (World.shaped_of_RefB (by kernel_rfl) (by kernel_rfl)) (by kernel_rfl) (by kernel_rfl) (by kernel_rfl) (door_met os _)) ?_
 intro W base args ds gs before hval0 hW _ _ hL _
 have hval : ∀ (j : Nat) t v, Tryd.f8.params[j]? = some t → args[j]? = some v → Value.okWide Tryd.prog W .any base t v := hval0
 have hW' := hW
 obtain ⟨p, q, hA0, hV, rfl, hfz, hnd⟩ := hW
 have hA : DataW.TrodAll enc Tryd.prog W 0 (fun _ => true) true Tryd.f8.params.toList args.toList ds p := hA0
 rw [Tryd.params8] at hA hval
 obtain ⟨v0, vs0, d0, ds0, p0, q0, hargs, rfl, rfl, h0, r0⟩ := trodAll_cons hA
 obtain ⟨v1, vs1, d1, ds1, p1, q1, rfl, rfl, rfl, h1, r1⟩ := trodAll_cons r0
 obtain ⟨v2, vs2, d2, ds2, p2, q2, rfl, rfl, rfl, h2, r2⟩ := trodAll_cons r1
 obtain ⟨rfl, rfl, rfl⟩ := trodAll_nil r2
 obtain rfl : args = #[v0, v1, v2] := by cases args; simp_all
 obtain ⟨rfl, rfl⟩ := trodVars_none hV
 have k0 := h0
 have Yq : ∀ x ∈ p0, x.block < W.heap.size := by obtain ⟨m, hm⟩ := k0; exact DataW.trod_lt m _ _ _ hm
 obtain ⟨A0, c0, bV, rfl, jA, jq, jv, kZ⟩ := open_bytes (hval 0 22 v0 rfl rfl) h0
 have k1 := h1
 have lt1 : ∀ x ∈ p1, x.block < W.heap.size := by obtain ⟨m, hm⟩ := k1; exact DataW.trod_lt m _ _ _ hm
 obtain ⟨A1, c1, dM, rfl, jO, jH, jK, lW⟩ := open_bytes (hval 1 22 v1 rfl rfl) h1
 have k2 := h2
 have lt2 : ∀ x ∈ p2, x.block < W.heap.size := by obtain ⟨m, hm⟩ := k2; exact DataW.trod_lt m _ _ _ hm
 obtain ⟨A2, c2, gQ, rfl, oV, oQ, oU, sJ⟩ := open_bytes (hval 2 22 v2 rfl rfl) h2
 have hO := mP hL
 clear hA0 hval0
 refine (Dw A0 c0 bV jq jv kZ A1 c1 dM jH jK lW A2 c2 gQ oQ oU sJ W jA jO oV hO).mono fun e W' ⟨he, bel⟩ => ?_
 subst he
 exact ⟨_, rfl, _, _, _, [], _, [], hW', trodAll_mk1 (shut_bool Tryd.underlying4 _), (trodAll_cons_mk (Below.trod laidOut (by kernel_rfl) (of_decide_eq_true (by kernel_rfl)) k0 bel Yq) (trodAll_cons_mk (Below.trod laidOut (by kernel_rfl) (of_decide_eq_true (by kernel_rfl)) k1 bel lt1) (trodAll_cons_mk (Below.trod laidOut (by kernel_rfl) (of_decide_eq_true (by kernel_rfl)) k2 bel lt2) trodAll_mk0))), rfl, bel.frame _, fun h => by cases h⟩
theorem Fz : Rows.EdGroupSaid :=
 OpenClaim.holds_of_wide 8 Tryd.f8 rfl rfl rfl rfl rfl rfl rfl ⟨rfl, rfl, rfl, rfl, rfl⟩ rfl rfl rfl rfl rfl (by kernel_rfl) Tryd.func8 (by kernel_rfl)
  (of_decide_eq_true (by kernel_rfl)) (by unfold Func.isWrapper; first | (rw [if_pos (by decide +kernel)]; kernel_rfl) | (rw [if_neg (by decide +kernel)]; exact ⟨rfl, rfl⟩))
  (fun os started H enc _ => zM os started H enc)
theorem ledGroup_holds : Rows.EdGroupCardSaid :=
 Claim7.holds_tied_plain_at .later [] [.data, .data, .data, .data, .data, .data, .data] true (true, "0f95a86f4b0bab74ae68208c68a1990d2615e57689ca15e110a62c814f1842c4") false
  Fz (fun _ h => by cases h) (by kernel_rfl) (fun _ h => by cases h) edGroup_row_tie rfl ⟨rfl, rfl⟩ (by kernel_rfl) rfl
  (fun f fn hf hfn => by
   obtain rfl : f = 8 := Option.some.inj ((show Tryd.prog.funcNamed "imprimatur/imprimaturlaw05.EdGroup" = some 8 by kernel_rfl).symm.trans hf) |>.symm
   obtain rfl : fn = Tryd.f8 := (Option.some.inj (Tryd.func8.symm.trans hfn)).symm
   exact ⟨by kernel_rfl, fun j t ht => by
    rw [Tryd.params8] at ht
    have hm : t ∈ [22] := by simpa using Array.mem_of_getElem? ht
    have hall : ([22].all fun u => !Tryd.prog.wantsStandIn u) = true := by kernel_rfl
    exact (show Tryd.prog.wantsStandIn t = false by simpa using List.all_eq_true.1 hall t hm)⟩)
  (by kernel_rfl)
end Go.Proofs.YtbghdkmpjiffeaaDoor