/-
 The statement EdMuls.
-/
import Derived.Test.YtbghdkmpjiffeaaDoorCards
import Derived.Test.YtbghdkmpjiffeaaDoorTie
import Derived.Test.YtbghdkmpjiffeaaDoorM26r5
import Derived.Test.YtbghdkmpjiffeaaDoorM39r1235
import Derived.Test.YtbghdkmpjiffeaaDoorM40r2356
import Derived.SevenTiedAt
namespace Go.Proofs.YtbghdkmpjiffeaaDoor
open Go.RowKit Go.ChangeShapes Go.WideShapes Go.ChangeAt Go.Proofs.YtbghdkmpjiffeaaDoorW.PrintLast
set_option linter.unusedSimpArgs false
set_option linter.unusedVariables false
set_option maxRecDepth 100000 in
set_option maxHeartbeats 8000000 in
theorem PK (A0 : Option Addr) (c0 : Nat) (bV : List Nat) (jq : ∀ b ∈ bV, b < 256) (jv : bV.length ≤ c0) (kZ : c0 ≤ maxLen) (A1 : Option Addr) (c1 : Nat) (dM : List Nat) (jH : ∀ b ∈ dM, b < 256) (jK : dM.length ≤ c1) (lW : c1 ≤ maxLen) (A2 : Option Addr) (c2 : Nat) (gQ : List Nat) (oQ : ∀ b ∈ gQ, b < 256) (oU : gQ.length ≤ c2) (sJ : c2 ≤ maxLen) (hl : 100 < dM.length) (w : World) (jA : Rd w .u8 A0 bV) (jO : Rd w .u8 A1 dM) (oV : Rd w .u8 A2 gQ) (h5 : uU w) :
 Calls Tryd.prog 7 #[.slice A0 bV.length c0, .slice A1 dM.length c1, .slice A2 gQ.length c2] w fun e w' => e = .returned (.bool true) ∧ Below w.heap.size w w' := by
 have HE := Lib.hid h5
 clear h5
 have HR0 := Lib.hid jA
 have au := Lib.hid (And.intro jv jq)
 clear jA jv jq kZ
 have HR1 := Lib.hid jO
 have aH := Lib.hid (And.intro jK jH)
 clear jO jK jH lW
 have HR2 := Lib.hid oV
 have aT := Lib.hid (And.intro oU oQ)
 clear oV oU oQ sJ
 have hI1 : (100 : Int) < (dM.length : Int) := by omega
 have hK1 : decide (100 < dM.length) = true := decide_eq_true (by omega)
 go_enter Tryd.func7, Tryd.ntmps7
 go_wp2_with fail
 refine (fJ _ (HE.out.next (pl (Below.refl _ _)))).mono ?_
 rintro e x1 ⟨rfl, hb1⟩
 have HB1 : Hid (Below w.heap.size w x1) := Below.trans (pl (Below.refl _ _)) (hb1.mono sz)
 have hz1 := HB1.out.size
 clear hb1
 go_wp2_with fail
 go_ret
 exact ⟨rfl, (pl HB1.out)⟩
set_option maxRecDepth 100000 in
set_option maxHeartbeats 8000000 in
theorem PL (A0 : Option Addr) (c0 : Nat) (bV : List Nat) (jq : ∀ b ∈ bV, b < 256) (jv : bV.length ≤ c0) (kZ : c0 ≤ maxLen) (A1 : Option Addr) (c1 : Nat) (dM : List Nat) (jH : ∀ b ∈ dM, b < 256) (jK : dM.length ≤ c1) (lW : c1 ≤ maxLen) (A2 : Option Addr) (c2 : Nat) (gQ : List Nat) (oQ : ∀ b ∈ gQ, b < 256) (oU : gQ.length ≤ c2) (sJ : c2 ≤ maxLen) (hl : dM.length ≤ 100) (hm : 100 < bV.length) (w : World) (jA : Rd w .u8 A0 bV) (jO : Rd w .u8 A1 dM) (oV : Rd w .u8 A2 gQ) (h5 : uU w) :
 Calls Tryd.prog 7 #[.slice A0 bV.length c0, .slice A1 dM.length c1, .slice A2 gQ.length c2] w fun e w' => e = .returned (.bool true) ∧ Below w.heap.size w w' := by
 have HE := Lib.hid h5
 clear h5
 have HR0 := Lib.hid jA
 have au := Lib.hid (And.intro jv jq)
 clear jA jv jq kZ
 have HR1 := Lib.hid jO
 have aH := Lib.hid (And.intro jK jH)
 clear jO jK jH lW
 have HR2 := Lib.hid oV
 have aT := Lib.hid (And.intro oU oQ)
 clear oV oU oQ sJ
 have hI1 : ((100 : Int) < (dM.length : Int)) = False := eq_false (by omega)
 have hK1 : decide (100 < dM.length) = false := decide_eq_false (by omega)
 have hI0 : (100 : Int) < (bV.length : Int) := by omega
 have hK0 : decide (100 < bV.length) = true := decide_eq_true (by omega)
 go_enter Tryd.func7, Tryd.ntmps7
 go_wp2_with fail
 refine (fJ _ (HE.out.next (pl (Below.refl _ _)))).mono ?_
 rintro e x1 ⟨rfl, hb1⟩
 have HB1 : Hid (Below w.heap.size w x1) := Below.trans (pl (Below.refl _ _)) (hb1.mono sz)
 have hz1 := HB1.out.size
 clear hb1
 go_wp2_with fail
 go_ret
 exact ⟨rfl, (pl HB1.out)⟩
set_option maxRecDepth 100000 in
set_option maxHeartbeats 8000000 in
theorem PN (A0 : Option Addr) (c0 : Nat) (bV : List Nat) (jq : ∀ b ∈ bV, b < 256) (jv : bV.length ≤ c0) (kZ : c0 ≤ maxLen) (A1 : Option Addr) (c1 : Nat) (dM : List Nat) (jH : ∀ b ∈ dM, b < 256) (jK : dM.length ≤ c1) (lW : c1 ≤ maxLen) (A2 : Option Addr) (c2 : Nat) (gQ : List Nat) (oQ : ∀ b ∈ gQ, b < 256) (oU : gQ.length ≤ c2) (sJ : c2 ≤ maxLen) (hl : dM.length ≤ 100) (hm : bV.length ≤ 100) (hn : 100 < gQ.length) (w : World) (jA : Rd w .u8 A0 bV) (jO : Rd w .u8 A1 dM) (oV : Rd w .u8 A2 gQ) (h5 : uU w) :
 Calls Tryd.prog 7 #[.slice A0 bV.length c0, .slice A1 dM.length c1, .slice A2 gQ.length c2] w fun e w' => e = .returned (.bool true) ∧ Below w.heap.size w w' := by
 have HE := Lib.hid h5
 clear h5
 have HR0 := Lib.hid jA
 have au := Lib.hid (And.intro jv jq)
 clear jA jv jq kZ
 have HR1 := Lib.hid jO
 have aH := Lib.hid (And.intro jK jH)
 clear jO jK jH lW
 have HR2 := Lib.hid oV
 have aT := Lib.hid (And.intro oU oQ)
 clear oV oU oQ sJ
 have hI1 : ((100 : Int) < (dM.length : Int)) = False := eq_false (by omega)
 have hK1 : decide (100 < dM.length) = false := decide_eq_false (by omega)
 have hI0 : ((100 : Int) < (bV.length : Int)) = False := eq_false (by omega)
 have hK0 : decide (100 < bV.length) = false := decide_eq_false (by omega)
 have hI2 : (100 : Int) < (gQ.length : Int) := by omega
 have hK2 : decide (100 < gQ.length) = true := decide_eq_true (by omega)
 go_enter Tryd.func7, Tryd.ntmps7
 go_wp2_with fail
 refine (fJ _ (HE.out.next (pl (Below.refl _ _)))).mono ?_
 rintro e x1 ⟨rfl, hb1⟩
 have HB1 : Hid (Below w.heap.size w x1) := Below.trans (pl (Below.refl _ _)) (hb1.mono sz)
 have hz1 := HB1.out.size
 clear hb1
 go_wp2_with fail
 go_ret
 exact ⟨rfl, (pl HB1.out)⟩
set_option maxRecDepth 100000 in
set_option maxHeartbeats 8000000 in
theorem PO (A0 : Option Addr) (c0 : Nat) (bV : List Nat) (jq : ∀ b ∈ bV, b < 256) (jv : bV.length ≤ c0) (kZ : c0 ≤ maxLen) (A1 : Option Addr) (c1 : Nat) (dM : List Nat) (jH : ∀ b ∈ dM, b < 256) (jK : dM.length ≤ c1) (lW : c1 ≤ maxLen) (A2 : Option Addr) (c2 : Nat) (gQ : List Nat) (oQ : ∀ b ∈ gQ, b < 256) (oU : gQ.length ≤ c2) (sJ : c2 ≤ maxLen) (hl : dM.length ≤ 100 ∧ bV.length ≤ 100 ∧ gQ.length ≤ 100) (hm : 32 < bV.length) (w : World) (jA : Rd w .u8 A0 bV) (jO : Rd w .u8 A1 dM) (oV : Rd w .u8 A2 gQ) (h5 : uU w) :
 Calls Tryd.prog 7 #[.slice A0 bV.length c0, .slice A1 dM.length c1, .slice A2 gQ.length c2] w fun e w' => e = .returned (.bool true) ∧ Below w.heap.size w w' := by
 have HE := Lib.hid h5
 clear h5
 have HR0 := Lib.hid jA
 have au := Lib.hid (And.intro jv jq)
 clear jA jv jq kZ
 have HR1 := Lib.hid jO
 have aH := Lib.hid (And.intro jK jH)
 clear jO jK jH lW
 have HR2 := Lib.hid oV
 have aT := Lib.hid (And.intro oU oQ)
 clear oV oU oQ sJ
 have hI1 : ((100 : Int) < (dM.length : Int)) = False := eq_false (by omega)
 have hK1 : decide (100 < dM.length) = false := decide_eq_false (by omega)
 have hI0 : ((100 : Int) < (bV.length : Int)) = False := eq_false (by omega)
 have hK0 : decide (100 < bV.length) = false := decide_eq_false (by omega)
 have hI2 : ((100 : Int) < (gQ.length : Int)) = False := eq_false (by omega)
 have hK2 : decide (100 < gQ.length) = false := decide_eq_false (by omega)
 have hN : (32 : Int) < (bV.length : Int) := by omega
 have HL := Lib.hid hl
 have HM := Lib.hid hm
 clear hl hm
 go_enter Tryd.func7, Tryd.ntmps7
 go_wp2_with fail
 refine (lN A1 c1 dM aH.out.1 HL.out.1 aH.out.2 _ (HE.out.next (pl (Below.refl _ _))) (HR1.out.next (pl (Below.refl _ _)))).mono ?_
 rintro e x1 ⟨⟨P1, p1, q1, rfl, wV, wY, wZ⟩, hb1⟩
 have HB1 : Hid (Below w.heap.size w x1) := Below.trans (pl (Below.refl _ _)) (hb1.mono sz)
 have hz1 := HB1.out.size
 clear hb1
 have QF := Lib.hid wV
 have Gf := Lib.hid wY
 have jZ := Lib.hid wZ
 clear wV wY wZ
 go_wp2_with (first | (refine aI (.tmp 7) (.tmp 30) rfl (by rfl) (x1.heap.size) p1 28 rfl rfl bP rfl ob ?_) | (refine bg (.tmp 7) rfl (by rfl) (x1.heap.size) p1 28 rfl ob ?_) | (refine bU (.tmp 9) (.tmp 36) rfl (by rfl) (x2.heap.size) 28 rfl rfl ob ?_) | (refine bU (.tmp 11) (.tmp 43) rfl (by rfl) (x3.heap.size) 28 rfl rfl ob ?_) | (refine dF (.tmp 9) rfl (by rfl) (x2.heap.size) 28 rfl ob ?_) | (refine dF (.tmp 11) rfl (by rfl) (x3.heap.size) 28 rfl ob ?_) | (refine cZ rfl (by rfl) ?_) | (refine aP (.tmp 55) (.tmp 56) rfl (by rfl) rfl rfl ?_) | (refine aP (.tmp 60) (.tmp 61) rfl (by rfl) rfl rfl ?_) | (refine aP (.tmp 73) (.tmp 74) rfl (by rfl) rfl rfl ?_))
 refine (Yw p1 A0 c0 bV HM.out _).mono ?_
 rintro e y2 ⟨rfl, hb2⟩
 obtain ⟨x2, rfl, hc2, hz2, kD, rQ⟩ := fO (b0 := x1.heap.size) (b1 := x1.heap.size + 1) hb2 rfl ob ob
 have HB2 := aZ HB1.out hc2
 clear hb2 hc2
 try simp only [bF] at hz2
 go_wp2_with (first | (refine aI (.tmp 7) (.tmp 30) rfl (by rfl) (x1.heap.size) p1 28 rfl rfl bP rfl ob ?_) | (refine bg (.tmp 7) rfl (by rfl) (x1.heap.size) p1 28 rfl ob ?_) | (refine bU (.tmp 9) (.tmp 36) rfl (by rfl) (x2.heap.size) 28 rfl rfl ob ?_) | (refine bU (.tmp 11) (.tmp 43) rfl (by rfl) (x3.heap.size) 28 rfl rfl ob ?_) | (refine dF (.tmp 9) rfl (by rfl) (x2.heap.size) 28 rfl ob ?_) | (refine dF (.tmp 11) rfl (by rfl) (x3.heap.size) 28 rfl ob ?_) | (refine cZ rfl (by rfl) ?_) | (refine aP (.tmp 55) (.tmp 56) rfl (by rfl) rfl rfl ?_) | (refine aP (.tmp 60) (.tmp 61) rfl (by rfl) rfl rfl ?_) | (refine aP (.tmp 73) (.tmp 74) rfl (by rfl) rfl rfl ?_))
 refine (UW p1 A0 A2 c0 c2 bV gQ HM.out _).mono ?_
 rintro e y3 ⟨rfl, hb3⟩
 obtain ⟨x3, rfl, hc3, hz3, nN, uq, zn⟩ := bZ (b0 := x1.heap.size) (b1 := x1.heap.size + 1) (b2 := x2.heap.size) hb3 rfl ob ob ob
 have HB3 := aZ HB2.out hc3
 clear hb3 hc3
 try simp only [bF] at hz3
 go_wp2_with (first | (refine aI (.tmp 7) (.tmp 30) rfl (by rfl) (x1.heap.size) p1 28 rfl rfl bP rfl ob ?_) | (refine bg (.tmp 7) rfl (by rfl) (x1.heap.size) p1 28 rfl ob ?_) | (refine bU (.tmp 9) (.tmp 36) rfl (by rfl) (x2.heap.size) 28 rfl rfl ob ?_) | (refine bU (.tmp 11) (.tmp 43) rfl (by rfl) (x3.heap.size) 28 rfl rfl ob ?_) | (refine dF (.tmp 9) rfl (by rfl) (x2.heap.size) 28 rfl ob ?_) | (refine dF (.tmp 11) rfl (by rfl) (x3.heap.size) 28 rfl ob ?_) | (refine cZ rfl (by rfl) ?_) | (refine aP (.tmp 55) (.tmp 56) rfl (by rfl) rfl rfl ?_) | (refine aP (.tmp 60) (.tmp 61) rfl (by rfl) rfl rfl ?_) | (refine aP (.tmp 73) (.tmp 74) rfl (by rfl) rfl rfl ?_))
 refine (fJ _ (HE.out.next (pl HB3.out))).mono ?_
 rintro e x4 ⟨rfl, hb4⟩
 have HB4 := aZ HB3.out hb4
 have lT := HB4.out.size
 clear hb4
 go_wp2_with (first | (refine aI (.tmp 7) (.tmp 30) rfl (by rfl) (x1.heap.size) p1 28 rfl rfl bP rfl ob ?_) | (refine bg (.tmp 7) rfl (by rfl) (x1.heap.size) p1 28 rfl ob ?_) | (refine bU (.tmp 9) (.tmp 36) rfl (by rfl) (x2.heap.size) 28 rfl rfl ob ?_) | (refine bU (.tmp 11) (.tmp 43) rfl (by rfl) (x3.heap.size) 28 rfl rfl ob ?_) | (refine dF (.tmp 9) rfl (by rfl) (x2.heap.size) 28 rfl ob ?_) | (refine dF (.tmp 11) rfl (by rfl) (x3.heap.size) 28 rfl ob ?_) | (refine cZ rfl (by rfl) ?_) | (refine aP (.tmp 55) (.tmp 56) rfl (by rfl) rfl rfl ?_) | (refine aP (.tmp 60) (.tmp 61) rfl (by rfl) rfl rfl ?_) | (refine aP (.tmp 73) (.tmp 74) rfl (by rfl) rfl rfl ?_))
 go_ret
 exact ⟨rfl, (pl HB4.out)⟩
set_option maxRecDepth 100000 in
set_option maxHeartbeats 8000000 in
theorem PS (A0 : Option Addr) (c0 : Nat) (bV : List Nat) (jq : ∀ b ∈ bV, b < 256) (jv : bV.length ≤ c0) (kZ : c0 ≤ maxLen) (A1 : Option Addr) (c1 : Nat) (dM : List Nat) (jH : ∀ b ∈ dM, b < 256) (jK : dM.length ≤ c1) (lW : c1 ≤ maxLen) (A2 : Option Addr) (c2 : Nat) (gQ : List Nat) (oQ : ∀ b ∈ gQ, b < 256) (oU : gQ.length ≤ c2) (sJ : c2 ≤ maxLen) (hl : dM.length ≤ 100 ∧ bV.length ≤ 100 ∧ gQ.length ≤ 100) (hm : bV.length ≤ 32 ∧ 32 < gQ.length) (w : World) (jA : Rd w .u8 A0 bV) (jO : Rd w .u8 A1 dM) (oV : Rd w .u8 A2 gQ) (h5 : uU w) :
 Calls Tryd.prog 7 #[.slice A0 bV.length c0, .slice A1 dM.length c1, .slice A2 gQ.length c2] w fun e w' => e = .returned (.bool true) ∧ Below w.heap.size w w' := by
 have HE := Lib.hid h5
 clear h5
 have HR0 := Lib.hid jA
 have au := Lib.hid (And.intro jv jq)
 clear jA jv jq kZ
 have HR1 := Lib.hid jO
 have aH := Lib.hid (And.intro jK jH)
 clear jO jK jH lW
 have HR2 := Lib.hid oV
 have aT := Lib.hid (And.intro oU oQ)
 clear oV oU oQ sJ
 have hI1 : ((100 : Int) < (dM.length : Int)) = False := eq_false (by omega)
 have hK1 : decide (100 < dM.length) = false := decide_eq_false (by omega)
 have hI0 : ((100 : Int) < (bV.length : Int)) = False := eq_false (by omega)
 have hK0 : decide (100 < bV.length) = false := decide_eq_false (by omega)
 have hI2 : ((100 : Int) < (gQ.length : Int)) = False := eq_false (by omega)
 have hK2 : decide (100 < gQ.length) = false := decide_eq_false (by omega)
 have hN : ((32 : Int) < (bV.length : Int)) = False := eq_false (by omega)
 have hM : (32 : Int) < (gQ.length : Int) := by omega
 have HL := Lib.hid hl
 have HM := Lib.hid hm
 clear hl hm
 go_enter Tryd.func7, Tryd.ntmps7
 go_wp2_with fail
 refine (lN A1 c1 dM aH.out.1 HL.out.1 aH.out.2 _ (HE.out.next (pl (Below.refl _ _))) (HR1.out.next (pl (Below.refl _ _)))).mono ?_
 rintro e x1 ⟨⟨P1, p1, q1, rfl, wV, wY, wZ⟩, hb1⟩
 have HB1 : Hid (Below w.heap.size w x1) := Below.trans (pl (Below.refl _ _)) (hb1.mono sz)
 have hz1 := HB1.out.size
 clear hb1
 have QF := Lib.hid wV
 have Gf := Lib.hid wY
 have jZ := Lib.hid wZ
 clear wV wY wZ
 go_wp2_with (first | (refine aI (.tmp 7) (.tmp 30) rfl (by rfl) (x1.heap.size) p1 28 rfl rfl bP rfl ob ?_) | (refine bg (.tmp 7) rfl (by rfl) (x1.heap.size) p1 28 rfl ob ?_) | (refine aI (.tmp 9) (.tmp 36) rfl (by rfl) (x2.heap.size) o1 28 rfl rfl bP rfl ob ?_) | (refine bU (.tmp 11) (.tmp 43) rfl (by rfl) (x3.heap.size) 28 rfl rfl ob ?_) | (refine bg (.tmp 9) rfl (by rfl) (x2.heap.size) o1 28 rfl ob ?_) | (refine dF (.tmp 11) rfl (by rfl) (x3.heap.size) 28 rfl ob ?_) | (refine cZ rfl (by rfl) ?_) | (refine aP (.tmp 55) (.tmp 56) rfl (by rfl) rfl rfl ?_) | (refine aP (.tmp 60) (.tmp 61) rfl (by rfl) rfl rfl ?_) | (refine aP (.tmp 73) (.tmp 74) rfl (by rfl) rfl rfl ?_))
 obtain ⟨o1, ho1, hc1⟩ := Rq p1 P1 QF.out A0 c0 bV HM.out.1 au.out.2
 have HO1 := Lib.hid ho1
 have WU := Lib.hid hc1
 clear ho1 hc1
 refine (WU.out _ (HE.out.next (pl HB1.out)).c (HR0.out.next (pl HB1.out))).mono ?_
 rintro e y2 ⟨rfl, hb2⟩
 obtain ⟨x2, rfl, hc2, hz2, kD, rQ⟩ := fO (b0 := x1.heap.size) (b1 := x1.heap.size + 1) hb2 rfl ob ob
 have HB2 := aZ HB1.out hc2
 clear hb2 hc2
 try simp only [bF] at hz2
 go_wp2_with (first | (refine aI (.tmp 7) (.tmp 30) rfl (by rfl) (x1.heap.size) p1 28 rfl rfl bP rfl ob ?_) | (refine bg (.tmp 7) rfl (by rfl) (x1.heap.size) p1 28 rfl ob ?_) | (refine aI (.tmp 9) (.tmp 36) rfl (by rfl) (x2.heap.size) o1 28 rfl rfl bP rfl ob ?_) | (refine bU (.tmp 11) (.tmp 43) rfl (by rfl) (x3.heap.size) 28 rfl rfl ob ?_) | (refine bg (.tmp 9) rfl (by rfl) (x2.heap.size) o1 28 rfl ob ?_) | (refine dF (.tmp 11) rfl (by rfl) (x3.heap.size) 28 rfl ob ?_) | (refine cZ rfl (by rfl) ?_) | (refine aP (.tmp 55) (.tmp 56) rfl (by rfl) rfl rfl ?_) | (refine aP (.tmp 60) (.tmp 61) rfl (by rfl) rfl rfl ?_) | (refine aP (.tmp 73) (.tmp 74) rfl (by rfl) rfl rfl ?_))
 refine (UY p1 A0 A2 c0 c2 bV gQ HM.out.1 HM.out.2 _).mono ?_
 rintro e y3 ⟨rfl, hb3⟩
 obtain ⟨x3, rfl, hc3, hz3, nN, uq, zn⟩ := bZ (b0 := x1.heap.size) (b1 := x1.heap.size + 1) (b2 := x2.heap.size) hb3 rfl ob ob ob
 have HB3 := aZ HB2.out hc3
 clear hb3 hc3
 try simp only [bF] at hz3
 go_wp2_with (first | (refine aI (.tmp 7) (.tmp 30) rfl (by rfl) (x1.heap.size) p1 28 rfl rfl bP rfl ob ?_) | (refine bg (.tmp 7) rfl (by rfl) (x1.heap.size) p1 28 rfl ob ?_) | (refine aI (.tmp 9) (.tmp 36) rfl (by rfl) (x2.heap.size) o1 28 rfl rfl bP rfl ob ?_) | (refine bU (.tmp 11) (.tmp 43) rfl (by rfl) (x3.heap.size) 28 rfl rfl ob ?_) | (refine bg (.tmp 9) rfl (by rfl) (x2.heap.size) o1 28 rfl ob ?_) | (refine dF (.tmp 11) rfl (by rfl) (x3.heap.size) 28 rfl ob ?_) | (refine cZ rfl (by rfl) ?_) | (refine aP (.tmp 55) (.tmp 56) rfl (by rfl) rfl rfl ?_) | (refine aP (.tmp 60) (.tmp 61) rfl (by rfl) rfl rfl ?_) | (refine aP (.tmp 73) (.tmp 74) rfl (by rfl) rfl rfl ?_))
 refine (fJ _ (HE.out.next (pl HB3.out))).mono ?_
 rintro e x4 ⟨rfl, hb4⟩
 have HB4 := aZ HB3.out hb4
 have lT := HB4.out.size
 clear hb4
 go_wp2_with (first | (refine aI (.tmp 7) (.tmp 30) rfl (by rfl) (x1.heap.size) p1 28 rfl rfl bP rfl ob ?_) | (refine bg (.tmp 7) rfl (by rfl) (x1.heap.size) p1 28 rfl ob ?_) | (refine aI (.tmp 9) (.tmp 36) rfl (by rfl) (x2.heap.size) o1 28 rfl rfl bP rfl ob ?_) | (refine bU (.tmp 11) (.tmp 43) rfl (by rfl) (x3.heap.size) 28 rfl rfl ob ?_) | (refine bg (.tmp 9) rfl (by rfl) (x2.heap.size) o1 28 rfl ob ?_) | (refine dF (.tmp 11) rfl (by rfl) (x3.heap.size) 28 rfl ob ?_) | (refine cZ rfl (by rfl) ?_) | (refine aP (.tmp 55) (.tmp 56) rfl (by rfl) rfl rfl ?_) | (refine aP (.tmp 60) (.tmp 61) rfl (by rfl) rfl rfl ?_) | (refine aP (.tmp 73) (.tmp 74) rfl (by rfl) rfl rfl ?_))
 go_ret
 exact ⟨rfl, (pl HB4.out)⟩
set_option maxRecDepth 100000 in
set_option maxHeartbeats 8000000 in
theorem PU (A0 : Option Addr) (c0 : Nat) (bV : List Nat) (jq : ∀ b ∈ bV, b < 256) (jv : bV.length ≤ c0) (kZ : c0 ≤ maxLen) (A1 : Option Addr) (c1 : Nat) (dM : List Nat) (jH : ∀ b ∈ dM, b < 256) (jK : dM.length ≤ c1) (lW : c1 ≤ maxLen) (A2 : Option Addr) (c2 : Nat) (gQ : List Nat) (oQ : ∀ b ∈ gQ, b < 256) (oU : gQ.length ≤ c2) (sJ : c2 ≤ maxLen) (hl : dM.length ≤ 100 ∧ bV.length ≤ 100 ∧ gQ.length ≤ 100) (hm : bV.length ≤ 32 ∧ gQ.length ≤ 32) (w : World) (jA : Rd w .u8 A0 bV) (jO : Rd w .u8 A1 dM) (oV : Rd w .u8 A2 gQ) (h5 : uU w) :
 Calls Tryd.prog 7 #[.slice A0 bV.length c0, .slice A1 dM.length c1, .slice A2 gQ.length c2] w fun e w' => e = .returned (.bool true) ∧ Below w.heap.size w w' := by
 have HE := Lib.hid h5
 clear h5
 have HR0 := Lib.hid jA
 have au := Lib.hid (And.intro jv jq)
 clear jA jv jq kZ
 have HR1 := Lib.hid jO
 have aH := Lib.hid (And.intro jK jH)
 clear jO jK jH lW
 have HR2 := Lib.hid oV
 have aT := Lib.hid (And.intro oU oQ)
 clear oV oU oQ sJ
 have hI1 : ((100 : Int) < (dM.length : Int)) = False := eq_false (by omega)
 have hK1 : decide (100 < dM.length) = false := decide_eq_false (by omega)
 have hI0 : ((100 : Int) < (bV.length : Int)) = False := eq_false (by omega)
 have hK0 : decide (100 < bV.length) = false := decide_eq_false (by omega)
 have hI2 : ((100 : Int) < (gQ.length : Int)) = False := eq_false (by omega)
 have hK2 : decide (100 < gQ.length) = false := decide_eq_false (by omega)
 have hN : ((32 : Int) < (bV.length : Int)) = False := eq_false (by omega)
 have hM : ((32 : Int) < (gQ.length : Int)) = False := eq_false (by omega)
 have HL := Lib.hid hl
 have HM := Lib.hid hm
 clear hl hm
 go_enter Tryd.func7, Tryd.ntmps7
 go_wp2_with fail
 refine (lN A1 c1 dM aH.out.1 HL.out.1 aH.out.2 _ (HE.out.next (pl (Below.refl _ _))) (HR1.out.next (pl (Below.refl _ _)))).mono ?_
 rintro e x1 ⟨⟨P1, p1, q1, rfl, wV, wY, wZ⟩, hb1⟩
 have HB1 : Hid (Below w.heap.size w x1) := Below.trans (pl (Below.refl _ _)) (hb1.mono sz)
 have hz1 := HB1.out.size
 clear hb1
 have QF := Lib.hid wV
 have Gf := Lib.hid wY
 have jZ := Lib.hid wZ
 clear wV wY wZ
 go_wp2_with (first | (refine aI (.tmp 7) (.tmp 30) rfl (by rfl) (x1.heap.size) p1 28 rfl rfl bP rfl ob ?_) | (refine bg (.tmp 7) rfl (by rfl) (x1.heap.size) p1 28 rfl ob ?_) | (refine aI (.tmp 9) (.tmp 36) rfl (by rfl) (x2.heap.size) o1 28 rfl rfl bP rfl ob ?_) | (refine aI (.tmp 11) (.tmp 43) rfl (by rfl) (x3.heap.size) o2 28 rfl rfl bP rfl ob ?_) | (refine bg (.tmp 9) rfl (by rfl) (x2.heap.size) o1 28 rfl ob ?_) | (refine bg (.tmp 11) rfl (by rfl) (x3.heap.size) o2 28 rfl ob ?_))
 obtain ⟨o1, ho1, hc1⟩ := Rq p1 P1 QF.out A0 c0 bV HM.out.1 au.out.2
 obtain ⟨o2, ho2, hc2⟩ := aaJ p1 P1 QF.out A0 A2 c0 c2 bV gQ HM.out.1 HM.out.2 au.out.2 aT.out.2
 have HO1 := Lib.hid ho1
 have WU := Lib.hid hc1
 have EK := Lib.hid ho2
 have HC2 := Lib.hid hc2
 clear ho1 hc1 ho2 hc2
 refine (WU.out _ (HE.out.next (pl HB1.out)).c (HR0.out.next (pl HB1.out))).mono ?_
 rintro e y2 ⟨rfl, hb2⟩
 replace jZ := Lib.hid (jZ.out.next (bt hb2))
 obtain ⟨x2, rfl, hc2, hz2, kD, rQ⟩ := fO (b0 := x1.heap.size) (b1 := x1.heap.size + 1) hb2 rfl ob ob
 have HB2 := aZ HB1.out hc2
 clear hb2 hc2
 try simp only [bF] at hz2
 go_wp2_with (first | (refine aI (.tmp 7) (.tmp 30) rfl (by rfl) (x1.heap.size) p1 28 rfl rfl bP rfl ob ?_) | (refine bg (.tmp 7) rfl (by rfl) (x1.heap.size) p1 28 rfl ob ?_) | (refine aI (.tmp 9) (.tmp 36) rfl (by rfl) (x2.heap.size) o1 28 rfl rfl bP rfl ob ?_) | (refine aI (.tmp 11) (.tmp 43) rfl (by rfl) (x3.heap.size) o2 28 rfl rfl bP rfl ob ?_) | (refine bg (.tmp 9) rfl (by rfl) (x2.heap.size) o1 28 rfl ob ?_) | (refine bg (.tmp 11) rfl (by rfl) (x3.heap.size) o2 28 rfl ob ?_))
 refine (HC2.out _ (HE.out.next (pl HB2.out)).c (HE.out.next (pl HB2.out)).b (HR0.out.next (pl HB2.out)) (HR2.out.next (pl HB2.out))).mono ?_
 rintro e y3 ⟨rfl, hb3⟩
 replace jZ := Lib.hid (jZ.out.next (bt hb3))
 obtain ⟨x3, rfl, hc3, hz3, nN, uq, zn⟩ := bZ (b0 := x1.heap.size) (b1 := x1.heap.size + 1) (b2 := x2.heap.size) hb3 rfl ob ob ob
 have HB3 := aZ HB2.out hc3
 clear hb3 hc3
 try simp only [bF] at hz3
 go_wp2_with (first | (refine aI (.tmp 7) (.tmp 30) rfl (by rfl) (x1.heap.size) p1 28 rfl rfl bP rfl ob ?_) | (refine bg (.tmp 7) rfl (by rfl) (x1.heap.size) p1 28 rfl ob ?_) | (refine aI (.tmp 9) (.tmp 36) rfl (by rfl) (x2.heap.size) o1 28 rfl rfl bP rfl ob ?_) | (refine aI (.tmp 11) (.tmp 43) rfl (by rfl) (x3.heap.size) o2 28 rfl rfl bP rfl ob ?_) | (refine bg (.tmp 9) rfl (by rfl) (x2.heap.size) o1 28 rfl ob ?_) | (refine bg (.tmp 11) rfl (by rfl) (x3.heap.size) o2 28 rfl ob ?_))
 refine st1 w [] 26 (ak (b := x1.heap.size) ob (ak (b := x1.heap.size + 1) ob (ak (b := x2.heap.size) ob (ak (b := x3.heap.size) ob (aO (pl HB3.out)))))) (fun HS => ?_)
 refine tk4 0 (some 80) HS (h := ?_)
 refine tk4 1 (some 81) HS (h := ?_)
 refine tk4 2 (some 82) HS (h := ?_)
 refine tk4 3 (some 83) HS (h := ?_)
 refine tk4 4 (some 84) HS (h := ?_)
 refine tk4 5 (some 85) HS (h := ?_)
 refine tk4 6 (some 86) HS (h := ?_)
 refine tk4 7 (some 87) HS (v := o1.v) (hy := by (intro v hv; obtain ⟨x, rfl, _, _, n0, n1, n2, n3⟩ := hv.iO; exact aG 28 (.tmp 9) rfl (x2.heap.size) 0 rfl o1.cL o1.cA 28 ob (by kernel_rfl) (by kernel_rfl) (by kernel_rfl))) (h := ?_)
 refine tk4 8 (some 88) HS (h := ?_)
 refine tk4 9 (some 89) HS (h := ?_)
 refine dH 10 (some 90) (h := fun K hK => ?_)
 go_simp
 refine (D8 q1 P1 Gf.out A0 c0 bV HL.out.2.1 au.out.2 _ (jZ.out.next (pl (Below.refl _ _))) (HR0.out.next HS.1)).mono ?_
 rintro e y ⟨⟨oa, rfl, hoa, aey⟩, hb⟩
 refine hK.out _ _ (HS.step hb rfl) ?_
 replace jZ := Lib.hid (jZ.out.next (bt hb))
 clear HS hb
 intro HS
 have N7 := Lib.hid hoa
 have ahn := Lib.hid aey
 clear hoa aey
 refine dH 11 (some 91) (h := fun K hK => ?_)
 go_simp
 refine (vC o1 oa _ _ HO1.out ahn.out true ⟨fun _ => rfl, fun _ => rfl⟩ _ (N7.out.next (pl (Below.refl _ _)))).mono ?_
 rintro e y ⟨rfl, hb⟩
 refine hK.out _ _ (HS.step hb rfl) ?_
 replace jZ := Lib.hid (jZ.out.next (bt hb))
 replace N7 := Lib.hid (N7.out.next (bt hb))
 clear HS hb
 intro HS
 refine tk4 12 (some 92) HS (h := ?_)
 refine tk4 13 (some 93) HS (h := ?_)
 refine tk4 14 (some 94) HS (v := o2.v) (hy := by (intro v hv; obtain ⟨x, rfl, _, _, n0, n1, n2, n3⟩ := hv.iO; exact aG 28 (.tmp 11) rfl (x3.heap.size) 0 rfl o2.cL o2.cA 28 ob (by kernel_rfl) (by kernel_rfl) (by kernel_rfl))) (h := ?_)
 refine tk4 15 (some 95) HS (h := ?_)
 refine tk4 16 (some 96) HS (h := ?_)
 refine tk4 17 (some 97) HS (h := ?_)
 refine dH 18 (some 98) (h := fun K hK => ?_)
 go_simp
 refine (GU _).mono ?_
 rintro e y ⟨⟨ob1, rfl, wS, ZB⟩, hb⟩
 refine hK.out _ _ (HS.step hb rfl) ?_
 replace jZ := Lib.hid (jZ.out.next (bt hb))
 replace N7 := Lib.hid (N7.out.next (bt hb))
 clear HS hb
 intro HS
 have HOB := Lib.hid wS
 have aho := Lib.hid ZB
 clear wS ZB
 refine dH 19 (some 99) (h := fun K hK => ?_)
 go_simp
 refine (ML q1 ob1 P1 iZ Gf.out aho.out A0 A2 c0 c2 bV gQ HL.out.2.1 HL.out.2.2 au.out.2 aT.out.2 _ (jZ.out.next (pl (Below.refl _ _))) (HOB.out.next (pl (Below.refl _ _))) (HR0.out.next HS.1) (HR2.out.next HS.1)).mono ?_
 rintro e y ⟨⟨oc, rfl, hoc, aeD⟩, hb⟩
 refine hK.out _ _ (HS.step hb rfl) ?_
 replace jZ := Lib.hid (jZ.out.next (bt hb))
 replace N7 := Lib.hid (N7.out.next (bt hb))
 replace HOB := Lib.hid (HOB.out.next (bt hb))
 clear HS hb
 intro HS
 have HOC := Lib.hid hoc
 have ahp := Lib.hid aeD
 clear hoc aeD
 refine dH 20 (some 100) (h := fun K hK => ?_)
 go_simp
 refine (vC o2 oc _ _ EK.out ahp.out true ⟨fun _ => rfl, fun _ => rfl⟩ _ (HOC.out.next (pl (Below.refl _ _)))).mono ?_
 rintro e y ⟨rfl, hb⟩
 refine hK.out _ _ (HS.step hb rfl) ?_
 replace jZ := Lib.hid (jZ.out.next (bt hb))
 replace N7 := Lib.hid (N7.out.next (bt hb))
 replace HOB := Lib.hid (HOB.out.next (bt hb))
 replace HOC := Lib.hid (HOC.out.next (bt hb))
 clear HS hb
 intro HS
 refine tk4 21 (some 101) HS (h := ?_)
 refine tk4 22 (some 102) HS (h := ?_)
 refine dH 23 (some 103) (h := fun K hK => ?_)
 go_simp
 refine (fJ _ (HE.out.next HS.1)).mono ?_
 rintro e y ⟨rfl, hb⟩
 refine hK.out _ _ (HS.step hb rfl) ?_
 replace jZ := Lib.hid (jZ.out.next (bt hb))
 replace N7 := Lib.hid (N7.out.next (bt hb))
 replace HOB := Lib.hid (HOB.out.next (bt hb))
 replace HOC := Lib.hid (HOC.out.next (bt hb))
 clear HS hb
 intro HS
 refine tk4 24 (some 104) HS (h := ?_)
 refine tk4 25 (some 6) HS (h := ?_)
 obtain ⟨x4, rfl, hk4, lT, rU, yL, Dj, Yf⟩ := HS.iO
 have HB4 : Hid (Below w.heap.size w x4) := hk4.below
 clear HS hk4
 refine done_ (by kernel_rfl) ?_
 go_wp2_with fail
 go_ret
 exact ⟨rfl, (pl HB4.out)⟩
theorem FB (A0 : Option Addr) (c0 : Nat) (bV : List Nat) (jq : ∀ b ∈ bV, b < 256) (jv : bV.length ≤ c0) (kZ : c0 ≤ maxLen) (A1 : Option Addr) (c1 : Nat) (dM : List Nat) (jH : ∀ b ∈ dM, b < 256) (jK : dM.length ≤ c1) (lW : c1 ≤ maxLen) (A2 : Option Addr) (c2 : Nat) (gQ : List Nat) (oQ : ∀ b ∈ gQ, b < 256) (oU : gQ.length ≤ c2) (sJ : c2 ≤ maxLen) (w : World) (jA : Rd w .u8 A0 bV) (jO : Rd w .u8 A1 dM) (oV : Rd w .u8 A2 gQ) (h5 : uU w) : Calls Tryd.prog 7 #[.slice A0 bV.length c0, .slice A1 dM.length c1, .slice A2 gQ.length c2] w fun e w' => e = .returned (.bool true) ∧ Below w.heap.size w w' := by
 by_cases h1 : 100 < dM.length
 · exact PK A0 c0 bV jq jv kZ A1 c1 dM jH jK lW A2 c2 gQ oQ oU sJ h1 w jA jO oV h5
 by_cases h2 : 100 < bV.length
 · exact PL A0 c0 bV jq jv kZ A1 c1 dM jH jK lW A2 c2 gQ oQ oU sJ (by omega) h2 w jA jO oV h5
 by_cases h3 : 100 < gQ.length
 · exact PN A0 c0 bV jq jv kZ A1 c1 dM jH jK lW A2 c2 gQ oQ oU sJ (by omega) (by omega) h3 w jA jO oV h5
 have h4 : dM.length ≤ 100 ∧ bV.length ≤ 100 ∧ gQ.length ≤ 100 := ⟨by omega, by omega, by omega⟩
 by_cases h5' : 32 < bV.length
 · exact PO A0 c0 bV jq jv kZ A1 c1 dM jH jK lW A2 c2 gQ oQ oU sJ h4 h5' w jA jO oV h5
 by_cases h6 : 32 < gQ.length
 · exact PS A0 c0 bV jq jv kZ A1 c1 dM jH jK lW A2 c2 gQ oQ oU sJ h4 ⟨by omega, h6⟩ w jA jO oV h5
 exact PU A0 c0 bV jq jv kZ A1 c1 dM jH jK lW A2 c2 gQ oQ oU sJ h4 ⟨by omega, by omega⟩ w jA jO oV h5
set_option maxRecDepth 100000 in
theorem Bv (os : Os) (started : os.Started) (H : Type) (enc : TypeId × Value → H) :
 ReturnsInHanded {} Tryd.checked os 7 .any (fun w args => (Rows.edMulsSpec.pre enc Tryd.prog Tryd.f7 [] false w args ∧ laidMetH Tryd.prog fP w) ∧ sizedMet enc Tryd.prog Tryd.f7 (OpenSpec.ofChange Rows.edMulsSpec) false w args) (Rows.edMulsSpec.post enc Tryd.prog Tryd.f7 false true false false) := by
 refine returnsInHanded_of_change_and (C := Tryd.checked) (X := fun w _ => laidMetH Tryd.prog fP w) (fun _ _ _ hh h => h.of_heap hh) own started (by kernel_rfl) Tryd.func7
  (ChangeSpec.witness_shaped (enc := enc) (C := Tryd.checked) (os := os) (X := fun w _ => laidMetH Tryd.prog fP w) false (World.doorLaid Tryd.prog 49 os) #[.slice none 0 0, .slice none 0 0, .slice none 0 0] 8 rfl (World.shaped_of_RefB (by kernel_rfl) (by kernel_rfl)) (by kernel_rfl) (by kernel_rfl) (by kernel_rfl) (door_met os _)) ?_
 intro W base args ds gs before hval0 hW _ _ hL _
 have hval : ∀ (j : Nat) t v, Tryd.f7.params[j]? = some t → args[j]? = some v → Value.okWide Tryd.prog W .any base t v := hval0
 have hW' := hW
 obtain ⟨p, q, hA0, hV, rfl, hfz, hnd⟩ := hW
 have hA : DataW.TrodAll enc Tryd.prog W 0 (fun _ => true) true Tryd.f7.params.toList args.toList ds p := hA0
 rw [Tryd.params7] at hA hval
 obtain ⟨v0, vs0, d0, ds0, p0, q0, hargs, rfl, rfl, h0, r0⟩ := trodAll_cons hA
 obtain ⟨v1, vs1, d1, ds1, p1, q1, rfl, rfl, rfl, h1, r1⟩ := trodAll_cons r0
 obtain ⟨v2, vs2, d2, ds2, p2, q2, rfl, rfl, rfl, h2, r2⟩ := trodAll_cons r1
 obtain ⟨rfl, rfl, rfl⟩ := trodAll_nil r2
 obtain rfl : args = #[v0, v1, v2] := by cases args; simp_all
 obtain ⟨rfl, rfl⟩ := trodVars_none hV
 have k0 := h0
 have Yq : ∀ x ∈ p0, x.block < W.heap.size := by obtain ⟨m, hm⟩ := k0; exact DataW.trod_lt m _ _ _ hm
 obtain ⟨A0, c0, bV, rfl, jA, jq, jv, kZ⟩ := open_bytes (hval 0 22 v0 rfl rfl) h0
 have k1 := h1
 have lt1 : ∀ x ∈ p1, x.block < W.heap.size := by obtain ⟨m, hm⟩ := k1; exact DataW.trod_lt m _ _ _ hm
 obtain ⟨A1, c1, dM, rfl, jO, jH, jK, lW⟩ := open_bytes (hval 1 22 v1 rfl rfl) h1
 have k2 := h2
 have lt2 : ∀ x ∈ p2, x.block < W.heap.size := by obtain ⟨m, hm⟩ := k2; exact DataW.trod_lt m _ _ _ hm
 obtain ⟨A2, c2, gQ, rfl, oV, oQ, oU, sJ⟩ := open_bytes (hval 2 22 v2 rfl rfl) h2
 have hO := mP hL
 clear hA0 hval0
 refine (FB A0 c0 bV jq jv kZ A1 c1 dM jH jK lW A2 c2 gQ oQ oU sJ W jA jO oV hO).mono fun e W' ⟨he, bel⟩ => ?_
 subst he
 exact ⟨_, rfl, _, _, _, [], _, [], hW', trodAll_mk1 (shut_bool Tryd.underlying4 _), (trodAll_cons_mk (Below.trod laidOut (by kernel_rfl) (of_decide_eq_true (by kernel_rfl)) k0 bel Yq) (trodAll_cons_mk (Below.trod laidOut (by kernel_rfl) (of_decide_eq_true (by kernel_rfl)) k1 bel lt1) (trodAll_cons_mk (Below.trod laidOut (by kernel_rfl) (of_decide_eq_true (by kernel_rfl)) k2 bel lt2) trodAll_mk0))), rfl, bel.frame _, fun h => by cases h⟩
theorem Iz : Rows.EdMulsSaid :=
 OpenClaim.holds_of_wide 7 Tryd.f7 rfl rfl rfl rfl rfl rfl rfl ⟨rfl, rfl, rfl, rfl, rfl⟩ rfl rfl rfl rfl rfl (by kernel_rfl) Tryd.func7 (by kernel_rfl)
  (of_decide_eq_true (by kernel_rfl)) (by unfold Func.isWrapper; first | (rw [if_pos (by decide +kernel)]; kernel_rfl) | (rw [if_neg (by decide +kernel)]; exact ⟨rfl, rfl⟩))
  (fun os started H enc _ => Bv os started H enc)
theorem ledMuls_holds : Rows.EdMulsCardSaid :=
 Claim7.holds_tied_plain_at .later [] [.data, .data, .data, .data, .data, .data, .data] true (true, "0f95a86f4b0bab74ae68208c68a1990d2615e57689ca15e110a62c814f1842c4") false
  Iz (fun _ h => by cases h) (by kernel_rfl) (fun _ h => by cases h) edMuls_row_tie rfl ⟨rfl, rfl⟩ (by kernel_rfl) rfl
  (fun f fn hf hfn => by
   obtain rfl : f = 7 := Option.some.inj ((show Tryd.prog.funcNamed "imprimatur/imprimaturlaw05.EdMuls" = some 7 by kernel_rfl).symm.trans hf) |>.symm
   obtain rfl : fn = Tryd.f7 := (Option.some.inj (Tryd.func7.symm.trans hfn)).symm
   exact ⟨by kernel_rfl, fun j t ht => by
    rw [Tryd.params7] at ht
    have hm : t ∈ [22] := by simpa using Array.mem_of_getElem? ht
    have hall : ([22].all fun u => !Tryd.prog.wantsStandIn u) = true := by kernel_rfl
    exact (show Tryd.prog.wantsStandIn t = false by simpa using List.all_eq_true.1 hall t hm)⟩)
  (by kernel_rfl)
end Go.Proofs.YtbghdkmpjiffeaaDoor