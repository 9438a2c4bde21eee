/-
 The statement EdVerifies.
-/
import Derived.Test.YtehfkbaendajbaaGreatDoorCards
import Derived.Test.YtehfkbaendajbaaGreatDoorTie
import Derived.Test.YtehfkbaendajbaaGreatDoorB46
import Derived.Test.YtehfkbaendajbaaGreatDoorB48
import Derived.Test.YtehfkbaendajbaaGreatDoorB56
import Derived.SevenTiedAt
namespace Go.Proofs.YtehfkbaendajbaaGreatDoor
open Go.RowKit Go.ChangeShapes Go.WideShapes Go.ChangeAt Go.Proofs.YtehfkbaendajbaaGreatDoorW.PrintLast
set_option linter.unusedSimpArgs false
set_option linter.unusedVariables false
/-- A signature's two halves. -/
theorem aox (bs : List Nat) (A : Option Addr) (hl : bs.length = 64) (hby : ∀ z ∈ bs, z < 256) (w : World) (hr : Rd w .u8 A bs) : ∃ R S g off, bs = R ++ S ∧ R.length = 32 ∧ S.length = 32 ∧ (∀ z ∈ R, z < 256) ∧ (∀ z ∈ S, z < 256) ∧ A = some ⟨g, off, none⟩ ∧ Rd w .u8 A (R ++ S) ∧ Rd w .u8 (some ⟨g, off, none⟩) R ∧ Rd w .u8 (some ⟨g, off + 32, none⟩) S := by
 obtain ⟨g, off, rfl, _, _⟩ := hr.place (by omega)
 exact ⟨bs.take 32, bs.drop 32, g, off, (List.take_append_drop 32 bs).symm, by rw [List.length_take]; omega, by rw [List.length_drop]; omega, fun z hz => hby z (List.mem_of_mem_take hz), fun z hz => hby z (List.mem_of_mem_drop hz), rfl, by rw [List.take_append_drop]; exact hr, YQ hr 32, Rd.drop hr 32⟩
set_option maxRecDepth 100000 in
set_option maxHeartbeats 8000000 in
theorem apW (A0 : Option Addr) (c0 : Nat) (bV : List Nat) (jq : ∀ b ∈ bV, b < 256) (jv : bV.length ≤ c0) (kZ : c0 ≤ maxLen) (A1 : Option Addr) (c1 : Nat) (dM : List Nat) (jH : ∀ b ∈ dM, b < 256) (jK : dM.length ≤ c1) (lW : c1 ≤ maxLen) (A2 : Option Addr) (c2 : Nat) (gQ : List Nat) (oQ : ∀ b ∈ gQ, b < 256) (oU : gQ.length ≤ c2) (sJ : c2 ≤ maxLen) (h1 : 300 < dM.length) (w : World) (jA : Rd w .u8 A0 bV) (jO : Rd w .u8 A1 dM) (oV : Rd w .u8 A2 gQ) (h5 : Ed8 w) :
 Calls Tryz.prog 4 #[.slice A0 bV.length c0, .slice A1 dM.length c1, .slice A2 gQ.length c2] w fun e w' => e = .returned (.bool true) ∧ Below w.heap.size w w' := by
 have HE := Lib.hid h5
 clear h5
 have HR0 := Lib.hid jA
 have au := Lib.hid (And.intro jv jq)
 clear jA jv jq kZ
 have HR1 := Lib.hid jO
 have aH := Lib.hid (And.intro jK jH)
 clear jO jK jH lW
 have HR2 := Lib.hid oV
 have aT := Lib.hid (And.intro oU oQ)
 clear oV oU oQ sJ
 have hI1 : (300 : Int) < (dM.length : Int) := by omega
 have hK1 : decide (300 < dM.length) = true := decide_eq_true (by omega)
 go_enter Tryz.func4, Tryz.ntmps4
 go_wp2_with fail
 refine (fJ _ (HE.out.next (pl (Below.refl _ _))).e).mono ?_
 rintro e x1 ⟨rfl, hb1⟩
 have HB1 : Hid (Below w.heap.size w x1) := Below.trans (pl (Below.refl _ _)) (hb1.mono sz)
 have hz1 := HB1.out.size
 clear hb1
 go_wp2_with fail
 go_ret
 exact ⟨rfl, (pl HB1.out)⟩
set_option maxRecDepth 100000 in
set_option maxHeartbeats 8000000 in
theorem apX (A0 : Option Addr) (c0 : Nat) (bV : List Nat) (jq : ∀ b ∈ bV, b < 256) (jv : bV.length ≤ c0) (kZ : c0 ≤ maxLen) (A1 : Option Addr) (c1 : Nat) (dM : List Nat) (jH : ∀ b ∈ dM, b < 256) (jK : dM.length ≤ c1) (lW : c1 ≤ maxLen) (A2 : Option Addr) (c2 : Nat) (gQ : List Nat) (oQ : ∀ b ∈ gQ, b < 256) (oU : gQ.length ≤ c2) (sJ : c2 ≤ maxLen) (h1 : dM.length ≤ 300) (h0 : 100 < bV.length) (w : World) (jA : Rd w .u8 A0 bV) (jO : Rd w .u8 A1 dM) (oV : Rd w .u8 A2 gQ) (h5 : Ed8 w) :
 Calls Tryz.prog 4 #[.slice A0 bV.length c0, .slice A1 dM.length c1, .slice A2 gQ.length c2] w fun e w' => e = .returned (.bool true) ∧ Below w.heap.size w w' := by
 have HE := Lib.hid h5
 clear h5
 have HR0 := Lib.hid jA
 have au := Lib.hid (And.intro jv jq)
 clear jA jv jq kZ
 have HR1 := Lib.hid jO
 have aH := Lib.hid (And.intro jK jH)
 clear jO jK jH lW
 have HR2 := Lib.hid oV
 have aT := Lib.hid (And.intro oU oQ)
 clear oV oU oQ sJ
 have hI1 : ((300 : Int) < (dM.length : Int)) = False := eq_false (by omega)
 have hK1 : decide (300 < dM.length) = false := decide_eq_false (by omega)
 have hI0 : (100 : Int) < (bV.length : Int) := by omega
 have hK0 : decide (100 < bV.length) = true := decide_eq_true (by omega)
 go_enter Tryz.func4, Tryz.ntmps4
 go_wp2_with fail
 refine (fJ _ (HE.out.next (pl (Below.refl _ _))).e).mono ?_
 rintro e x1 ⟨rfl, hb1⟩
 have HB1 : Hid (Below w.heap.size w x1) := Below.trans (pl (Below.refl _ _)) (hb1.mono sz)
 have hz1 := HB1.out.size
 clear hb1
 go_wp2_with fail
 go_ret
 exact ⟨rfl, (pl HB1.out)⟩
set_option maxRecDepth 100000 in
set_option maxHeartbeats 8000000 in
theorem apv (A0 : Option Addr) (c0 : Nat) (bV : List Nat) (jq : ∀ b ∈ bV, b < 256) (jv : bV.length ≤ c0) (kZ : c0 ≤ maxLen) (A1 : Option Addr) (c1 : Nat) (dM : List Nat) (jH : ∀ b ∈ dM, b < 256) (jK : dM.length ≤ c1) (lW : c1 ≤ maxLen) (A2 : Option Addr) (c2 : Nat) (gQ : List Nat) (oQ : ∀ b ∈ gQ, b < 256) (oU : gQ.length ≤ c2) (sJ : c2 ≤ maxLen) (h1 : dM.length ≤ 300) (h0 : bV.length ≤ 100) (h2 : 100 < gQ.length) (w : World) (jA : Rd w .u8 A0 bV) (jO : Rd w .u8 A1 dM) (oV : Rd w .u8 A2 gQ) (h5 : Ed8 w) :
 Calls Tryz.prog 4 #[.slice A0 bV.length c0, .slice A1 dM.length c1, .slice A2 gQ.length c2] w fun e w' => e = .returned (.bool true) ∧ Below w.heap.size w w' := by
 have HE := Lib.hid h5
 clear h5
 have HR0 := Lib.hid jA
 have au := Lib.hid (And.intro jv jq)
 clear jA jv jq kZ
 have HR1 := Lib.hid jO
 have aH := Lib.hid (And.intro jK jH)
 clear jO jK jH lW
 have HR2 := Lib.hid oV
 have aT := Lib.hid (And.intro oU oQ)
 clear oV oU oQ sJ
 have hI1 : ((300 : Int) < (dM.length : Int)) = False := eq_false (by omega)
 have hK1 : decide (300 < dM.length) = false := decide_eq_false (by omega)
 have hI0 : ((100 : Int) < (bV.length : Int)) = False := eq_false (by omega)
 have hK0 : decide (100 < bV.length) = false := decide_eq_false (by omega)
 have hI2 : (100 : Int) < (gQ.length : Int) := by omega
 have hK2 : decide (100 < gQ.length) = true := decide_eq_true (by omega)
 go_enter Tryz.func4, Tryz.ntmps4
 go_wp2_with fail
 refine (fJ _ (HE.out.next (pl (Below.refl _ _))).e).mono ?_
 rintro e x1 ⟨rfl, hb1⟩
 have HB1 : Hid (Below w.heap.size w x1) := Below.trans (pl (Below.refl _ _)) (hb1.mono sz)
 have hz1 := HB1.out.size
 clear hb1
 go_wp2_with fail
 go_ret
 exact ⟨rfl, (pl HB1.out)⟩
set_option maxRecDepth 100000 in
set_option maxHeartbeats 8000000 in
theorem apZ (A0 : Option Addr) (c0 : Nat) (bV : List Nat) (jq : ∀ b ∈ bV, b < 256) (jv : bV.length ≤ c0) (kZ : c0 ≤ maxLen) (A1 : Option Addr) (c1 : Nat) (dM : List Nat) (jH : ∀ b ∈ dM, b < 256) (jK : dM.length ≤ c1) (lW : c1 ≤ maxLen) (A2 : Option Addr) (c2 : Nat) (gQ : List Nat) (oQ : ∀ b ∈ gQ, b < 256) (oU : gQ.length ≤ c2) (sJ : c2 ≤ maxLen) (h1 : dM.length ≤ 300) (hk : bV.length ≤ 100) (h2 : gQ.length ≤ 100) (h0 : ¬ bV.length = 32) (w : World) (jA : Rd w .u8 A0 bV) (jO : Rd w .u8 A1 dM) (oV : Rd w .u8 A2 gQ) (h5 : Ed8 w) :
 Calls Tryz.prog 4 #[.slice A0 bV.length c0, .slice A1 dM.length c1, .slice A2 gQ.length c2] w fun e w' => e = .returned (.bool true) ∧ Below w.heap.size w w' := by
 have HE := Lib.hid h5
 clear h5
 have HR0 := Lib.hid jA
 have au := Lib.hid (And.intro jv jq)
 clear jA jv jq kZ
 have HR1 := Lib.hid jO
 have aH := Lib.hid (And.intro jK jH)
 clear jO jK jH lW
 have HR2 := Lib.hid oV
 have aT := Lib.hid (And.intro oU oQ)
 clear oV oU oQ sJ
 have hI1 : ((300 : Int) < (dM.length : Int)) = False := eq_false (by omega)
 have hK1 : decide (300 < dM.length) = false := decide_eq_false (by omega)
 have hI0 : ((100 : Int) < (bV.length : Int)) = False := eq_false (by omega)
 have hK0 : decide (100 < bV.length) = false := decide_eq_false (by omega)
 have hI2 : ((100 : Int) < (gQ.length : Int)) = False := eq_false (by omega)
 have hK2 : decide (100 < gQ.length) = false := decide_eq_false (by omega)
 have HL := Lib.hid h0
 clear h0
 go_enter Tryz.func4, Tryz.ntmps4
 go_wp2_with fail
 refine (asw A0 A1 A2 c0 c1 c2 bV.length dM.length gQ.length HL.out _).mono ?_
 rintro e x1 ⟨rfl, hb1⟩
 have HB1 : Hid (Below w.heap.size w x1) := Below.trans (pl (Below.refl _ _)) (hb1.mono sz)
 have hz1 := HB1.out.size
 clear hb1
 go_wp2_with fail
 refine (aq4 A0 A1 A2 c0 c1 c2 bV.length dM.length gQ.length HL.out _).mono ?_
 rintro e x2 ⟨rfl, hb2⟩
 have HB2 := aZ HB1.out hb2
 have hz2 := HB2.out.size
 clear hb2
 go_wp2_with fail
 refine (fJ _ (HE.out.next (pl HB2.out)).e).mono ?_
 rintro e x3 ⟨rfl, hb3⟩
 have HB3 := aZ HB2.out hb3
 have hz3 := HB3.out.size
 clear hb3
 go_wp2_with fail
 go_ret
 exact ⟨rfl, (pl HB3.out)⟩
set_option maxRecDepth 100000 in
set_option maxHeartbeats 8000000 in
theorem ap0 (A0 : Option Addr) (c0 : Nat) (bV : List Nat) (jq : ∀ b ∈ bV, b < 256) (jv : bV.length ≤ c0) (kZ : c0 ≤ maxLen) (A1 : Option Addr) (c1 : Nat) (dM : List Nat) (jH : ∀ b ∈ dM, b < 256) (jK : dM.length ≤ c1) (lW : c1 ≤ maxLen) (A2 : Option Addr) (c2 : Nat) (gQ : List Nat) (oQ : ∀ b ∈ gQ, b < 256) (oU : gQ.length ≤ c2) (sJ : c2 ≤ maxLen) (h1 : dM.length ≤ 300) (h0 : bV.length = 32) (h2 : gQ.length ≤ 100) (hn : ¬ gQ.length = 64) (w : World) (jA : Rd w .u8 A0 bV) (jO : Rd w .u8 A1 dM) (oV : Rd w .u8 A2 gQ) (h5 : Ed8 w) :
 Calls Tryz.prog 4 #[.slice A0 bV.length c0, .slice A1 dM.length c1, .slice A2 gQ.length c2] w fun e w' => e = .returned (.bool true) ∧ Below w.heap.size w w' := by
 have HE := Lib.hid h5
 clear h5
 have HR0 := Lib.hid jA
 have au := Lib.hid (And.intro jv jq)
 clear jA jv jq kZ
 have HR1 := Lib.hid jO
 have aH := Lib.hid (And.intro jK jH)
 clear jO jK jH lW
 have HR2 := Lib.hid oV
 have aT := Lib.hid (And.intro oU oQ)
 clear oV oU oQ sJ
 have hI1 : ((300 : Int) < (dM.length : Int)) = False := eq_false (by omega)
 have hK1 : decide (300 < dM.length) = false := decide_eq_false (by omega)
 rw [h0]
 have hI2 : ((100 : Int) < (gQ.length : Int)) = False := eq_false (by omega)
 have hK2 : decide (100 < gQ.length) = false := decide_eq_false (by omega)
 have HL := Lib.hid hn
 clear hn
 go_enter Tryz.func4, Tryz.ntmps4
 go_wp2_with fail
 refine (asu A0 A1 A2 c0 c1 c2 dM.length gQ.length HL.out _).mono ?_
 rintro e x1 ⟨rfl, hb1⟩
 have HB1 : Hid (Below w.heap.size w x1) := Below.trans (pl (Below.refl _ _)) (hb1.mono sz)
 have hz1 := HB1.out.size
 clear hb1
 go_wp2_with fail
 refine (aq2 A0 A1 A2 c0 c1 c2 dM.length gQ.length HL.out _).mono ?_
 rintro e x2 ⟨rfl, hb2⟩
 have HB2 := aZ HB1.out hb2
 have hz2 := HB2.out.size
 clear hb2
 go_wp2_with fail
 refine (fJ _ (HE.out.next (pl HB2.out)).e).mono ?_
 rintro e x3 ⟨rfl, hb3⟩
 have HB3 := aZ HB2.out hb3
 have hz3 := HB3.out.size
 clear hb3
 go_wp2_with fail
 go_ret
 exact ⟨rfl, (pl HB3.out)⟩
set_option maxRecDepth 100000 in
set_option maxHeartbeats 8000000 in
theorem ap1 (A0 : Option Addr) (c0 : Nat) (bV : List Nat) (jq : ∀ b ∈ bV, b < 256) (jv : bV.length ≤ c0) (kZ : c0 ≤ maxLen) (A1 : Option Addr) (c1 : Nat) (dM : List Nat) (jH : ∀ b ∈ dM, b < 256) (jK : dM.length ≤ c1) (lW : c1 ≤ maxLen) (A2 : Option Addr) (c2 : Nat) (gQ : List Nat) (oQ : ∀ b ∈ gQ, b < 256) (oU : gQ.length ≤ c2) (sJ : c2 ≤ maxLen) (h1 : dM.length ≤ 300) (h0 : bV.length = 32) (h2 : gQ.length = 64) (hg : ¬ qW bV) (w : World) (jA : Rd w .u8 A0 bV) (jO : Rd w .u8 A1 dM) (oV : Rd w .u8 A2 gQ) (h5 : Ed8 w) :
 Calls Tryz.prog 4 #[.slice A0 bV.length c0, .slice A1 dM.length c1, .slice A2 gQ.length c2] w fun e w' => e = .returned (.bool true) ∧ Below w.heap.size w w' := by
 have HE := Lib.hid h5
 clear h5
 have HR0 := Lib.hid jA
 have au := Lib.hid (And.intro jv jq)
 clear jA jv jq kZ
 have HR1 := Lib.hid jO
 have aH := Lib.hid (And.intro jK jH)
 clear jO jK jH lW
 have HR2 := Lib.hid oV
 have aT := Lib.hid (And.intro oU oQ)
 clear oV oU oQ sJ
 have hI1 : ((300 : Int) < (dM.length : Int)) = False := eq_false (by omega)
 have hK1 : decide (300 < dM.length) = false := decide_eq_false (by omega)
 rw [h0]
 obtain ⟨R, S, g, off, hRS, lR, lS, bR, bS, rfl, hr_, hrR, hrS⟩ := aox gQ A2 h2 aT.out.2 w HR2.out
 have HRS := Lib.hid (And.intro lR (And.intro lS (And.intro bR bS)))
 have HRX := Lib.hid hr_
 have HRR := Lib.hid hrR
 have HRT := Lib.hid hrS
 have HL := Lib.hid (And.intro h0 (And.intro h1 h2))
 have HE2 := Lib.hid hRS
 have hc2 : 64 ≤ c2 := by have := aT.out.1; omega
 have hc0 : 32 ≤ c0 := by have := au.out.1; omega
 have HC := Lib.hid (And.intro hc0 hc2)
 rw [h2]
 clear h2 hRS lR lS bR bS hr_ hrR hrS hc2 hc0
 have HGD := Lib.hid hg
 clear hg h0 h1
 go_enter Tryz.func4, Tryz.ntmps4
 go_wp2_with fail
 refine (asv A0 A1 (some ⟨g, off, none⟩) c0 c1 c2 bV dM R S HL.out.1 au.out.2 (by have := HL.out.2.1; omega) aH.out.2 HRS.out.1 HRS.out.2.1 HRS.out.2.2.1 HRS.out.2.2.2 HC.out.2 (Gl _ _ _ rfl rfl rfl A0 c0 bV HL.out.1 au.out.2 (fun h => HGD.out ⟨HL.out.1, h⟩)) _ (HE.out.next (pl (Below.refl _ _))).s (HE.out.next (pl (Below.refl _ _))).e.o (HR0.out.next (pl (Below.refl _ _))) (HR1.out.next (pl (Below.refl _ _))) (HRX.out.next (pl (Below.refl _ _)))).mono ?_
 rintro e x1 ⟨rfl, hb1⟩
 have HB1 : Hid (Below w.heap.size w x1) := Below.trans (pl (Below.refl _ _)) (hb1.mono sz)
 have hz1 := HB1.out.size
 clear hb1
 go_wp2_with fail
 refine (aq3 A0 A1 g off c0 c1 c2 bV dM R S HL.out.1 au.out.2 HC.out.1 (by have := HL.out.2.1; omega) aH.out.2 HRS.out.1 HRS.out.2.1 HRS.out.2.2.1 HRS.out.2.2.2 HC.out.2 HGD.out _ (HR0.out.next (pl HB1.out)) (HR1.out.next (pl HB1.out)) (HRR.out.next (pl HB1.out)) (HRT.out.next (pl HB1.out))).mono ?_
 rintro e x2 ⟨rfl, hb2⟩
 have HB2 := aZ HB1.out hb2
 have hz2 := HB2.out.size
 clear hb2
 go_wp2_with fail
 refine (fJ _ (HE.out.next (pl HB2.out)).e).mono ?_
 rintro e x3 ⟨rfl, hb3⟩
 have HB3 := aZ HB2.out hb3
 have hz3 := HB3.out.size
 clear hb3
 go_wp2_with fail
 go_ret
 exact ⟨rfl, (pl HB3.out)⟩
set_option maxRecDepth 100000 in
set_option maxHeartbeats 8000000 in
theorem ap2 (A0 : Option Addr) (c0 : Nat) (bV : List Nat) (jq : ∀ b ∈ bV, b < 256) (jv : bV.length ≤ c0) (kZ : c0 ≤ maxLen) (A1 : Option Addr) (c1 : Nat) (dM : List Nat) (jH : ∀ b ∈ dM, b < 256) (jK : dM.length ≤ c1) (lW : c1 ≤ maxLen) (A2 : Option Addr) (c2 : Nat) (gQ : List Nat) (oQ : ∀ b ∈ gQ, b < 256) (oU : gQ.length ≤ c2) (sJ : c2 ≤ maxLen) (h1 : dM.length ≤ 300) (h0 : bV.length = 32) (h2 : gQ.length = 64) (hg : qW bV) (hs : ∀ R S : List Nat, gQ = R ++ S → R.length = 32 → ¬ bW S < LO) (w : World) (jA : Rd w .u8 A0 bV) (jO : Rd w .u8 A1 dM) (oV : Rd w .u8 A2 gQ) (h5 : Ed8 w) :
 Calls Tryz.prog 4 #[.slice A0 bV.length c0, .slice A1 dM.length c1, .slice A2 gQ.length c2] w fun e w' => e = .returned (.bool true) ∧ Below w.heap.size w w' := by
 have HE := Lib.hid h5
 clear h5
 have HR0 := Lib.hid jA
 have au := Lib.hid (And.intro jv jq)
 clear jA jv jq kZ
 have HR1 := Lib.hid jO
 have aH := Lib.hid (And.intro jK jH)
 clear jO jK jH lW
 have HR2 := Lib.hid oV
 have aT := Lib.hid (And.intro oU oQ)
 clear oV oU oQ sJ
 have hI1 : ((300 : Int) < (dM.length : Int)) = False := eq_false (by omega)
 have hK1 : decide (300 < dM.length) = false := decide_eq_false (by omega)
 rw [h0]
 obtain ⟨R, S, g, off, hRS, lR, lS, bR, bS, rfl, hr_, hrR, hrS⟩ := aox gQ A2 h2 aT.out.2 w HR2.out
 have HRS := Lib.hid (And.intro lR (And.intro lS (And.intro bR bS)))
 have HRX := Lib.hid hr_
 have HRR := Lib.hid hrR
 have HRT := Lib.hid hrS
 have HL := Lib.hid (And.intro h0 (And.intro h1 h2))
 have HE2 := Lib.hid hRS
 have hc2 : 64 ≤ c2 := by have := aT.out.1; omega
 have hc0 : 32 ≤ c0 := by have := au.out.1; omega
 have HC := Lib.hid (And.intro hc0 hc2)
 rw [h2]
 clear h2 hRS lR lS bR bS hr_ hrR hrS hc2 hc0
 have HGD := Lib.hid hg
 have HSL := Lib.hid hs
 clear hg h0 h1 hs
 obtain ⟨p, hp, hcd⟩ := NZ A0 c0 HGD.out au.out.2
 have HP := Lib.hid hp
 have HCD := Lib.hid hcd
 clear hp hcd
 have apt := Lib.hid (HSL.out R S HE2.out HRS.out.1)
 go_enter Tryz.func4, Tryz.ntmps4
 go_wp2_with fail
 refine (amg A0 A1 (some ⟨g, off, none⟩) c0 c1 c2 bV dM R S HL.out.1 au.out.2 (by have := HL.out.2.1; omega) aH.out.2 HRS.out.1 HRS.out.2.1 HRS.out.2.2.1 HRS.out.2.2.2 HC.out.2 p _ HP.out HCD.out (Nat.le_of_not_lt apt.out) _ (HE.out.next (pl (Below.refl _ _))).s (HE.out.next (pl (Below.refl _ _))).e.o (HR0.out.next (pl (Below.refl _ _))) (HR1.out.next (pl (Below.refl _ _))) (HRX.out.next (pl (Below.refl _ _)))).mono ?_
 rintro e x1 ⟨rfl, hb1⟩
 have HB1 : Hid (Below w.heap.size w x1) := Below.trans (pl (Below.refl _ _)) (hb1.mono sz)
 have hz1 := HB1.out.size
 clear hb1
 go_wp2_with fail
 refine (aq5 A0 A1 g off c0 c1 c2 bV dM R S HL.out.1 au.out.2 HC.out.1 (by have := HL.out.2.1; omega) aH.out.2 HRS.out.1 HRS.out.2.1 HRS.out.2.2.1 HRS.out.2.2.2 HC.out.2 HGD.out (if_neg apt.out) _ (HR0.out.next (pl HB1.out)) (HR1.out.next (pl HB1.out)) (HRR.out.next (pl HB1.out)) (HRT.out.next (pl HB1.out))).mono ?_
 rintro e x2 ⟨rfl, hb2⟩
 have HB2 := aZ HB1.out hb2
 have hz2 := HB2.out.size
 clear hb2
 go_wp2_with fail
 refine (fJ _ (HE.out.next (pl HB2.out)).e).mono ?_
 rintro e x3 ⟨rfl, hb3⟩
 have HB3 := aZ HB2.out hb3
 have hz3 := HB3.out.size
 clear hb3
 go_wp2_with fail
 go_ret
 exact ⟨rfl, (pl HB3.out)⟩
set_option maxRecDepth 100000 in
set_option maxHeartbeats 8000000 in
theorem aqd (A0 : Option Addr) (c0 : Nat) (bV : List Nat) (jq : ∀ b ∈ bV, b < 256) (jv : bV.length ≤ c0) (kZ : c0 ≤ maxLen) (A1 : Option Addr) (c1 : Nat) (dM : List Nat) (jH : ∀ b ∈ dM, b < 256) (jK : dM.length ≤ c1) (lW : c1 ≤ maxLen) (A2 : Option Addr) (c2 : Nat) (gQ : List Nat) (oQ : ∀ b ∈ gQ, b < 256) (oU : gQ.length ≤ c2) (sJ : c2 ≤ maxLen) (h1 : dM.length ≤ 300) (h0 : bV.length = 32) (h2 : gQ.length = 64) (hg : qW bV) (hs : ∀ R S : List Nat, gQ = R ++ S → R.length = 32 → bW S < LO) (hb : ∀ R S : List Nat, gQ = R ++ S → R.length = 32 → iM (Pt.smul (ab3 (R ++ (bV ++ dM))) (-(decP hg.2)) + Pt.smul (bW S) iZ) = R) (w : World) (jA : Rd w .u8 A0 bV) (jO : Rd w .u8 A1 dM) (oV : Rd w .u8 A2 gQ) (h5 : Ed8 w) :
 Calls Tryz.prog 4 #[.slice A0 bV.length c0, .slice A1 dM.length c1, .slice A2 gQ.length c2] w fun e w' => e = .returned (.bool true) ∧ Below w.heap.size w w' := by
 have HE := Lib.hid h5
 clear h5
 have HR0 := Lib.hid jA
 have au := Lib.hid (And.intro jv jq)
 clear jA jv jq kZ
 have HR1 := Lib.hid jO
 have aH := Lib.hid (And.intro jK jH)
 clear jO jK jH lW
 have HR2 := Lib.hid oV
 have aT := Lib.hid (And.intro oU oQ)
 clear oV oU oQ sJ
 have hI1 : ((300 : Int) < (dM.length : Int)) = False := eq_false (by omega)
 have hK1 : decide (300 < dM.length) = false := decide_eq_false (by omega)
 rw [h0]
 obtain ⟨R, S, g, off, hRS, lR, lS, bR, bS, rfl, hr_, hrR, hrS⟩ := aox gQ A2 h2 aT.out.2 w HR2.out
 have HRS := Lib.hid (And.intro lR (And.intro lS (And.intro bR bS)))
 have HRX := Lib.hid hr_
 have HRR := Lib.hid hrR
 have HRT := Lib.hid hrS
 have HL := Lib.hid (And.intro h0 (And.intro h1 h2))
 have HE2 := Lib.hid hRS
 have hc2 : 64 ≤ c2 := by have := aT.out.1; omega
 have hc0 : 32 ≤ c0 := by have := au.out.1; omega
 have HC := Lib.hid (And.intro hc0 hc2)
 rw [h2]
 clear h2 hRS lR lS bR bS hr_ hrR hrS hc2 hc0
 have HGD := Lib.hid hg
 have HSL := Lib.hid hs
 have HHB : Hid (∀ (hgd : qW bV) (R S : List Nat), gQ = R ++ S → R.length = 32 → iM (Pt.smul (ab3 (R ++ (bV ++ dM))) (-(decP hgd.2)) + Pt.smul (bW S) iZ) = R) := Lib.hid (fun _ => hb)
 clear hg h0 h1 hs hb
 obtain ⟨p, hp, hcd⟩ := NZ A0 c0 HGD.out au.out.2
 have HP := Lib.hid hp
 have HCD := Lib.hid hcd
 clear hp hcd
 have apt := Lib.hid (HSL.out R S HE2.out HRS.out.1)
 have HBB := Lib.hid (HHB.out HGD.out R S HE2.out HRS.out.1)
 go_enter Tryz.func4, Tryz.ntmps4
 go_wp2_with fail
 refine (akW A0 A1 (some ⟨g, off, none⟩) c0 c1 c2 bV dM R S HL.out.1 au.out.2 (by have := HL.out.2.1; omega) aH.out.2 HRS.out.1 HRS.out.2.1 HRS.out.2.2.1 HRS.out.2.2.2 HC.out.2 p _ HP.out HCD.out apt.out HBB.out _ (HE.out.next (pl (Below.refl _ _))).s (HE.out.next (pl (Below.refl _ _))).e.o (HR0.out.next (pl (Below.refl _ _))) (HR1.out.next (pl (Below.refl _ _))) (HRX.out.next (pl (Below.refl _ _)))).mono ?_
 rintro e x1 ⟨rfl, hb1⟩
 have HB1 : Hid (Below w.heap.size w x1) := Below.trans (pl (Below.refl _ _)) (hb1.mono sz)
 have hz1 := HB1.out.size
 clear hb1
 go_wp2_with fail
 refine (aq6 A0 A1 g off c0 c1 c2 bV dM R S HL.out.1 au.out.2 HC.out.1 (by have := HL.out.2.1; omega) aH.out.2 HRS.out.1 HRS.out.2.1 HRS.out.2.2.1 HRS.out.2.2.2 HC.out.2 HGD.out (if_pos apt.out) (decide_eq_true HBB.out) _ (HR0.out.next (pl HB1.out)) (HR1.out.next (pl HB1.out)) (HRR.out.next (pl HB1.out)) (HRT.out.next (pl HB1.out))).mono ?_
 rintro e x2 ⟨rfl, hb2⟩
 have HB2 := aZ HB1.out hb2
 have hz2 := HB2.out.size
 clear hb2
 go_wp2_with fail
 refine (fJ _ (HE.out.next (pl HB2.out)).e).mono ?_
 rintro e x3 ⟨rfl, hb3⟩
 have HB3 := aZ HB2.out hb3
 have hz3 := HB3.out.size
 clear hb3
 go_wp2_with fail
 go_ret
 exact ⟨rfl, (pl HB3.out)⟩
set_option maxRecDepth 100000 in
set_option maxHeartbeats 8000000 in
theorem aqe (A0 : Option Addr) (c0 : Nat) (bV : List Nat) (jq : ∀ b ∈ bV, b < 256) (jv : bV.length ≤ c0) (kZ : c0 ≤ maxLen) (A1 : Option Addr) (c1 : Nat) (dM : List Nat) (jH : ∀ b ∈ dM, b < 256) (jK : dM.length ≤ c1) (lW : c1 ≤ maxLen) (A2 : Option Addr) (c2 : Nat) (gQ : List Nat) (oQ : ∀ b ∈ gQ, b < 256) (oU : gQ.length ≤ c2) (sJ : c2 ≤ maxLen) (h1 : dM.length ≤ 300) (h0 : bV.length = 32) (h2 : gQ.length = 64) (hg : qW bV) (hs : ∀ R S : List Nat, gQ = R ++ S → R.length = 32 → bW S < LO) (hb : ∀ R S : List Nat, gQ = R ++ S → R.length = 32 → ¬ iM (Pt.smul (ab3 (R ++ (bV ++ dM))) (-(decP hg.2)) + Pt.smul (bW S) iZ) = R) (w : World) (jA : Rd w .u8 A0 bV) (jO : Rd w .u8 A1 dM) (oV : Rd w .u8 A2 gQ) (h5 : Ed8 w) :
 Calls Tryz.prog 4 #[.slice A0 bV.length c0, .slice A1 dM.length c1, .slice A2 gQ.length c2] w fun e w' => e = .returned (.bool true) ∧ Below w.heap.size w w' := by
 have HE := Lib.hid h5
 clear h5
 have HR0 := Lib.hid jA
 have au := Lib.hid (And.intro jv jq)
 clear jA jv jq kZ
 have HR1 := Lib.hid jO
 have aH := Lib.hid (And.intro jK jH)
 clear jO jK jH lW
 have HR2 := Lib.hid oV
 have aT := Lib.hid (And.intro oU oQ)
 clear oV oU oQ sJ
 have hI1 : ((300 : Int) < (dM.length : Int)) = False := eq_false (by omega)
 have hK1 : decide (300 < dM.length) = false := decide_eq_false (by omega)
 rw [h0]
 obtain ⟨R, S, g, off, hRS, lR, lS, bR, bS, rfl, hr_, hrR, hrS⟩ := aox gQ A2 h2 aT.out.2 w HR2.out
 have HRS := Lib.hid (And.intro lR (And.intro lS (And.intro bR bS)))
 have HRX := Lib.hid hr_
 have HRR := Lib.hid hrR
 have HRT := Lib.hid hrS
 have HL := Lib.hid (And.intro h0 (And.intro h1 h2))
 have HE2 := Lib.hid hRS
 have hc2 : 64 ≤ c2 := by have := aT.out.1; omega
 have hc0 : 32 ≤ c0 := by have := au.out.1; omega
 have HC := Lib.hid (And.intro hc0 hc2)
 rw [h2]
 clear h2 hRS lR lS bR bS hr_ hrR hrS hc2 hc0
 have HGD := Lib.hid hg
 have HSL := Lib.hid hs
 have HHB : Hid (∀ (hgd : qW bV) (R S : List Nat), gQ = R ++ S → R.length = 32 → ¬ iM (Pt.smul (ab3 (R ++ (bV ++ dM))) (-(decP hgd.2)) + Pt.smul (bW S) iZ) = R) := Lib.hid (fun _ => hb)
 clear hg h0 h1 hs hb
 obtain ⟨p, hp, hcd⟩ := NZ A0 c0 HGD.out au.out.2
 have HP := Lib.hid hp
 have HCD := Lib.hid hcd
 clear hp hcd
 have apt := Lib.hid (HSL.out R S HE2.out HRS.out.1)
 have HBB := Lib.hid (HHB.out HGD.out R S HE2.out HRS.out.1)
 go_enter Tryz.func4, Tryz.ntmps4
 go_wp2_with fail
 refine (anS A0 A1 (some ⟨g, off, none⟩) c0 c1 c2 bV dM R S HL.out.1 au.out.2 (by have := HL.out.2.1; omega) aH.out.2 HRS.out.1 HRS.out.2.1 HRS.out.2.2.1 HRS.out.2.2.2 HC.out.2 p _ HP.out HCD.out apt.out HBB.out _ (HE.out.next (pl (Below.refl _ _))).s (HE.out.next (pl (Below.refl _ _))).e.o (HR0.out.next (pl (Below.refl _ _))) (HR1.out.next (pl (Below.refl _ _))) (HRX.out.next (pl (Below.refl _ _)))).mono ?_
 rintro e x1 ⟨rfl, hb1⟩
 have HB1 : Hid (Below w.heap.size w x1) := Below.trans (pl (Below.refl _ _)) (hb1.mono sz)
 have hz1 := HB1.out.size
 clear hb1
 go_wp2_with fail
 refine (aq1 A0 A1 g off c0 c1 c2 bV dM R S HL.out.1 au.out.2 HC.out.1 (by have := HL.out.2.1; omega) aH.out.2 HRS.out.1 HRS.out.2.1 HRS.out.2.2.1 HRS.out.2.2.2 HC.out.2 HGD.out (if_pos apt.out) (decide_eq_false HBB.out) _ (HR0.out.next (pl HB1.out)) (HR1.out.next (pl HB1.out)) (HRR.out.next (pl HB1.out)) (HRT.out.next (pl HB1.out))).mono ?_
 rintro e x2 ⟨rfl, hb2⟩
 have HB2 := aZ HB1.out hb2
 have hz2 := HB2.out.size
 clear hb2
 go_wp2_with fail
 refine (fJ _ (HE.out.next (pl HB2.out)).e).mono ?_
 rintro e x3 ⟨rfl, hb3⟩
 have HB3 := aZ HB2.out hb3
 have hz3 := HB3.out.size
 clear hb3
 go_wp2_with fail
 go_ret
 exact ⟨rfl, (pl HB3.out)⟩
theorem apw (A0 : Option Addr) (c0 : Nat) (bV : List Nat) (jq : ∀ b ∈ bV, b < 256) (jv : bV.length ≤ c0) (kZ : c0 ≤ maxLen) (A1 : Option Addr) (c1 : Nat) (dM : List Nat) (jH : ∀ b ∈ dM, b < 256) (jK : dM.length ≤ c1) (lW : c1 ≤ maxLen) (A2 : Option Addr) (c2 : Nat) (gQ : List Nat) (oQ : ∀ b ∈ gQ, b < 256) (oU : gQ.length ≤ c2) (sJ : c2 ≤ maxLen) (w : World) (jA : Rd w .u8 A0 bV) (jO : Rd w .u8 A1 dM) (oV : Rd w .u8 A2 gQ) (h5 : Ed8 w) : Calls Tryz.prog 4 #[.slice A0 bV.length c0, .slice A1 dM.length c1, .slice A2 gQ.length c2] w fun e w' => e = .returned (.bool true) ∧ Below w.heap.size w w' := by
 by_cases h1 : dM.length ≤ 300
 · by_cases h0 : bV.length = 32
   · by_cases h2 : gQ.length = 64
     · by_cases hg : qW bV
       · have key : ∀ R S : List Nat, gQ = R ++ S → R.length = 32 → R = gQ.take 32 ∧ S = gQ.drop 32 := by
          intro R S h hl
          subst h
          exact ⟨by rw [← hl, List.take_left], by rw [← hl, List.drop_left]⟩
         by_cases hs : bW (gQ.drop 32) < LO
         · by_cases hb : iM (Pt.smul (ab3 (gQ.take 32 ++ (bV ++ dM))) (-(decP hg.2)) + Pt.smul (bW (gQ.drop 32)) iZ) = gQ.take 32
           · exact aqd A0 c0 bV jq jv kZ A1 c1 dM jH jK lW A2 c2 gQ oQ oU sJ h1 h0 h2 hg (fun R S h hl => by obtain ⟨_, rfl⟩ := key R S h hl; exact hs) (fun R S h hl => by obtain ⟨rfl, rfl⟩ := key R S h hl; exact hb) w jA jO oV h5
           · exact aqe A0 c0 bV jq jv kZ A1 c1 dM jH jK lW A2 c2 gQ oQ oU sJ h1 h0 h2 hg (fun R S h hl => by obtain ⟨_, rfl⟩ := key R S h hl; exact hs) (fun R S h hl => by obtain ⟨rfl, rfl⟩ := key R S h hl; exact hb) w jA jO oV h5
         · exact ap2 A0 c0 bV jq jv kZ A1 c1 dM jH jK lW A2 c2 gQ oQ oU sJ h1 h0 h2 hg (fun R S h hl => by obtain ⟨_, rfl⟩ := key R S h hl; exact hs) w jA jO oV h5
       · exact ap1 A0 c0 bV jq jv kZ A1 c1 dM jH jK lW A2 c2 gQ oQ oU sJ h1 h0 h2 hg w jA jO oV h5
     · by_cases h3 : gQ.length ≤ 100
       · exact ap0 A0 c0 bV jq jv kZ A1 c1 dM jH jK lW A2 c2 gQ oQ oU sJ h1 h0 h3 h2 w jA jO oV h5
       · exact apv A0 c0 bV jq jv kZ A1 c1 dM jH jK lW A2 c2 gQ oQ oU sJ h1 (by omega) (by omega) w jA jO oV h5
   · by_cases h4 : bV.length ≤ 100
     · by_cases h3 : gQ.length ≤ 100
       · exact apZ A0 c0 bV jq jv kZ A1 c1 dM jH jK lW A2 c2 gQ oQ oU sJ h1 h4 h3 h0 w jA jO oV h5
       · exact apv A0 c0 bV jq jv kZ A1 c1 dM jH jK lW A2 c2 gQ oQ oU sJ h1 h4 (by omega) w jA jO oV h5
     · exact apX A0 c0 bV jq jv kZ A1 c1 dM jH jK lW A2 c2 gQ oQ oU sJ h1 (by omega) w jA jO oV h5
 · exact apW A0 c0 bV jq jv kZ A1 c1 dM jH jK lW A2 c2 gQ oQ oU sJ (by omega) w jA jO oV h5
set_option maxRecDepth 100000 in
theorem aoD (os : Os) (started : os.Started) (H : Type) (enc : TypeId × Value → H) :
 ReturnsInHanded {} Tryz.checked os 4 .any (fun w args => (Rows.edVerifiesSpec.pre enc Tryz.prog Tryz.f4 [] false w args ∧ laidMetH Tryz.prog am8 w) ∧ sizedMet enc Tryz.prog Tryz.f4 (OpenSpec.ofChange Rows.edVerifiesSpec) false w args) (Rows.edVerifiesSpec.post enc Tryz.prog Tryz.f4 false true false false) := by
 refine returnsInHanded_of_change_and (C := Tryz.checked) (X := fun w _ => laidMetH Tryz.prog am8 w) (fun _ _ _ hh h => h.of_heap hh) own started (by kernel_rfl) Tryz.func4
  (ChangeSpec.witness_shaped (enc := enc) (C := Tryz.checked) (os := os) (X := fun w _ => laidMetH Tryz.prog am8 w) false (World.doorLaid Tryz.prog 49 os) #[.slice none 0 0, .slice none 0 0, .slice none 0 0] 8 rfl (World.shaped_of_RefB (by kernel_rfl) (by kernel_rfl)) (by kernel_rfl) (by kernel_rfl) (by kernel_rfl) (ac3 os _)) ?_
 intro W base args ds gs before hval0 hW _ _ hL _
 have hval : ∀ (j : Nat) t v, Tryz.f4.params[j]? = some t → args[j]? = some v → Value.okWide Tryz.prog W .any base t v := hval0
 have hW' := hW
 obtain ⟨p, q, hA0, hV, rfl, hfz, hnd⟩ := hW
 have hA : DataW.TrodAll enc Tryz.prog W 0 (fun _ => true) true Tryz.f4.params.toList args.toList ds p := hA0
 rw [Tryz.params4] at hA hval
 obtain ⟨v0, vs0, d0, ds0, p0, q0, hargs, rfl, rfl, h0, r0⟩ := trodAll_cons hA
 obtain ⟨v1, vs1, d1, ds1, p1, q1, rfl, rfl, rfl, h1, r1⟩ := trodAll_cons r0
 obtain ⟨v2, vs2, d2, ds2, p2, q2, rfl, rfl, rfl, h2, r2⟩ := trodAll_cons r1
 obtain ⟨rfl, rfl, rfl⟩ := trodAll_nil r2
 obtain rfl : args = #[v0, v1, v2] := by cases args; simp_all
 obtain ⟨rfl, rfl⟩ := trodVars_none hV
 have k0 := h0
 have Yq : ∀ x ∈ p0, x.block < W.heap.size := by obtain ⟨m, hm⟩ := k0; exact DataW.trod_lt m _ _ _ hm
 obtain ⟨A0, c0, bV, rfl, jA, jq, jv, kZ⟩ := open_bytes (hval 0 22 v0 rfl rfl) h0
 have k1 := h1
 have lt1 : ∀ x ∈ p1, x.block < W.heap.size := by obtain ⟨m, hm⟩ := k1; exact DataW.trod_lt m _ _ _ hm
 obtain ⟨A1, c1, dM, rfl, jO, jH, jK, lW⟩ := open_bytes (hval 1 22 v1 rfl rfl) h1
 have k2 := h2
 have lt2 : ∀ x ∈ p2, x.block < W.heap.size := by obtain ⟨m, hm⟩ := k2; exact DataW.trod_lt m _ _ _ hm
 obtain ⟨A2, c2, gQ, rfl, oV, oQ, oU, sJ⟩ := open_bytes (hval 2 22 v2 rfl rfl) h2
 have hO := acP hL
 clear hA0 hval0
 refine (apw A0 c0 bV jq jv kZ A1 c1 dM jH jK lW A2 c2 gQ oQ oU sJ W jA jO oV hO).mono fun e W' ⟨he, bel⟩ => ?_
 subst he
 exact ⟨_, rfl, _, _, _, [], _, [], hW', trodAll_mk1 (shut_bool Tryz.underlying4 _), (trodAll_cons_mk (Below.trod laidOut (by kernel_rfl) (of_decide_eq_true (by kernel_rfl)) k0 bel Yq) (trodAll_cons_mk (Below.trod laidOut (by kernel_rfl) (of_decide_eq_true (by kernel_rfl)) k1 bel lt1) (trodAll_cons_mk (Below.trod laidOut (by kernel_rfl) (of_decide_eq_true (by kernel_rfl)) k2 bel lt2) trodAll_mk0))), rfl, bel.frame _, fun h => by cases h⟩
theorem apd : Rows.EdVerifiesSaid :=
 OpenClaim.holds_of_wide 4 Tryz.f4 rfl rfl rfl rfl rfl rfl rfl ⟨rfl, rfl, rfl, rfl, rfl⟩ rfl rfl rfl rfl rfl (by kernel_rfl) Tryz.func4 (by kernel_rfl)
  (of_decide_eq_true (by kernel_rfl)) (by unfold Func.isWrapper; first | (rw [if_pos (by decide +kernel)]; kernel_rfl) | (rw [if_neg (by decide +kernel)]; exact ⟨rfl, rfl⟩))
  (fun os started H enc _ => aoD os started H enc)
theorem ledVerifies_holds : Rows.EdVerifiesCardSaid :=
 Claim7.holds_tied_plain_at .later [] [.data, .data, .widerDeep, .data, .data, .data, .data, .data] true (true, "442fac7cce3990444957d2d7fb37b897080886019b911eff12ef7574d0e8a946") false
  apd (fun _ h => by cases h) (by kernel_rfl) (fun _ h => by cases h) edVerifies_row_tie rfl ⟨rfl, rfl⟩ (by kernel_rfl) rfl
  (fun f fn hf hfn => by
   obtain rfl : f = 4 := Option.some.inj ((show Tryz.prog.funcNamed "imprimatur/imprimaturlaw05.EdVerifies" = some 4 by kernel_rfl).symm.trans hf) |>.symm
   obtain rfl : fn = Tryz.f4 := (Option.some.inj (Tryz.func4.symm.trans hfn)).symm
   exact ⟨by kernel_rfl, fun j t ht => by
    rw [Tryz.params4] at ht
    have hm : t ∈ [22] := by simpa using Array.mem_of_getElem? ht
    have hall : ([22].all fun u => !Tryz.prog.wantsStandIn u) = true := by kernel_rfl
    exact (show Tryz.prog.wantsStandIn t = false by simpa using List.all_eq_true.1 hall t hm)⟩)
  (by kernel_rfl)
end Go.Proofs.YtehfkbaendajbaaGreatDoor