/-
 The statement EdAdds.
-/
import Derived.Test.YtbghdkmpjiffeaaDoorCards
import Derived.Test.YtbghdkmpjiffeaaDoorTie
import Derived.Test.YtbghdkmpjiffeaaDoorM39r1235
import Derived.Test.YtbghdkmpjiffeaaDoorM40r2356
import Derived.SevenTiedAt
namespace Go.Proofs.YtbghdkmpjiffeaaDoor
open Go.RowKit Go.ChangeShapes Go.WideShapes Go.ChangeAt Go.Proofs.YtbghdkmpjiffeaaDoorW.PrintLast
set_option linter.unusedSimpArgs false
set_option linter.unusedVariables false
set_option maxRecDepth 100000 in
set_option maxHeartbeats 8000000 in
theorem PE (A0 : Option Addr) (c0 : Nat) (bV : List Nat) (jq : ∀ b ∈ bV, b < 256) (jv : bV.length ≤ c0) (kZ : c0 ≤ maxLen) (A1 : Option Addr) (c1 : Nat) (dM : List Nat) (jH : ∀ b ∈ dM, b < 256) (jK : dM.length ≤ c1) (lW : c1 ≤ maxLen) (hl : 100 < bV.length) (w : World) (jA : Rd w .u8 A0 bV) (jO : Rd w .u8 A1 dM) (h5 : uU w) :
 Calls Tryd.prog 5 #[.slice A0 bV.length c0, .slice A1 dM.length c1] w fun e w' => e = .returned (.bool true) ∧ Below w.heap.size w w' := by
 have HE := Lib.hid h5
 clear h5
 have HR0 := Lib.hid jA
 have au := Lib.hid (And.intro jv jq)
 clear jA jv jq kZ
 have HR1 := Lib.hid jO
 have aH := Lib.hid (And.intro jK jH)
 clear jO jK jH lW
 have hI0 : (100 : Int) < (bV.length : Int) := by omega
 have hK0 : decide (100 < bV.length) = true := decide_eq_true (by omega)
 go_enter Tryd.func5, Tryd.ntmps5
 go_wp2_with fail
 refine (fJ _ (HE.out.next (pl (Below.refl _ _)))).mono ?_
 rintro e x1 ⟨rfl, hb1⟩
 have HB1 : Hid (Below w.heap.size w x1) := Below.trans (pl (Below.refl _ _)) (hb1.mono sz)
 have hz1 := HB1.out.size
 clear hb1
 go_wp2_with fail
 go_ret
 exact ⟨rfl, (pl HB1.out)⟩
set_option maxRecDepth 100000 in
set_option maxHeartbeats 8000000 in
theorem PG (A0 : Option Addr) (c0 : Nat) (bV : List Nat) (jq : ∀ b ∈ bV, b < 256) (jv : bV.length ≤ c0) (kZ : c0 ≤ maxLen) (A1 : Option Addr) (c1 : Nat) (dM : List Nat) (jH : ∀ b ∈ dM, b < 256) (jK : dM.length ≤ c1) (lW : c1 ≤ maxLen) (hl : bV.length ≤ 100) (hm : 100 < dM.length) (w : World) (jA : Rd w .u8 A0 bV) (jO : Rd w .u8 A1 dM) (h5 : uU w) :
 Calls Tryd.prog 5 #[.slice A0 bV.length c0, .slice A1 dM.length c1] w fun e w' => e = .returned (.bool true) ∧ Below w.heap.size w w' := by
 have HE := Lib.hid h5
 clear h5
 have HR0 := Lib.hid jA
 have au := Lib.hid (And.intro jv jq)
 clear jA jv jq kZ
 have HR1 := Lib.hid jO
 have aH := Lib.hid (And.intro jK jH)
 clear jO jK jH lW
 have hI0 : ((100 : Int) < (bV.length : Int)) = False := eq_false (by omega)
 have hK0 : decide (100 < bV.length) = false := decide_eq_false (by omega)
 have hI1 : (100 : Int) < (dM.length : Int) := by omega
 have hK1 : decide (100 < dM.length) = true := decide_eq_true (by omega)
 go_enter Tryd.func5, Tryd.ntmps5
 go_wp2_with fail
 refine (fJ _ (HE.out.next (pl (Below.refl _ _)))).mono ?_
 rintro e x1 ⟨rfl, hb1⟩
 have HB1 : Hid (Below w.heap.size w x1) := Below.trans (pl (Below.refl _ _)) (hb1.mono sz)
 have hz1 := HB1.out.size
 clear hb1
 go_wp2_with fail
 go_ret
 exact ⟨rfl, (pl HB1.out)⟩
set_option maxRecDepth 100000 in
set_option maxHeartbeats 8000000 in
theorem PI (A0 : Option Addr) (c0 : Nat) (bV : List Nat) (jq : ∀ b ∈ bV, b < 256) (jv : bV.length ≤ c0) (kZ : c0 ≤ maxLen) (A1 : Option Addr) (c1 : Nat) (dM : List Nat) (jH : ∀ b ∈ dM, b < 256) (jK : dM.length ≤ c1) (lW : c1 ≤ maxLen) (hl : bV.length ≤ 100 ∧ dM.length ≤ 100) (w : World) (jA : Rd w .u8 A0 bV) (jO : Rd w .u8 A1 dM) (h5 : uU w) :
 Calls Tryd.prog 5 #[.slice A0 bV.length c0, .slice A1 dM.length c1] w fun e w' => e = .returned (.bool true) ∧ Below w.heap.size w w' := by
 have HE := Lib.hid h5
 clear h5
 have HR0 := Lib.hid jA
 have au := Lib.hid (And.intro jv jq)
 clear jA jv jq kZ
 have HR1 := Lib.hid jO
 have aH := Lib.hid (And.intro jK jH)
 clear jO jK jH lW
 have hI0 : ((100 : Int) < (bV.length : Int)) = False := eq_false (by omega)
 have hK0 : decide (100 < bV.length) = false := decide_eq_false (by omega)
 have hI1 : ((100 : Int) < (dM.length : Int)) = False := eq_false (by omega)
 have hK1 : decide (100 < dM.length) = false := decide_eq_false (by omega)
 have HL := Lib.hid hl
 clear hl
 go_enter Tryd.func5, Tryd.ntmps5
 go_wp2_with fail
 refine (lN A0 c0 bV au.out.1 HL.out.1 au.out.2 _ (HE.out.next (pl (Below.refl _ _))) (HR0.out.next (pl (Below.refl _ _)))).mono ?_
 rintro e x1 ⟨⟨P0, p0, q0, rfl, TP, TS, TU⟩, hb1⟩
 have HB1 : Hid (Below w.heap.size w x1) := Below.trans (pl (Below.refl _ _)) (hb1.mono sz)
 have hz1 := HB1.out.size
 clear hb1
 have QE := Lib.hid TP
 have HF0 := Lib.hid TS
 have ug := Lib.hid TU
 clear TP TS TU
 go_wp2_with (first | (refine aI (.tmp 5) (.tmp 21) rfl (by rfl) (x1.heap.size) p0 28 rfl rfl bP rfl ob ?_) | (refine aI (.tmp 7) (.tmp 26) rfl (by rfl) (x2.heap.size) p1 28 rfl rfl bP rfl ob ?_))
 refine (lN A1 c1 dM aH.out.1 HL.out.2 aH.out.2 _ (HE.out.next (pl HB1.out)) (HR1.out.next (pl HB1.out))).mono ?_
 rintro e y2 ⟨⟨P1, p1, q1, rfl, wV, wY, wZ⟩, hb2⟩
 replace ug := Lib.hid (ug.out.next (bt hb2))
 obtain ⟨x2, rfl, hc2, hz2, kD, rQ⟩ := fO (b0 := x1.heap.size) (b1 := x1.heap.size + 1) hb2 rfl ob ob
 have HB2 := aZ HB1.out hc2
 clear hb2 hc2
 try simp only [bF] at hz2
 have QF := Lib.hid wV
 have Gf := Lib.hid wY
 have jZ := Lib.hid wZ
 clear wV wY wZ
 go_wp2_with (first | (refine aI (.tmp 5) (.tmp 21) rfl (by rfl) (x1.heap.size) p0 28 rfl rfl bP rfl ob ?_) | (refine aI (.tmp 7) (.tmp 26) rfl (by rfl) (x2.heap.size) p1 28 rfl rfl bP rfl ob ?_))
 obtain ⟨oa, hoa, hca⟩ := rY p0 p1 P0 P1 QE.out QF.out
 obtain ⟨on, hon, hcn⟩ := Rt p0 P0 QE.out
 obtain ⟨b, hb⟩ : ∃ b : Bool, (b = true ↔ P0 = P1) := by
  by_cases h : P0 = P1
  · exact ⟨true, fun _ => h, fun _ => rfl⟩
  · exact ⟨false, fun h1 => (by cases h1), fun h1 => absurd h1 h⟩
 have N7 := Lib.hid hoa
 have HCA := Lib.hid hca
 have HON := Lib.hid hon
 have HCN := Lib.hid hcn
 have HBB := Lib.hid hb
 clear hoa hca hon hcn hb
 refine st1 w [] 28 (ak (b := x1.heap.size) ob (ak (b := x1.heap.size + 1) ob (ak (b := x2.heap.size) ob (ak (b := x2.heap.size + 1) ob (aO (pl HB2.out)))))) (fun HS => ?_)
 refine tk4 0 (some 28) HS (v := p0.v) (hy := by (intro v hv; obtain ⟨x, rfl, _, _, n0, n1, n2, n3⟩ := hv.iO; exact aG 28 (.tmp 5) rfl (x1.heap.size) 0 rfl p0.cL p0.cA 28 ob (by kernel_rfl) (by kernel_rfl) (by kernel_rfl))) (h := ?_)
 refine tk4 1 (some 29) HS (v := p1.v) (hy := by (intro v hv; obtain ⟨x, rfl, _, _, n0, n1, n2, n3⟩ := hv.iO; exact aG 28 (.tmp 7) rfl (x2.heap.size) 0 rfl p1.cL p1.cA 28 ob (by kernel_rfl) (by kernel_rfl) (by kernel_rfl))) (h := ?_)
 refine tk4 3 (some 31) HS (h := ?_)
 refine tk4 4 (some 32) HS (h := ?_)
 refine dH 2 (some 30) (h := fun K hK => ?_)
 go_simp
 refine (HCA.out _ (HE.out.next HS.1).c).mono ?_
 rintro e y ⟨rfl, hb⟩
 refine hK.out _ _ (HS.step hb rfl) ?_
 replace ug := Lib.hid (ug.out.next (bt hb))
 replace jZ := Lib.hid (jZ.out.next (bt hb))
 clear HS hb
 intro HS
 refine dH 5 (some 33) (h := fun K hK => ?_)
 go_simp
 refine (D7 _).mono ?_
 rintro e y ⟨⟨RD, rd, rfl, hrd⟩, hb⟩
 refine hK.out _ _ (HS.step hb rfl) ?_
 replace ug := Lib.hid (ug.out.next (bt hb))
 replace jZ := Lib.hid (jZ.out.next (bt hb))
 clear HS hb
 intro HS
 have fM := Lib.hid hrd
 clear hrd
 refine dH 6 (some 34) (h := fun K hK => ?_)
 go_simp
 refine (lC q0 q1 P0 P1 HF0.out Gf.out RD rd _ (ug.out.next (pl (Below.refl _ _))) (jZ.out.next (pl (Below.refl _ _))) (fM.out.next (pl (Below.refl _ _)))).mono ?_
 rintro e y ⟨⟨os, rfl, hos, aeF⟩, hb⟩
 refine hK.out _ _ (HS.step hb rfl) ?_
 replace ug := Lib.hid (ug.out.next (bt hb))
 replace jZ := Lib.hid (jZ.out.next (bt hb))
 replace fM := Lib.hid (fM.out.next (bt hb))
 clear HS hb
 intro HS
 have Dq := Lib.hid hos
 have ahs := Lib.hid aeF
 clear hos aeF
 refine dH 7 (some 35) (h := fun K hK => ?_)
 go_simp
 refine (vC oa os (P0 + P1) (P0 + P1) N7.out ahs.out true ⟨fun _ => rfl, fun _ => rfl⟩ _ (Dq.out.next (pl (Below.refl _ _)))).mono ?_
 rintro e y ⟨rfl, hb⟩
 refine hK.out _ _ (HS.step hb rfl) ?_
 replace ug := Lib.hid (ug.out.next (bt hb))
 replace jZ := Lib.hid (jZ.out.next (bt hb))
 replace fM := Lib.hid (fM.out.next (bt hb))
 replace Dq := Lib.hid (Dq.out.next (bt hb))
 clear HS hb
 intro HS
 refine tk4 8 (some 36) HS (h := ?_)
 refine tk4 9 (some 37) HS (v := p0.v) (hy := by (intro v hv; obtain ⟨x, rfl, _, _, n0, n1, n2, n3⟩ := hv.iO; exact aG 28 (.tmp 5) rfl (x1.heap.size) 0 rfl p0.cL p0.cA 28 ob (by kernel_rfl) (by kernel_rfl) (by kernel_rfl))) (h := ?_)
 refine tk4 11 (some 39) HS (h := ?_)
 refine dH 10 (some 38) (h := fun K hK => ?_)
 go_simp
 refine (HCN.out _).mono ?_
 rintro e y ⟨rfl, hb⟩
 refine hK.out _ _ (HS.step hb rfl) ?_
 replace ug := Lib.hid (ug.out.next (bt hb))
 replace jZ := Lib.hid (jZ.out.next (bt hb))
 replace fM := Lib.hid (fM.out.next (bt hb))
 replace Dq := Lib.hid (Dq.out.next (bt hb))
 clear HS hb
 intro HS
 refine dH 12 (some 40) (h := fun K hK => ?_)
 go_simp
 refine (Xw q0 P0 HF0.out _ (ug.out.next (pl (Below.refl _ _)))).mono ?_
 rintro e y ⟨⟨om, rfl, hom, aeE⟩, hb⟩
 refine hK.out _ _ (HS.step hb rfl) ?_
 replace ug := Lib.hid (ug.out.next (bt hb))
 replace jZ := Lib.hid (jZ.out.next (bt hb))
 replace fM := Lib.hid (fM.out.next (bt hb))
 replace Dq := Lib.hid (Dq.out.next (bt hb))
 clear HS hb
 intro HS
 have W9 := Lib.hid hom
 have ahq := Lib.hid aeE
 clear hom aeE
 refine dH 13 (some 41) (h := fun K hK => ?_)
 go_simp
 refine (vC on om (-P0) (-P0) HON.out ahq.out true ⟨fun _ => rfl, fun _ => rfl⟩ _ (W9.out.next (pl (Below.refl _ _)))).mono ?_
 rintro e y ⟨rfl, hb⟩
 refine hK.out _ _ (HS.step hb rfl) ?_
 replace ug := Lib.hid (ug.out.next (bt hb))
 replace jZ := Lib.hid (jZ.out.next (bt hb))
 replace fM := Lib.hid (fM.out.next (bt hb))
 replace Dq := Lib.hid (Dq.out.next (bt hb))
 replace W9 := Lib.hid (W9.out.next (bt hb))
 clear HS hb
 intro HS
 refine tk4 14 (some 42) HS (h := ?_)
 refine tk4 15 (some 43) HS (h := ?_)
 refine tk4 16 (some 44) HS (v := p0.v) (hy := by (intro v hv; obtain ⟨x, rfl, _, _, n0, n1, n2, n3⟩ := hv.iO; exact aG 28 (.tmp 5) rfl (x1.heap.size) 0 rfl p0.cL p0.cA 28 ob (by kernel_rfl) (by kernel_rfl) (by kernel_rfl))) (h := ?_)
 refine tk4 17 (some 45) HS (v := p1.v) (hy := by (intro v hv; obtain ⟨x, rfl, _, _, n0, n1, n2, n3⟩ := hv.iO; exact aG 28 (.tmp 7) rfl (x2.heap.size) 0 rfl p1.cL p1.cA 28 ob (by kernel_rfl) (by kernel_rfl) (by kernel_rfl))) (h := ?_)
 refine tk4 19 (some 47) HS (v := p0.v) (hy := by (intro v hv; obtain ⟨x, rfl, _, _, n0, n1, n2, n3⟩ := hv.iO; exact aG 28 (.tmp 5) rfl (x1.heap.size) 0 rfl p0.cL p0.cA 28 ob (by kernel_rfl) (by kernel_rfl) (by kernel_rfl))) (h := ?_)
 refine tk4 20 (some 48) HS (h := ?_)
 refine dH 18 (some 46) (h := fun K hK => ?_)
 go_simp
 refine (wC p0 p1 P0 P1 QE.out QF.out b HBB.out _).mono ?_
 rintro e y ⟨rfl, hb⟩
 refine hK.out _ _ (HS.step hb rfl) ?_
 replace ug := Lib.hid (ug.out.next (bt hb))
 replace jZ := Lib.hid (jZ.out.next (bt hb))
 replace fM := Lib.hid (fM.out.next (bt hb))
 replace Dq := Lib.hid (Dq.out.next (bt hb))
 replace W9 := Lib.hid (W9.out.next (bt hb))
 clear HS hb
 intro HS
 refine dH 21 (some 49) (h := fun K hK => ?_)
 go_simp
 refine (vC p0 q1 P0 P1 QE.out Gf.out b HBB.out _ (jZ.out.next (pl (Below.refl _ _)))).mono ?_
 rintro e y ⟨rfl, hb⟩
 refine hK.out _ _ (HS.step hb rfl) ?_
 replace ug := Lib.hid (ug.out.next (bt hb))
 replace jZ := Lib.hid (jZ.out.next (bt hb))
 replace fM := Lib.hid (fM.out.next (bt hb))
 replace Dq := Lib.hid (Dq.out.next (bt hb))
 replace W9 := Lib.hid (W9.out.next (bt hb))
 clear HS hb
 intro HS
 refine tk4 22 (some 50) HS (v := .bool true) (h := ?_)
 refine tk4 23 (some 51) HS (h := ?_)
 refine tk4 24 (some 52) HS (h := ?_)
 refine dH 25 (some 53) (h := fun K hK => ?_)
 go_simp
 refine (fJ _ (HE.out.next HS.1)).mono ?_
 rintro e y ⟨rfl, hb⟩
 refine hK.out _ _ (HS.step hb rfl) ?_
 replace ug := Lib.hid (ug.out.next (bt hb))
 replace jZ := Lib.hid (jZ.out.next (bt hb))
 replace fM := Lib.hid (fM.out.next (bt hb))
 replace Dq := Lib.hid (Dq.out.next (bt hb))
 replace W9 := Lib.hid (W9.out.next (bt hb))
 clear HS hb
 intro HS
 refine tk4 26 (some 54) HS (h := ?_)
 refine tk4 27 (some 4) HS (h := ?_)
 obtain ⟨x3, rfl, hk3, hz3, nN, uq, zn, Py⟩ := HS.iO
 have HB3 : Hid (Below w.heap.size w x3) := hk3.below
 clear HS hk3
 refine done_ (by kernel_rfl) ?_
 go_wp2_with fail
 go_ret
 exact ⟨rfl, (pl HB3.out)⟩
theorem Fv (A0 : Option Addr) (c0 : Nat) (bV : List Nat) (jq : ∀ b ∈ bV, b < 256) (jv : bV.length ≤ c0) (kZ : c0 ≤ maxLen) (A1 : Option Addr) (c1 : Nat) (dM : List Nat) (jH : ∀ b ∈ dM, b < 256) (jK : dM.length ≤ c1) (lW : c1 ≤ maxLen) (w : World) (jA : Rd w .u8 A0 bV) (jO : Rd w .u8 A1 dM) (h5 : uU w) : Calls Tryd.prog 5 #[.slice A0 bV.length c0, .slice A1 dM.length c1] w fun e w' => e = .returned (.bool true) ∧ Below w.heap.size w w' := by
 by_cases h1 : 100 < bV.length
 · exact PE A0 c0 bV jq jv kZ A1 c1 dM jH jK lW h1 w jA jO h5
 · by_cases h2 : 100 < dM.length
   · exact PG A0 c0 bV jq jv kZ A1 c1 dM jH jK lW (by omega) h2 w jA jO h5
   · exact PI A0 c0 bV jq jv kZ A1 c1 dM jH jK lW ⟨by omega, by omega⟩ w jA jO h5
set_option maxRecDepth 100000 in
theorem Bq (os : Os) (started : os.Started) (H : Type) (enc : TypeId × Value → H) :
 ReturnsInHanded {} Tryd.checked os 5 .any (fun w args => (Rows.edAddsSpec.pre enc Tryd.prog Tryd.f5 [] false w args ∧ laidMetH Tryd.prog fP w) ∧ sizedMet enc Tryd.prog Tryd.f5 (OpenSpec.ofChange Rows.edAddsSpec) false w args) (Rows.edAddsSpec.post enc Tryd.prog Tryd.f5 false true false false) := by
 refine returnsInHanded_of_change_and (C := Tryd.checked) (X := fun w _ => laidMetH Tryd.prog fP w) (fun _ _ _ hh h => h.of_heap hh) own started (by kernel_rfl) Tryd.func5
  (ChangeSpec.witness_shaped (enc := enc) (C := Tryd.checked) (os := os) (X := fun w _ => laidMetH Tryd.prog fP w) false (World.doorLaid Tryd.prog 49 os) #[.slice none 0 0, .slice none 0 0] 8 rfl (World.shaped_of_RefB (by kernel_rfl) (by kernel_rfl)) (by kernel_rfl) (by kernel_rfl) (by kernel_rfl) (door_met os _)) ?_
 intro W base args ds gs before hval0 hW _ _ hL _
 have hval : ∀ (j : Nat) t v, Tryd.f5.params[j]? = some t → args[j]? = some v → Value.okWide Tryd.prog W .any base t v := hval0
 have hW' := hW
 obtain ⟨p, q, hA0, hV, rfl, hfz, hnd⟩ := hW
 have hA : DataW.TrodAll enc Tryd.prog W 0 (fun _ => true) true Tryd.f5.params.toList args.toList ds p := hA0
 rw [Tryd.params5] at hA hval
 obtain ⟨v0, vs0, d0, ds0, p0, q0, hargs, rfl, rfl, h0, r0⟩ := trodAll_cons hA
 obtain ⟨v1, vs1, d1, ds1, p1, q1, rfl, rfl, rfl, h1, r1⟩ := trodAll_cons r0
 obtain ⟨rfl, rfl, rfl⟩ := trodAll_nil r1
 obtain rfl : args = #[v0, v1] := by cases args; simp_all
 obtain ⟨rfl, rfl⟩ := trodVars_none hV
 have k0 := h0
 have Yq : ∀ x ∈ p0, x.block < W.heap.size := by obtain ⟨m, hm⟩ := k0; exact DataW.trod_lt m _ _ _ hm
 obtain ⟨A0, c0, bV, rfl, jA, jq, jv, kZ⟩ := open_bytes (hval 0 22 v0 rfl rfl) h0
 have k1 := h1
 have lt1 : ∀ x ∈ p1, x.block < W.heap.size := by obtain ⟨m, hm⟩ := k1; exact DataW.trod_lt m _ _ _ hm
 obtain ⟨A1, c1, dM, rfl, jO, jH, jK, lW⟩ := open_bytes (hval 1 22 v1 rfl rfl) h1
 have hO := mP hL
 clear hA0 hval0
 refine (Fv A0 c0 bV jq jv kZ A1 c1 dM jH jK lW W jA jO hO).mono fun e W' ⟨he, bel⟩ => ?_
 subst he
 exact ⟨_, rfl, _, _, _, [], _, [], hW', trodAll_mk1 (shut_bool Tryd.underlying4 _), (trodAll_cons_mk (Below.trod laidOut (by kernel_rfl) (of_decide_eq_true (by kernel_rfl)) k0 bel Yq) (trodAll_cons_mk (Below.trod laidOut (by kernel_rfl) (of_decide_eq_true (by kernel_rfl)) k1 bel lt1) trodAll_mk0)), rfl, bel.frame _, fun h => by cases h⟩
theorem Iy : Rows.EdAddsSaid :=
 OpenClaim.holds_of_wide 5 Tryd.f5 rfl rfl rfl rfl rfl rfl rfl ⟨rfl, rfl, rfl, rfl, rfl⟩ rfl rfl rfl rfl rfl (by kernel_rfl) Tryd.func5 (by kernel_rfl)
  (of_decide_eq_true (by kernel_rfl)) (by unfold Func.isWrapper; first | (rw [if_pos (by decide +kernel)]; kernel_rfl) | (rw [if_neg (by decide +kernel)]; exact ⟨rfl, rfl⟩))
  (fun os started H enc _ => Bq os started H enc)
theorem ledAdds_holds : Rows.EdAddsCardSaid :=
 Claim7.holds_tied_plain_at .later [] [.data, .data, .data, .data, .data, .data, .data] true (true, "0f95a86f4b0bab74ae68208c68a1990d2615e57689ca15e110a62c814f1842c4") false
  Iy (fun _ h => by cases h) (by kernel_rfl) (fun _ h => by cases h) edAdds_row_tie rfl ⟨rfl, rfl⟩ (by kernel_rfl) rfl
  (fun f fn hf hfn => by
   obtain rfl : f = 5 := Option.some.inj ((show Tryd.prog.funcNamed "imprimatur/imprimaturlaw05.EdAdds" = some 5 by kernel_rfl).symm.trans hf) |>.symm
   obtain rfl : fn = Tryd.f5 := (Option.some.inj (Tryd.func5.symm.trans hfn)).symm
   exact ⟨by kernel_rfl, fun j t ht => by
    rw [Tryd.params5] at ht
    have hm : t ∈ [22] := by simpa using Array.mem_of_getElem? ht
    have hall : ([22].all fun u => !Tryd.prog.wantsStandIn u) = true := by kernel_rfl
    exact (show Tryd.prog.wantsStandIn t = false by simpa using List.all_eq_true.1 hall t hm)⟩)
  (by kernel_rfl)
end Go.Proofs.YtbghdkmpjiffeaaDoor