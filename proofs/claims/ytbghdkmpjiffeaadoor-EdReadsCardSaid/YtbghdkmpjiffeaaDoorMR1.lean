/-
 The statement EdReads.
-/
import Derived.Test.YtbghdkmpjiffeaaDoorCards
import Derived.Test.YtbghdkmpjiffeaaDoorTie
import Derived.Test.YtbghdkmpjiffeaaDoorM39r1235
import Derived.Test.YtbghdkmpjiffeaaDoorM40
import Derived.SevenTiedAt
namespace Go.Proofs.YtbghdkmpjiffeaaDoor
open Go.RowKit Go.ChangeShapes Go.WideShapes Go.ChangeAt Go.Proofs.YtbghdkmpjiffeaaDoorW.PrintLast
set_option linter.unusedSimpArgs false
set_option linter.unusedVariables false
set_option maxRecDepth 100000 in
set_option maxHeartbeats 8000000 in
theorem KJ (A0 : Option Addr) (c0 : Nat) (bV : List Nat) (jq : ∀ b ∈ bV, b < 256) (jv : bV.length ≤ c0) (kZ : c0 ≤ maxLen) (hl : 100 < bV.length) (w : World) (jA : Rd w .u8 A0 bV) (h5 : uU w) :
 Calls Tryd.prog 3 #[.slice A0 bV.length c0] w fun e w' => e = .returned (.bool true) ∧ Below w.heap.size w w' := by
 have HE := Lib.hid h5
 clear h5
 have HR0 := Lib.hid jA
 have au := Lib.hid (And.intro jv jq)
 clear jA jv jq kZ
 have hI : (100 : Int) < (bV.length : Int) := by omega
 go_enter Tryd.func3, Tryd.ntmps3
 go_wp2_with fail
 refine (fJ _ (HE.out.next (pl (Below.refl _ _)))).mono ?_
 rintro e x1 ⟨rfl, hb1⟩
 have HB1 : Hid (Below w.heap.size w x1) := Below.trans (pl (Below.refl _ _)) (hb1.mono sz)
 have hz1 := HB1.out.size
 clear hb1
 go_wp2_with fail
 go_ret
 exact ⟨rfl, (pl HB1.out)⟩
set_option maxRecDepth 100000 in
set_option maxHeartbeats 8000000 in
theorem KL (A0 : Option Addr) (c0 : Nat) (bV : List Nat) (jq : ∀ b ∈ bV, b < 256) (jv : bV.length ≤ c0) (kZ : c0 ≤ maxLen) (hl : bV.length ≤ 100) (hn : bV.length ≠ 32) (w : World) (jA : Rd w .u8 A0 bV) (h5 : uU w) :
 Calls Tryd.prog 3 #[.slice A0 bV.length c0] w fun e w' => e = .returned (.bool true) ∧ Below w.heap.size w w' := by
 have HE := Lib.hid h5
 clear h5
 have HR0 := Lib.hid jA
 have au := Lib.hid (And.intro jv jq)
 clear jA jv jq kZ
 have hI : ((100 : Int) < (bV.length : Int)) = False := eq_false (by omega)
 have hJ : ¬ (bV.length : Int) = 32 := by omega
 have hJ2 : ((bV.length : Int) == 32) = false := beq_eq_false_iff_ne.mpr hJ
 go_enter Tryd.func3, Tryd.ntmps3
 go_wp2_with fail
 refine (adJ A0 c0 bV.length hn _).mono ?_
 rintro e x1 ⟨rfl, hb1⟩
 have HB1 : Hid (Below w.heap.size w x1) := Below.trans (pl (Below.refl _ _)) (hb1.mono sz)
 have hz1 := HB1.out.size
 clear hb1
 go_wp2_with (first | (refine bU (.tmp 3) (.tmp 14) rfl (by rfl) (x1.heap.size) 28 rfl rfl ob ?_) | (refine dF (.tmp 3) rfl (by rfl) (x1.heap.size) 28 rfl ob ?_) | (refine cZ rfl (by rfl) ?_) | (refine aP (.tmp 27) (.tmp 28) rfl (by rfl) rfl rfl ?_) | (refine aP (.tmp 39) (.tmp 40) rfl (by rfl) rfl rfl ?_))
 refine (GV A0 c0 bV hn _).mono ?_
 rintro e y2 ⟨rfl, hb2⟩
 obtain ⟨x2, rfl, hc2, hz2, kD⟩ := bQ (b := x1.heap.size) hb2 rfl ob
 have HB2 := aZ HB1.out hc2
 clear hb2 hc2
 try simp only [bF] at hz2
 go_wp2_with (first | (refine bU (.tmp 3) (.tmp 14) rfl (by rfl) (x1.heap.size) 28 rfl rfl ob ?_) | (refine dF (.tmp 3) rfl (by rfl) (x1.heap.size) 28 rfl ob ?_) | (refine cZ rfl (by rfl) ?_) | (refine aP (.tmp 27) (.tmp 28) rfl (by rfl) rfl rfl ?_) | (refine aP (.tmp 39) (.tmp 40) rfl (by rfl) rfl rfl ?_))
 refine (fJ _ (HE.out.next (pl HB2.out))).mono ?_
 rintro e x3 ⟨rfl, hb3⟩
 have HB3 := aZ HB2.out hb3
 have hz3 := HB3.out.size
 clear hb3
 go_wp2_with (first | (refine bU (.tmp 3) (.tmp 14) rfl (by rfl) (x1.heap.size) 28 rfl rfl ob ?_) | (refine dF (.tmp 3) rfl (by rfl) (x1.heap.size) 28 rfl ob ?_) | (refine cZ rfl (by rfl) ?_) | (refine aP (.tmp 27) (.tmp 28) rfl (by rfl) rfl rfl ?_) | (refine aP (.tmp 39) (.tmp 40) rfl (by rfl) rfl rfl ?_))
 go_ret
 exact ⟨rfl, (pl HB3.out)⟩
set_option maxRecDepth 100000 in
set_option maxHeartbeats 8000000 in
theorem KN (A0 : Option Addr) (c0 : Nat) (bV : List Nat) (jq : ∀ b ∈ bV, b < 256) (jv : bV.length ≤ c0) (kZ : c0 ≤ maxLen) (hl : bV.length = 32) (hg : ¬ qW bV) (w : World) (jA : Rd w .u8 A0 bV) (h5 : uU w) :
 Calls Tryd.prog 3 #[.slice A0 bV.length c0] w fun e w' => e = .returned (.bool true) ∧ Below w.heap.size w w' := by
 have HE := Lib.hid h5
 clear h5
 have HR0 := Lib.hid jA
 have au := Lib.hid (And.intro jv jq)
 clear jA jv jq kZ
 have HL := Lib.hid hl
 rw [hl]
 clear hl
 have HG := Lib.hid hg
 clear hg
 go_enter Tryd.func3, Tryd.ntmps3
 go_wp2_with fail
 refine (Gl _ _ _ rfl rfl rfl A0 c0 bV HL.out au.out.2 (fun h => HG.out ⟨HL.out, h⟩) _ (HE.out.next (pl (Below.refl _ _))).o (HR0.out.next (pl (Below.refl _ _)))).mono ?_
 rintro e x1 ⟨rfl, hb1⟩
 have HB1 : Hid (Below w.heap.size w x1) := Below.trans (pl (Below.refl _ _)) (hb1.mono sz)
 have hz1 := HB1.out.size
 clear hb1
 go_wp2_with (first | (refine bU (.tmp 3) (.tmp 14) rfl (by rfl) (x1.heap.size) 28 rfl rfl ob ?_) | (refine dF (.tmp 3) rfl (by rfl) (x1.heap.size) 28 rfl ob ?_) | (refine cZ rfl (by rfl) ?_) | (refine aP (.tmp 27) (.tmp 28) rfl (by rfl) rfl rfl ?_) | (refine aP (.tmp 39) (.tmp 40) rfl (by rfl) rfl rfl ?_))
 refine (SS A0 c0 bV HL.out au.out.1 au.out.2 HG.out _ (HR0.out.next (pl HB1.out))).mono ?_
 rintro e y2 ⟨rfl, hb2⟩
 obtain ⟨x2, rfl, hc2, hz2, kD⟩ := bQ (b := x1.heap.size) hb2 rfl ob
 have HB2 := aZ HB1.out hc2
 clear hb2 hc2
 try simp only [bF] at hz2
 go_wp2_with (first | (refine bU (.tmp 3) (.tmp 14) rfl (by rfl) (x1.heap.size) 28 rfl rfl ob ?_) | (refine dF (.tmp 3) rfl (by rfl) (x1.heap.size) 28 rfl ob ?_) | (refine cZ rfl (by rfl) ?_) | (refine aP (.tmp 27) (.tmp 28) rfl (by rfl) rfl rfl ?_) | (refine aP (.tmp 39) (.tmp 40) rfl (by rfl) rfl rfl ?_))
 refine (fJ _ (HE.out.next (pl HB2.out))).mono ?_
 rintro e x3 ⟨rfl, hb3⟩
 have HB3 := aZ HB2.out hb3
 have hz3 := HB3.out.size
 clear hb3
 go_wp2_with (first | (refine bU (.tmp 3) (.tmp 14) rfl (by rfl) (x1.heap.size) 28 rfl rfl ob ?_) | (refine dF (.tmp 3) rfl (by rfl) (x1.heap.size) 28 rfl ob ?_) | (refine cZ rfl (by rfl) ?_) | (refine aP (.tmp 27) (.tmp 28) rfl (by rfl) rfl rfl ?_) | (refine aP (.tmp 39) (.tmp 40) rfl (by rfl) rfl rfl ?_))
 go_ret
 exact ⟨rfl, (pl HB3.out)⟩
set_option maxRecDepth 100000 in
set_option maxHeartbeats 8000000 in
theorem KO (A0 : Option Addr) (c0 : Nat) (bV : List Nat) (jq : ∀ b ∈ bV, b < 256) (jv : bV.length ≤ c0) (kZ : c0 ≤ maxLen) (hl : bV.length = 32) (hg : qW bV) (w : World) (jA : Rd w .u8 A0 bV) (h5 : uU w) :
 Calls Tryd.prog 3 #[.slice A0 bV.length c0] w fun e w' => e = .returned (.bool true) ∧ Below w.heap.size w w' := by
 have HE := Lib.hid h5
 clear h5
 have HR0 := Lib.hid jA
 have au := Lib.hid (And.intro jv jq)
 clear jA jv jq kZ
 have HL := Lib.hid hl
 rw [hl]
 clear hl
 have HG := Lib.hid hg
 clear hg
 obtain ⟨o, ho, hdec⟩ := NZ A0 c0 HG.out au.out.2
 obtain ⟨P, hP⟩ : ∃ P, P = decP HG.out.2 := ⟨_, rfl⟩
 rw [← hP] at ho
 have zQ := Lib.hid ho
 have ahc := Lib.hid hdec
 have HP := Lib.hid hP
 have ahe : Hid (iM P = bV) := Lib.hid (by rw [hP]; exact XM HG.out au.out.2)
 clear ho hdec hP
 go_enter Tryd.func3, Tryd.ntmps3
 go_wp2_with fail
 refine (ahc.out _ (HE.out.next (pl (Below.refl _ _))).o (HR0.out.next (pl (Below.refl _ _)))).mono ?_
 rintro e x1 ⟨rfl, hb1⟩
 have HB1 : Hid (Below w.heap.size w x1) := Below.trans (pl (Below.refl _ _)) (hb1.mono sz)
 have hz1 := HB1.out.size
 clear hb1
 go_wp2_with (first | (refine aI (.tmp 3) (.tmp 14) rfl (by rfl) (x1.heap.size) o 28 rfl rfl bP rfl ob ?_) | (refine bg (.tmp 3) rfl (by rfl) (x1.heap.size) o 28 rfl ob ?_) | (refine cZ rfl (by rfl) ?_) | (refine aP (.tmp 27) (.tmp 28) rfl (by rfl) rfl rfl ?_) | (refine aP (.tmp 39) (.tmp 40) rfl (by rfl) rfl rfl ?_))
 refine (OE A0 c0 bV HL.out au.out.1 au.out.2 HG.out _ (HR0.out.next (pl HB1.out))).mono ?_
 rintro e y2 ⟨⟨q, rfl, hqk, hqf⟩, hb2⟩
 obtain ⟨x2, rfl, hc2, hz2, kD⟩ := bQ (b := x1.heap.size) hb2 rfl ob
 have HB2 := aZ HB1.out hc2
 clear hb2 hc2
 try simp only [bF] at hz2
 have HQ := Lib.hid hqk
 rw [← HP.out] at hqf
 have HQF := Lib.hid hqf
 clear hqk hqf
 go_wp2_with (first | (refine aI (.tmp 3) (.tmp 14) rfl (by rfl) (x1.heap.size) o 28 rfl rfl bP rfl ob ?_) | (refine bg (.tmp 3) rfl (by rfl) (x1.heap.size) o 28 rfl ob ?_) | (refine cZ rfl (by rfl) ?_) | (refine aP (.tmp 27) (.tmp 28) rfl (by rfl) rfl rfl ?_) | (refine aP (.tmp 39) (.tmp 40) rfl (by rfl) rfl rfl ?_))
 refine (vC o q P P zQ.out HQF.out true ⟨fun _ => rfl, fun _ => rfl⟩ _ (HQ.out.next (pl (Below.refl _ _)))).mono ?_
 rintro e y3 ⟨rfl, hb3⟩
 replace HQ := Lib.hid (HQ.out.next (bt hb3))
 obtain ⟨x3, rfl, hc3, hz3, nN⟩ := bQ (b := x1.heap.size) hb3 rfl ob
 have HB3 := aZ HB2.out hc3
 clear hb3 hc3
 try simp only [bF] at hz3
 go_wp2_with (first | (refine aI (.tmp 3) (.tmp 14) rfl (by rfl) (x1.heap.size) o 28 rfl rfl bP rfl ob ?_) | (refine bg (.tmp 3) rfl (by rfl) (x1.heap.size) o 28 rfl ob ?_) | (refine cZ rfl (by rfl) ?_) | (refine aP (.tmp 27) (.tmp 28) rfl (by rfl) rfl rfl ?_) | (refine aP (.tmp 39) (.tmp 40) rfl (by rfl) rfl rfl ?_))
 refine (wJ o P zQ.out _).mono ?_
 rintro e y4 ⟨⟨ge, hge4, rfl, Ig⟩, hb4⟩
 have gI : Keeps w _ y4 := ak (b := x1.heap.size) ((hb4.block _ sz).trans ob) (ak Ig (aO (Below.trans (pl HB3.out) (hb4.mono sz))))
 obtain ⟨x4, rfl, hk4, lT, rU, yL⟩ := gI.iL
 have HB4 : Hid (Below w.heap.size w x4) := hk4.below
 have HG4 : w.heap.size ≤ ge := by have := HB3.out.size; (try simp only [bF] at hge4); omega
 have abu : x1.heap.size < ge := by (try simp only [bF] at hge4); omega
 clear gI hk4 hb4 Ig hge4
 go_wp2_with (first | (refine aI (.tmp 3) (.tmp 14) rfl (by rfl) (x1.heap.size) o 28 rfl rfl bP rfl ob ?_) | (refine bg (.tmp 3) rfl (by rfl) (x1.heap.size) o 28 rfl ob ?_) | (refine cZ rfl (by rfl) ?_) | (refine aP (.tmp 27) (.tmp 28) rfl (by rfl) rfl rfl ?_) | (refine aP (.tmp 39) (.tmp 40) rfl (by rfl) rfl rfl ?_))
 refine (aaL (some ⟨ge, 0, none⟩) A0 32 c0 32 32 (iM P) bV true (Na P) HL.out (Tj P) au.out.2 (decide_eq_true ahe.out) _ (nS ob) (HR0.out.next (pl HB4.out))).mono ?_
 rintro e y5 ⟨rfl, hb5⟩
 obtain ⟨x5, rfl, hc5, rP, Ae⟩ := bQ (b := x1.heap.size) hb5 rfl ob
 have kR := aZ HB4.out hc5
 clear hb5 hc5
 try simp only [bF] at rP
 go_wp2_with (first | (refine aI (.tmp 3) (.tmp 14) rfl (by rfl) (x1.heap.size) o 28 rfl rfl bP rfl ob ?_) | (refine bg (.tmp 3) rfl (by rfl) (x1.heap.size) o 28 rfl ob ?_) | (refine cZ rfl (by rfl) ?_) | (refine aP (.tmp 27) (.tmp 28) rfl (by rfl) rfl rfl ?_) | (refine aP (.tmp 39) (.tmp 40) rfl (by rfl) rfl rfl ?_))
 refine (L9 o zQ.out.1 true zQ.out.on _ (HE.out.next (pl kR.out)).o).mono ?_
 rintro e x6 ⟨rfl, hb6⟩
 have mg := aZ kR.out hb6
 have yH := mg.out.size
 clear hb6
 go_wp2_with (first | (refine aI (.tmp 3) (.tmp 14) rfl (by rfl) (x1.heap.size) o 28 rfl rfl bP rfl ob ?_) | (refine bg (.tmp 3) rfl (by rfl) (x1.heap.size) o 28 rfl ob ?_) | (refine cZ rfl (by rfl) ?_) | (refine aP (.tmp 27) (.tmp 28) rfl (by rfl) rfl rfl ?_) | (refine aP (.tmp 39) (.tmp 40) rfl (by rfl) rfl rfl ?_))
 refine (fJ _ (HE.out.next (pl mg.out))).mono ?_
 rintro e x7 ⟨rfl, hb7⟩
 have oW := aZ mg.out hb7
 have Ac := oW.out.size
 clear hb7
 go_wp2_with (first | (refine aI (.tmp 3) (.tmp 14) rfl (by rfl) (x1.heap.size) o 28 rfl rfl bP rfl ob ?_) | (refine bg (.tmp 3) rfl (by rfl) (x1.heap.size) o 28 rfl ob ?_) | (refine cZ rfl (by rfl) ?_) | (refine aP (.tmp 27) (.tmp 28) rfl (by rfl) rfl rfl ?_) | (refine aP (.tmp 39) (.tmp 40) rfl (by rfl) rfl rfl ?_))
 go_ret
 exact ⟨rfl, (pl oW.out)⟩
theorem Dx (A0 : Option Addr) (c0 : Nat) (bV : List Nat) (jq : ∀ b ∈ bV, b < 256) (jv : bV.length ≤ c0) (kZ : c0 ≤ maxLen) (w : World) (jA : Rd w .u8 A0 bV) (h5 : uU w) : Calls Tryd.prog 3 #[.slice A0 bV.length c0] w fun e w' => e = .returned (.bool true) ∧ Below w.heap.size w w' := by
 by_cases h1 : 100 < bV.length
 · exact KJ A0 c0 bV jq jv kZ h1 w jA h5
 · by_cases h2 : bV.length = 32
   · by_cases h3 : qW bV
     · exact KO A0 c0 bV jq jv kZ h2 h3 w jA h5
     · exact KN A0 c0 bV jq jv kZ h2 h3 w jA h5
   · exact KL A0 c0 bV jq jv kZ (by omega) h2 w jA h5
set_option maxRecDepth 100000 in
theorem zN (os : Os) (started : os.Started) (H : Type) (enc : TypeId × Value → H) :
 ReturnsInHanded {} Tryd.checked os 3 .any (fun w args => (Rows.edReadsSpec.pre enc Tryd.prog Tryd.f3 [] false w args ∧ laidMetH Tryd.prog fP w) ∧ sizedMet enc Tryd.prog Tryd.f3 (OpenSpec.ofChange Rows.edReadsSpec) false w args) (Rows.edReadsSpec.post enc Tryd.prog Tryd.f3 false true false false) := by
 refine returnsInHanded_of_change_and (C := Tryd.checked) (X := fun w _ => laidMetH Tryd.prog fP w) (fun _ _ _ hh h => h.of_heap hh) own started (by kernel_rfl) Tryd.func3
  (ChangeSpec.witness_shaped (enc := enc) (C := Tryd.checked) (os := os) (X := fun w _ => laidMetH Tryd.prog fP w) false (World.doorLaid Tryd.prog 49 os) #[.slice none 0 0] 8 rfl (World.shaped_of_RefB (by kernel_rfl) (by kernel_rfl)) (by kernel_rfl) (by kernel_rfl) (by kernel_rfl) (door_met os _)) ?_
 intro W base args ds gs before hval0 hW _ _ hL _
 have hval : ∀ (j : Nat) t v, Tryd.f3.params[j]? = some t → args[j]? = some v → Value.okWide Tryd.prog W .any base t v := hval0
 have hW' := hW
 obtain ⟨p, q, hA0, hV, rfl, hfz, hnd⟩ := hW
 have hA : DataW.TrodAll enc Tryd.prog W 0 (fun _ => true) true Tryd.f3.params.toList args.toList ds p := hA0
 rw [Tryd.params3] at hA hval
 obtain ⟨v0, vs0, d0, ds0, p0, q0, hargs, rfl, rfl, h0, r0⟩ := trodAll_cons hA
 obtain ⟨rfl, rfl, rfl⟩ := trodAll_nil r0
 obtain rfl : args = #[v0] := by cases args; simp_all
 obtain ⟨rfl, rfl⟩ := trodVars_none hV
 have k0 := h0
 have Yq : ∀ x ∈ p0, x.block < W.heap.size := by obtain ⟨m, hm⟩ := k0; exact DataW.trod_lt m _ _ _ hm
 obtain ⟨A0, c0, bV, rfl, jA, jq, jv, kZ⟩ := open_bytes (hval 0 22 v0 rfl rfl) h0
 have hO := mP hL
 clear hA0 hval0
 refine (Dx A0 c0 bV jq jv kZ W jA hO).mono fun e W' ⟨he, bel⟩ => ?_
 subst he
 exact ⟨_, rfl, _, _, _, [], _, [], hW', trodAll_mk1 (shut_bool Tryd.underlying4 _), (trodAll_cons_mk (Below.trod laidOut (by kernel_rfl) (of_decide_eq_true (by kernel_rfl)) k0 bel Yq) trodAll_mk0), rfl, bel.frame _, fun h => by cases h⟩
theorem FD : Rows.EdReadsSaid :=
 OpenClaim.holds_of_wide 3 Tryd.f3 rfl rfl rfl rfl rfl rfl rfl ⟨rfl, rfl, rfl, rfl, rfl⟩ rfl rfl rfl rfl rfl (by kernel_rfl) Tryd.func3 (by kernel_rfl)
  (of_decide_eq_true (by kernel_rfl)) (by unfold Func.isWrapper; first | (rw [if_pos (by decide +kernel)]; kernel_rfl) | (rw [if_neg (by decide +kernel)]; exact ⟨rfl, rfl⟩))
  (fun os started H enc _ => zN os started H enc)
theorem ledReads_holds : Rows.EdReadsCardSaid :=
 Claim7.holds_tied_plain_at .later [] [.data, .data, .data, .data, .data, .data, .data] true (true, "0f95a86f4b0bab74ae68208c68a1990d2615e57689ca15e110a62c814f1842c4") false
  FD (fun _ h => by cases h) (by kernel_rfl) (fun _ h => by cases h) edReads_row_tie rfl ⟨rfl, rfl⟩ (by kernel_rfl) rfl
  (fun f fn hf hfn => by
   obtain rfl : f = 3 := Option.some.inj ((show Tryd.prog.funcNamed "imprimatur/imprimaturlaw05.EdReads" = some 3 by kernel_rfl).symm.trans hf) |>.symm
   obtain rfl : fn = Tryd.f3 := (Option.some.inj (Tryd.func3.symm.trans hfn)).symm
   exact ⟨by kernel_rfl, fun j t ht => by
    rw [Tryd.params3] at ht
    have hm : t ∈ [22] := by simpa using Array.mem_of_getElem? ht
    have hall : ([22].all fun u => !Tryd.prog.wantsStandIn u) = true := by kernel_rfl
    exact (show Tryd.prog.wantsStandIn t = false by simpa using List.all_eq_true.1 hall t hm)⟩)
  (by kernel_rfl)
end Go.Proofs.YtbghdkmpjiffeaaDoor