/-
 The statement EdSigns.
-/
import Derived.Test.YtehfkbaendajbaaGreatDoorCards
import Derived.Test.YtehfkbaendajbaaGreatDoorTie
import Derived.Test.YtehfkbaendajbaaGreatDoorA40
import Derived.Test.YtehfkbaendajbaaGreatDoorA54
import Derived.Test.YtehfkbaendajbaaGreatDoorA55
import Derived.SevenTiedAt
namespace Go.Proofs.YtehfkbaendajbaaGreatDoor
open Go.RowKit Go.ChangeShapes Go.WideShapes Go.ChangeAt Go.Proofs.YtehfkbaendajbaaGreatDoorW.PrintLast
set_option linter.unusedSimpArgs false
set_option linter.unusedVariables false
theorem aor (sd m : List Nat) : (ajk sd m).length = 64 := by
 unfold ajk
 rw [List.length_append, kV]
 show (dw 32 _).length + 32 = 64
 rw [kV]
theorem aoW (sd m : List Nat) : ∀ z ∈ ajk sd m, z < 256 := by
 intro z hz
 rcases List.mem_append.mp hz with h | h
 · exact qj _ _ z h
 · exact qj _ _ z h
set_option maxRecDepth 100000 in
set_option maxHeartbeats 8000000 in
theorem anz (A0 : Option Addr) (c0 : Nat) (bV : List Nat) (jq : ∀ b ∈ bV, b < 256) (jv : bV.length ≤ c0) (kZ : c0 ≤ maxLen) (A1 : Option Addr) (c1 : Nat) (dM : List Nat) (jH : ∀ b ∈ dM, b < 256) (jK : dM.length ≤ c1) (lW : c1 ≤ maxLen) (hm : 300 < dM.length) (w : World) (jA : Rd w .u8 A0 bV) (jO : Rd w .u8 A1 dM) (h5 : Sg5 w) :
 Calls Tryz.prog 3 #[.slice A0 bV.length c0, .slice A1 dM.length c1] w fun e w' => e = .returned (.bool true) ∧ Below w.heap.size w w' := by
 have HE := Lib.hid h5
 clear h5
 have HR0 := Lib.hid jA
 have au := Lib.hid (And.intro jv jq)
 clear jA jv jq kZ
 have HR1 := Lib.hid jO
 have aH := Lib.hid (And.intro jK jH)
 clear jO jK jH lW
 have hI1 : (300 : Int) < (dM.length : Int) := by omega
 have hK1 : decide (300 < dM.length) = true := decide_eq_true (by omega)
 go_enter Tryz.func3, Tryz.ntmps3
 go_wp2_with fail
 refine (amI _ (HE.out.next (pl (Below.refl _ _)))).mono ?_
 rintro e x1 ⟨rfl, hb1⟩
 have HB1 : Hid (Below w.heap.size w x1) := Below.trans (pl (Below.refl _ _)) (hb1.mono sz)
 have hz1 := HB1.out.size
 clear hb1
 go_wp2_with fail
 go_ret
 exact ⟨rfl, (pl HB1.out)⟩
set_option maxRecDepth 100000 in
set_option maxHeartbeats 8000000 in
theorem anA (A0 : Option Addr) (c0 : Nat) (bV : List Nat) (jq : ∀ b ∈ bV, b < 256) (jv : bV.length ≤ c0) (kZ : c0 ≤ maxLen) (A1 : Option Addr) (c1 : Nat) (dM : List Nat) (jH : ∀ b ∈ dM, b < 256) (jK : dM.length ≤ c1) (lW : c1 ≤ maxLen) (hm : dM.length ≤ 300) (hs : 100 < bV.length) (w : World) (jA : Rd w .u8 A0 bV) (jO : Rd w .u8 A1 dM) (h5 : Sg5 w) :
 Calls Tryz.prog 3 #[.slice A0 bV.length c0, .slice A1 dM.length c1] w fun e w' => e = .returned (.bool true) ∧ Below w.heap.size w w' := by
 have HE := Lib.hid h5
 clear h5
 have HR0 := Lib.hid jA
 have au := Lib.hid (And.intro jv jq)
 clear jA jv jq kZ
 have HR1 := Lib.hid jO
 have aH := Lib.hid (And.intro jK jH)
 clear jO jK jH lW
 have hI1 : ((300 : Int) < (dM.length : Int)) = False := eq_false (by omega)
 have hK1 : decide (300 < dM.length) = false := decide_eq_false (by omega)
 have hI0 : (100 : Int) < (bV.length : Int) := by omega
 have hK0 : decide (100 < bV.length) = true := decide_eq_true (by omega)
 go_enter Tryz.func3, Tryz.ntmps3
 go_wp2_with fail
 refine (amI _ (HE.out.next (pl (Below.refl _ _)))).mono ?_
 rintro e x1 ⟨rfl, hb1⟩
 have HB1 : Hid (Below w.heap.size w x1) := Below.trans (pl (Below.refl _ _)) (hb1.mono sz)
 have hz1 := HB1.out.size
 clear hb1
 go_wp2_with fail
 go_ret
 exact ⟨rfl, (pl HB1.out)⟩
set_option maxRecDepth 100000 in
set_option maxHeartbeats 8000000 in
theorem anB (A0 : Option Addr) (c0 : Nat) (bV : List Nat) (jq : ∀ b ∈ bV, b < 256) (jv : bV.length ≤ c0) (kZ : c0 ≤ maxLen) (A1 : Option Addr) (c1 : Nat) (dM : List Nat) (jH : ∀ b ∈ dM, b < 256) (jK : dM.length ≤ c1) (lW : c1 ≤ maxLen) (hm : dM.length ≤ 300) (hs : bV.length ≤ 100) (hn : bV.length ≠ 32) (w : World) (jA : Rd w .u8 A0 bV) (jO : Rd w .u8 A1 dM) (h5 : Sg5 w) :
 Calls Tryz.prog 3 #[.slice A0 bV.length c0, .slice A1 dM.length c1] w fun e w' => e = .returned (.bool true) ∧ Below w.heap.size w w' := by
 have HE := Lib.hid h5
 clear h5
 have HR0 := Lib.hid jA
 have au := Lib.hid (And.intro jv jq)
 clear jA jv jq kZ
 have HR1 := Lib.hid jO
 have aH := Lib.hid (And.intro jK jH)
 clear jO jK jH lW
 have hI1 : ((300 : Int) < (dM.length : Int)) = False := eq_false (by omega)
 have hK1 : decide (300 < dM.length) = false := decide_eq_false (by omega)
 have hI0 : ((100 : Int) < (bV.length : Int)) = False := eq_false (by omega)
 have hK0 : decide (100 < bV.length) = false := decide_eq_false (by omega)
 have hI2 : ((bV.length : Int) = 32) = False := eq_false (by omega)
 have hJ2 : ((bV.length : Int) == 32) = false := beq_eq_false_iff_ne.mpr (by omega)
 have hK2 : ((bV.length : Int) != 32) = true := by simp only [bne, hJ2]; rfl
 have HL := Lib.hid hn
 go_enter Tryz.func3, Tryz.ntmps3
 go_wp2_with fail
 refine (aoS A0 c0 bV.length HL.out _).mono ?_
 rintro e x1 ⟨rfl, hb1⟩
 have HB1 : Hid (Below w.heap.size w x1) := Below.trans (pl (Below.refl _ _)) (hb1.mono sz)
 have hz1 := HB1.out.size
 clear hb1
 go_wp2_with fail
 refine (aos A0 A1 c0 c1 bV.length dM.length HL.out _).mono ?_
 rintro e x2 ⟨rfl, hb2⟩
 have HB2 := aZ HB1.out hb2
 have hz2 := HB2.out.size
 clear hb2
 go_wp2_with fail
 refine (amI _ (HE.out.next (pl HB2.out))).mono ?_
 rintro e x3 ⟨rfl, hb3⟩
 have HB3 := aZ HB2.out hb3
 have hz3 := HB3.out.size
 clear hb3
 go_wp2_with fail
 go_ret
 exact ⟨rfl, (pl HB3.out)⟩
set_option maxRecDepth 100000 in
set_option maxHeartbeats 8000000 in
theorem anE (A0 : Option Addr) (c0 : Nat) (bV : List Nat) (jq : ∀ b ∈ bV, b < 256) (jv : bV.length ≤ c0) (kZ : c0 ≤ maxLen) (A1 : Option Addr) (c1 : Nat) (dM : List Nat) (jH : ∀ b ∈ dM, b < 256) (jK : dM.length ≤ c1) (lW : c1 ≤ maxLen) (hl : bV.length = 32) (hm : dM.length ≤ 300) (w : World) (jA : Rd w .u8 A0 bV) (jO : Rd w .u8 A1 dM) (h5 : Sg5 w) :
 Calls Tryz.prog 3 #[.slice A0 bV.length c0, .slice A1 dM.length c1] w fun e w' => e = .returned (.bool true) ∧ Below w.heap.size w w' := by
 have HE := Lib.hid h5
 clear h5
 have HR0 := Lib.hid jA
 have au := Lib.hid (And.intro jv jq)
 clear jA jv jq kZ
 have HR1 := Lib.hid jO
 have aH := Lib.hid (And.intro jK jH)
 clear jO jK jH lW
 have hI1 : ((300 : Int) < (dM.length : Int)) = False := eq_false (by omega)
 have hK1 : decide (300 < dM.length) = false := decide_eq_false (by omega)
 rw [hl]
 obtain ⟨KB, hKB⟩ : ∃ z, z = Yb bV := ⟨_, rfl⟩
 have HK : Hid (KB = Yb bV ∧ KB.length = 32 ∧ ∀ z ∈ KB, z < 256) := Lib.hid ⟨hKB, by rw [hKB]; exact kV _ _, by rw [hKB]; exact qj _ _⟩
 obtain ⟨SB, hSB⟩ : ∃ z, z = ajk bV dM := ⟨_, rfl⟩
 have HSB : Hid (SB = ajk bV dM ∧ SB.length = 64 ∧ ∀ z ∈ SB, z < 256) := Lib.hid ⟨hSB, by rw [hSB]; exact aor _ _, by rw [hSB]; exact aoW _ _⟩
 have HL := Lib.hid (And.intro hl hm)
 clear hl hm hKB hSB
 go_enter Tryz.func3, Tryz.ntmps3
 go_wp2_with fail
 refine (ap3 bV KB A0 c0 HL.out.1 au.out.2 HK.out.1 _ (HE.out.next (pl (Below.refl _ _))) (HR0.out.next (pl (Below.refl _ _)))).mono ?_
 rintro e y1 ⟨⟨gk, TK, rfl, alR⟩, hb1⟩
 have gI : Keeps w _ y1 := ak alR (aO (Below.trans (pl (Below.refl _ _)) (hb1.mono sz)))
 obtain ⟨x1, rfl, hk1, hz1, l10⟩ := gI.jE
 have HB1 : Hid (Below w.heap.size w x1) := hk1.below
 have HG1 : w.heap.size ≤ gk := by (try simp only [dU] at TK); omega
 clear gI hk1 hb1 alR TK
 go_wp2_with fail
 refine (sign_eq A0 A1 c0 c1 bV dM HL.out.1 (by have := HL.out.2; omega) au.out.2 aH.out.2 _ (HE.out.next (pl HB1.out)) (HR0.out.next (pl HB1.out)) (HR1.out.next (pl HB1.out))).mono ?_
 rintro e y2 ⟨⟨q, cap, rfl, hq, hcap, hrd⟩, hb2⟩
 obtain ⟨x2, rfl, hc2, hz2, kD⟩ := bQ (b := gk) hb2 rfl ob
 have HB2 := aZ HB1.out hc2
 clear hb2 hc2
 try simp only [dU] at hz2
 rw [← HSB.out.1] at hrd
 have HRS := Lib.hid hrd
 clear hrd hq hcap
 go_wp2_with fail
 refine (aqA A0 c0 bV KB HL.out.1 au.out.2 HK.out.1 _ (HR0.out.next (pl HB2.out))).mono ?_
 rintro e y3 ⟨⟨gd, zL, rfl, Ie⟩, hb3⟩
 replace HRS := Lib.hid (HRS.out.next (bt hb3))
 have gI : Keeps w _ y3 := ak (b := gk) ((hb3.block _ sz).trans ob) (ak Ie (aO (Below.trans (pl HB2.out) (hb3.mono sz))))
 obtain ⟨x3, rfl, hk3, hz3, nN, uq⟩ := gI.iL
 have HB3 : Hid (Below w.heap.size w x3) := hk3.below
 have HG3 : w.heap.size ≤ gd := by have := HB2.out.size; (try simp only [dU] at zL); omega
 have abr : gk < gd := by (try simp only [dU] at zL); omega
 clear gI hk3 hb3 Ie zL
 go_wp2_with fail
 refine (aaL (some ⟨gk, 0, none⟩) (some ⟨gd, 0, none⟩) 32 32 32 32 KB KB true HK.out.2.1 HK.out.2.1 HK.out.2.2 HK.out.2.2 (decide_eq_true rfl) _ (nS ob) (nS ob)).mono ?_
 rintro e x4 ⟨rfl, hb4⟩
 have HB4 := aZ HB3.out hb4
 have lT := HB4.out.size
 replace HRS := Lib.hid (HRS.out.next (bt hb4))
 clear hb4
 go_wp2_with fail
 refine (aqI A0 A1 c0 c1 bV dM HL.out.1 (by have := HL.out.2; omega) au.out.2 aH.out.2 _ (HR0.out.next (pl HB4.out)) (HR1.out.next (pl HB4.out))).mono ?_
 rintro e x5 ⟨⟨Aj, cj, rfl, hrd⟩, hb5⟩
 have kR := aZ HB4.out hb5
 have rP := kR.out.size
 replace HRS := Lib.hid (HRS.out.next (bt hb5))
 clear hb5
 rw [← HSB.out.1] at hrd
 have HRJ := Lib.hid hrd
 clear hrd
 go_wp2_with fail
 refine (aaL (some ⟨q, 0, none⟩) Aj cap cj 64 64 SB SB true HSB.out.2.1 HSB.out.2.1 HSB.out.2.2 HSB.out.2.2 (decide_eq_true rfl) _ (HRS.out.next (pl (Below.refl _ _))) (HRJ.out.next (pl (Below.refl _ _)))).mono ?_
 rintro e x6 ⟨rfl, hb6⟩
 have mg := aZ kR.out hb6
 have yH := mg.out.size
 clear hb6
 go_wp2_with fail
 refine (amI _ (HE.out.next (pl mg.out))).mono ?_
 rintro e x7 ⟨rfl, hb7⟩
 have oW := aZ mg.out hb7
 have Ac := oW.out.size
 clear hb7
 go_wp2_with fail
 go_ret
 exact ⟨rfl, (pl oW.out)⟩
theorem amT (A0 : Option Addr) (c0 : Nat) (bV : List Nat) (jq : ∀ b ∈ bV, b < 256) (jv : bV.length ≤ c0) (kZ : c0 ≤ maxLen) (A1 : Option Addr) (c1 : Nat) (dM : List Nat) (jH : ∀ b ∈ dM, b < 256) (jK : dM.length ≤ c1) (lW : c1 ≤ maxLen) (w : World) (jA : Rd w .u8 A0 bV) (jO : Rd w .u8 A1 dM) (h5 : Sg5 w) : Calls Tryz.prog 3 #[.slice A0 bV.length c0, .slice A1 dM.length c1] w fun e w' => e = .returned (.bool true) ∧ Below w.heap.size w w' := by
 by_cases h1 : dM.length ≤ 300
 · by_cases h2 : bV.length = 32
   · exact anE A0 c0 bV jq jv kZ A1 c1 dM jH jK lW h2 h1 w jA jO h5
   · by_cases h3 : bV.length ≤ 100
     · exact anB A0 c0 bV jq jv kZ A1 c1 dM jH jK lW h1 h3 h2 w jA jO h5
     · exact anA A0 c0 bV jq jv kZ A1 c1 dM jH jK lW h1 (by omega) w jA jO h5
 · exact anz A0 c0 bV jq jv kZ A1 c1 dM jH jK lW (by omega) w jA jO h5
set_option maxRecDepth 100000 in
theorem amB (os : Os) (started : os.Started) (H : Type) (enc : TypeId × Value → H) :
 ReturnsInHanded {} Tryz.checked os 3 .any (fun w args => (Rows.edSignsSpec.pre enc Tryz.prog Tryz.f3 [] false w args ∧ laidMetH Tryz.prog laid7 w) ∧ sizedMet enc Tryz.prog Tryz.f3 (OpenSpec.ofChange Rows.edSignsSpec) false w args) (Rows.edSignsSpec.post enc Tryz.prog Tryz.f3 false true false false) := by
 refine returnsInHanded_of_change_and (C := Tryz.checked) (X := fun w _ => laidMetH Tryz.prog laid7 w) (fun _ _ _ hh h => h.of_heap hh) own started (by kernel_rfl) Tryz.func3
  (ChangeSpec.witness_shaped (enc := enc) (C := Tryz.checked) (os := os) (X := fun w _ => laidMetH Tryz.prog laid7 w) false (World.doorLaid Tryz.prog 49 os) #[.slice none 0 0, .slice none 0 0] 8 rfl (World.shaped_of_RefB (by kernel_rfl) (by kernel_rfl)) (by kernel_rfl) (by kernel_rfl) (by kernel_rfl) (an3 os _)) ?_
 intro W base args ds gs before hval0 hW _ _ hL _
 have hval : ∀ (j : Nat) t v, Tryz.f3.params[j]? = some t → args[j]? = some v → Value.okWide Tryz.prog W .any base t v := hval0
 have hW' := hW
 obtain ⟨p, q, hA0, hV, rfl, hfz, hnd⟩ := hW
 have hA : DataW.TrodAll enc Tryz.prog W 0 (fun _ => true) true Tryz.f3.params.toList args.toList ds p := hA0
 rw [Tryz.params3] at hA hval
 obtain ⟨v0, vs0, d0, ds0, p0, q0, hargs, rfl, rfl, h0, r0⟩ := trodAll_cons hA
 obtain ⟨v1, vs1, d1, ds1, p1, q1, rfl, rfl, rfl, h1, r1⟩ := trodAll_cons r0
 obtain ⟨rfl, rfl, rfl⟩ := trodAll_nil r1
 obtain rfl : args = #[v0, v1] := by cases args; simp_all
 obtain ⟨rfl, rfl⟩ := trodVars_none hV
 have k0 := h0
 have Yq : ∀ x ∈ p0, x.block < W.heap.size := by obtain ⟨m, hm⟩ := k0; exact DataW.trod_lt m _ _ _ hm
 obtain ⟨A0, c0, bV, rfl, jA, jq, jv, kZ⟩ := open_bytes (hval 0 22 v0 rfl rfl) h0
 have k1 := h1
 have lt1 : ∀ x ∈ p1, x.block < W.heap.size := by obtain ⟨m, hm⟩ := k1; exact DataW.trod_lt m _ _ _ hm
 obtain ⟨A1, c1, dM, rfl, jO, jH, jK, lW⟩ := open_bytes (hval 1 22 v1 rfl rfl) h1
 have hO := anG hL
 clear hA0 hval0
 refine (amT A0 c0 bV jq jv kZ A1 c1 dM jH jK lW W jA jO hO).mono fun e W' ⟨he, bel⟩ => ?_
 subst he
 exact ⟨_, rfl, _, _, _, [], _, [], hW', trodAll_mk1 (shut_bool Tryz.underlying4 _), (trodAll_cons_mk (Below.trod laidOut (by kernel_rfl) (of_decide_eq_true (by kernel_rfl)) k0 bel Yq) (trodAll_cons_mk (Below.trod laidOut (by kernel_rfl) (of_decide_eq_true (by kernel_rfl)) k1 bel lt1) trodAll_mk0)), rfl, bel.frame _, fun h => by cases h⟩
theorem am3 : Rows.EdSignsSaid :=
 OpenClaim.holds_of_wide 3 Tryz.f3 rfl rfl rfl rfl rfl rfl rfl ⟨rfl, rfl, rfl, rfl, rfl⟩ rfl rfl rfl rfl rfl (by kernel_rfl) Tryz.func3 (by kernel_rfl)
  (of_decide_eq_true (by kernel_rfl)) (by unfold Func.isWrapper; first | (rw [if_pos (by decide +kernel)]; kernel_rfl) | (rw [if_neg (by decide +kernel)]; exact ⟨rfl, rfl⟩))
  (fun os started H enc _ => amB os started H enc)
theorem ledSigns_holds : Rows.EdSignsCardSaid :=
 Claim7.holds_tied_plain_at .later [] [.data, .data, .widerDeep, .data, .data, .data, .data] true (true, "442fac7cce3990444957d2d7fb37b897080886019b911eff12ef7574d0e8a946") false
  am3 (fun _ h => by cases h) (by kernel_rfl) (fun _ h => by cases h) edSigns_row_tie rfl ⟨rfl, rfl⟩ (by kernel_rfl) rfl
  (fun f fn hf hfn => by
   obtain rfl : f = 3 := Option.some.inj ((show Tryz.prog.funcNamed "imprimatur/imprimaturlaw05.EdSigns" = some 3 by kernel_rfl).symm.trans hf) |>.symm
   obtain rfl : fn = Tryz.f3 := (Option.some.inj (Tryz.func3.symm.trans hfn)).symm
   exact ⟨by kernel_rfl, fun j t ht => by
    rw [Tryz.params3] at ht
    have hm : t ∈ [22] := by simpa using Array.mem_of_getElem? ht
    have hall : ([22].all fun u => !Tryz.prog.wantsStandIn u) = true := by kernel_rfl
    exact (show Tryz.prog.wantsStandIn t = false by simpa using List.all_eq_true.1 hall t hm)⟩)
  (by kernel_rfl)
end Go.Proofs.YtehfkbaendajbaaGreatDoor