/-
 The statement EdOwn.
-/
import Derived.Test.YtbghdkmpjiffeaaDoorCards
import Derived.Test.YtbghdkmpjiffeaaDoorTie
import Derived.Test.YtbghdkmpjiffeaaDoorO46
import Derived.Test.YtbghdkmpjiffeaaDoorO47
import Derived.Test.YtbghdkmpjiffeaaDoorO48
import Derived.ArgAppend
import Derived.Laws.CopyRow
import Derived.Laws.OwnMore
import Derived.OwnWalk
import Derived.SevenTiedAt
namespace Go.Proofs.YtbghdkmpjiffeaaDoor
open Go.RowKit Go.ChangeShapes Go.WideShapes Go.ChangeAt Go.Proofs.YtbghdkmpjiffeaaDoorW.PrintLast
set_option linter.unusedSimpArgs false
set_option linter.unusedVariables false
set_option maxRecDepth 100000 in
set_option maxHeartbeats 8000000 in
theorem ah4 (A0 : Option Addr) (c0 : Nat) (bV : List Nat) (jq : ∀ b ∈ bV, b < 256) (jv : bV.length ≤ c0) (kZ : c0 ≤ maxLen) (A1 : Option Addr) (c1 : Nat) (dM : List Nat) (jH : ∀ b ∈ dM, b < 256) (jK : dM.length ≤ c1) (lW : c1 ≤ maxLen) (hl : ¬ bV.length = 32) (w : World) (jA : Rd w .u8 A0 bV) (jO : Rd w .u8 A1 dM) (h5 : Ed8 w) :
 Calls Tryd.prog 9 #[.slice A0 bV.length c0, .slice A1 dM.length c1] w fun e w' => e = .returned (.bool true) ∧ Below w.heap.size w w' := by
 have HE := Lib.hid h5
 clear h5
 have HR0 := Lib.hid jA
 have au := Lib.hid (And.intro jv jq)
 clear jA jv jq kZ
 have HR1 := Lib.hid jO
 have aH := Lib.hid (And.intro jK jH)
 clear jO jK jH lW
 have hI0 : ((bV.length : Int) = 32) = False := eq_false (by omega)
 have hJ0 : ((bV.length : Int) == 32) = false := beq_eq_false_iff_ne.mpr (by omega)
 have hK0 : ((bV.length : Int) != 32) = true := by simp only [bne, hJ0]; rfl
 go_enter Tryd.func9, Tryd.ntmps9
 go_wp2_with fail
 refine (fJ _ (HE.out.next (pl (Below.refl _ _))).e).mono ?_
 rintro e x1 ⟨rfl, hb1⟩
 have HB1 : Hid (Below w.heap.size w x1) := Below.trans (pl (Below.refl _ _)) (hb1.mono sz)
 have hz1 := HB1.out.size
 clear hb1
 go_wp2_with fail
 go_ret
 exact ⟨rfl, (pl HB1.out)⟩
set_option maxRecDepth 100000 in
set_option maxHeartbeats 8000000 in
theorem ah5 (A0 : Option Addr) (c0 : Nat) (bV : List Nat) (jq : ∀ b ∈ bV, b < 256) (jv : bV.length ≤ c0) (kZ : c0 ≤ maxLen) (A1 : Option Addr) (c1 : Nat) (dM : List Nat) (jH : ∀ b ∈ dM, b < 256) (jK : dM.length ≤ c1) (lW : c1 ≤ maxLen) (hl : bV.length = 32) (hm : 300 < dM.length) (w : World) (jA : Rd w .u8 A0 bV) (jO : Rd w .u8 A1 dM) (h5 : Ed8 w) :
 Calls Tryd.prog 9 #[.slice A0 bV.length c0, .slice A1 dM.length c1] w fun e w' => e = .returned (.bool true) ∧ Below w.heap.size w w' := by
 have HE := Lib.hid h5
 clear h5
 have HR0 := Lib.hid jA
 have au := Lib.hid (And.intro jv jq)
 clear jA jv jq kZ
 have HR1 := Lib.hid jO
 have aH := Lib.hid (And.intro jK jH)
 clear jO jK jH lW
 rw [hl]
 have hI1 : (300 : Int) < (dM.length : Int) := by omega
 have hK1 : decide (300 < dM.length) = true := decide_eq_true (by omega)
 go_enter Tryd.func9, Tryd.ntmps9
 go_wp2_with fail
 refine (fJ _ (HE.out.next (pl (Below.refl _ _))).e).mono ?_
 rintro e x1 ⟨rfl, hb1⟩
 have HB1 : Hid (Below w.heap.size w x1) := Below.trans (pl (Below.refl _ _)) (hb1.mono sz)
 have hz1 := HB1.out.size
 clear hb1
 go_wp2_with fail
 go_ret
 exact ⟨rfl, (pl HB1.out)⟩
set_option maxRecDepth 100000 in
set_option maxHeartbeats 8000000 in
theorem ah6 (A0 : Option Addr) (c0 : Nat) (bV : List Nat) (jq : ∀ b ∈ bV, b < 256) (jv : bV.length ≤ c0) (kZ : c0 ≤ maxLen) (A1 : Option Addr) (c1 : Nat) (dM : List Nat) (jH : ∀ b ∈ dM, b < 256) (jK : dM.length ≤ c1) (lW : c1 ≤ maxLen) (hl : bV.length = 32) (hm : dM.length ≤ 300) (w : World) (jA : Rd w .u8 A0 bV) (jO : Rd w .u8 A1 dM) (h5 : Ed8 w) :
 Calls Tryd.prog 9 #[.slice A0 bV.length c0, .slice A1 dM.length c1] w fun e w' => e = .returned (.bool true) ∧ Below w.heap.size w w' := by
 have HE := Lib.hid h5
 clear h5
 have HR0 := Lib.hid jA
 have au := Lib.hid (And.intro jv jq)
 clear jA jv jq kZ
 have HR1 := Lib.hid jO
 have aH := Lib.hid (And.intro jK jH)
 clear jO jK jH lW
 rw [hl]
 have hI1 : ((300 : Int) < (dM.length : Int)) = False := eq_false (by omega)
 have hK1 : decide (300 < dM.length) = false := decide_eq_false (by omega)
 have HL := Lib.hid (And.intro hl hm)
 clear hl hm
 obtain ⟨KB, hKB⟩ : ∃ z, z = Yb bV := ⟨_, rfl⟩
 obtain ⟨F, S, hsig, lF, lS, bF, bS, ahJ, hown, hoth⟩ := adV bV dM
 have HS1 : Hid (KB = Yb bV ∧ KB.length = 32 ∧ ∀ z ∈ KB, z < 256) := Lib.hid ⟨hKB, by rw [hKB]; exact kV _ _, by rw [hKB]; exact qj _ _⟩
 rw [← hKB] at hown hoth
 have HS2 := Lib.hid (And.intro hsig (And.intro lF (And.intro lS (And.intro bF (And.intro bS ahJ)))))
 have HS3 := Lib.hid (And.intro hown hoth)
 clear hKB hsig lF lS bF bS ahJ hown hoth
 go_enter Tryd.func9, Tryd.ntmps9
 go_wp2_with fail
 refine (afT bV KB A0 c0 HL.out.1 au.out.2 HS1.out.1 _ (HE.out.next (pl (Below.refl _ _))) (HR0.out.next (pl (Below.refl _ _)))).mono ?_
 rintro e y1 ⟨⟨gk, TK, rfl, wS⟩, hb1⟩
 have gI : Keeps w _ y1 := ak wS (aO (Below.trans (pl (Below.refl _ _)) (hb1.mono sz)))
 obtain ⟨x1, rfl, hk1, hz1, l10⟩ := gI.jE
 have HB1 : Hid (Below w.heap.size w x1) := hk1.below
 have HG1 : w.heap.size ≤ gk := by (try simp only [ah] at TK); omega
 clear gI hk1 hb1 wS TK
 go_wp2_with fail
 obtain ⟨p, hp, hcd⟩ := MQ (Pt.smul (acR bV) iZ) (some ⟨gk, 0, none⟩) 32
 have HP := Lib.hid hp
 have HCD : Hid (∀ w, kT w → Rd w .u8 (some ⟨gk, 0, none⟩) KB → Calls Tryd.prog 13 #[.slice (some ⟨gk, 0, none⟩) 32 32] w fun e w' => e = .returned (.tuple #[p.v, .int .i64 0]) ∧ Below w.heap.size w w') := Lib.hid (by rw [HS1.out.1]; exact hcd)
 clear hp hcd
 refine (sign_eq A0 A1 c0 c1 bV dM HL.out.1 (by have := HL.out.2; omega) au.out.2 aH.out.2 _ (HE.out.next (pl HB1.out)).s (HR0.out.next (pl HB1.out)) (HR1.out.next (pl HB1.out))).mono ?_
 rintro e y2 ⟨⟨q, cap, rfl, hq, hcap, hrd⟩, hb2⟩
 obtain ⟨x2, rfl, hc2, hz2, kD⟩ := bQ (b := gk) hb2 rfl ob
 have HB2 := aZ HB1.out hc2
 clear hb2 hc2
 try simp only [ah] at hz2
 rw [HS2.out.1] at hrd
 have HRS := Lib.hid hrd
 have HQ := Lib.hid (And.intro hq hcap)
 clear hrd hq hcap
 go_wp2_with fail
 refine (akW (some ⟨gk, 0, none⟩) A1 (some ⟨q, 0, none⟩) 32 c1 cap KB dM F S HS1.out.2.1 HS1.out.2.2 (by have := HL.out.2; omega) aH.out.2 HS2.out.2.1 HS2.out.2.2.1 HS2.out.2.2.2.1 HS2.out.2.2.2.2.1 HQ.out.2 p _ HP.out HCD.out HS2.out.2.2.2.2.2 HS3.out.1 _ (HE.out.next (pl HB2.out)).s (HE.out.next (pl HB2.out)).e.o (nS ob) (HR1.out.next (pl HB2.out)) (HRS.out.next (pl (Below.refl _ _)))).mono ?_
 rintro e x3 ⟨rfl, hb3⟩
 have HB3 := aZ HB2.out hb3
 have hz3 := HB3.out.size
 clear hb3
 go_wp2_with fail
 refine (fJ _ (HE.out.next (pl HB3.out)).e).mono ?_
 rintro e x4 ⟨rfl, hb4⟩
 have HB4 := aZ HB3.out hb4
 have lT := HB4.out.size
 clear hb4
 go_wp2_with fail
 go_ret
 exact ⟨rfl, (pl HB4.out)⟩
theorem ae6 (A0 : Option Addr) (c0 : Nat) (bV : List Nat) (jq : ∀ b ∈ bV, b < 256) (jv : bV.length ≤ c0) (kZ : c0 ≤ maxLen) (A1 : Option Addr) (c1 : Nat) (dM : List Nat) (jH : ∀ b ∈ dM, b < 256) (jK : dM.length ≤ c1) (lW : c1 ≤ maxLen) (w : World) (jA : Rd w .u8 A0 bV) (jO : Rd w .u8 A1 dM) (h5 : Ed8 w) : Calls Tryd.prog 9 #[.slice A0 bV.length c0, .slice A1 dM.length c1] w fun e w' => e = .returned (.bool true) ∧ Below w.heap.size w w' := by
 by_cases h1 : bV.length = 32
 · by_cases h2 : 300 < dM.length
   · exact ah5 A0 c0 bV jq jv kZ A1 c1 dM jH jK lW h1 h2 w jA jO h5
   · exact ah6 A0 c0 bV jq jv kZ A1 c1 dM jH jK lW h1 (by omega) w jA jO h5
 · exact ah4 A0 c0 bV jq jv kZ A1 c1 dM jH jK lW h1 w jA jO h5
set_option maxRecDepth 100000 in
theorem ac0 (os : Os) (started : os.Started) (H : Type) (enc : TypeId × Value → H) :
 ReturnsInHanded {} Tryd.checked os 9 .any (fun w args => (Rows.edOwnSpec.pre enc Tryd.prog Tryd.f9 [] false w args ∧ laidMetH Tryd.prog aj w) ∧ sizedMet enc Tryd.prog Tryd.f9 (OpenSpec.ofChange Rows.edOwnSpec) false w args) (Rows.edOwnSpec.post enc Tryd.prog Tryd.f9 false true false false) := by
 refine returnsInHanded_of_change_and (C := Tryd.checked) (X := fun w _ => laidMetH Tryd.prog aj w) (fun _ _ _ hh h => h.of_heap hh) own started (by kernel_rfl) Tryd.func9
  (ChangeSpec.witness_shaped (enc := enc) (C := Tryd.checked) (os := os) (X := fun w _ => laidMetH Tryd.prog aj w) false (World.doorLaid Tryd.prog 49 os) #[.slice none 0 0, .slice none 0 0] 8 rfl (World.shaped_of_RefB (by kernel_rfl) (by kernel_rfl)) (by kernel_rfl) (by kernel_rfl) (by kernel_rfl) (ac3 os _)) ?_
 intro W base args ds gs before hval0 hW _ _ hL _
 have hval : ∀ (j : Nat) t v, Tryd.f9.params[j]? = some t → args[j]? = some v → Value.okWide Tryd.prog W .any base t v := hval0
 have hW' := hW
 obtain ⟨p, q, hA0, hV, rfl, hfz, hnd⟩ := hW
 have hA : DataW.TrodAll enc Tryd.prog W 0 (fun _ => true) true Tryd.f9.params.toList args.toList ds p := hA0
 rw [Tryd.params9] at hA hval
 obtain ⟨v0, vs0, d0, ds0, p0, q0, hargs, rfl, rfl, h0, r0⟩ := trodAll_cons hA
 obtain ⟨v1, vs1, d1, ds1, p1, q1, rfl, rfl, rfl, h1, r1⟩ := trodAll_cons r0
 obtain ⟨rfl, rfl, rfl⟩ := trodAll_nil r1
 obtain rfl : args = #[v0, v1] := by cases args; simp_all
 obtain ⟨rfl, rfl⟩ := trodVars_none hV
 have k0 := h0
 have Yq : ∀ x ∈ p0, x.block < W.heap.size := by obtain ⟨m, hm⟩ := k0; exact DataW.trod_lt m _ _ _ hm
 obtain ⟨A0, c0, bV, rfl, jA, jq, jv, kZ⟩ := open_bytes (hval 0 22 v0 rfl rfl) h0
 have k1 := h1
 have lt1 : ∀ x ∈ p1, x.block < W.heap.size := by obtain ⟨m, hm⟩ := k1; exact DataW.trod_lt m _ _ _ hm
 obtain ⟨A1, c1, dM, rfl, jO, jH, jK, lW⟩ := open_bytes (hval 1 22 v1 rfl rfl) h1
 have hO := acP hL
 clear hA0 hval0
 refine (ae6 A0 c0 bV jq jv kZ A1 c1 dM jH jK lW W jA jO hO).mono fun e W' ⟨he, bel⟩ => ?_
 subst he
 exact ⟨_, rfl, _, _, _, [], _, [], hW', trodAll_mk1 (shut_bool Tryd.underlying4 _), (trodAll_cons_mk (Below.trod laidOut (by kernel_rfl) (of_decide_eq_true (by kernel_rfl)) k0 bel Yq) (trodAll_cons_mk (Below.trod laidOut (by kernel_rfl) (of_decide_eq_true (by kernel_rfl)) k1 bel lt1) trodAll_mk0)), rfl, bel.frame _, fun h => by cases h⟩
theorem af6 : Rows.EdOwnSaid :=
 OpenClaim.holds_of_wide 9 Tryd.f9 rfl rfl rfl rfl rfl rfl rfl ⟨rfl, rfl, rfl, rfl, rfl⟩ rfl rfl rfl rfl rfl (by kernel_rfl) Tryd.func9 (by kernel_rfl)
  (of_decide_eq_true (by kernel_rfl)) (by unfold Func.isWrapper; first | (rw [if_pos (by decide +kernel)]; kernel_rfl) | (rw [if_neg (by decide +kernel)]; exact ⟨rfl, rfl⟩))
  (fun os started H enc _ => ac0 os started H enc)
theorem ledOwn_holds : Rows.EdOwnCardSaid :=
 Claim7.holds_tied_plain_at .later [] [.data, .data, .widerDeep, .data, .data, .data, .data, .data] true (true, "0f95a86f4b0bab74ae68208c68a1990d2615e57689ca15e110a62c814f1842c4") false
  af6 (fun _ h => by cases h) (by kernel_rfl) (fun _ h => by cases h) edOwn_row_tie rfl ⟨rfl, rfl⟩ (by kernel_rfl) rfl
  (fun f fn hf hfn => by
   obtain rfl : f = 9 := Option.some.inj ((show Tryd.prog.funcNamed "imprimatur/imprimaturlaw05.EdOwn" = some 9 by kernel_rfl).symm.trans hf) |>.symm
   obtain rfl : fn = Tryd.f9 := (Option.some.inj (Tryd.func9.symm.trans hfn)).symm
   exact ⟨by kernel_rfl, fun j t ht => by
    rw [Tryd.params9] at ht
    have hm : t ∈ [22] := by simpa using Array.mem_of_getElem? ht
    have hall : ([22].all fun u => !Tryd.prog.wantsStandIn u) = true := by kernel_rfl
    exact (show Tryd.prog.wantsStandIn t = false by simpa using List.all_eq_true.1 hall t hm)⟩)
  (by kernel_rfl)
end Go.Proofs.YtbghdkmpjiffeaaDoor