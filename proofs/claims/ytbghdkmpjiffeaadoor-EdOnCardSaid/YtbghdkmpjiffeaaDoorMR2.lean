/-
 The statement EdOn.
-/
import Derived.Test.YtbghdkmpjiffeaaDoorCards
import Derived.Test.YtbghdkmpjiffeaaDoorTie
import Derived.Test.YtbghdkmpjiffeaaDoorM38r2
import Derived.Test.YtbghdkmpjiffeaaDoorM40r2356
import Derived.SevenTiedAt
namespace Go.Proofs.YtbghdkmpjiffeaaDoor
open Go.RowKit Go.ChangeShapes Go.WideShapes Go.ChangeAt Go.Proofs.YtbghdkmpjiffeaaDoorW.PrintLast
set_option linter.unusedSimpArgs false
set_option linter.unusedVariables false
set_option maxRecDepth 100000 in
set_option maxHeartbeats 8000000 in
theorem Yk (a0 : Pn) (w0 : a0.lt) (A1 : Option Addr) (c1 : Nat) (dM : List Nat) (jH : ∀ b ∈ dM, b < 256) (jK : dM.length ≤ c1) (lW : c1 ≤ maxLen) (hl : 100 < dM.length) (w : World) (jO : Rd w .u8 A1 dM) (h5 : uU w) :
 Calls Tryd.prog 4 #[a0.v, .slice A1 dM.length c1] w fun e w' => e = .returned (.bool true) ∧ Below w.heap.size w w' := by
 have HE := Lib.hid h5
 clear h5
 have HW0 := Lib.hid w0
 clear w0
 have HR1 := Lib.hid jO
 have aH := Lib.hid (And.intro jK jH)
 clear jO jK jH lW
 obtain ⟨b, hb⟩ : ∃ b, b = a0.on := ⟨_, rfl⟩
 have aai := Lib.hid hb
 clear hb
 have hI : (100 : Int) < (dM.length : Int) := by omega
 go_enter Tryd.func4, Tryd.ntmps4
 go_wp2_with fail
 refine (fJ _ (HE.out.next (pl (Below.refl _ _)))).mono ?_
 rintro e x1 ⟨rfl, hb1⟩
 have HB1 : Hid (Below w.heap.size w x1) := Below.trans (pl (Below.refl _ _)) (hb1.mono sz)
 have hz1 := HB1.out.size
 clear hb1
 go_wp2_with fail
 go_ret
 exact ⟨rfl, (pl HB1.out)⟩
set_option maxRecDepth 100000 in
set_option maxHeartbeats 8000000 in
theorem Yl (a0 : Pn) (w0 : a0.lt) (A1 : Option Addr) (c1 : Nat) (dM : List Nat) (jH : ∀ b ∈ dM, b < 256) (jK : dM.length ≤ c1) (lW : c1 ≤ maxLen) (hl : dM.length ≤ 100) (w : World) (jO : Rd w .u8 A1 dM) (h5 : uU w) :
 Calls Tryd.prog 4 #[a0.v, .slice A1 dM.length c1] w fun e w' => e = .returned (.bool true) ∧ Below w.heap.size w w' := by
 have HE := Lib.hid h5
 clear h5
 have HW0 := Lib.hid w0
 clear w0
 have HR1 := Lib.hid jO
 have aH := Lib.hid (And.intro jK jH)
 clear jO jK jH lW
 obtain ⟨b, hb⟩ : ∃ b, b = a0.on := ⟨_, rfl⟩
 have aai := Lib.hid hb
 clear hb
 have hI : ((100 : Int) < (dM.length : Int)) = False := eq_false (by omega)
 have HL := Lib.hid hl
 clear hl
 go_enter Tryd.func4, Tryd.ntmps4
 go_wp2_with fail
 refine (lN A1 c1 dM aH.out.1 HL.out aH.out.2 _ (HE.out.next (pl (Below.refl _ _))) (HR1.out.next (pl (Below.refl _ _)))).mono ?_
 rintro e y1 ⟨⟨P, h, q, rfl, hhf, hqf, hqk⟩, hb1⟩
 obtain ⟨x1, rfl, hc1, hz1, l10⟩ := bQ (b := w.heap.size) hb1 rfl ob
 have HB1 : Hid (Below w.heap.size w x1) := Below.trans (pl (Below.refl _ _)) (hc1.mono sz)
 clear hb1 hc1
 try simp only [bF] at hz1
 have HHF := Lib.hid hhf
 have HQF := Lib.hid hqf
 have HQ := Lib.hid hqk
 clear hhf hqf hqk
 go_wp2_with (refine aI (.tmp 5) (.tmp 14) rfl (by rfl) (x1.heap.size) h 28 rfl rfl bP rfl ob ?_)
 refine st1 w [] 21 (ak (b := w.heap.size) ob (ak (b := x1.heap.size) ob (ak (b := x1.heap.size + 1) ob (aO (pl HB1.out))))) (fun HS => ?_)
 refine dH 0 (some 16) (h := fun K hK => ?_)
 go_simp
 refine (Tz _).mono ?_
 rintro e y ⟨rfl, hb⟩
 refine hK.out _ _ (HS.step hb rfl) ?_
 replace HQ := Lib.hid (HQ.out.next (bt hb))
 clear HS hb
 intro HS
 refine tk3 1 (some 17) HS (h := ?_)
 refine tk3 2 (some 18) HS (v := a0.v) (hy := by (intro v hv; obtain ⟨x, rfl, _, _, n0, n1, n2⟩ := hv.eG; exact aG 28 (.tmp 2) rfl (w.heap.size) 0 rfl a0.cL a0.cA 28 ob (by kernel_rfl) (by kernel_rfl) (by kernel_rfl))) (h := ?_)
 refine tk3 4 (some 20) HS (v := a0.v) (hy := by (intro v hv; obtain ⟨x, rfl, _, _, n0, n1, n2⟩ := hv.eG; exact aG 28 (.tmp 2) rfl (w.heap.size) 0 rfl a0.cL a0.cA 28 ob (by kernel_rfl) (by kernel_rfl) (by kernel_rfl))) (h := ?_)
 refine dH 3 (some 19) (h := fun K hK => ?_)
 go_simp
 refine (L9 a0 HW0.out b aai.out.symm _ (HE.out.next HS.1).o).mono ?_
 rintro e y ⟨rfl, hb⟩
 refine hK.out _ _ (HS.step hb rfl) ?_
 replace HQ := Lib.hid (HQ.out.next (bt hb))
 clear HS hb
 intro HS
 refine dH 5 (some 21) (h := fun K hK => ?_)
 go_simp
 refine (Jv a0 HW0.out b aai.out.symm _).mono ?_
 rintro e y ⟨rfl, hb⟩
 refine hK.out _ _ (HS.step hb rfl) ?_
 replace HQ := Lib.hid (HQ.out.next (bt hb))
 clear HS hb
 intro HS
 refine tk3 6 (some 22) HS (v := .bool true) (h := ?_)
 refine tk3 7 (some 23) HS (h := ?_)
 refine tk3 8 (some 24) HS (h := ?_)
 refine tk3 9 (some 25) HS (v := h.v) (hy := by (intro v hv; obtain ⟨x, rfl, _, _, n0, n1, n2⟩ := hv.eG; exact aG 28 (.tmp 5) rfl (x1.heap.size) 0 rfl h.cL h.cA 28 ob (by kernel_rfl) (by kernel_rfl) (by kernel_rfl))) (h := ?_)
 refine dH 10 (some 26) (h := fun K hK => ?_)
 go_simp
 refine (L9 h HHF.out.1 true HHF.out.on _ (HE.out.next HS.1).o).mono ?_
 rintro e y ⟨rfl, hb⟩
 refine hK.out _ _ (HS.step hb rfl) ?_
 replace HQ := Lib.hid (HQ.out.next (bt hb))
 clear HS hb
 intro HS
 refine tk3 11 (some 27) HS (h := ?_)
 refine tk3 12 (some 28) HS (h := ?_)
 refine tk3 13 (some 29) HS (v := h.v) (hy := by (intro v hv; obtain ⟨x, rfl, _, _, n0, n1, n2⟩ := hv.eG; exact aG 28 (.tmp 5) rfl (x1.heap.size) 0 rfl h.cL h.cA 28 ob (by kernel_rfl) (by kernel_rfl) (by kernel_rfl))) (h := ?_)
 refine tk3 14 (some 30) HS (h := ?_)
 refine dH 15 (some 31) (h := fun K hK => ?_)
 go_simp
 refine (vC h q P P HHF.out HQF.out true ⟨fun _ => rfl, fun _ => rfl⟩ _ (HQ.out.next (pl (Below.refl _ _)))).mono ?_
 rintro e y ⟨rfl, hb⟩
 refine hK.out _ _ (HS.step hb rfl) ?_
 replace HQ := Lib.hid (HQ.out.next (bt hb))
 clear HS hb
 intro HS
 refine tk3 16 (some 32) HS (h := ?_)
 refine tk3 17 (some 33) HS (h := ?_)
 refine dH 18 (some 34) (h := fun K hK => ?_)
 go_simp
 refine (fJ _ (HE.out.next HS.1)).mono ?_
 rintro e y ⟨rfl, hb⟩
 refine hK.out _ _ (HS.step hb rfl) ?_
 replace HQ := Lib.hid (HQ.out.next (bt hb))
 clear HS hb
 intro HS
 refine tk3 19 (some 35) HS (h := ?_)
 refine tk3 20 (some 4) HS (h := ?_)
 obtain ⟨x2, rfl, hk2, hz2, kD, rQ, Gh⟩ := HS.eG
 have HB2 : Hid (Below w.heap.size w x2) := hk2.below
 clear HS hk2
 refine done_ (by kernel_rfl) ?_
 go_wp2_with fail
 go_ret
 exact ⟨rfl, (pl HB2.out)⟩
theorem KI (a0 : Pn) (w0 : a0.lt) (A1 : Option Addr) (c1 : Nat) (dM : List Nat) (jH : ∀ b ∈ dM, b < 256) (jK : dM.length ≤ c1) (lW : c1 ≤ maxLen) (w : World) (jO : Rd w .u8 A1 dM) (h5 : uU w) : Calls Tryd.prog 4 #[a0.v, .slice A1 dM.length c1] w fun e w' => e = .returned (.bool true) ∧ Below w.heap.size w w' := by
 by_cases h1 : 100 < dM.length
 · exact Yk a0 w0 A1 c1 dM jH jK lW h1 w jO h5
 · exact Yl a0 w0 A1 c1 dM jH jK lW (by omega) w jO h5
set_option maxRecDepth 100000 in
theorem FC (os : Os) (started : os.Started) (H : Type) (enc : TypeId × Value → H) :
 ReturnsInHanded {} Tryd.checked os 4 .any (fun w args => (Rows.edOnSpec.pre enc Tryd.prog Tryd.f4 [] false w args ∧ laidMetH Tryd.prog fP w) ∧ sizedMet enc Tryd.prog Tryd.f4 (OpenSpec.ofChange Rows.edOnSpec) false w args) (Rows.edOnSpec.post enc Tryd.prog Tryd.f4 false true false false) := by
 refine returnsInHanded_of_change_and (C := Tryd.checked) (X := fun w _ => laidMetH Tryd.prog fP w) (fun _ _ _ hh h => h.of_heap hh) own started (by kernel_rfl) Tryd.func4
  (ChangeSpec.witness_shaped (enc := enc) (C := Tryd.checked) (os := os) (X := fun w _ => laidMetH Tryd.prog fP w) false (World.doorLaid Tryd.prog 49 os) #[.agg bP, .slice none 0 0] 8 rfl (World.shaped_of_RefB (by kernel_rfl) (by kernel_rfl)) (by kernel_rfl) (by kernel_rfl) (by kernel_rfl) (door_met os _)) ?_
 intro W base args ds gs before hval0 hW _ _ hL _
 have hval : ∀ (j : Nat) t v, Tryd.f4.params[j]? = some t → args[j]? = some v → Value.okWide Tryd.prog W .any base t v := hval0
 have hW' := hW
 obtain ⟨p, q, hA0, hV, rfl, hfz, hnd⟩ := hW
 have hA : DataW.TrodAll enc Tryd.prog W 0 (fun _ => true) true Tryd.f4.params.toList args.toList ds p := hA0
 rw [Tryd.params4] at hA hval
 obtain ⟨v0, vs0, d0, ds0, p0, q0, hargs, rfl, rfl, h0, r0⟩ := trodAll_cons hA
 obtain ⟨v1, vs1, d1, ds1, p1, q1, rfl, rfl, rfl, h1, r1⟩ := trodAll_cons r0
 obtain ⟨rfl, rfl, rfl⟩ := trodAll_nil r1
 obtain rfl : args = #[v0, v1] := by cases args; simp_all
 obtain ⟨rfl, rfl⟩ := trodVars_none hV
 have k0 := h0
 have Yq : ∀ x ∈ p0, x.block < W.heap.size := by obtain ⟨m, hm⟩ := k0; exact DataW.trod_lt m _ _ _ hm
 obtain ⟨a0, rfl, w0⟩ := KX (hval 0 28 v0 rfl rfl) h0
 have k1 := h1
 have lt1 : ∀ x ∈ p1, x.block < W.heap.size := by obtain ⟨m, hm⟩ := k1; exact DataW.trod_lt m _ _ _ hm
 obtain ⟨A1, c1, dM, rfl, jO, jH, jK, lW⟩ := open_bytes (hval 1 22 v1 rfl rfl) h1
 have hO := mP hL
 clear hA0 hval0
 refine (KI a0 w0 A1 c1 dM jH jK lW W jO hO).mono fun e W' ⟨he, bel⟩ => ?_
 subst he
 exact ⟨_, rfl, _, _, _, [], _, [], hW', trodAll_mk1 (shut_bool Tryd.underlying4 _), (trodAll_cons_mk (Below.trod laidOut (by kernel_rfl) (of_decide_eq_true (by kernel_rfl)) k0 bel Yq) (trodAll_cons_mk (Below.trod laidOut (by kernel_rfl) (of_decide_eq_true (by kernel_rfl)) k1 bel lt1) trodAll_mk0)), rfl, bel.frame _, fun h => by cases h⟩
theorem PV : Rows.EdOnSaid :=
 OpenClaim.holds_of_wide 4 Tryd.f4 rfl rfl rfl rfl rfl rfl rfl ⟨rfl, rfl, rfl, rfl, rfl⟩ rfl rfl rfl rfl rfl (by kernel_rfl) Tryd.func4 (by kernel_rfl)
  (of_decide_eq_true (by kernel_rfl)) (by unfold Func.isWrapper; first | (rw [if_pos (by decide +kernel)]; kernel_rfl) | (rw [if_neg (by decide +kernel)]; exact ⟨rfl, rfl⟩))
  (fun os started H enc _ => FC os started H enc)
theorem ledOn_holds : Rows.EdOnCardSaid :=
 Claim7.holds_tied_plain_at .later [] [.data, .data, .data, .data, .data, .data, .data] true (true, "0f95a86f4b0bab74ae68208c68a1990d2615e57689ca15e110a62c814f1842c4") false
  PV (fun _ h => by cases h) (by kernel_rfl) (fun _ h => by cases h) edOn_row_tie rfl ⟨rfl, rfl⟩ (by kernel_rfl) rfl
  (fun f fn hf hfn => by
   obtain rfl : f = 4 := Option.some.inj ((show Tryd.prog.funcNamed "imprimatur/imprimaturlaw05.EdOn" = some 4 by kernel_rfl).symm.trans hf) |>.symm
   obtain rfl : fn = Tryd.f4 := (Option.some.inj (Tryd.func4.symm.trans hfn)).symm
   exact ⟨by kernel_rfl, fun j t ht => by
    rw [Tryd.params4] at ht
    have hm : t ∈ [28, 22] := by simpa using Array.mem_of_getElem? ht
    have hall : ([28, 22].all fun u => !Tryd.prog.wantsStandIn u) = true := by kernel_rfl
    exact (show Tryd.prog.wantsStandIn t = false by simpa using List.all_eq_true.1 hall t hm)⟩)
  (by kernel_rfl)
end Go.Proofs.YtbghdkmpjiffeaaDoor