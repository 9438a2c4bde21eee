/-
 The statement EdLong.
-/
import Derived.Test.YtbghdkmpjiffeaaDoorCards
import Derived.Test.YtbghdkmpjiffeaaDoorTie
import Derived.Test.YtbghdkmpjiffeaaDoorO46
import Derived.Test.YtbghdkmpjiffeaaDoorO47
import Derived.Test.YtbghdkmpjiffeaaDoorO48
import Derived.ArgAppend
import Derived.Laws.CopyRow
import Derived.Laws.OwnMore
import Derived.OwnWalk
import Derived.SevenTiedAt
namespace Go.Proofs.YtbghdkmpjiffeaaDoor
open Go.RowKit Go.ChangeShapes Go.WideShapes Go.ChangeAt Go.Proofs.YtbghdkmpjiffeaaDoorW.PrintLast
set_option linter.unusedSimpArgs false
set_option linter.unusedVariables false
section
open Go.ChangeShapes Go.WideShapes Go.ChangeAt
set_option maxRecDepth 100000 in
theorem akM {H : Type} {enc : TypeId × Value → H} {W : World} {base : Nat} {v : Value} {d : DataW H} {p : List MemPlace} (hok : Value.okWide Tryd.prog W .any base 5 v) (h : DataW.Trod enc Tryd.prog W 0 (fun _ => true) true 5 v d p) : ∃ n : Nat, v = .int .u8 n ∧ n < 256 := by
 obtain ⟨a, rfl, _, _, w1⟩ := open_int Tryd.underlying5 hok h
 have hz : 0 ≤ a ∧ a ≤ 255 := by simpa [Lit.wf, IntKind.min, IntKind.max, IntKind.signed, IntKind.bits] using w1
 exact ⟨a.toNat, by rw [Int.toNat_of_nonneg hz.1], by omega⟩
end
set_option maxRecDepth 100000 in
set_option maxHeartbeats 2000000 in
theorem alD (A0 A1 : Option Addr) (c0 c1 k : Nat) (h : 65536 < k) (w : World) :
 Calls Tryd.prog 38 #[.slice A0 32 c0, .slice A1 k c1] w fun e w' => e = .returned (.tuple #[.slice none 0 0, .int .i64 2]) ∧ Below w.heap.size w w' := by
 have hI : (65536 : Int) < (k : Int) := by omega
 have hJ : decide (65536 < k) = true := decide_eq_true (by omega)
 go_enter Tryd.func38, Tryd.ntmps38
 go_wp2_with fail
 exact bodyPost_ret (v := .tuple #[.slice none 0 0, .int .i64 2]) (by simp [results, Tryd.results38, go_sem]) rfl ⟨rfl, pl (Below.refl _ _)⟩
theorem akS (A0 A1 : Option Addr) (c0 c1 k : Nat) (sd m : List Nat) (hk : m.length = k) (hsd : sd.length = 32) (hm : k ≤ 65536) (akB : ∀ z ∈ sd, z < 256) (akD : ∀ z ∈ m, z < 256) (w : World) (hg : Sg5 w) (hr0 : Rd w .u8 A0 sd) (hr1 : Rd w .u8 A1 m) : Calls Tryd.prog 38 #[.slice A0 32 c0, .slice A1 k c1] w fun e w' => afW w (ajk sd m) e w' ∧ Below w.heap.size w w' := by
 subst hk
 exact sign_eq A0 A1 c0 c1 sd m hsd hm akB akD w hg hr0 hr1
theorem alE (A0 A1 A2 : Option Addr) (c0 c1 c2 k : Nat) (K m R S : List Nat) (hk : m.length = k) (lk : K.length = 32) (bk : ∀ z ∈ K, z < 256) (hm : k ≤ 65536) (bm : ∀ z ∈ m, z < 256) (lr : R.length = 32) (ls : S.length = 32) (br : ∀ z ∈ R, z < 256) (bs_ : ∀ z ∈ S, z < 256) (hc2 : 64 ≤ c2) (p : Pn) (P : EP) (hp : p.of P)
 (CD : ∀ w, kT w → Rd w .u8 A0 K → Calls Tryd.prog 13 #[.slice A0 32 c0] w fun e w' => e = .returned (.tuple #[p.v, .int .i64 0]) ∧ Below w.heap.size w w') (hsl : bW S < LO) (hb : iM (Pt.smul (ab3 (R ++ (K ++ m))) (-P) + Pt.smul (bW S) iZ) = R) (w : World) (hg : Sg5 w) (ho : kT w) (hr0 : Rd w .u8 A0 K) (hr1 : Rd w .u8 A1 m) (hr2 : Rd w .u8 A2 (R ++ S)) :
 Calls Tryd.prog 39 #[.slice A0 32 c0, .slice A1 k c1, .slice A2 64 c2] w fun e w' => e = .returned (.int .i64 0) ∧ Below w.heap.size w w' := by
 subst hk
 exact akW A0 A1 A2 c0 c1 c2 K m R S lk bk hm bm lr ls br bs_ hc2 p P hp CD hsl hb w hg ho hr0 hr1 hr2
/-- Zeros. -/
theorem Hf (n : Nat) (N : Int) (hN : N = (n : Int)) (h : n ≤ 4000000) : ∃ m : List Nat, m.length = n ∧ (∀ z ∈ m, z < 256) ∧ ∀ w, (Instr.makeSlice 22 (.int .i64 N) (.int .i64 N)).run Tryd.prog w = .ok (.slice (some ⟨w.heap.size, 0, none⟩) n n) (w.alloc (.cells (bn m) 5)) :=
 ⟨List.replicate n 0, List.length_replicate, fun z hz => by rw [List.eq_of_mem_replicate hz]; decide, by rw [hN]; exact KR n h⟩
set_option maxRecDepth 100000 in
set_option maxHeartbeats 8000000 in
theorem ahf (a0 : Nat) (w0 : a0 < 256) (hl : a0 % 2 = 1) (w : World)  (h5 : Ed8 w) :
 Calls Tryd.prog 11 #[.int .u8 a0] w fun e w' => e = .returned (.bool true) ∧ Below w.heap.size w w' := by
 have HE := Lib.hid h5
 clear h5
 have HW0 := Lib.hid w0
 clear w0
 obtain ⟨m, hml, hmb, hmk⟩ := Hf 65537 65537 rfl (by decide)
 obtain ⟨sd, hsl, hsb, hsk⟩ := Hf 32 32 rfl (by decide)
 obtain ⟨o6, ho6, afV, anF⟩ := Hf 64 64 rfl (by decide)
 have HZ := Lib.hid (And.intro (And.intro hml hmb) (And.intro hsl hsb))
 have h1 : ((a0 : Int)).tmod 2 = 1 := by rw [Int.tmod_eq_emod_of_nonneg (by omega)]; omega
 have h2 : (a0 : Int) % 2 = 1 := by omega
 clear hml hmb hsl hsb ho6 afV hl
 obtain ⟨KB, hKB⟩ : ∃ z, z = Yb sd := ⟨_, rfl⟩
 have HS1 : Hid (KB = Yb sd) := Lib.hid hKB
 clear hKB
 go_enter Tryd.func11, Tryd.ntmps11
 go_wp2_with fail
 refine (afT sd KB (some ⟨w.heap.size + 1, 0, none⟩) 32 HZ.out.2.1 HZ.out.2.2 HS1.out _ (HE.out.next (pl (Below.refl _ _))) (nS ob)).mono ?_
 rintro e y1 ⟨⟨gk, TK, rfl, wS⟩, hb1⟩
 have gI : Keeps w _ y1 := ak (b := w.heap.size) ((hb1.block _ sz).trans ob) (ak (b := w.heap.size + 1) ((hb1.block _ sz).trans ob) (ak wS (aO (Below.trans (pl (Below.refl _ _)) (hb1.mono sz)))))
 obtain ⟨x1, rfl, hk1, hz1, l10, nG, l12⟩ := gI.eG
 have HB1 : Hid (Below w.heap.size w x1) := hk1.below
 have HG1 : w.heap.size ≤ gk := by (try simp only [ah] at TK); omega
 have ala : w.heap.size < gk := by (try simp only [ah] at TK); omega
 have alb : w.heap.size + 1 < gk := by (try simp only [ah] at TK); omega
 clear gI hk1 hb1 wS TK
 go_wp2_with fail
 refine (alD (some ⟨w.heap.size + 1, 0, none⟩) (some ⟨w.heap.size, 0, none⟩) 32 65537 65537 (by decide) _).mono ?_
 rintro e y2 ⟨rfl, hb2⟩
 obtain ⟨x2, rfl, hc2, hz2, kD⟩ := bQ (b := w.heap.size) hb2 rfl ob
 have HB2 := aZ HB1.out hc2
 clear hb2 hc2
 try simp only [ah] at hz2
 go_wp2_with fail
 refine (ame (some ⟨gk, 0, none⟩) (some ⟨w.heap.size, 0, none⟩) _ 32 65537 64 65537 (by decide) _).mono ?_
 rintro e x3 ⟨rfl, hb3⟩
 have HB3 := aZ HB2.out hb3
 have hz3 := HB3.out.size
 clear hb3
 go_wp2_with fail
 refine (fJ _ (HE.out.next (pl HB3.out)).e).mono ?_
 rintro e x4 ⟨rfl, hb4⟩
 have HB4 := aZ HB3.out hb4
 have lT := HB4.out.size
 clear hb4
 go_wp2_with fail
 go_ret
 exact ⟨rfl, (pl HB4.out)⟩
set_option maxRecDepth 100000 in
set_option maxHeartbeats 8000000 in
theorem ahg (a0 : Nat) (w0 : a0 < 256) (hl : a0 % 2 = 0) (w : World)  (h5 : Ed8 w) :
 Calls Tryd.prog 11 #[.int .u8 a0] w fun e w' => e = .returned (.bool true) ∧ Below w.heap.size w w' := by
 have HE := Lib.hid h5
 clear h5
 have HW0 := Lib.hid w0
 clear w0
 obtain ⟨m, hml, hmb, hmk⟩ := Hf 65536 65536 rfl (by decide)
 obtain ⟨sd, hsl, hsb, hsk⟩ := Hf 32 32 rfl (by decide)
 obtain ⟨o6, ho6, afV, anF⟩ := Hf 64 64 rfl (by decide)
 have HZ := Lib.hid (And.intro (And.intro hml hmb) (And.intro hsl hsb))
 have h1 : ((a0 : Int)).tmod 2 = 0 := by rw [Int.tmod_eq_emod_of_nonneg (by omega)]; omega
 have h2 : (a0 : Int) % 2 = 0 := by omega
 clear hml hmb hsl hsb ho6 afV hl
 obtain ⟨KB, hKB⟩ : ∃ z, z = Yb sd := ⟨_, rfl⟩
 obtain ⟨F, S, hsig, lF, lS, bF, bS, ahJ, hown, hoth⟩ := adV sd m
 have HS1 : Hid (KB = Yb sd ∧ KB.length = 32 ∧ ∀ z ∈ KB, z < 256) := Lib.hid ⟨hKB, by rw [hKB]; exact kV _ _, by rw [hKB]; exact qj _ _⟩
 rw [← hKB] at hown hoth
 have HS2 := Lib.hid (And.intro hsig (And.intro lF (And.intro lS (And.intro bF (And.intro bS ahJ)))))
 have HS3 := Lib.hid (And.intro hown hoth)
 clear hKB hsig lF lS bF bS ahJ hown hoth
 go_enter Tryd.func11, Tryd.ntmps11
 go_wp2_with fail
 refine (afT sd KB (some ⟨w.heap.size + 1, 0, none⟩) 32 HZ.out.2.1 HZ.out.2.2 HS1.out.1 _ (HE.out.next (pl (Below.refl _ _))) (nS ob)).mono ?_
 rintro e y1 ⟨⟨gk, TK, rfl, wS⟩, hb1⟩
 have gI : Keeps w _ y1 := ak (b := w.heap.size) ((hb1.block _ sz).trans ob) (ak (b := w.heap.size + 1) ((hb1.block _ sz).trans ob) (ak wS (aO (Below.trans (pl (Below.refl _ _)) (hb1.mono sz)))))
 obtain ⟨x1, rfl, hk1, hz1, l10, nG, l12⟩ := gI.eG
 have HB1 : Hid (Below w.heap.size w x1) := hk1.below
 have HG1 : w.heap.size ≤ gk := by (try simp only [ah] at TK); omega
 have ala : w.heap.size < gk := by (try simp only [ah] at TK); omega
 have alb : w.heap.size + 1 < gk := by (try simp only [ah] at TK); omega
 clear gI hk1 hb1 wS TK
 go_wp2_with fail
 obtain ⟨p, hp, hcd⟩ := MQ (Pt.smul (acR sd) iZ) (some ⟨gk, 0, none⟩) 32
 have HP := Lib.hid hp
 have HCD : Hid (∀ w, kT w → Rd w .u8 (some ⟨gk, 0, none⟩) KB → Calls Tryd.prog 13 #[.slice (some ⟨gk, 0, none⟩) 32 32] w fun e w' => e = .returned (.tuple #[p.v, .int .i64 0]) ∧ Below w.heap.size w w') := Lib.hid (by rw [HS1.out.1]; exact hcd)
 clear hp hcd
 refine (akS (some ⟨w.heap.size + 1, 0, none⟩) (some ⟨w.heap.size, 0, none⟩) 32 65536 65536 sd m HZ.out.1.1 HZ.out.2.1 (by decide) HZ.out.2.2 HZ.out.1.2 _ (HE.out.next (pl HB1.out)).s (nS ob) (nS ob)).mono ?_
 rintro e y2 ⟨⟨q, cap, rfl, hq, hcap, hrd⟩, hb2⟩
 obtain ⟨x2, rfl, hc2, hz2, kD, rQ⟩ := fO (b0 := w.heap.size) (b1 := gk) hb2 rfl ob ob
 have HB2 := aZ HB1.out hc2
 clear hb2 hc2
 try simp only [ah] at hz2
 rw [HS2.out.1] at hrd
 have HRS := Lib.hid hrd
 have HQ := Lib.hid (And.intro hq hcap)
 clear hrd hq hcap
 go_wp2_with fail
 refine (alE (some ⟨gk, 0, none⟩) (some ⟨w.heap.size, 0, none⟩) (some ⟨q, 0, none⟩) 32 65536 cap 65536 KB m F S HZ.out.1.1 HS1.out.2.1 HS1.out.2.2 (by decide) HZ.out.1.2 HS2.out.2.1 HS2.out.2.2.1 HS2.out.2.2.2.1 HS2.out.2.2.2.2.1 HQ.out.2 p _ HP.out HCD.out HS2.out.2.2.2.2.2 HS3.out.1 _ (HE.out.next (pl HB2.out)).s (HE.out.next (pl HB2.out)).e.o (nS ob) (nS ob) (HRS.out.next (pl (Below.refl _ _)))).mono ?_
 rintro e x3 ⟨rfl, hb3⟩
 have HB3 := aZ HB2.out hb3
 have hz3 := HB3.out.size
 clear hb3
 go_wp2_with fail
 refine (fJ _ (HE.out.next (pl HB3.out)).e).mono ?_
 rintro e x4 ⟨rfl, hb4⟩
 have HB4 := aZ HB3.out hb4
 have lT := HB4.out.size
 clear hb4
 go_wp2_with fail
 go_ret
 exact ⟨rfl, (pl HB4.out)⟩
theorem ad2 (a0 : Nat) (w0 : a0 < 256) (w : World)  (h5 : Ed8 w) : Calls Tryd.prog 11 #[.int .u8 a0] w fun e w' => e = .returned (.bool true) ∧ Below w.heap.size w w' := by
 by_cases h1 : a0 % 2 = 1
 · exact ahf a0 w0 h1 w  h5
 · exact ahg a0 w0 (by omega) w  h5
set_option maxRecDepth 100000 in
theorem acV (os : Os) (started : os.Started) (H : Type) (enc : TypeId × Value → H) :
 ReturnsInHanded {} Tryd.checked os 11 .any (fun w args => (Rows.edLongSpec.pre enc Tryd.prog Tryd.f11 [] false w args ∧ laidMetH Tryd.prog aj w) ∧ sizedMet enc Tryd.prog Tryd.f11 (OpenSpec.ofChange Rows.edLongSpec) false w args) (Rows.edLongSpec.post enc Tryd.prog Tryd.f11 false true false false) := by
 refine returnsInHanded_of_change_and (C := Tryd.checked) (X := fun w _ => laidMetH Tryd.prog aj w) (fun _ _ _ hh h => h.of_heap hh) own started (by kernel_rfl) Tryd.func11
  (ChangeSpec.witness_shaped (enc := enc) (C := Tryd.checked) (os := os) (X := fun w _ => laidMetH Tryd.prog aj w) false (World.doorLaid Tryd.prog 49 os) #[.int .u8 0] 8 rfl (World.shaped_of_RefB (by kernel_rfl) (by kernel_rfl)) (by kernel_rfl) (by kernel_rfl) (by kernel_rfl) (ac3 os _)) ?_
 intro W base args ds gs before hval0 hW _ _ hL _
 have hval : ∀ (j : Nat) t v, Tryd.f11.params[j]? = some t → args[j]? = some v → Value.okWide Tryd.prog W .any base t v := hval0
 have hW' := hW
 obtain ⟨p, q, hA0, hV, rfl, hfz, hnd⟩ := hW
 have hA : DataW.TrodAll enc Tryd.prog W 0 (fun _ => true) true Tryd.f11.params.toList args.toList ds p := hA0
 rw [Tryd.params11] at hA hval
 obtain ⟨v0, vs0, d0, ds0, p0, q0, hargs, rfl, rfl, h0, r0⟩ := trodAll_cons hA
 obtain ⟨rfl, rfl, rfl⟩ := trodAll_nil r0
 obtain rfl : args = #[v0] := by cases args; simp_all
 obtain ⟨rfl, rfl⟩ := trodVars_none hV
 have k0 := h0
 have Yq : ∀ x ∈ p0, x.block < W.heap.size := by obtain ⟨m, hm⟩ := k0; exact DataW.trod_lt m _ _ _ hm
 obtain ⟨a0, rfl, w0⟩ := akM (hval 0 5 v0 rfl rfl) h0
 have hO := acP hL
 clear hA0 hval0
 refine (ad2 a0 w0 W  hO).mono fun e W' ⟨he, bel⟩ => ?_
 subst he
 exact ⟨_, rfl, _, _, _, [], _, [], hW', trodAll_mk1 (shut_bool Tryd.underlying4 _), (trodAll_cons_mk (Below.trod laidOut (by kernel_rfl) (of_decide_eq_true (by kernel_rfl)) k0 bel Yq) trodAll_mk0), rfl, bel.frame _, fun h => by cases h⟩
theorem ae5 : Rows.EdLongSaid :=
 OpenClaim.holds_of_wide 11 Tryd.f11 rfl rfl rfl rfl rfl rfl rfl ⟨rfl, rfl, rfl, rfl, rfl⟩ rfl rfl rfl rfl rfl (by kernel_rfl) Tryd.func11 (by kernel_rfl)
  (of_decide_eq_true (by kernel_rfl)) (by unfold Func.isWrapper; first | (rw [if_pos (by decide +kernel)]; kernel_rfl) | (rw [if_neg (by decide +kernel)]; exact ⟨rfl, rfl⟩))
  (fun os started H enc _ => acV os started H enc)
theorem ledLong_holds : Rows.EdLongCardSaid :=
 Claim7.holds_tied_plain_at .later [] [.data, .data, .widerDeep, .data, .data, .data, .data, .data] true (true, "0f95a86f4b0bab74ae68208c68a1990d2615e57689ca15e110a62c814f1842c4") false
  ae5 (fun _ h => by cases h) (by kernel_rfl) (fun _ h => by cases h) edLong_row_tie rfl ⟨rfl, rfl⟩ (by kernel_rfl) rfl
  (fun f fn hf hfn => by
   obtain rfl : f = 11 := Option.some.inj ((show Tryd.prog.funcNamed "imprimatur/imprimaturlaw05.EdLong" = some 11 by kernel_rfl).symm.trans hf) |>.symm
   obtain rfl : fn = Tryd.f11 := (Option.some.inj (Tryd.func11.symm.trans hfn)).symm
   exact ⟨by kernel_rfl, fun j t ht => by
    rw [Tryd.params11] at ht
    have hm : t ∈ [5] := by simpa using Array.mem_of_getElem? ht
    have hall : ([5].all fun u => !Tryd.prog.wantsStandIn u) = true := by kernel_rfl
    exact (show Tryd.prog.wantsStandIn t = false by simpa using List.all_eq_true.1 hall t hm)⟩)
  (by kernel_rfl)
end Go.Proofs.YtbghdkmpjiffeaaDoor