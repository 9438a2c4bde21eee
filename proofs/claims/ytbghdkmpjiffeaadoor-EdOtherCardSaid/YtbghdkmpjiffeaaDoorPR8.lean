/-
 The statement EdOther.
-/
import Derived.Test.YtbghdkmpjiffeaaDoorCards
import Derived.Test.YtbghdkmpjiffeaaDoorTie
import Derived.Test.YtbghdkmpjiffeaaDoorP40
import Derived.Test.YtbghdkmpjiffeaaDoorP44
import Derived.Test.YtbghdkmpjiffeaaDoorP46
import Derived.Test.YtbghdkmpjiffeaaDoorP48
import Derived.Test.YtbghdkmpjiffeaaDoorP49
import Derived.SevenTiedAt
namespace Go.Proofs.YtbghdkmpjiffeaaDoor
open Go.RowKit Go.ChangeShapes Go.WideShapes Go.ChangeAt Go.Proofs.YtbghdkmpjiffeaaDoorW.PrintLast
set_option linter.unusedSimpArgs false
set_option linter.unusedVariables false
/-- What is told of a signature. -/
structure amC (sd m F S : List Nat) : Prop where
 sig : ajk sd m = F ++ S
 lF : F.length = 32
 lS : S.length = 32
 bF : ∀ z ∈ F, z < 256
 bS : ∀ z ∈ S, z < 256
 lt : bW S < LO
 oth : ∀ o, o < LO → o ≠ bW S → iM (Pt.smul (ab3 (F ++ (Yb sd ++ m))) (-(Pt.smul (acR sd) iZ)) + Pt.smul o iZ) ≠ F
theorem ami (sd m : List Nat) : ∃ F S, amC sd m F S := by
 obtain ⟨F, S, h1, h2, h3, h4, h5, h6, _, h8⟩ := adV sd m
 exact ⟨F, S, h1, h2, h3, h4, h5, h6, h8⟩
theorem gu.ahC {w : World} {B : Nat} {v : Value} {bs : List Nat} (h : gu w B v bs) : ∀ k, v.ownBlock = some k → B ≤ k ∧ k < w.heap.size := by
 intro k hk
 obtain ⟨A, c, rfl, _, _, h4⟩ := h.form
 cases A with
 | none => simp [Value.ownBlock] at hk
 | some a =>
  obtain ⟨g, rfl, e, hB, hl⟩ := h4 a rfl
  rw [e] at hk
  cases hk
  exact ⟨hB, hl⟩
theorem anU (i : Nat) (h : i < 32) : wrap64 (32 + (i : Int)) = ((32 + i : Nat) : Int) := by unfold wrap64; omega
theorem amh (n : Int) : IntKind.i64.wrap n = wrap64 n := by rw [IntKind.wrap_i64]; unfold wrap64; rfl
theorem amN (s : Nat) (h : s < 256) : IntKind.i64.wrap (s : Int) = (s : Int) := by rw [amh]; unfold wrap64; omega
theorem amP (s : Nat) (h : s < 256) : wrap64 (s : Int) = (s : Int) := by unfold wrap64; omega
theorem anT (s t x : Nat) (h : s < 512) (ht : t < 256) (hx : x = s + t) : wrap64 ((s : Int) + (t : Int)) = (x : Int) := by unfold wrap64; omega
theorem ao5 (s t c x : Nat) (h : s < 256) (ht : t < 256) (hc : c ≤ 1) (hx : x = s + t + c) : wrap64 ((s : Int) + (t : Int) + (c : Int)) = (x : Int) := by unfold wrap64; omega
theorem anf (x : Nat) : ((x : Int)).tmod 256 = ((x % 256 : Nat) : Int) := by rw [Int.tmod_eq_emod_of_nonneg (by omega)]; omega
theorem ane (x : Nat) : ((x : Int)).tdiv 256 = ((x / 256 : Nat) : Int) := by rw [Int.tdiv_eq_ediv_of_nonneg (by omega)]; omega
theorem ang (i : Nat) (h : i < 32) : wrap64 ((i : Int) + 1) = ((i + 1 : Nat) : Int) := by unfold wrap64; omega
theorem anR (x : Nat) : IntKind.u8.wrap (((x % 256 : Nat) : Int)) = ((x % 256 : Nat) : Int) := by
 show ((x % 256 : Nat) : Int) % 256 = _
 omega
theorem anc {w : World} {g d : Nat} {t : TypeId} (h : w.heap[g]? = some (.cells #[.int .u8 (d : Int)] t)) : Rd w .u8 (some ⟨g, 0, none⟩) [d] := jC h (by intro i hi; obtain rfl : i = 0 := (by simpa using hi); rfl)
theorem akg {w : World} {o : Obj} {b : Nat} (h : b < w.heap.size) : (w.alloc o).heap[b]? = w.heap[b]? := (Below.alloc (Below.refl w.heap.size w) (Nat.le_refl _) o).block b h
theorem aln (i : Nat) (h : i < 32) : (32 - intOf (.int .i64 (((i + 1 : Nat)) : Int))).toNat < (32 - intOf (.int .i64 (i : Int))).toNat := by
 show (32 - (((i + 1 : Nat)) : Int)).toNat < (32 - (i : Int)).toNat
 omega
/-- What a round reckons. -/
structure aoC (S LB : List Nat) (i s t c st x j m d : Nat) : Prop where
 hm : m = x % 256
 hd : d = x / 256
 hj : j = 32 + i
 jI : (j : Int) < 64
 hs : s = S.getD i 0
 ht : t = LB.getD i 0
 hc : c = ahy S LB i
 hx : x = s + t + c
 iI : (i : Int) < 32
 e1 : wrap64 (32 + (i : Int)) = ((32 + i : Nat) : Int)
 e2 : wrap64 ((s : Int) + (t : Int)) = (st : Int)
 e3 : wrap64 ((st : Int) + (c : Int)) = (x : Int)
 e3' : wrap64 ((s : Int) + (t : Int) + (c : Int)) = (x : Int)
 e4 : ((x : Int)).tmod 256 = (m : Int)
 e5 : ((x : Int)).tdiv 256 = (d : Int)
 e4' : IntKind.i64.wrap (m : Int) = (m : Int)
 e5' : IntKind.i64.wrap (d : Int) = (d : Int)
 e6' : wrap64 (m : Int) = (m : Int)
 e7' : wrap64 (d : Int) = (d : Int)
 f1 : IntKind.i64.wrap (32 + (i : Int)) = (j : Int)
 f2 : IntKind.i64.wrap ((s : Int) + (t : Int)) = (st : Int)
 f3 : IntKind.i64.wrap ((st : Int) + (c : Int)) = (x : Int)
 g1 : IntKind.i64.wrap (s : Int) = (s : Int)
 g2 : IntKind.i64.wrap (t : Int) = (t : Int)
 e6 : wrap64 ((i : Int) + 1) = ((i + 1 : Nat) : Int)
 e7 : IntKind.u8.wrap (m : Int) = (m : Int)
 e8 : (x : Int) % 256 = (m : Int)
 e9 : (x : Int) / 256 = (d : Int)
theorem round_facts (S LB : List Nat) (bS : ∀ z ∈ S, z < 256) (bL : ∀ z ∈ LB, z < 256) (i : Nat) (hi : i < 32) : ∃ s t c st x j m d, aoC S LB i s t c st x j m d := by
 have hs2 := akX bS i
 have ht2 := akX bL i
 have hc2 := ale bS bL i
 have a1 := anU i hi
 have a2 := anT (S.getD i 0) (LB.getD i 0) _ (by omega) ht2 rfl
 have a3 := anT (S.getD i 0 + LB.getD i 0) (ahy S LB i) _ (by omega) (by omega) rfl
 exact ⟨S.getD i 0, LB.getD i 0, ahy S LB i, S.getD i 0 + LB.getD i 0, S.getD i 0 + LB.getD i 0 + ahy S LB i, 32 + i, (S.getD i 0 + LB.getD i 0 + ahy S LB i) % 256, (S.getD i 0 + LB.getD i 0 + ahy S LB i) / 256,
  { hm := rfl, hd := rfl, hj := rfl, jI := by omega, hs := rfl, ht := rfl, hc := rfl, hx := rfl, iI := by omega, e1 := a1, e2 := a2, e3 := a3, e3' := ao5 _ _ _ _ hs2 ht2 hc2 rfl, e4 := anf _, e5 := ane _, e4' := amN _ (by omega), e5' := amN _ (by omega), e6' := amP _ (by omega), e7' := amP _ (by omega), f1 := (amh _).trans a1, f2 := (amh _).trans a2, f3 := (amh _).trans a3, g1 := amN _ hs2, g2 := amN _ ht2, e6 := ang i hi, e7 := anR _, e8 := by omega, e9 := by omega }⟩
/-- Made of it: a slice of its own, with room. -/
theorem gu.slice {w : World} {B n : Nat} {v : Value} {bs : List Nat} (h : gu w B v bs) (hn : bs.length = n) (h0 : 0 < n) : ∃ q cap, v = .slice (some ⟨q, 0, none⟩) n cap ∧ B ≤ q ∧ q < w.heap.size ∧ n ≤ cap ∧ Rd w .u8 (some ⟨q, 0, none⟩) bs := by
 subst hn
 obtain ⟨q, cap, cur, rfl, hB, hq, hc⟩ := h.own h0
 obtain ⟨A, c, e, h2, _⟩ := h.form
 cases e
 exact ⟨q, cap, rfl, hB, (Array.getElem?_eq_some_iff.mp hq).1, h2, BI hq hc⟩
set_option maxRecDepth 100000 in
set_option maxHeartbeats 8000000 in
theorem al4 (A0 : Option Addr) (c0 : Nat) (bV : List Nat) (jq : ∀ b ∈ bV, b < 256) (jv : bV.length ≤ c0) (kZ : c0 ≤ maxLen) (A1 : Option Addr) (c1 : Nat) (dM : List Nat) (jH : ∀ b ∈ dM, b < 256) (jK : dM.length ≤ c1) (lW : c1 ≤ maxLen) (A2 : Option Addr) (c2 : Nat) (gQ : List Nat) (oQ : ∀ b ∈ gQ, b < 256) (oU : gQ.length ≤ c2) (sJ : c2 ≤ maxLen) (hl : ¬ bV.length = 32) (w : World) (jA : Rd w .u8 A0 bV) (jO : Rd w .u8 A1 dM) (oV : Rd w .u8 A2 gQ) (h5 : Ed8 w) :
 Calls Tryd.prog 10 #[.slice A0 bV.length c0, .slice A1 dM.length c1, .slice A2 gQ.length c2] w fun e w' => e = .returned (.bool true) ∧ Below w.heap.size w w' := by
 have HE := Lib.hid h5
 clear h5
 have HR0 := Lib.hid jA
 have au := Lib.hid (And.intro jv jq)
 clear jA jv jq kZ
 have HR1 := Lib.hid jO
 have aH := Lib.hid (And.intro jK jH)
 clear jO jK jH lW
 have HR2 := Lib.hid oV
 have aT := Lib.hid (And.intro oU oQ)
 clear oV oU oQ sJ
 have hI0 : ((bV.length : Int) = 32) = False := eq_false (by omega)
 have hJ0 : ((bV.length : Int) == 32) = false := beq_eq_false_iff_ne.mpr (by omega)
 have hK0 : ((bV.length : Int) != 32) = true := by simp only [bne, hJ0]; rfl
 go_enter Tryd.func10, Tryd.ntmps10
 go_wp2_with fail
 refine (fJ _ (HE.out.next (pl (Below.refl _ _))).e).mono ?_
 rintro e x1 ⟨rfl, hb1⟩
 have HB1 : Hid (Below w.heap.size w x1) := Below.trans (pl (Below.refl _ _)) (hb1.mono sz)
 have hz1 := HB1.out.size
 clear hb1
 go_wp2_with fail
 go_ret
 exact ⟨rfl, (pl HB1.out)⟩
set_option maxRecDepth 100000 in
set_option maxHeartbeats 8000000 in
theorem al6 (A0 : Option Addr) (c0 : Nat) (bV : List Nat) (jq : ∀ b ∈ bV, b < 256) (jv : bV.length ≤ c0) (kZ : c0 ≤ maxLen) (A1 : Option Addr) (c1 : Nat) (dM : List Nat) (jH : ∀ b ∈ dM, b < 256) (jK : dM.length ≤ c1) (lW : c1 ≤ maxLen) (A2 : Option Addr) (c2 : Nat) (gQ : List Nat) (oQ : ∀ b ∈ gQ, b < 256) (oU : gQ.length ≤ c2) (sJ : c2 ≤ maxLen) (hl : bV.length = 32) (hm : 200 < dM.length) (w : World) (jA : Rd w .u8 A0 bV) (jO : Rd w .u8 A1 dM) (oV : Rd w .u8 A2 gQ) (h5 : Ed8 w) :
 Calls Tryd.prog 10 #[.slice A0 bV.length c0, .slice A1 dM.length c1, .slice A2 gQ.length c2] w fun e w' => e = .returned (.bool true) ∧ Below w.heap.size w w' := by
 have HE := Lib.hid h5
 clear h5
 have HR0 := Lib.hid jA
 have au := Lib.hid (And.intro jv jq)
 clear jA jv jq kZ
 have HR1 := Lib.hid jO
 have aH := Lib.hid (And.intro jK jH)
 clear jO jK jH lW
 have HR2 := Lib.hid oV
 have aT := Lib.hid (And.intro oU oQ)
 clear oV oU oQ sJ
 rw [hl]
 have hI1 : (200 : Int) < (dM.length : Int) := by omega
 have hK1 : decide (200 < dM.length) = true := decide_eq_true (by omega)
 go_enter Tryd.func10, Tryd.ntmps10
 go_wp2_with fail
 refine (fJ _ (HE.out.next (pl (Below.refl _ _))).e).mono ?_
 rintro e x1 ⟨rfl, hb1⟩
 have HB1 : Hid (Below w.heap.size w x1) := Below.trans (pl (Below.refl _ _)) (hb1.mono sz)
 have hz1 := HB1.out.size
 clear hb1
 go_wp2_with fail
 go_ret
 exact ⟨rfl, (pl HB1.out)⟩
set_option maxRecDepth 100000 in
set_option maxHeartbeats 8000000 in
theorem al7 (A0 : Option Addr) (c0 : Nat) (bV : List Nat) (jq : ∀ b ∈ bV, b < 256) (jv : bV.length ≤ c0) (kZ : c0 ≤ maxLen) (A1 : Option Addr) (c1 : Nat) (dM : List Nat) (jH : ∀ b ∈ dM, b < 256) (jK : dM.length ≤ c1) (lW : c1 ≤ maxLen) (A2 : Option Addr) (c2 : Nat) (gQ : List Nat) (oQ : ∀ b ∈ gQ, b < 256) (oU : gQ.length ≤ c2) (sJ : c2 ≤ maxLen) (hl : bV.length = 32) (hm : dM.length ≤ 200) (hlo : ¬ gQ.length = 32) (w : World) (jA : Rd w .u8 A0 bV) (jO : Rd w .u8 A1 dM) (oV : Rd w .u8 A2 gQ) (h5 : Ed8 w) :
 Calls Tryd.prog 10 #[.slice A0 bV.length c0, .slice A1 dM.length c1, .slice A2 gQ.length c2] w fun e w' => e = .returned (.bool true) ∧ Below w.heap.size w w' := by
 have HE := Lib.hid h5
 clear h5
 have HR0 := Lib.hid jA
 have au := Lib.hid (And.intro jv jq)
 clear jA jv jq kZ
 have HR1 := Lib.hid jO
 have aH := Lib.hid (And.intro jK jH)
 clear jO jK jH lW
 have HR2 := Lib.hid oV
 have aT := Lib.hid (And.intro oU oQ)
 clear oV oU oQ sJ
 rw [hl]
 have hI1 : ((200 : Int) < (dM.length : Int)) = False := eq_false (by omega)
 have hK1 : decide (200 < dM.length) = false := decide_eq_false (by omega)
 have hI2 : ((gQ.length : Int) = 32) = False := eq_false (by omega)
 have hJ2 : ((gQ.length : Int) == 32) = false := beq_eq_false_iff_ne.mpr (by omega)
 have hK2 : ((gQ.length : Int) != 32) = true := by simp only [bne, hJ2]; rfl
 go_enter Tryd.func10, Tryd.ntmps10
 go_wp2_with fail
 refine (fJ _ (HE.out.next (pl (Below.refl _ _))).e).mono ?_
 rintro e x1 ⟨rfl, hb1⟩
 have HB1 : Hid (Below w.heap.size w x1) := Below.trans (pl (Below.refl _ _)) (hb1.mono sz)
 have hz1 := HB1.out.size
 clear hb1
 go_wp2_with fail
 go_ret
 exact ⟨rfl, (pl HB1.out)⟩
set_option maxRecDepth 100000 in
set_option maxHeartbeats 8000000 in
theorem al8 (A0 : Option Addr) (c0 : Nat) (bV : List Nat) (jq : ∀ b ∈ bV, b < 256) (jv : bV.length ≤ c0) (kZ : c0 ≤ maxLen) (A1 : Option Addr) (c1 : Nat) (dM : List Nat) (jH : ∀ b ∈ dM, b < 256) (jK : dM.length ≤ c1) (lW : c1 ≤ maxLen) (A2 : Option Addr) (c2 : Nat) (gQ : List Nat) (oQ : ∀ b ∈ gQ, b < 256) (oU : gQ.length ≤ c2) (sJ : c2 ≤ maxLen) (hl : bV.length = 32) (hm : dM.length ≤ 200) (hlo : gQ.length = 32) (F S : List Nat) (hF : amC bV dM F S) (hd : gQ = S) (w : World) (jA : Rd w .u8 A0 bV) (jO : Rd w .u8 A1 dM) (oV : Rd w .u8 A2 gQ) (h5 : Ed8 w) :
 Calls Tryd.prog 10 #[.slice A0 bV.length c0, .slice A1 dM.length c1, .slice A2 gQ.length c2] w fun e w' => e = .returned (.bool true) ∧ Below w.heap.size w w' := by
 have HE := Lib.hid h5
 clear h5
 have HR0 := Lib.hid jA
 have au := Lib.hid (And.intro jv jq)
 clear jA jv jq kZ
 have HR1 := Lib.hid jO
 have aH := Lib.hid (And.intro jK jH)
 clear jO jK jH lW
 have HR2 := Lib.hid oV
 have aT := Lib.hid (And.intro oU oQ)
 clear oV oU oQ sJ
 rw [hl]
 have hI1 : ((200 : Int) < (dM.length : Int)) = False := eq_false (by omega)
 have hK1 : decide (200 < dM.length) = false := decide_eq_false (by omega)
 rw [hlo]
 have HL := Lib.hid (And.intro hl hm)
 have HLo := Lib.hid hlo
 obtain ⟨KB, hKB⟩ : ∃ z, z = Yb bV := ⟨_, rfl⟩
 have HS1 : Hid (KB = Yb bV ∧ KB.length = 32 ∧ ∀ z ∈ KB, z < 256) := Lib.hid ⟨hKB, by rw [hKB]; exact kV _ _, by rw [hKB]; exact qj _ _⟩
 have HF := Lib.hid hF
 have HD := Lib.hid hd
 obtain ⟨l, hll⟩ : ∃ l, l = LO := ⟨_, rfl⟩
 obtain ⟨LB, hLB⟩ : ∃ z, z = dw 32 l := ⟨_, rfl⟩
 have HLL : Hid (l = LO ∧ LB = dw 32 l ∧ LB.length = 32 ∧ (∀ z ∈ LB, z < 256) ∧ bW LB = LO) := Lib.hid ⟨hll, hLB, by rw [hLB]; exact kV _ _, by rw [hLB]; exact qj _ _, by rw [hLB, hll]; exact XY⟩
 clear hl hm hlo hKB hF hd hll hLB
 go_enter Tryd.func10, Tryd.ntmps10
 go_wp2_with fail
 refine (afT bV KB A0 c0 HL.out.1 au.out.2 HS1.out.1 _ (HE.out.next (pl (Below.refl _ _))) (HR0.out.next (pl (Below.refl _ _)))).mono ?_
 rintro e y1 ⟨⟨gk, TK, rfl, wS⟩, hb1⟩
 have gI : Keeps w _ y1 := ak wS (aO (Below.trans (pl (Below.refl _ _)) (hb1.mono sz)))
 obtain ⟨x1, rfl, hk1, hz1, l10⟩ := gI.jE
 have HB1 : Hid (Below w.heap.size w x1) := hk1.below
 have HG1 : w.heap.size ≤ gk := by (try simp only [ah] at TK); omega
 clear gI hk1 hb1 wS TK
 go_wp2_with fail
 obtain ⟨p, hp, hcd⟩ := MQ (Pt.smul (acR bV) iZ) (some ⟨gk, 0, none⟩) 32
 have HP := Lib.hid hp
 have HCD : Hid (∀ w, kT w → Rd w .u8 (some ⟨gk, 0, none⟩) KB → Calls Tryd.prog 13 #[.slice (some ⟨gk, 0, none⟩) 32 32] w fun e w' => e = .returned (.tuple #[p.v, .int .i64 0]) ∧ Below w.heap.size w w') := Lib.hid (by rw [HS1.out.1]; exact hcd)
 clear hp hcd
 refine (sign_eq A0 A1 c0 c1 bV dM HL.out.1 (by have := HL.out.2; omega) au.out.2 aH.out.2 _ (HE.out.next (pl HB1.out)).s (HR0.out.next (pl HB1.out)) (HR1.out.next (pl HB1.out))).mono ?_
 rintro e y2 ⟨⟨q, cap, rfl, hq, hcap, hrd⟩, hb2⟩
 obtain ⟨x2, rfl, hc2, hz2, kD⟩ := bQ (b := gk) hb2 rfl ob
 have HB2 := aZ HB1.out hc2
 clear hb2 hc2
 try simp only [ah] at hz2
 obtain ⟨W1, hW1⟩ : ∃ z, z = x2.pin gk (.cells (bn KB) 5) := ⟨_, rfl⟩
 have HW1 : Hid (W1 = x2.pin gk (.cells (bn KB) 5) ∧ Below w.heap.size w W1 ∧ W1.heap[gk]? = some (.cells (bn KB) 5) ∧ Rd W1 .u8 (some ⟨q, 0, none⟩) F ∧ Rd W1 .u8 (some ⟨q, 32, none⟩) S ∧ w.heap.size ≤ q ∧ q < W1.heap.size ∧ gk < W1.heap.size) := Lib.hid (by
  rw [HF.out.sig] at hrd
  have h1 := afK hrd
  rw [HF.out.lF, Nat.zero_add] at h1
  obtain ⟨b', off', e', hb', _⟩ := h1.1.place (by rw [HF.out.lF]; decide)
  cases e'
  refine ⟨hW1, by rw [hW1]; exact pl HB2.out, by rw [hW1]; exact ob, by rw [hW1]; exact h1.1, by rw [hW1]; exact h1.2, Nat.le_trans (by rw [aA]; exact HB1.out.size) hq, by rw [hW1]; exact hb', by rw [hW1, aA]; omega⟩)
 have hc1 : (32 : Int) ≤ (cap : Int) := by omega
 have hc3 : (cap = 32) = False := eq_false (by omega)
 have hc4 : ¬ cap = 32 := by omega
 rw [← hW1]
 clear hrd hq hcap hz2 HB2 HB1 hW1
 go_wp2_with (at_builtin; refine bH (.tmp 45) (.tmp 47) rfl rfl W1.heap.size (.slice none 0 0) [] F (some ⟨q, 0, none⟩) 32 cap rfl rfl HF.out.lF.symm (gu.nil _ _) HW1.out.2.2.2.1 (by have := HF.out.lF; simp; omega) (Nat.le_refl _) ?_)
 intro v1 w1 hrow1 hgrow1 lI
 have HA1 : Hid (Below W1.heap.size W1 w1 ∧ gu w1 W1.heap.size v1 F) := Lib.hid ⟨Below.grown (Below.refl _ _) hgrow1 (Nat.le_refl _) (fun k h => by simp [Value.ownBlock] at h), by simpa using hrow1⟩
 clear hrow1 hgrow1 lI
 go_wp2_with (at_builtin; refine bH (.tmp 48) (.tmp 49) rfl rfl W1.heap.size v1 F gQ A2 32 c2 rfl rfl HLo.out.symm HA1.out.2 ((HR2.out.next HW1.out.2.1).mono HA1.out.1 (Nat.le_refl _)) (by have := HF.out.lF; have := HLo.out; omega) HA1.out.1.size ?_)
 intro v2 w2 hrow2 hgrow2 wR
 have alG : Hid (Below W1.heap.size W1 w2) := Lib.hid (Below.grown HA1.out.1 hgrow2 HA1.out.1.size (fun k h => (HA1.out.2.ahC k h).1))
 obtain ⟨qt, alT, rfl, hqt, alM, ak0, alN⟩ := hrow2.slice (n := 64) (by rw [List.length_append, HF.out.lF, HLo.out]) (by decide)
 have HA2 : Hid (Below W1.heap.size W1 w2 ∧ Rd w2 .u8 (some ⟨qt, 0, none⟩) (F ++ gQ) ∧ qt < w2.heap.size ∧ 64 ≤ alT) := Lib.hid ⟨alG.out, alN, alM, ak0⟩
 clear hrow2 hgrow2 wR alG hqt alM ak0 alN
 go_wp2_with (at_builtin; refine bH (.tmp 51) (.tmp 53) rfl rfl w2.heap.size (.slice none 0 0) [] F (some ⟨q, 0, none⟩) 32 cap rfl rfl HF.out.lF.symm (gu.nil _ _) (HW1.out.2.2.2.1.mono HA2.out.1 (Nat.le_refl _)) (by have := HF.out.lF; simp; omega) (Nat.le_refl _) ?_)
 intro v3 w3 hrow3 hgrow3 alL
 have HA3 : Hid (Below w2.heap.size w2 w3 ∧ gu w3 w2.heap.size v3 F) := Lib.hid ⟨Below.grown (Below.refl _ _) hgrow3 (Nat.le_refl _) (fun k h => by simp [Value.ownBlock] at h), by simpa using hrow3⟩
 clear hrow3 hgrow3 alL
 go_wp2_with fail
 refine (afR l HLL.out.1 _).mono ?_
 rintro e y4 ⟨⟨LA, lc, rfl, hld⟩, hb4⟩
 have HA4 : Hid (Below w3.heap.size w3 y4 ∧ Dn y4 LA lc l) := Lib.hid ⟨hb4, hld⟩
 clear hb4 hld
 go_wp2_with fail
 refine (RD _ LA lc l HLL.out.1 HA4.out.2).mono ?_
 rintro e y5 ⟨⟨gl, hgl, rfl, ak6⟩, hb5⟩
 rw [← HLL.out.2.1] at ak6
 have HA5 : Hid (Below w2.heap.size w2 y5 ∧ gu y5 w2.heap.size v3 (F ++ aei S LB 0) ∧ y5.heap[gl]? = some (.cells (bn LB) 5) ∧ v3.ownBlock ≠ some gl) := Lib.hid (by
  have h34 := HA3.out.1.size
  have h45 := HA4.out.1.size
  refine ⟨Below.trans (Below.trans HA3.out.1 (HA4.out.1.mono h34)) (hb5.mono (by omega)), ?_, ak6, fun h => ?_⟩
  · have := (HA3.out.2.below HA4.out.1 (Nat.le_refl _)).below hb5 (Nat.le_refl _)
    simpa [aei] using this
  · have := (HA3.out.2.ahC _ h).2
    omega)
 clear ak6 hb5 hgl
 go_wp2_with fail
 go_loopw [12, 13, 15] (fun uv cv iv wr => ∃ (i : Nat), cv = .int .i64 ((ahy S LB i : Nat) : Int) ∧ iv = .int .i64 (i : Int) ∧ Hid (Below w2.heap.size w2 wr ∧ i ≤ 32 ∧ gu wr w2.heap.size uv (F ++ aei S LB i) ∧ wr.heap[gl]? = some (.cells (bn LB) 5) ∧ uv.ownBlock ≠ some gl)) (fun _ _ iv _ => (32 - intOf iv).toNat)
 case atStart => exact ⟨0, rfl, rfl, HA5.out.1, Nat.zero_le _, HA5.out.2.1, HA5.out.2.2.1, HA5.out.2.2.2⟩
 case round =>
  obtain ⟨i, rfl, rfl, J⟩ := hrel
  by_cases hi : i < 32
  · obtain ⟨s, t, c, st, x, j, m, d, hR⟩ := round_facts S LB HF.out.bS HLL.out.2.2.2.1 i hi
    have OW := hR.iI
    have hcs : wr.cell? ⟨q, j, none⟩ = some (.int .u8 (s : Int)) := by
     rw [hR.hj]
     obtain ⟨b', off', e', h1⟩ := HW1.out.2.2.2.2.1 i (by rw [HF.out.lS]; exact hi)
     cases e'
     have h2 : Below W1.heap.size W1 wr := Below.trans HA2.out.1 (J.out.1.mono HA2.out.1.size)
     rw [h2.cell (p := ⟨q, 32 + i, none⟩) HW1.out.2.2.2.2.2.2.1, h1, hR.hs, List.getD_eq_getElem?_getD, List.getElem?_eq_getElem (by rw [HF.out.lS]; exact hi)]
     rfl
    have hcl : wr.cell? ⟨gl, i, none⟩ = some (.int .u8 (t : Int)) := by
     simp only [World.cell?, J.out.2.2.2.1, jr]
     rw [hR.ht, List.getD_eq_getElem?_getD, List.getElem?_eq_getElem (by rw [HLL.out.2.2.1]; exact hi)]
     simp
    rw [← hR.hc]
    have f1 := hR.f1
    have hjI := hR.jI
    have f2 := hR.f2
    have f3 := hR.f3
    have g1 := hR.g1
    have g2 := hR.g2
    have HR := Lib.hid (And.intro hR hi)
    clear hR hi
    go_wp2_with fail
    have agP : Hid (Below wr.heap.size wr wr) := Lib.hid (Below.refl _ _)
    have hql : q < wr.heap.size := Nat.lt_of_lt_of_le HW1.out.2.2.2.2.2.2.1 (Nat.le_trans HA2.out.1.size J.out.1.size)
    have alJ : gl < wr.heap.size := (Array.getElem?_eq_some_iff.mp J.out.2.2.2.1).1
    refine aac wr [] [.is (.slice (some ⟨q, 0, none⟩) 64 cap), .is (.int .i64 (i : Int)), .is (.int .i64 (j : Int)), .is (.pointer (some ⟨q, j, none⟩)), .is (.int .u8 (s : Int)), .is (.int .i64 (s : Int)), .is (.slice (some ⟨gl, 0, none⟩) 32 32), .is (.int .i64 (i : Int)), .is (.pointer (some ⟨gl, i, none⟩)), .is (.int .u8 (t : Int)), .is (.int .i64 (t : Int)), .is (.int .i64 (st : Int)), .is (.int .i64 (c : Int)), .is (.int .i64 (x : Int)), .is (.int .i64 (x : Int))] [some 61, some 62, some 63, some 64, some 65, some 66, some 67, some 68, some 69, some 70, some 71, some 72, some 73, some 74, some 16] [(9, .slice (some ⟨q, 0, none⟩) 64 cap), (13, .int .i64 (c : Int)), (14, .slice (some ⟨gl, 0, none⟩) 32 32), (15, .int .i64 (i : Int))] 74 (aO (pl agP.out)) (fun a0 hc => ⟨abp hc [(9, none)], abp hc [(15, none)], abp hc [(62, some 1)], abp hc [(61, some 0), (63, some 2)], abp hc [(64, some 3)] (h := by intro ρ a w hr hk; simp only [aaf, aan, valOf, Sp.val, aae, List.getElem?_cons_zero, List.getElem?_cons_succ, Nat.reduceBEq, cond_true, cond_false] at hr; (repeat (obtain ⟨_, hr⟩ := hr)); have hA := (hk.1.cell (p := ⟨q, j, none⟩) hql).trans hcs; clear hk; refine ⟨rfl, ?_⟩; go_simp; first | done | rfl), abp hc [(65, some 4)], abp hc [(14, none)], abp hc [(15, none)], abp hc [(67, some 6), (68, some 7)], abp hc [(69, some 8)] (h := by intro ρ a w hr hk; simp only [aaf, aan, valOf, Sp.val, aae, List.getElem?_cons_zero, List.getElem?_cons_succ, Nat.reduceBEq, cond_true, cond_false] at hr; (repeat (obtain ⟨_, hr⟩ := hr)); have hA := (hk.1.cell (p := ⟨gl, i, none⟩) alJ).trans hcl; clear hk; refine ⟨rfl, ?_⟩; go_simp; first | done | rfl), abp hc [(70, some 9)], abp hc [(66, some 5), (71, some 10)], abp hc [(13, none)], abp hc [(72, some 11), (73, some 12)], abp hc [(74, some 13)], trivial⟩) ?_ ⟨rfl, rfl, rfl, rfl, trivial⟩ (by simp) (by kernel_rfl) rfl rfl rfl rfl rfl (by kernel_rfl)
    intro ρ w' HK HO HN aC HW0
    simp only [ae7, ae8, valOf, Sp.val, List.getElem?_cons_zero, List.getElem?_cons_succ, Act.put, List.setIfInBounds_toArray, List.set_cons_zero, List.set_cons_succ]
    clear HO HN
    clear ρ
    have gI : Keeps wr [] w' := HK
    obtain ⟨_, rfl, alK, ai9⟩ := gI.akF
    obtain ⟨x21, amx⟩ : ∃ x, x = w' := ⟨_, rfl⟩
    subst amx
    have agQ : Hid (Below wr.heap.size wr x21) := alK.below
    clear HK aC gI alK
    clear HW0
    have HJ : Hid (gu x21 w2.heap.size u12 (F ++ aei S LB i) ∧ x21.heap[gl]? = some (.cells (bn LB) 5) ∧ Below w2.heap.size w2 x21) := Lib.hid ⟨J.out.2.2.1.below agQ.out (Nat.le_refl _), (agQ.out.block gl alJ).trans J.out.2.2.2.1, Below.trans J.out.1 (agQ.out.mono J.out.1.size)⟩
    clear hcs hcl f1 f2 f3 g1 g2
    have hlen : (F ++ aei S LB i).length + [m].length ≤ 4000000 := by have := HF.out.lF; have := HR.out.2; rw [List.length_append, afQ]; simp only [List.length_cons, List.length_nil]; omega
    have alP : w2.heap.size ≤ x21.heap.size := HJ.out.2.2.size
    have HSX := Lib.hid (And.intro hlen alP)
    clear hlen alP
    have e4 := HR.out.1.e4
    have e8 := HR.out.1.e8
    have e7 := HR.out.1.e7
    have e5 := HR.out.1.e5
    have e9 := HR.out.1.e9
    have e4' := HR.out.1.e4'
    have e5' := HR.out.1.e5'
    have e6' := HR.out.1.e6'
    have e7' := HR.out.1.e7'
    have e6 := HR.out.1.e6
    go_wp2_with (at_builtin; refine bH (.tmp 75) (.tmp 79) rfl rfl w2.heap.size u12 (F ++ aei S LB i) [m] (some ⟨x21.heap.size, 0, none⟩) 1 1 rfl rfl rfl (HJ.out.1.below (pl (Below.refl _ _) : Below x21.heap.size x21 _) (Nat.le_refl _)) (anc ob) HSX.out.1 (Nat.le_trans HSX.out.2 (by rw [World.size_alloc]; exact Nat.le_succ _)) ?_)
    intro v5 w5 ak3 ahz ak2
    clear e4 e5 e6 e7 e8 e9 e4' e5' e6' e7'
    have HN : Hid (Below w2.heap.size w2 w5 ∧ i + 1 ≤ 32 ∧ gu w5 w2.heap.size v5 (F ++ aei S LB (i + 1)) ∧ w5.heap[gl]? = some (.cells (bn LB) 5) ∧ v5.ownBlock ≠ some gl) := Lib.hid (by
     have hgx : gl < x21.heap.size := (Array.getElem?_eq_some_iff.mp HJ.out.2.1).1
     refine ⟨Below.grown (Below.trans HJ.out.2.2 (Below.mono (pl (Below.refl _ _) : Below x21.heap.size x21 _) HJ.out.2.2.size)) ahz (Nat.le_trans HJ.out.2.2.size (by simp only [World.size_alloc]; omega)) (fun k h => (HJ.out.1.ahC k h).1), HR.out.2, ?_, ?_, ?_⟩
     · rw [akm, show alc S LB i = m by unfold alc; rw [HR.out.1.hm, ← HR.out.1.hs, ← HR.out.1.ht, ← HR.out.1.hc, ← HR.out.1.hx]]
       exact ak3
     · exact (ahz.block _ (by simp only [World.size_alloc]; omega) (fun h => J.out.2.2.2.2 h.symm)).trans ((akg hgx).trans HJ.out.2.1)
     · intro h
       rcases ak2 with h5 | h5
       · rw [h5] at h; exact J.out.2.2.2.2 h
       · rw [h5] at h
         simp only [World.size_alloc, Option.some.injEq] at h
         omega)
    have hcar : d = ahy S LB (i + 1) := by show _ = (S.getD i 0 + LB.getD i 0 + ahy S LB i) / 256; rw [HR.out.1.hd, ← HR.out.1.hs, ← HR.out.1.ht, ← HR.out.1.hc, ← HR.out.1.hx]
    have HC := Lib.hid hcar
    clear ak3 ahz ak2 hcar
    have e5 := HR.out.1.e5
    have e9 := HR.out.1.e9
    have e5' := HR.out.1.e5'
    have e7' := HR.out.1.e7'
    have e6 := HR.out.1.e6
    go_wp2_with fail
    go_roundw
    case rel => exact ⟨i + 1, by rw [← HC.out], by rw [e6], HN.out⟩
    case measure =>
     rw [e6]
     exact aln i HR.out.2
  · obtain rfl : i = 32 := by have := J.out.2.1; omega
    obtain ⟨qu, alI, rfl, hqu, amw, ak1, alO⟩ := J.out.2.2.1.slice (n := 64) (by rw [List.length_append, afQ, HF.out.lF]) (by decide)
    have HX : Hid (Below w.heap.size w wr ∧ Ed8 wr ∧ Rd wr .u8 A1 dM ∧ Rd wr .u8 A2 gQ ∧ Rd wr .u8 (some ⟨gk, 0, none⟩) KB ∧ Rd wr .u8 (some ⟨qt, 0, none⟩) (F ++ gQ) ∧ Rd wr .u8 (some ⟨q, 32, none⟩) S ∧ Rd wr .u8 (some ⟨qu, 0, none⟩) (F ++ aei S LB 32) ∧ 64 ≤ alI) := Lib.hid (by
     have h1 : Below W1.heap.size W1 wr := Below.trans HA2.out.1 (J.out.1.mono HA2.out.1.size)
     have h2 : Below w.heap.size w wr := Below.trans HW1.out.2.1 (h1.mono HW1.out.2.1.size)
     exact ⟨h2, HE.out.next h2, HR1.out.next h2, HR2.out.next h2, nS ((h1.block gk HW1.out.2.2.2.2.2.2.2).trans HW1.out.2.2.1), HA2.out.2.1.mono J.out.1 (Nat.le_refl _), HW1.out.2.2.2.2.1.mono h1 (Nat.le_refl _), alO, ak1⟩)
    clear hqu amw ak1 alO
    go_wp2_with fail
    refine (amg (some ⟨gk, 0, none⟩) A1 (some ⟨qu, 0, none⟩) 32 c1 alI KB dM F (aei S LB 32) HS1.out.2.1 HS1.out.2.2 (by have := HL.out.2; omega) aH.out.2 HF.out.lF (afQ _ _ _) HF.out.bF (alp _ _ _) HX.out.2.2.2.2.2.2.2.2 p _ HP.out HCD.out (akZ HF.out.lS HLL.out.2.2.1 HF.out.bS HLL.out.2.2.2.1 HF.out.lt HLL.out.2.2.2.2) _ HX.out.2.1.s HX.out.2.1.e.o HX.out.2.2.2.2.1 HX.out.2.2.1 HX.out.2.2.2.2.2.2.2.1).mono ?_
    rintro e y6 ⟨rfl, hb6⟩
    have mg := Lib.hid hb6
    clear hb6
    go_wp2_with fail
    refine (aaL A2 (some ⟨q, 32, none⟩) c2 (cap - 32) 32 32 gQ S true HLo.out HF.out.lS aT.out.2 HF.out.bS (decide_eq_true HD.out) _ (HX.out.2.2.2.1.mono mg.out (Nat.le_refl _)) (HX.out.2.2.2.2.2.2.1.mono mg.out (Nat.le_refl _))).mono ?_
    rintro e y7 ⟨rfl, hb7⟩
    have oW : Hid (Below wr.heap.size wr y7) := Lib.hid (Below.trans mg.out (hb7.mono mg.out.size))
    clear hb7
    go_wp2_with fail
    refine (fJ _ ((HX.out.2.1.next oW.out).e)).mono ?_
    rintro e y9 ⟨rfl, kP⟩
    have pW : Hid (Below w.heap.size w y9) := Lib.hid (Below.trans HX.out.1 ((Below.trans oW.out (kP.mono oW.out.size)).mono HX.out.1.size))
    clear kP
    go_wp2_with fail
    exact bodyPost_ret (v := .bool true) (by simp [results, Tryd.results10, go_sem]) rfl ⟨rfl, pW.out⟩
set_option maxRecDepth 100000 in
set_option maxHeartbeats 8000000 in
theorem al9 (A0 : Option Addr) (c0 : Nat) (bV : List Nat) (jq : ∀ b ∈ bV, b < 256) (jv : bV.length ≤ c0) (kZ : c0 ≤ maxLen) (A1 : Option Addr) (c1 : Nat) (dM : List Nat) (jH : ∀ b ∈ dM, b < 256) (jK : dM.length ≤ c1) (lW : c1 ≤ maxLen) (A2 : Option Addr) (c2 : Nat) (gQ : List Nat) (oQ : ∀ b ∈ gQ, b < 256) (oU : gQ.length ≤ c2) (sJ : c2 ≤ maxLen) (hl : bV.length = 32) (hm : dM.length ≤ 200) (hlo : gQ.length = 32) (F S : List Nat) (hF : amC bV dM F S) (hd : gQ ≠ S ∧ LO ≤ bW gQ) (w : World) (jA : Rd w .u8 A0 bV) (jO : Rd w .u8 A1 dM) (oV : Rd w .u8 A2 gQ) (h5 : Ed8 w) :
 Calls Tryd.prog 10 #[.slice A0 bV.length c0, .slice A1 dM.length c1, .slice A2 gQ.length c2] w fun e w' => e = .returned (.bool true) ∧ Below w.heap.size w w' := by
 have HE := Lib.hid h5
 clear h5
 have HR0 := Lib.hid jA
 have au := Lib.hid (And.intro jv jq)
 clear jA jv jq kZ
 have HR1 := Lib.hid jO
 have aH := Lib.hid (And.intro jK jH)
 clear jO jK jH lW
 have HR2 := Lib.hid oV
 have aT := Lib.hid (And.intro oU oQ)
 clear oV oU oQ sJ
 rw [hl]
 have hI1 : ((200 : Int) < (dM.length : Int)) = False := eq_false (by omega)
 have hK1 : decide (200 < dM.length) = false := decide_eq_false (by omega)
 rw [hlo]
 have HL := Lib.hid (And.intro hl hm)
 have HLo := Lib.hid hlo
 obtain ⟨KB, hKB⟩ : ∃ z, z = Yb bV := ⟨_, rfl⟩
 have HS1 : Hid (KB = Yb bV ∧ KB.length = 32 ∧ ∀ z ∈ KB, z < 256) := Lib.hid ⟨hKB, by rw [hKB]; exact kV _ _, by rw [hKB]; exact qj _ _⟩
 have HF := Lib.hid hF
 have HD := Lib.hid hd
 obtain ⟨l, hll⟩ : ∃ l, l = LO := ⟨_, rfl⟩
 obtain ⟨LB, hLB⟩ : ∃ z, z = dw 32 l := ⟨_, rfl⟩
 have HLL : Hid (l = LO ∧ LB = dw 32 l ∧ LB.length = 32 ∧ (∀ z ∈ LB, z < 256) ∧ bW LB = LO) := Lib.hid ⟨hll, hLB, by rw [hLB]; exact kV _ _, by rw [hLB]; exact qj _ _, by rw [hLB, hll]; exact XY⟩
 clear hl hm hlo hKB hF hd hll hLB
 go_enter Tryd.func10, Tryd.ntmps10
 go_wp2_with fail
 refine (afT bV KB A0 c0 HL.out.1 au.out.2 HS1.out.1 _ (HE.out.next (pl (Below.refl _ _))) (HR0.out.next (pl (Below.refl _ _)))).mono ?_
 rintro e y1 ⟨⟨gk, TK, rfl, wS⟩, hb1⟩
 have gI : Keeps w _ y1 := ak wS (aO (Below.trans (pl (Below.refl _ _)) (hb1.mono sz)))
 obtain ⟨x1, rfl, hk1, hz1, l10⟩ := gI.jE
 have HB1 : Hid (Below w.heap.size w x1) := hk1.below
 have HG1 : w.heap.size ≤ gk := by (try simp only [ah] at TK); omega
 clear gI hk1 hb1 wS TK
 go_wp2_with fail
 obtain ⟨p, hp, hcd⟩ := MQ (Pt.smul (acR bV) iZ) (some ⟨gk, 0, none⟩) 32
 have HP := Lib.hid hp
 have HCD : Hid (∀ w, kT w → Rd w .u8 (some ⟨gk, 0, none⟩) KB → Calls Tryd.prog 13 #[.slice (some ⟨gk, 0, none⟩) 32 32] w fun e w' => e = .returned (.tuple #[p.v, .int .i64 0]) ∧ Below w.heap.size w w') := Lib.hid (by rw [HS1.out.1]; exact hcd)
 clear hp hcd
 refine (sign_eq A0 A1 c0 c1 bV dM HL.out.1 (by have := HL.out.2; omega) au.out.2 aH.out.2 _ (HE.out.next (pl HB1.out)).s (HR0.out.next (pl HB1.out)) (HR1.out.next (pl HB1.out))).mono ?_
 rintro e y2 ⟨⟨q, cap, rfl, hq, hcap, hrd⟩, hb2⟩
 obtain ⟨x2, rfl, hc2, hz2, kD⟩ := bQ (b := gk) hb2 rfl ob
 have HB2 := aZ HB1.out hc2
 clear hb2 hc2
 try simp only [ah] at hz2
 obtain ⟨W1, hW1⟩ : ∃ z, z = x2.pin gk (.cells (bn KB) 5) := ⟨_, rfl⟩
 have HW1 : Hid (W1 = x2.pin gk (.cells (bn KB) 5) ∧ Below w.heap.size w W1 ∧ W1.heap[gk]? = some (.cells (bn KB) 5) ∧ Rd W1 .u8 (some ⟨q, 0, none⟩) F ∧ Rd W1 .u8 (some ⟨q, 32, none⟩) S ∧ w.heap.size ≤ q ∧ q < W1.heap.size ∧ gk < W1.heap.size) := Lib.hid (by
  rw [HF.out.sig] at hrd
  have h1 := afK hrd
  rw [HF.out.lF, Nat.zero_add] at h1
  obtain ⟨b', off', e', hb', _⟩ := h1.1.place (by rw [HF.out.lF]; decide)
  cases e'
  refine ⟨hW1, by rw [hW1]; exact pl HB2.out, by rw [hW1]; exact ob, by rw [hW1]; exact h1.1, by rw [hW1]; exact h1.2, Nat.le_trans (by rw [aA]; exact HB1.out.size) hq, by rw [hW1]; exact hb', by rw [hW1, aA]; omega⟩)
 have hc1 : (32 : Int) ≤ (cap : Int) := by omega
 have hc3 : (cap = 32) = False := eq_false (by omega)
 have hc4 : ¬ cap = 32 := by omega
 rw [← hW1]
 clear hrd hq hcap hz2 HB2 HB1 hW1
 go_wp2_with (at_builtin; refine bH (.tmp 45) (.tmp 47) rfl rfl W1.heap.size (.slice none 0 0) [] F (some ⟨q, 0, none⟩) 32 cap rfl rfl HF.out.lF.symm (gu.nil _ _) HW1.out.2.2.2.1 (by have := HF.out.lF; simp; omega) (Nat.le_refl _) ?_)
 intro v1 w1 hrow1 hgrow1 lI
 have HA1 : Hid (Below W1.heap.size W1 w1 ∧ gu w1 W1.heap.size v1 F) := Lib.hid ⟨Below.grown (Below.refl _ _) hgrow1 (Nat.le_refl _) (fun k h => by simp [Value.ownBlock] at h), by simpa using hrow1⟩
 clear hrow1 hgrow1 lI
 go_wp2_with (at_builtin; refine bH (.tmp 48) (.tmp 49) rfl rfl W1.heap.size v1 F gQ A2 32 c2 rfl rfl HLo.out.symm HA1.out.2 ((HR2.out.next HW1.out.2.1).mono HA1.out.1 (Nat.le_refl _)) (by have := HF.out.lF; have := HLo.out; omega) HA1.out.1.size ?_)
 intro v2 w2 hrow2 hgrow2 wR
 have alG : Hid (Below W1.heap.size W1 w2) := Lib.hid (Below.grown HA1.out.1 hgrow2 HA1.out.1.size (fun k h => (HA1.out.2.ahC k h).1))
 obtain ⟨qt, alT, rfl, hqt, alM, ak0, alN⟩ := hrow2.slice (n := 64) (by rw [List.length_append, HF.out.lF, HLo.out]) (by decide)
 have HA2 : Hid (Below W1.heap.size W1 w2 ∧ Rd w2 .u8 (some ⟨qt, 0, none⟩) (F ++ gQ) ∧ qt < w2.heap.size ∧ 64 ≤ alT) := Lib.hid ⟨alG.out, alN, alM, ak0⟩
 clear hrow2 hgrow2 wR alG hqt alM ak0 alN
 go_wp2_with (at_builtin; refine bH (.tmp 51) (.tmp 53) rfl rfl w2.heap.size (.slice none 0 0) [] F (some ⟨q, 0, none⟩) 32 cap rfl rfl HF.out.lF.symm (gu.nil _ _) (HW1.out.2.2.2.1.mono HA2.out.1 (Nat.le_refl _)) (by have := HF.out.lF; simp; omega) (Nat.le_refl _) ?_)
 intro v3 w3 hrow3 hgrow3 alL
 have HA3 : Hid (Below w2.heap.size w2 w3 ∧ gu w3 w2.heap.size v3 F) := Lib.hid ⟨Below.grown (Below.refl _ _) hgrow3 (Nat.le_refl _) (fun k h => by simp [Value.ownBlock] at h), by simpa using hrow3⟩
 clear hrow3 hgrow3 alL
 go_wp2_with fail
 refine (afR l HLL.out.1 _).mono ?_
 rintro e y4 ⟨⟨LA, lc, rfl, hld⟩, hb4⟩
 have HA4 : Hid (Below w3.heap.size w3 y4 ∧ Dn y4 LA lc l) := Lib.hid ⟨hb4, hld⟩
 clear hb4 hld
 go_wp2_with fail
 refine (RD _ LA lc l HLL.out.1 HA4.out.2).mono ?_
 rintro e y5 ⟨⟨gl, hgl, rfl, ak6⟩, hb5⟩
 rw [← HLL.out.2.1] at ak6
 have HA5 : Hid (Below w2.heap.size w2 y5 ∧ gu y5 w2.heap.size v3 (F ++ aei S LB 0) ∧ y5.heap[gl]? = some (.cells (bn LB) 5) ∧ v3.ownBlock ≠ some gl) := Lib.hid (by
  have h34 := HA3.out.1.size
  have h45 := HA4.out.1.size
  refine ⟨Below.trans (Below.trans HA3.out.1 (HA4.out.1.mono h34)) (hb5.mono (by omega)), ?_, ak6, fun h => ?_⟩
  · have := (HA3.out.2.below HA4.out.1 (Nat.le_refl _)).below hb5 (Nat.le_refl _)
    simpa [aei] using this
  · have := (HA3.out.2.ahC _ h).2
    omega)
 clear ak6 hb5 hgl
 go_wp2_with fail
 go_loopw [12, 13, 15] (fun uv cv iv wr => ∃ (i : Nat), cv = .int .i64 ((ahy S LB i : Nat) : Int) ∧ iv = .int .i64 (i : Int) ∧ Hid (Below w2.heap.size w2 wr ∧ i ≤ 32 ∧ gu wr w2.heap.size uv (F ++ aei S LB i) ∧ wr.heap[gl]? = some (.cells (bn LB) 5) ∧ uv.ownBlock ≠ some gl)) (fun _ _ iv _ => (32 - intOf iv).toNat)
 case atStart => exact ⟨0, rfl, rfl, HA5.out.1, Nat.zero_le _, HA5.out.2.1, HA5.out.2.2.1, HA5.out.2.2.2⟩
 case round =>
  obtain ⟨i, rfl, rfl, J⟩ := hrel
  by_cases hi : i < 32
  · obtain ⟨s, t, c, st, x, j, m, d, hR⟩ := round_facts S LB HF.out.bS HLL.out.2.2.2.1 i hi
    have OW := hR.iI
    have hcs : wr.cell? ⟨q, j, none⟩ = some (.int .u8 (s : Int)) := by
     rw [hR.hj]
     obtain ⟨b', off', e', h1⟩ := HW1.out.2.2.2.2.1 i (by rw [HF.out.lS]; exact hi)
     cases e'
     have h2 : Below W1.heap.size W1 wr := Below.trans HA2.out.1 (J.out.1.mono HA2.out.1.size)
     rw [h2.cell (p := ⟨q, 32 + i, none⟩) HW1.out.2.2.2.2.2.2.1, h1, hR.hs, List.getD_eq_getElem?_getD, List.getElem?_eq_getElem (by rw [HF.out.lS]; exact hi)]
     rfl
    have hcl : wr.cell? ⟨gl, i, none⟩ = some (.int .u8 (t : Int)) := by
     simp only [World.cell?, J.out.2.2.2.1, jr]
     rw [hR.ht, List.getD_eq_getElem?_getD, List.getElem?_eq_getElem (by rw [HLL.out.2.2.1]; exact hi)]
     simp
    rw [← hR.hc]
    have f1 := hR.f1
    have hjI := hR.jI
    have f2 := hR.f2
    have f3 := hR.f3
    have g1 := hR.g1
    have g2 := hR.g2
    have HR := Lib.hid (And.intro hR hi)
    clear hR hi
    go_wp2_with fail
    have agP : Hid (Below wr.heap.size wr wr) := Lib.hid (Below.refl _ _)
    have hql : q < wr.heap.size := Nat.lt_of_lt_of_le HW1.out.2.2.2.2.2.2.1 (Nat.le_trans HA2.out.1.size J.out.1.size)
    have alJ : gl < wr.heap.size := (Array.getElem?_eq_some_iff.mp J.out.2.2.2.1).1
    refine aac wr [] [.is (.slice (some ⟨q, 0, none⟩) 64 cap), .is (.int .i64 (i : Int)), .is (.int .i64 (j : Int)), .is (.pointer (some ⟨q, j, none⟩)), .is (.int .u8 (s : Int)), .is (.int .i64 (s : Int)), .is (.slice (some ⟨gl, 0, none⟩) 32 32), .is (.int .i64 (i : Int)), .is (.pointer (some ⟨gl, i, none⟩)), .is (.int .u8 (t : Int)), .is (.int .i64 (t : Int)), .is (.int .i64 (st : Int)), .is (.int .i64 (c : Int)), .is (.int .i64 (x : Int)), .is (.int .i64 (x : Int))] [some 61, some 62, some 63, some 64, some 65, some 66, some 67, some 68, some 69, some 70, some 71, some 72, some 73, some 74, some 16] [(9, .slice (some ⟨q, 0, none⟩) 64 cap), (13, .int .i64 (c : Int)), (14, .slice (some ⟨gl, 0, none⟩) 32 32), (15, .int .i64 (i : Int))] 74 (aO (pl agP.out)) (fun a0 hc => ⟨abp hc [(9, none)], abp hc [(15, none)], abp hc [(62, some 1)], abp hc [(61, some 0), (63, some 2)], abp hc [(64, some 3)] (h := by intro ρ a w hr hk; simp only [aaf, aan, valOf, Sp.val, aae, List.getElem?_cons_zero, List.getElem?_cons_succ, Nat.reduceBEq, cond_true, cond_false] at hr; (repeat (obtain ⟨_, hr⟩ := hr)); have hA := (hk.1.cell (p := ⟨q, j, none⟩) hql).trans hcs; clear hk; refine ⟨rfl, ?_⟩; go_simp; first | done | rfl), abp hc [(65, some 4)], abp hc [(14, none)], abp hc [(15, none)], abp hc [(67, some 6), (68, some 7)], abp hc [(69, some 8)] (h := by intro ρ a w hr hk; simp only [aaf, aan, valOf, Sp.val, aae, List.getElem?_cons_zero, List.getElem?_cons_succ, Nat.reduceBEq, cond_true, cond_false] at hr; (repeat (obtain ⟨_, hr⟩ := hr)); have hA := (hk.1.cell (p := ⟨gl, i, none⟩) alJ).trans hcl; clear hk; refine ⟨rfl, ?_⟩; go_simp; first | done | rfl), abp hc [(70, some 9)], abp hc [(66, some 5), (71, some 10)], abp hc [(13, none)], abp hc [(72, some 11), (73, some 12)], abp hc [(74, some 13)], trivial⟩) ?_ ⟨rfl, rfl, rfl, rfl, trivial⟩ (by simp) (by kernel_rfl) rfl rfl rfl rfl rfl (by kernel_rfl)
    intro ρ w' HK HO HN aC HW0
    simp only [ae7, ae8, valOf, Sp.val, List.getElem?_cons_zero, List.getElem?_cons_succ, Act.put, List.setIfInBounds_toArray, List.set_cons_zero, List.set_cons_succ]
    clear HO HN
    clear ρ
    have gI : Keeps wr [] w' := HK
    obtain ⟨_, rfl, alK, ai9⟩ := gI.akF
    obtain ⟨x21, amx⟩ : ∃ x, x = w' := ⟨_, rfl⟩
    subst amx
    have agQ : Hid (Below wr.heap.size wr x21) := alK.below
    clear HK aC gI alK
    clear HW0
    have HJ : Hid (gu x21 w2.heap.size u12 (F ++ aei S LB i) ∧ x21.heap[gl]? = some (.cells (bn LB) 5) ∧ Below w2.heap.size w2 x21) := Lib.hid ⟨J.out.2.2.1.below agQ.out (Nat.le_refl _), (agQ.out.block gl alJ).trans J.out.2.2.2.1, Below.trans J.out.1 (agQ.out.mono J.out.1.size)⟩
    clear hcs hcl f1 f2 f3 g1 g2
    have hlen : (F ++ aei S LB i).length + [m].length ≤ 4000000 := by have := HF.out.lF; have := HR.out.2; rw [List.length_append, afQ]; simp only [List.length_cons, List.length_nil]; omega
    have alP : w2.heap.size ≤ x21.heap.size := HJ.out.2.2.size
    have HSX := Lib.hid (And.intro hlen alP)
    clear hlen alP
    have e4 := HR.out.1.e4
    have e8 := HR.out.1.e8
    have e7 := HR.out.1.e7
    have e5 := HR.out.1.e5
    have e9 := HR.out.1.e9
    have e4' := HR.out.1.e4'
    have e5' := HR.out.1.e5'
    have e6' := HR.out.1.e6'
    have e7' := HR.out.1.e7'
    have e6 := HR.out.1.e6
    go_wp2_with (at_builtin; refine bH (.tmp 75) (.tmp 79) rfl rfl w2.heap.size u12 (F ++ aei S LB i) [m] (some ⟨x21.heap.size, 0, none⟩) 1 1 rfl rfl rfl (HJ.out.1.below (pl (Below.refl _ _) : Below x21.heap.size x21 _) (Nat.le_refl _)) (anc ob) HSX.out.1 (Nat.le_trans HSX.out.2 (by rw [World.size_alloc]; exact Nat.le_succ _)) ?_)
    intro v5 w5 ak3 ahz ak2
    clear e4 e5 e6 e7 e8 e9 e4' e5' e6' e7'
    have HN : Hid (Below w2.heap.size w2 w5 ∧ i + 1 ≤ 32 ∧ gu w5 w2.heap.size v5 (F ++ aei S LB (i + 1)) ∧ w5.heap[gl]? = some (.cells (bn LB) 5) ∧ v5.ownBlock ≠ some gl) := Lib.hid (by
     have hgx : gl < x21.heap.size := (Array.getElem?_eq_some_iff.mp HJ.out.2.1).1
     refine ⟨Below.grown (Below.trans HJ.out.2.2 (Below.mono (pl (Below.refl _ _) : Below x21.heap.size x21 _) HJ.out.2.2.size)) ahz (Nat.le_trans HJ.out.2.2.size (by simp only [World.size_alloc]; omega)) (fun k h => (HJ.out.1.ahC k h).1), HR.out.2, ?_, ?_, ?_⟩
     · rw [akm, show alc S LB i = m by unfold alc; rw [HR.out.1.hm, ← HR.out.1.hs, ← HR.out.1.ht, ← HR.out.1.hc, ← HR.out.1.hx]]
       exact ak3
     · exact (ahz.block _ (by simp only [World.size_alloc]; omega) (fun h => J.out.2.2.2.2 h.symm)).trans ((akg hgx).trans HJ.out.2.1)
     · intro h
       rcases ak2 with h5 | h5
       · rw [h5] at h; exact J.out.2.2.2.2 h
       · rw [h5] at h
         simp only [World.size_alloc, Option.some.injEq] at h
         omega)
    have hcar : d = ahy S LB (i + 1) := by show _ = (S.getD i 0 + LB.getD i 0 + ahy S LB i) / 256; rw [HR.out.1.hd, ← HR.out.1.hs, ← HR.out.1.ht, ← HR.out.1.hc, ← HR.out.1.hx]
    have HC := Lib.hid hcar
    clear ak3 ahz ak2 hcar
    have e5 := HR.out.1.e5
    have e9 := HR.out.1.e9
    have e5' := HR.out.1.e5'
    have e7' := HR.out.1.e7'
    have e6 := HR.out.1.e6
    go_wp2_with fail
    go_roundw
    case rel => exact ⟨i + 1, by rw [← HC.out], by rw [e6], HN.out⟩
    case measure =>
     rw [e6]
     exact aln i HR.out.2
  · obtain rfl : i = 32 := by have := J.out.2.1; omega
    obtain ⟨qu, alI, rfl, hqu, amw, ak1, alO⟩ := J.out.2.2.1.slice (n := 64) (by rw [List.length_append, afQ, HF.out.lF]) (by decide)
    have HX : Hid (Below w.heap.size w wr ∧ Ed8 wr ∧ Rd wr .u8 A1 dM ∧ Rd wr .u8 A2 gQ ∧ Rd wr .u8 (some ⟨gk, 0, none⟩) KB ∧ Rd wr .u8 (some ⟨qt, 0, none⟩) (F ++ gQ) ∧ Rd wr .u8 (some ⟨q, 32, none⟩) S ∧ Rd wr .u8 (some ⟨qu, 0, none⟩) (F ++ aei S LB 32) ∧ 64 ≤ alI) := Lib.hid (by
     have h1 : Below W1.heap.size W1 wr := Below.trans HA2.out.1 (J.out.1.mono HA2.out.1.size)
     have h2 : Below w.heap.size w wr := Below.trans HW1.out.2.1 (h1.mono HW1.out.2.1.size)
     exact ⟨h2, HE.out.next h2, HR1.out.next h2, HR2.out.next h2, nS ((h1.block gk HW1.out.2.2.2.2.2.2.2).trans HW1.out.2.2.1), HA2.out.2.1.mono J.out.1 (Nat.le_refl _), HW1.out.2.2.2.2.1.mono h1 (Nat.le_refl _), alO, ak1⟩)
    clear hqu amw ak1 alO
    go_wp2_with fail
    refine (amg (some ⟨gk, 0, none⟩) A1 (some ⟨qu, 0, none⟩) 32 c1 alI KB dM F (aei S LB 32) HS1.out.2.1 HS1.out.2.2 (by have := HL.out.2; omega) aH.out.2 HF.out.lF (afQ _ _ _) HF.out.bF (alp _ _ _) HX.out.2.2.2.2.2.2.2.2 p _ HP.out HCD.out (akZ HF.out.lS HLL.out.2.2.1 HF.out.bS HLL.out.2.2.2.1 HF.out.lt HLL.out.2.2.2.2) _ HX.out.2.1.s HX.out.2.1.e.o HX.out.2.2.2.2.1 HX.out.2.2.1 HX.out.2.2.2.2.2.2.2.1).mono ?_
    rintro e y6 ⟨rfl, hb6⟩
    have mg := Lib.hid hb6
    clear hb6
    go_wp2_with fail
    refine (aaL A2 (some ⟨q, 32, none⟩) c2 (cap - 32) 32 32 gQ S false HLo.out HF.out.lS aT.out.2 HF.out.bS (decide_eq_false HD.out.1) _ (HX.out.2.2.2.1.mono mg.out (Nat.le_refl _)) (HX.out.2.2.2.2.2.2.1.mono mg.out (Nat.le_refl _))).mono ?_
    rintro e y7 ⟨rfl, hb7⟩
    have oW : Hid (Below wr.heap.size wr y7) := Lib.hid (Below.trans mg.out (hb7.mono mg.out.size))
    clear hb7
    go_wp2_with fail
    refine (amg (some ⟨gk, 0, none⟩) A1 (some ⟨qt, 0, none⟩) 32 c1 alT KB dM F gQ HS1.out.2.1 HS1.out.2.2 (by have := HL.out.2; omega) aH.out.2 HF.out.lF HLo.out HF.out.bF aT.out.2 HA2.out.2.2.2 p _ HP.out HCD.out HD.out.2 _ (HX.out.2.1.s.next oW.out) (HX.out.2.1.e.o.next oW.out) (HX.out.2.2.2.2.1.mono oW.out (Nat.le_refl _)) (HX.out.2.2.1.mono oW.out (Nat.le_refl _)) (HX.out.2.2.2.2.2.1.mono oW.out (Nat.le_refl _))).mono ?_
    rintro e y8 ⟨rfl, hb8⟩
    have ru : Hid (Below wr.heap.size wr y8) := Lib.hid (Below.trans oW.out (hb8.mono oW.out.size))
    clear hb8
    go_wp2_with fail
    refine (fJ _ ((HX.out.2.1.next ru.out).e)).mono ?_
    rintro e y9 ⟨rfl, kP⟩
    have pW : Hid (Below w.heap.size w y9) := Lib.hid (Below.trans HX.out.1 ((Below.trans ru.out (kP.mono ru.out.size)).mono HX.out.1.size))
    clear kP
    go_wp2_with fail
    exact bodyPost_ret (v := .bool true) (by simp [results, Tryd.results10, go_sem]) rfl ⟨rfl, pW.out⟩
set_option maxRecDepth 100000 in
set_option maxHeartbeats 8000000 in
theorem ama (A0 : Option Addr) (c0 : Nat) (bV : List Nat) (jq : ∀ b ∈ bV, b < 256) (jv : bV.length ≤ c0) (kZ : c0 ≤ maxLen) (A1 : Option Addr) (c1 : Nat) (dM : List Nat) (jH : ∀ b ∈ dM, b < 256) (jK : dM.length ≤ c1) (lW : c1 ≤ maxLen) (A2 : Option Addr) (c2 : Nat) (gQ : List Nat) (oQ : ∀ b ∈ gQ, b < 256) (oU : gQ.length ≤ c2) (sJ : c2 ≤ maxLen) (hl : bV.length = 32) (hm : dM.length ≤ 200) (hlo : gQ.length = 32) (F S : List Nat) (hF : amC bV dM F S) (hd : gQ ≠ S ∧ bW gQ < LO) (w : World) (jA : Rd w .u8 A0 bV) (jO : Rd w .u8 A1 dM) (oV : Rd w .u8 A2 gQ) (h5 : Ed8 w) :
 Calls Tryd.prog 10 #[.slice A0 bV.length c0, .slice A1 dM.length c1, .slice A2 gQ.length c2] w fun e w' => e = .returned (.bool true) ∧ Below w.heap.size w w' := by
 have HE := Lib.hid h5
 clear h5
 have HR0 := Lib.hid jA
 have au := Lib.hid (And.intro jv jq)
 clear jA jv jq kZ
 have HR1 := Lib.hid jO
 have aH := Lib.hid (And.intro jK jH)
 clear jO jK jH lW
 have HR2 := Lib.hid oV
 have aT := Lib.hid (And.intro oU oQ)
 clear oV oU oQ sJ
 rw [hl]
 have hI1 : ((200 : Int) < (dM.length : Int)) = False := eq_false (by omega)
 have hK1 : decide (200 < dM.length) = false := decide_eq_false (by omega)
 rw [hlo]
 have HL := Lib.hid (And.intro hl hm)
 have HLo := Lib.hid hlo
 obtain ⟨KB, hKB⟩ : ∃ z, z = Yb bV := ⟨_, rfl⟩
 have HS1 : Hid (KB = Yb bV ∧ KB.length = 32 ∧ ∀ z ∈ KB, z < 256) := Lib.hid ⟨hKB, by rw [hKB]; exact kV _ _, by rw [hKB]; exact qj _ _⟩
 have HF := Lib.hid hF
 have HD := Lib.hid hd
 obtain ⟨l, hll⟩ : ∃ l, l = LO := ⟨_, rfl⟩
 obtain ⟨LB, hLB⟩ : ∃ z, z = dw 32 l := ⟨_, rfl⟩
 have HLL : Hid (l = LO ∧ LB = dw 32 l ∧ LB.length = 32 ∧ (∀ z ∈ LB, z < 256) ∧ bW LB = LO) := Lib.hid ⟨hll, hLB, by rw [hLB]; exact kV _ _, by rw [hLB]; exact qj _ _, by rw [hLB, hll]; exact XY⟩
 clear hl hm hlo hKB hF hd hll hLB
 go_enter Tryd.func10, Tryd.ntmps10
 go_wp2_with fail
 refine (afT bV KB A0 c0 HL.out.1 au.out.2 HS1.out.1 _ (HE.out.next (pl (Below.refl _ _))) (HR0.out.next (pl (Below.refl _ _)))).mono ?_
 rintro e y1 ⟨⟨gk, TK, rfl, wS⟩, hb1⟩
 have gI : Keeps w _ y1 := ak wS (aO (Below.trans (pl (Below.refl _ _)) (hb1.mono sz)))
 obtain ⟨x1, rfl, hk1, hz1, l10⟩ := gI.jE
 have HB1 : Hid (Below w.heap.size w x1) := hk1.below
 have HG1 : w.heap.size ≤ gk := by (try simp only [ah] at TK); omega
 clear gI hk1 hb1 wS TK
 go_wp2_with fail
 obtain ⟨p, hp, hcd⟩ := MQ (Pt.smul (acR bV) iZ) (some ⟨gk, 0, none⟩) 32
 have HP := Lib.hid hp
 have HCD : Hid (∀ w, kT w → Rd w .u8 (some ⟨gk, 0, none⟩) KB → Calls Tryd.prog 13 #[.slice (some ⟨gk, 0, none⟩) 32 32] w fun e w' => e = .returned (.tuple #[p.v, .int .i64 0]) ∧ Below w.heap.size w w') := Lib.hid (by rw [HS1.out.1]; exact hcd)
 clear hp hcd
 refine (sign_eq A0 A1 c0 c1 bV dM HL.out.1 (by have := HL.out.2; omega) au.out.2 aH.out.2 _ (HE.out.next (pl HB1.out)).s (HR0.out.next (pl HB1.out)) (HR1.out.next (pl HB1.out))).mono ?_
 rintro e y2 ⟨⟨q, cap, rfl, hq, hcap, hrd⟩, hb2⟩
 obtain ⟨x2, rfl, hc2, hz2, kD⟩ := bQ (b := gk) hb2 rfl ob
 have HB2 := aZ HB1.out hc2
 clear hb2 hc2
 try simp only [ah] at hz2
 obtain ⟨W1, hW1⟩ : ∃ z, z = x2.pin gk (.cells (bn KB) 5) := ⟨_, rfl⟩
 have HW1 : Hid (W1 = x2.pin gk (.cells (bn KB) 5) ∧ Below w.heap.size w W1 ∧ W1.heap[gk]? = some (.cells (bn KB) 5) ∧ Rd W1 .u8 (some ⟨q, 0, none⟩) F ∧ Rd W1 .u8 (some ⟨q, 32, none⟩) S ∧ w.heap.size ≤ q ∧ q < W1.heap.size ∧ gk < W1.heap.size) := Lib.hid (by
  rw [HF.out.sig] at hrd
  have h1 := afK hrd
  rw [HF.out.lF, Nat.zero_add] at h1
  obtain ⟨b', off', e', hb', _⟩ := h1.1.place (by rw [HF.out.lF]; decide)
  cases e'
  refine ⟨hW1, by rw [hW1]; exact pl HB2.out, by rw [hW1]; exact ob, by rw [hW1]; exact h1.1, by rw [hW1]; exact h1.2, Nat.le_trans (by rw [aA]; exact HB1.out.size) hq, by rw [hW1]; exact hb', by rw [hW1, aA]; omega⟩)
 have hc1 : (32 : Int) ≤ (cap : Int) := by omega
 have hc3 : (cap = 32) = False := eq_false (by omega)
 have hc4 : ¬ cap = 32 := by omega
 rw [← hW1]
 clear hrd hq hcap hz2 HB2 HB1 hW1
 go_wp2_with (at_builtin; refine bH (.tmp 45) (.tmp 47) rfl rfl W1.heap.size (.slice none 0 0) [] F (some ⟨q, 0, none⟩) 32 cap rfl rfl HF.out.lF.symm (gu.nil _ _) HW1.out.2.2.2.1 (by have := HF.out.lF; simp; omega) (Nat.le_refl _) ?_)
 intro v1 w1 hrow1 hgrow1 lI
 have HA1 : Hid (Below W1.heap.size W1 w1 ∧ gu w1 W1.heap.size v1 F) := Lib.hid ⟨Below.grown (Below.refl _ _) hgrow1 (Nat.le_refl _) (fun k h => by simp [Value.ownBlock] at h), by simpa using hrow1⟩
 clear hrow1 hgrow1 lI
 go_wp2_with (at_builtin; refine bH (.tmp 48) (.tmp 49) rfl rfl W1.heap.size v1 F gQ A2 32 c2 rfl rfl HLo.out.symm HA1.out.2 ((HR2.out.next HW1.out.2.1).mono HA1.out.1 (Nat.le_refl _)) (by have := HF.out.lF; have := HLo.out; omega) HA1.out.1.size ?_)
 intro v2 w2 hrow2 hgrow2 wR
 have alG : Hid (Below W1.heap.size W1 w2) := Lib.hid (Below.grown HA1.out.1 hgrow2 HA1.out.1.size (fun k h => (HA1.out.2.ahC k h).1))
 obtain ⟨qt, alT, rfl, hqt, alM, ak0, alN⟩ := hrow2.slice (n := 64) (by rw [List.length_append, HF.out.lF, HLo.out]) (by decide)
 have HA2 : Hid (Below W1.heap.size W1 w2 ∧ Rd w2 .u8 (some ⟨qt, 0, none⟩) (F ++ gQ) ∧ qt < w2.heap.size ∧ 64 ≤ alT) := Lib.hid ⟨alG.out, alN, alM, ak0⟩
 clear hrow2 hgrow2 wR alG hqt alM ak0 alN
 go_wp2_with (at_builtin; refine bH (.tmp 51) (.tmp 53) rfl rfl w2.heap.size (.slice none 0 0) [] F (some ⟨q, 0, none⟩) 32 cap rfl rfl HF.out.lF.symm (gu.nil _ _) (HW1.out.2.2.2.1.mono HA2.out.1 (Nat.le_refl _)) (by have := HF.out.lF; simp; omega) (Nat.le_refl _) ?_)
 intro v3 w3 hrow3 hgrow3 alL
 have HA3 : Hid (Below w2.heap.size w2 w3 ∧ gu w3 w2.heap.size v3 F) := Lib.hid ⟨Below.grown (Below.refl _ _) hgrow3 (Nat.le_refl _) (fun k h => by simp [Value.ownBlock] at h), by simpa using hrow3⟩
 clear hrow3 hgrow3 alL
 go_wp2_with fail
 refine (afR l HLL.out.1 _).mono ?_
 rintro e y4 ⟨⟨LA, lc, rfl, hld⟩, hb4⟩
 have HA4 : Hid (Below w3.heap.size w3 y4 ∧ Dn y4 LA lc l) := Lib.hid ⟨hb4, hld⟩
 clear hb4 hld
 go_wp2_with fail
 refine (RD _ LA lc l HLL.out.1 HA4.out.2).mono ?_
 rintro e y5 ⟨⟨gl, hgl, rfl, ak6⟩, hb5⟩
 rw [← HLL.out.2.1] at ak6
 have HA5 : Hid (Below w2.heap.size w2 y5 ∧ gu y5 w2.heap.size v3 (F ++ aei S LB 0) ∧ y5.heap[gl]? = some (.cells (bn LB) 5) ∧ v3.ownBlock ≠ some gl) := Lib.hid (by
  have h34 := HA3.out.1.size
  have h45 := HA4.out.1.size
  refine ⟨Below.trans (Below.trans HA3.out.1 (HA4.out.1.mono h34)) (hb5.mono (by omega)), ?_, ak6, fun h => ?_⟩
  · have := (HA3.out.2.below HA4.out.1 (Nat.le_refl _)).below hb5 (Nat.le_refl _)
    simpa [aei] using this
  · have := (HA3.out.2.ahC _ h).2
    omega)
 clear ak6 hb5 hgl
 go_wp2_with fail
 go_loopw [12, 13, 15] (fun uv cv iv wr => ∃ (i : Nat), cv = .int .i64 ((ahy S LB i : Nat) : Int) ∧ iv = .int .i64 (i : Int) ∧ Hid (Below w2.heap.size w2 wr ∧ i ≤ 32 ∧ gu wr w2.heap.size uv (F ++ aei S LB i) ∧ wr.heap[gl]? = some (.cells (bn LB) 5) ∧ uv.ownBlock ≠ some gl)) (fun _ _ iv _ => (32 - intOf iv).toNat)
 case atStart => exact ⟨0, rfl, rfl, HA5.out.1, Nat.zero_le _, HA5.out.2.1, HA5.out.2.2.1, HA5.out.2.2.2⟩
 case round =>
  obtain ⟨i, rfl, rfl, J⟩ := hrel
  by_cases hi : i < 32
  · obtain ⟨s, t, c, st, x, j, m, d, hR⟩ := round_facts S LB HF.out.bS HLL.out.2.2.2.1 i hi
    have OW := hR.iI
    have hcs : wr.cell? ⟨q, j, none⟩ = some (.int .u8 (s : Int)) := by
     rw [hR.hj]
     obtain ⟨b', off', e', h1⟩ := HW1.out.2.2.2.2.1 i (by rw [HF.out.lS]; exact hi)
     cases e'
     have h2 : Below W1.heap.size W1 wr := Below.trans HA2.out.1 (J.out.1.mono HA2.out.1.size)
     rw [h2.cell (p := ⟨q, 32 + i, none⟩) HW1.out.2.2.2.2.2.2.1, h1, hR.hs, List.getD_eq_getElem?_getD, List.getElem?_eq_getElem (by rw [HF.out.lS]; exact hi)]
     rfl
    have hcl : wr.cell? ⟨gl, i, none⟩ = some (.int .u8 (t : Int)) := by
     simp only [World.cell?, J.out.2.2.2.1, jr]
     rw [hR.ht, List.getD_eq_getElem?_getD, List.getElem?_eq_getElem (by rw [HLL.out.2.2.1]; exact hi)]
     simp
    rw [← hR.hc]
    have f1 := hR.f1
    have hjI := hR.jI
    have f2 := hR.f2
    have f3 := hR.f3
    have g1 := hR.g1
    have g2 := hR.g2
    have HR := Lib.hid (And.intro hR hi)
    clear hR hi
    go_wp2_with fail
    have agP : Hid (Below wr.heap.size wr wr) := Lib.hid (Below.refl _ _)
    have hql : q < wr.heap.size := Nat.lt_of_lt_of_le HW1.out.2.2.2.2.2.2.1 (Nat.le_trans HA2.out.1.size J.out.1.size)
    have alJ : gl < wr.heap.size := (Array.getElem?_eq_some_iff.mp J.out.2.2.2.1).1
    refine aac wr [] [.is (.slice (some ⟨q, 0, none⟩) 64 cap), .is (.int .i64 (i : Int)), .is (.int .i64 (j : Int)), .is (.pointer (some ⟨q, j, none⟩)), .is (.int .u8 (s : Int)), .is (.int .i64 (s : Int)), .is (.slice (some ⟨gl, 0, none⟩) 32 32), .is (.int .i64 (i : Int)), .is (.pointer (some ⟨gl, i, none⟩)), .is (.int .u8 (t : Int)), .is (.int .i64 (t : Int)), .is (.int .i64 (st : Int)), .is (.int .i64 (c : Int)), .is (.int .i64 (x : Int)), .is (.int .i64 (x : Int))] [some 61, some 62, some 63, some 64, some 65, some 66, some 67, some 68, some 69, some 70, some 71, some 72, some 73, some 74, some 16] [(9, .slice (some ⟨q, 0, none⟩) 64 cap), (13, .int .i64 (c : Int)), (14, .slice (some ⟨gl, 0, none⟩) 32 32), (15, .int .i64 (i : Int))] 74 (aO (pl agP.out)) (fun a0 hc => ⟨abp hc [(9, none)], abp hc [(15, none)], abp hc [(62, some 1)], abp hc [(61, some 0), (63, some 2)], abp hc [(64, some 3)] (h := by intro ρ a w hr hk; simp only [aaf, aan, valOf, Sp.val, aae, List.getElem?_cons_zero, List.getElem?_cons_succ, Nat.reduceBEq, cond_true, cond_false] at hr; (repeat (obtain ⟨_, hr⟩ := hr)); have hA := (hk.1.cell (p := ⟨q, j, none⟩) hql).trans hcs; clear hk; refine ⟨rfl, ?_⟩; go_simp; first | done | rfl), abp hc [(65, some 4)], abp hc [(14, none)], abp hc [(15, none)], abp hc [(67, some 6), (68, some 7)], abp hc [(69, some 8)] (h := by intro ρ a w hr hk; simp only [aaf, aan, valOf, Sp.val, aae, List.getElem?_cons_zero, List.getElem?_cons_succ, Nat.reduceBEq, cond_true, cond_false] at hr; (repeat (obtain ⟨_, hr⟩ := hr)); have hA := (hk.1.cell (p := ⟨gl, i, none⟩) alJ).trans hcl; clear hk; refine ⟨rfl, ?_⟩; go_simp; first | done | rfl), abp hc [(70, some 9)], abp hc [(66, some 5), (71, some 10)], abp hc [(13, none)], abp hc [(72, some 11), (73, some 12)], abp hc [(74, some 13)], trivial⟩) ?_ ⟨rfl, rfl, rfl, rfl, trivial⟩ (by simp) (by kernel_rfl) rfl rfl rfl rfl rfl (by kernel_rfl)
    intro ρ w' HK HO HN aC HW0
    simp only [ae7, ae8, valOf, Sp.val, List.getElem?_cons_zero, List.getElem?_cons_succ, Act.put, List.setIfInBounds_toArray, List.set_cons_zero, List.set_cons_succ]
    clear HO HN
    clear ρ
    have gI : Keeps wr [] w' := HK
    obtain ⟨_, rfl, alK, ai9⟩ := gI.akF
    obtain ⟨x21, amx⟩ : ∃ x, x = w' := ⟨_, rfl⟩
    subst amx
    have agQ : Hid (Below wr.heap.size wr x21) := alK.below
    clear HK aC gI alK
    clear HW0
    have HJ : Hid (gu x21 w2.heap.size u12 (F ++ aei S LB i) ∧ x21.heap[gl]? = some (.cells (bn LB) 5) ∧ Below w2.heap.size w2 x21) := Lib.hid ⟨J.out.2.2.1.below agQ.out (Nat.le_refl _), (agQ.out.block gl alJ).trans J.out.2.2.2.1, Below.trans J.out.1 (agQ.out.mono J.out.1.size)⟩
    clear hcs hcl f1 f2 f3 g1 g2
    have hlen : (F ++ aei S LB i).length + [m].length ≤ 4000000 := by have := HF.out.lF; have := HR.out.2; rw [List.length_append, afQ]; simp only [List.length_cons, List.length_nil]; omega
    have alP : w2.heap.size ≤ x21.heap.size := HJ.out.2.2.size
    have HSX := Lib.hid (And.intro hlen alP)
    clear hlen alP
    have e4 := HR.out.1.e4
    have e8 := HR.out.1.e8
    have e7 := HR.out.1.e7
    have e5 := HR.out.1.e5
    have e9 := HR.out.1.e9
    have e4' := HR.out.1.e4'
    have e5' := HR.out.1.e5'
    have e6' := HR.out.1.e6'
    have e7' := HR.out.1.e7'
    have e6 := HR.out.1.e6
    go_wp2_with (at_builtin; refine bH (.tmp 75) (.tmp 79) rfl rfl w2.heap.size u12 (F ++ aei S LB i) [m] (some ⟨x21.heap.size, 0, none⟩) 1 1 rfl rfl rfl (HJ.out.1.below (pl (Below.refl _ _) : Below x21.heap.size x21 _) (Nat.le_refl _)) (anc ob) HSX.out.1 (Nat.le_trans HSX.out.2 (by rw [World.size_alloc]; exact Nat.le_succ _)) ?_)
    intro v5 w5 ak3 ahz ak2
    clear e4 e5 e6 e7 e8 e9 e4' e5' e6' e7'
    have HN : Hid (Below w2.heap.size w2 w5 ∧ i + 1 ≤ 32 ∧ gu w5 w2.heap.size v5 (F ++ aei S LB (i + 1)) ∧ w5.heap[gl]? = some (.cells (bn LB) 5) ∧ v5.ownBlock ≠ some gl) := Lib.hid (by
     have hgx : gl < x21.heap.size := (Array.getElem?_eq_some_iff.mp HJ.out.2.1).1
     refine ⟨Below.grown (Below.trans HJ.out.2.2 (Below.mono (pl (Below.refl _ _) : Below x21.heap.size x21 _) HJ.out.2.2.size)) ahz (Nat.le_trans HJ.out.2.2.size (by simp only [World.size_alloc]; omega)) (fun k h => (HJ.out.1.ahC k h).1), HR.out.2, ?_, ?_, ?_⟩
     · rw [akm, show alc S LB i = m by unfold alc; rw [HR.out.1.hm, ← HR.out.1.hs, ← HR.out.1.ht, ← HR.out.1.hc, ← HR.out.1.hx]]
       exact ak3
     · exact (ahz.block _ (by simp only [World.size_alloc]; omega) (fun h => J.out.2.2.2.2 h.symm)).trans ((akg hgx).trans HJ.out.2.1)
     · intro h
       rcases ak2 with h5 | h5
       · rw [h5] at h; exact J.out.2.2.2.2 h
       · rw [h5] at h
         simp only [World.size_alloc, Option.some.injEq] at h
         omega)
    have hcar : d = ahy S LB (i + 1) := by show _ = (S.getD i 0 + LB.getD i 0 + ahy S LB i) / 256; rw [HR.out.1.hd, ← HR.out.1.hs, ← HR.out.1.ht, ← HR.out.1.hc, ← HR.out.1.hx]
    have HC := Lib.hid hcar
    clear ak3 ahz ak2 hcar
    have e5 := HR.out.1.e5
    have e9 := HR.out.1.e9
    have e5' := HR.out.1.e5'
    have e7' := HR.out.1.e7'
    have e6 := HR.out.1.e6
    go_wp2_with fail
    go_roundw
    case rel => exact ⟨i + 1, by rw [← HC.out], by rw [e6], HN.out⟩
    case measure =>
     rw [e6]
     exact aln i HR.out.2
  · obtain rfl : i = 32 := by have := J.out.2.1; omega
    obtain ⟨qu, alI, rfl, hqu, amw, ak1, alO⟩ := J.out.2.2.1.slice (n := 64) (by rw [List.length_append, afQ, HF.out.lF]) (by decide)
    have HX : Hid (Below w.heap.size w wr ∧ Ed8 wr ∧ Rd wr .u8 A1 dM ∧ Rd wr .u8 A2 gQ ∧ Rd wr .u8 (some ⟨gk, 0, none⟩) KB ∧ Rd wr .u8 (some ⟨qt, 0, none⟩) (F ++ gQ) ∧ Rd wr .u8 (some ⟨q, 32, none⟩) S ∧ Rd wr .u8 (some ⟨qu, 0, none⟩) (F ++ aei S LB 32) ∧ 64 ≤ alI) := Lib.hid (by
     have h1 : Below W1.heap.size W1 wr := Below.trans HA2.out.1 (J.out.1.mono HA2.out.1.size)
     have h2 : Below w.heap.size w wr := Below.trans HW1.out.2.1 (h1.mono HW1.out.2.1.size)
     exact ⟨h2, HE.out.next h2, HR1.out.next h2, HR2.out.next h2, nS ((h1.block gk HW1.out.2.2.2.2.2.2.2).trans HW1.out.2.2.1), HA2.out.2.1.mono J.out.1 (Nat.le_refl _), HW1.out.2.2.2.2.1.mono h1 (Nat.le_refl _), alO, ak1⟩)
    clear hqu amw ak1 alO
    go_wp2_with fail
    refine (amg (some ⟨gk, 0, none⟩) A1 (some ⟨qu, 0, none⟩) 32 c1 alI KB dM F (aei S LB 32) HS1.out.2.1 HS1.out.2.2 (by have := HL.out.2; omega) aH.out.2 HF.out.lF (afQ _ _ _) HF.out.bF (alp _ _ _) HX.out.2.2.2.2.2.2.2.2 p _ HP.out HCD.out (akZ HF.out.lS HLL.out.2.2.1 HF.out.bS HLL.out.2.2.2.1 HF.out.lt HLL.out.2.2.2.2) _ HX.out.2.1.s HX.out.2.1.e.o HX.out.2.2.2.2.1 HX.out.2.2.1 HX.out.2.2.2.2.2.2.2.1).mono ?_
    rintro e y6 ⟨rfl, hb6⟩
    have mg := Lib.hid hb6
    clear hb6
    go_wp2_with fail
    refine (aaL A2 (some ⟨q, 32, none⟩) c2 (cap - 32) 32 32 gQ S false HLo.out HF.out.lS aT.out.2 HF.out.bS (decide_eq_false HD.out.1) _ (HX.out.2.2.2.1.mono mg.out (Nat.le_refl _)) (HX.out.2.2.2.2.2.2.1.mono mg.out (Nat.le_refl _))).mono ?_
    rintro e y7 ⟨rfl, hb7⟩
    have oW : Hid (Below wr.heap.size wr y7) := Lib.hid (Below.trans mg.out (hb7.mono mg.out.size))
    clear hb7
    go_wp2_with fail
    refine (anS (some ⟨gk, 0, none⟩) A1 (some ⟨qt, 0, none⟩) 32 c1 alT KB dM F gQ HS1.out.2.1 HS1.out.2.2 (by have := HL.out.2; omega) aH.out.2 HF.out.lF HLo.out HF.out.bF aT.out.2 HA2.out.2.2.2 p _ HP.out HCD.out HD.out.2 (by rw [HS1.out.1]; exact HF.out.oth _ HD.out.2 (fun h => HD.out.1 (Nq _ _ aT.out.2 HF.out.bS (HLo.out.trans HF.out.lS.symm) h))) _ (HX.out.2.1.s.next oW.out) (HX.out.2.1.e.o.next oW.out) (HX.out.2.2.2.2.1.mono oW.out (Nat.le_refl _)) (HX.out.2.2.1.mono oW.out (Nat.le_refl _)) (HX.out.2.2.2.2.2.1.mono oW.out (Nat.le_refl _))).mono ?_
    rintro e y8 ⟨rfl, hb8⟩
    have ru : Hid (Below wr.heap.size wr y8) := Lib.hid (Below.trans oW.out (hb8.mono oW.out.size))
    clear hb8
    go_wp2_with fail
    refine (fJ _ ((HX.out.2.1.next ru.out).e)).mono ?_
    rintro e y9 ⟨rfl, kP⟩
    have pW : Hid (Below w.heap.size w y9) := Lib.hid (Below.trans HX.out.1 ((Below.trans ru.out (kP.mono ru.out.size)).mono HX.out.1.size))
    clear kP
    go_wp2_with fail
    exact bodyPost_ret (v := .bool true) (by simp [results, Tryd.results10, go_sem]) rfl ⟨rfl, pW.out⟩
theorem ak8 (A0 : Option Addr) (c0 : Nat) (bV : List Nat) (jq : ∀ b ∈ bV, b < 256) (jv : bV.length ≤ c0) (kZ : c0 ≤ maxLen) (A1 : Option Addr) (c1 : Nat) (dM : List Nat) (jH : ∀ b ∈ dM, b < 256) (jK : dM.length ≤ c1) (lW : c1 ≤ maxLen) (A2 : Option Addr) (c2 : Nat) (gQ : List Nat) (oQ : ∀ b ∈ gQ, b < 256) (oU : gQ.length ≤ c2) (sJ : c2 ≤ maxLen) (w : World) (jA : Rd w .u8 A0 bV) (jO : Rd w .u8 A1 dM) (oV : Rd w .u8 A2 gQ) (h5 : Ed8 w) : Calls Tryd.prog 10 #[.slice A0 bV.length c0, .slice A1 dM.length c1, .slice A2 gQ.length c2] w fun e w' => e = .returned (.bool true) ∧ Below w.heap.size w w' := by
 by_cases h1 : bV.length = 32
 · by_cases h2 : 200 < dM.length
   · exact al6 A0 c0 bV jq jv kZ A1 c1 dM jH jK lW A2 c2 gQ oQ oU sJ h1 h2 w jA jO oV h5
   · by_cases h3 : gQ.length = 32
     · obtain ⟨F, S, hF⟩ := ami bV dM
       by_cases h4 : gQ = S
       · exact al8 A0 c0 bV jq jv kZ A1 c1 dM jH jK lW A2 c2 gQ oQ oU sJ h1 (by omega) h3 F S hF h4 w jA jO oV h5
       · by_cases h5' : LO ≤ bW gQ
         · exact al9 A0 c0 bV jq jv kZ A1 c1 dM jH jK lW A2 c2 gQ oQ oU sJ h1 (by omega) h3 F S hF ⟨h4, h5'⟩ w jA jO oV h5
         · exact ama A0 c0 bV jq jv kZ A1 c1 dM jH jK lW A2 c2 gQ oQ oU sJ h1 (by omega) h3 F S hF ⟨h4, by omega⟩ w jA jO oV h5
     · exact al7 A0 c0 bV jq jv kZ A1 c1 dM jH jK lW A2 c2 gQ oQ oU sJ h1 (by omega) h3 w jA jO oV h5
 · exact al4 A0 c0 bV jq jv kZ A1 c1 dM jH jK lW A2 c2 gQ oQ oU sJ h1 w jA jO oV h5
set_option maxRecDepth 100000 in
theorem ak4 (os : Os) (started : os.Started) (H : Type) (enc : TypeId × Value → H) :
 ReturnsInHanded {} Tryd.checked os 10 .any (fun w args => (Rows.edOtherSpec.pre enc Tryd.prog Tryd.f10 [] false w args ∧ laidMetH Tryd.prog aj w) ∧ sizedMet enc Tryd.prog Tryd.f10 (OpenSpec.ofChange Rows.edOtherSpec) false w args) (Rows.edOtherSpec.post enc Tryd.prog Tryd.f10 false true false false) := by
 refine returnsInHanded_of_change_and (C := Tryd.checked) (X := fun w _ => laidMetH Tryd.prog aj w) (fun _ _ _ hh h => h.of_heap hh) own started (by kernel_rfl) Tryd.func10
  (ChangeSpec.witness_shaped (enc := enc) (C := Tryd.checked) (os := os) (X := fun w _ => laidMetH Tryd.prog aj w) false (World.doorLaid Tryd.prog 49 os) #[.slice none 0 0, .slice none 0 0, .slice none 0 0] 8 rfl (World.shaped_of_RefB (by kernel_rfl) (by kernel_rfl)) (by kernel_rfl) (by kernel_rfl) (by kernel_rfl) (ac3 os _)) ?_
 intro W base args ds gs before hval0 hW _ _ hL _
 have hval : ∀ (j : Nat) t v, Tryd.f10.params[j]? = some t → args[j]? = some v → Value.okWide Tryd.prog W .any base t v := hval0
 have hW' := hW
 obtain ⟨p, q, hA0, hV, rfl, hfz, hnd⟩ := hW
 have hA : DataW.TrodAll enc Tryd.prog W 0 (fun _ => true) true Tryd.f10.params.toList args.toList ds p := hA0
 rw [Tryd.params10] at hA hval
 obtain ⟨v0, vs0, d0, ds0, p0, q0, hargs, rfl, rfl, h0, r0⟩ := trodAll_cons hA
 obtain ⟨v1, vs1, d1, ds1, p1, q1, rfl, rfl, rfl, h1, r1⟩ := trodAll_cons r0
 obtain ⟨v2, vs2, d2, ds2, p2, q2, rfl, rfl, rfl, h2, r2⟩ := trodAll_cons r1
 obtain ⟨rfl, rfl, rfl⟩ := trodAll_nil r2
 obtain rfl : args = #[v0, v1, v2] := by cases args; simp_all
 obtain ⟨rfl, rfl⟩ := trodVars_none hV
 have k0 := h0
 have Yq : ∀ x ∈ p0, x.block < W.heap.size := by obtain ⟨m, hm⟩ := k0; exact DataW.trod_lt m _ _ _ hm
 obtain ⟨A0, c0, bV, rfl, jA, jq, jv, kZ⟩ := open_bytes (hval 0 22 v0 rfl rfl) h0
 have k1 := h1
 have lt1 : ∀ x ∈ p1, x.block < W.heap.size := by obtain ⟨m, hm⟩ := k1; exact DataW.trod_lt m _ _ _ hm
 obtain ⟨A1, c1, dM, rfl, jO, jH, jK, lW⟩ := open_bytes (hval 1 22 v1 rfl rfl) h1
 have k2 := h2
 have lt2 : ∀ x ∈ p2, x.block < W.heap.size := by obtain ⟨m, hm⟩ := k2; exact DataW.trod_lt m _ _ _ hm
 obtain ⟨A2, c2, gQ, rfl, oV, oQ, oU, sJ⟩ := open_bytes (hval 2 22 v2 rfl rfl) h2
 have hO := acP hL
 clear hA0 hval0
 refine (ak8 A0 c0 bV jq jv kZ A1 c1 dM jH jK lW A2 c2 gQ oQ oU sJ W jA jO oV hO).mono fun e W' ⟨he, bel⟩ => ?_
 subst he
 exact ⟨_, rfl, _, _, _, [], _, [], hW', trodAll_mk1 (shut_bool Tryd.underlying4 _), (trodAll_cons_mk (Below.trod laidOut (by kernel_rfl) (of_decide_eq_true (by kernel_rfl)) k0 bel Yq) (trodAll_cons_mk (Below.trod laidOut (by kernel_rfl) (of_decide_eq_true (by kernel_rfl)) k1 bel lt1) (trodAll_cons_mk (Below.trod laidOut (by kernel_rfl) (of_decide_eq_true (by kernel_rfl)) k2 bel lt2) trodAll_mk0))), rfl, bel.frame _, fun h => by cases h⟩
theorem alm : Rows.EdOtherSaid :=
 OpenClaim.holds_of_wide 10 Tryd.f10 rfl rfl rfl rfl rfl rfl rfl ⟨rfl, rfl, rfl, rfl, rfl⟩ rfl rfl rfl rfl rfl (by kernel_rfl) Tryd.func10 (by kernel_rfl)
  (of_decide_eq_true (by kernel_rfl)) (by unfold Func.isWrapper; first | (rw [if_pos (by decide +kernel)]; kernel_rfl) | (rw [if_neg (by decide +kernel)]; exact ⟨rfl, rfl⟩))
  (fun os started H enc _ => ak4 os started H enc)
theorem ledOther_holds : Rows.EdOtherCardSaid :=
 Claim7.holds_tied_plain_at .later [] [.data, .data, .widerDeep, .data, .data, .data, .data, .data] true (true, "0f95a86f4b0bab74ae68208c68a1990d2615e57689ca15e110a62c814f1842c4") false
  alm (fun _ h => by cases h) (by kernel_rfl) (fun _ h => by cases h) edOther_row_tie rfl ⟨rfl, rfl⟩ (by kernel_rfl) rfl
  (fun f fn hf hfn => by
   obtain rfl : f = 10 := Option.some.inj ((show Tryd.prog.funcNamed "imprimatur/imprimaturlaw05.EdOther" = some 10 by kernel_rfl).symm.trans hf) |>.symm
   obtain rfl : fn = Tryd.f10 := (Option.some.inj (Tryd.func10.symm.trans hfn)).symm
   exact ⟨by kernel_rfl, fun j t ht => by
    rw [Tryd.params10] at ht
    have hm : t ∈ [22] := by simpa using Array.mem_of_getElem? ht
    have hall : ([22].all fun u => !Tryd.prog.wantsStandIn u) = true := by kernel_rfl
    exact (show Tryd.prog.wantsStandIn t = false by simpa using List.all_eq_true.1 hall t hm)⟩)
  (by kernel_rfl)
end Go.Proofs.YtbghdkmpjiffeaaDoor