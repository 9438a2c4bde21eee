/-
  Shared, part 35: walks and plain laws; each theorem states its own conditions.
-/
import Derived.Test.YtehfkbaendajbaaGreatDoorRows
import Derived.Test.YtehfkbaendajbaaGreatDoorB28
import Derived.Test.YtehfkbaendajbaaGreatDoorB34
import Derived.ChangeVars
import Derived.LaidMore
import Derived.Lib.LaidTab
import Derived.OpenShut
import Derived.ProofKit
import Derived.Stop.Joined
namespace Go.Proofs.YtehfkbaendajbaaGreatDoor
set_option linter.unusedSimpArgs false
set_option linter.unusedVariables false
set_option maxRecDepth 100000
set_option maxHeartbeats 8000000
section
open Go.RowKit Go.Proofs.YtehfkbaendajbaaGreatDoorW.PrintLast
theorem BM (f : Nat → Nat) : tV 32 f = bF ((List.range 32).map f) := by
 unfold tV bF
 simp
theorem NV (A : Option Addr) (c X : Nat) (hx : X < BB ^ 16) (w : World) (hX : Dn w A c X) :
 Calls Tryz.prog 50 #[.slice A (aB X).length c, .int .i64 32] w fun e w' => (∃ b, w.heap.size ≤ b ∧ e = .returned (.slice (some ⟨b, 0, none⟩) 32 32) ∧ w'.heap[b]? = some (.cells (bF (dw 32 X)) 5)) ∧ Below w.heap.size w w' := by
 have HX := Lib.hid hX
 obtain ⟨L, hL⟩ : ∃ L, L = (aB X).length := ⟨_, rfl⟩
 have hmk := UO
 have h16 : L ≤ 16 := by rw [hL]; exact dK hx
 rw [← hL]
 have HL := Lib.hid hL
 clear hX hL hx
 go_enter Tryz.func50, Tryz.ntmps50
 go_wp2_with fail
 go_loopw [6] (fun iv wr => ∃ (i : Nat) (fc : Nat → Nat) (x : World), iv = .int .i64 (i : Int) ∧ wr = x.pin w.heap.size (.cells (tV (32) fc) 5) ∧ w.heap.size < x.heap.size ∧ Hid (Below w.heap.size w x ∧ i ≤ L ∧ NU X i fc)) (fun iv _ => (L - intOf iv).toNat)
 case atStart => exact ⟨0, fun _ => 0, _, rfl, xI ob, sz, (pl (Below.refl _ _)), Nat.zero_le _, DY X⟩
 case round =>
  obtain ⟨i, fc, x, rfl, rfl, q0, H⟩ := hrel
  by_cases hi : i < L
  · obtain ⟨b, off, rfl, hbw, hcell⟩ := HX.out.cell (i := i) (by rw [← HL.out]; exact hi)
    obtain ⟨a, ha⟩ : ∃ a, a = dg X i := ⟨_, rfl⟩
    have hc : x.cell? ⟨b, off + i, none⟩ = some (.int .u64 (a : Int)) := by rw [ha]; exact (H.out.1.cell (p := ⟨b, off + i, none⟩) hbw).trans (hcell i (by rw [← HL.out]; exact hi))
    have HA := Lib.hid ha
    clear hcell ha
    have g1 := qB fc (show 2 * i < 32 by omega)
    have g2 := qB fc (show 2 * i + 1 < 32 by omega)
    have aC := Lib.hid (show a < 65536 by rw [HA.out]; exact dR X i)
    go_wp2
    · have hst := GI H.out.2.2
      rw [← HA.out] at hst
      exact ⟨⟨i + 1, _, x, vi0 i, by rw [v8r, show eX ((a : Int) / 256) = IntKind.u64.wrap ((a : Int) / 256) from rfl, ZT a aC.out, xJ, xJ], q0, H.out.1, by omega, hst⟩, tH L i hi⟩
    all_goals (exfalso; omega)
  · have hi' : i = L := by have := H.out.2.1; omega
    subst hi'
    go_wp2
    go_ret
    refine ⟨⟨w.heap.size, Nat.le_refl _, rfl, ?_⟩, (pl H.out.1)⟩
    have h := (eY (w := x) (b := w.heap.size) (o := .cells (tV (32) fc) 5) q0)
    rw [← MF H.out.2.2 (by have := HL.out; omega), ← BM]
    exact h
end
section
open Go.RowKit Go.Proofs.YtehfkbaendajbaaGreatDoorW.PrintLast
theorem GV (A : Option Addr) (c : Nat) (bs : List Nat) (hl : bs.length ≠ 32) (w : World) :
 Calls Tryz.prog 30 #[.slice A bs.length c] w fun e w' => e = .returned (.tuple #[.agg #[.slice none 0 0, .slice none 0 0, .slice none 0 0], .bool false]) ∧ Below w.heap.size w w' := by
 have hlI : ((bs.length : Int) = 32) = False := eq_false (by omega)
 have hlJ : ((bs.length : Int) == 32) = false := beq_eq_false_iff_ne.mpr (by omega)
 clear hl
 go_enter Tryz.func30, Tryz.ntmps30
 go_wp2_with fail
 exact bodyPost_ret (v := .tuple #[.agg #[.slice none 0 0, .slice none 0 0, .slice none 0 0], .bool false]) (cu rfl rfl (bC 47 (w.heap.size) #[.slice none 0 0, .slice none 0 0, .slice none 0 0] 47 (by kernel_rfl) (by kernel_rfl) ob) rfl) rfl ⟨rfl, pl (Below.refl _ _)⟩
theorem XJ (w : World) : Calls Tryz.prog 13 #[vw.v] w fun e w' => (∃ b, w.heap.size ≤ b ∧ e = .returned (.slice (some ⟨b, 0, none⟩) 32 32) ∧ w'.heap[b]? = some (.cells #[.int .u8 88, .int .u8 102, .int .u8 102, .int .u8 102, .int .u8 102, .int .u8 102, .int .u8 102, .int .u8 102, .int .u8 102, .int .u8 102, .int .u8 102, .int .u8 102, .int .u8 102, .int .u8 102, .int .u8 102, .int .u8 102, .int .u8 102, .int .u8 102, .int .u8 102, .int .u8 102, .int .u8 102, .int .u8 102, .int .u8 102, .int .u8 102, .int .u8 102, .int .u8 102, .int .u8 102, .int .u8 102, .int .u8 102, .int .u8 102, .int .u8 102, .int .u8 102] 5)) ∧ Below w.heap.size w w' := by
 have h := wJ vw _ yD w
 rw [Ti] at h
 exact h
theorem XL (w : World) : Calls Tryz.prog 13 #[iR.v] w fun e w' => (∃ b, w.heap.size ≤ b ∧ e = .returned (.slice (some ⟨b, 0, none⟩) 32 32) ∧ w'.heap[b]? = some (.cells #[.int .u8 1, .int .u8 0, .int .u8 0, .int .u8 0, .int .u8 0, .int .u8 0, .int .u8 0, .int .u8 0, .int .u8 0, .int .u8 0, .int .u8 0, .int .u8 0, .int .u8 0, .int .u8 0, .int .u8 0, .int .u8 0, .int .u8 0, .int .u8 0, .int .u8 0, .int .u8 0, .int .u8 0, .int .u8 0, .int .u8 0, .int .u8 0, .int .u8 0, .int .u8 0, .int .u8 0, .int .u8 0, .int .u8 0, .int .u8 0, .int .u8 0, .int .u8 0] 5)) ∧ Below w.heap.size w w' := by
 have h := wJ iR _ oH w
 rw [Tn] at h
 exact h
theorem Yc (A : Option Addr) (c : Nat) (w : World) (hh : vg w) (hg : kE w) (hb : nU w) (hr : Rd w .u8 A (List.replicate 32 0)) (hA : ∀ b off, A = some ⟨b, off, none⟩ → b < w.heap.size) :
 Calls Tryz.prog 6 #[.slice A 32 c] w fun e w' => (∃ b, w.heap.size ≤ b ∧ e = .returned (.tuple #[.slice (some ⟨b, 0, none⟩) 32 32, .int .i64 0]) ∧ w'.heap[b]? = some (.cells #[.int .u8 59, .int .u8 106, .int .u8 39, .int .u8 188, .int .u8 206, .int .u8 182, .int .u8 164, .int .u8 45, .int .u8 98, .int .u8 163, .int .u8 168, .int .u8 208, .int .u8 42, .int .u8 111, .int .u8 13, .int .u8 115, .int .u8 101, .int .u8 50, .int .u8 21, .int .u8 119, .int .u8 29, .int .u8 226, .int .u8 67, .int .u8 166, .int .u8 58, .int .u8 192, .int .u8 72, .int .u8 161, .int .u8 139, .int .u8 89, .int .u8 218, .int .u8 41] 5)) ∧ Below w.heap.size w w' := by
 have h := aaI A c (List.replicate 32 0) rfl (by intro b hb; rw [List.eq_of_mem_replicate hb]; decide) w hh hg hb hr hA
 rw [UD] at h
 exact h
structure uU (w : World) : Prop where
 h : vg w
 c : kE w
 o : kT w
 b : nU w
theorem uU.next {w w' : World} (h : uU w) (hb : Below w.heap.size w w') : uU w' := ⟨h.h.next hb, h.c.next hb, h.o.next hb, h.b.next hb⟩
theorem VG {w : World} {g : Nat} {t : TypeId} (h : w.heap[g]? = some (.cells (tV 32 fun _ => 0) t)) : Rd w .u8 (some ⟨g, 0, none⟩) (List.replicate 32 0) := by
 rw [BM] at h
 exact nS h
theorem ab8 {w : World} {g : Nat} (h : g < w.heap.size) : ∀ b off, some (⟨g, 0, none⟩ : Addr) = some ⟨b, off, none⟩ → b < w.heap.size := by
 intro b off e
 simp only [Option.some.injEq, Addr.mk.injEq] at e
 omega
theorem fJ (w : World) (h5 : uU w) :
 Calls Tryz.prog 5 #[] w fun e w' => e = .returned (.bool true) ∧ Below w.heap.size w w' := by
 have HE := Lib.hid h5
 clear h5
 go_enter Tryz.func5, Tryz.ntmps5
 go_wp2_with fail
 refine (yG _ HE.out.b).mono ?_
 rintro e x1 ⟨rfl, hb1⟩
 have HB1 : Hid (Below w.heap.size w x1) := Below.trans (pl (Below.refl _ _)) (hb1.mono sz)
 have hz1 := HB1.out.size
 replace HE := Lib.hid (HE.out.next (bt hb1))
 clear hb1
 go_wp2_with fail
 refine (XJ _).mono ?_
 rintro e y2 ⟨⟨g1, zK, rfl, rO⟩, hb2⟩
 replace HE := Lib.hid (HE.out.next (bt hb2))
 have gI : Keeps w _ y2 := ak rO (aO (Below.trans (pl HB1.out) (hb2.mono sz)))
 obtain ⟨x2, rfl, hk2, hz2, kD⟩ := gI.jE
 have HB2 : Hid (Below w.heap.size w x2) := hk2.below
 have HG2 : w.heap.size ≤ g1 := by have := HB1.out.size; (try simp only [eF] at zK); omega
 clear gI hk2 hb2 rO zK
 go_wp2_with fail
 refine (qm _).mono ?_
 rintro e y3 ⟨rfl, hb3⟩
 replace HE := Lib.hid (HE.out.next (bt hb3))
 obtain ⟨x3, rfl, hc3, hz3, nN⟩ := bQ (b := g1) hb3 rfl ob
 have HB3 := aZ HB2.out hc3
 clear hb3 hc3
 try simp only [eF] at hz3
 go_wp2_with fail
 have hmk := UO
 refine (XL _).mono ?_
 rintro e y4 ⟨⟨g2, hge4, rfl, Ig⟩, hb4⟩
 replace HE := Lib.hid (HE.out.next (bt hb4))
 have gI : Keeps w _ y4 := ak (b := g1) ((hb4.block _ sz).trans ob) (ak Ig (aO (Below.trans (pl HB3.out) (hb4.mono sz))))
 obtain ⟨x4, rfl, hk4, lT, rU, yL⟩ := gI.iL
 have HB4 : Hid (Below w.heap.size w x4) := hk4.below
 have HG4 : w.heap.size ≤ g2 := by have := HB3.out.size; (try simp only [eF] at hge4); omega
 have abu : g1 < g2 := by (try simp only [eF] at hge4); omega
 clear gI hk4 hb4 Ig hge4
 go_wp2_with fail
 refine (Yc (some ⟨x4.heap.size, 0, none⟩) 32 _ (HE.out.next (pl (Below.refl _ _))).h (HE.out.next (pl (Below.refl _ _))).c (HE.out.next (pl (Below.refl _ _))).b (VG ob) (ab8 sz)).mono ?_
 rintro e y5 ⟨⟨g3, Du, rfl, TN⟩, hb5⟩
 replace HE := Lib.hid (HE.out.next (bt hb5))
 have gI : Keeps w _ y5 := ak (b := g1) ((hb5.block _ sz).trans ob) (ak (b := g2) ((hb5.block _ sz).trans ob) (ak TN (aO (Below.trans (pl HB4.out) (hb5.mono sz)))))
 obtain ⟨x5, rfl, hk5, rP, Ae, l51, Gi⟩ := gI.eG
 have kR : Hid (Below w.heap.size w x5) := hk5.below
 have HG5 : w.heap.size ≤ g3 := by have := HB4.out.size; (try simp only [eF] at Du); omega
 have abv : g1 < g3 := by (try simp only [eF] at Du); omega
 have abw : g2 < g3 := by (try simp only [eF] at Du); omega
 clear gI hk5 hb5 TN Du
 go_wp2_with fail
 go_ret
 exact ⟨rfl, (pl kR.out)⟩
end
section
open Go.RowKit Go.Proofs.YtehfkbaendajbaaGreatDoorW.PrintLast
theorem OB (p : Dp) (lp : p.lt) (zi xx yy : Nat) (Hzi : Hid (zi = p.z ^ (Num.p - 2) % Num.p)) (Hxx : Hid (xx = p.x * zi % Num.p)) (Hyy : Hid (yy = p.y * zi % Num.p)) (w : World) (kp : p.ok w) :
 Calls Tryz.prog 21 #[p.v] w fun e w' => (∃ b, w.heap.size ≤ b ∧ e = .returned (.slice (some ⟨b, 0, none⟩) 32 32) ∧ w'.heap[b]? = some (.cells (bF (dw 32 (yy + 2 ^ 255 * (xx % 2)))) 5)) ∧ Below w.heap.size w w' := by
 have HP := Lib.hid kp
 have pX := Lib.hid lp
 obtain ⟨bs, hbs⟩ : ∃ z, z = dw 32 (yy + 2 ^ 255 * (xx % 2)) := ⟨_, rfl⟩
 rw [← hbs]
 have HBS := Lib.hid hbs
 clear kp lp hbs
 go_enter Tryz.func21, Tryz.ntmps21
 go_wp2_with fail
 refine (Gt p.C p.c p.z _ zi pX.out.z rfl Hzi.out _ (HP.out.next (pl (Below.refl _ _))).z).mono ?_
 rintro e y1 ⟨⟨R1, r1, rfl, hr1⟩, hb1⟩
 replace HP := Lib.hid (HP.out.next (bt hb1))
 obtain ⟨x1, rfl, hc1, hz1, l10⟩ := bQ (b := w.heap.size) hb1 rfl ob
 have HB1 : Hid (Below w.heap.size w x1) := Below.trans (pl (Below.refl _ _)) (hc1.mono sz)
 clear hb1 hc1
 try simp only [eF] at hz1
 have HR1 := Lib.hid hr1
 clear hr1
 go_wp2_with fail
 refine st1 w [] 10 (ak (b := w.heap.size) ob (aO (pl HB1.out))) (fun HS => ?_)
 refine tk1 0 (some 10) HS (h := ?_)
 refine tk1 1 (some 11) HS (h := ?_)
 refine tk1 2 (some 12) HS (h := ?_)
 refine tk1 4 (some 14) HS (h := ?_)
 refine tk1 5 (some 15) HS (h := ?_)
 refine tk1 6 (some 16) HS (h := ?_)
 refine dH 3 (some 13) (h := fun K hK => ?_)
 go_simp
 refine (fQ _ _ _ _ p.x zi xx pX.out.x (iC Hzi.out) Hxx.out _ (HP.out.next (pl (Below.refl _ _))).x (HR1.out.next (pl (Below.refl _ _)))).mono ?_
 rintro e y ⟨⟨T1, t1, rfl, ht1⟩, hb⟩
 refine hK.out _ _ (HS.step hb rfl) ?_
 replace HP := Lib.hid (HP.out.next (bt hb))
 replace HR1 := Lib.hid (HR1.out.next (bt hb))
 clear HS hb
 intro HS
 have HT1 := Lib.hid ht1
 clear ht1
 refine dH 7 (some 17) (h := fun K hK => ?_)
 go_simp
 refine (fQ _ _ _ _ p.y zi yy pX.out.y (iC Hzi.out) Hyy.out _ (HP.out.next (pl (Below.refl _ _))).y (HR1.out.next (pl (Below.refl _ _)))).mono ?_
 rintro e y ⟨⟨T2, t2, rfl, ht2⟩, hb⟩
 refine hK.out _ _ (HS.step hb rfl) ?_
 replace HP := Lib.hid (HP.out.next (bt hb))
 replace HR1 := Lib.hid (HR1.out.next (bt hb))
 replace HT1 := Lib.hid (HT1.out.next (bt hb))
 clear HS hb
 intro HS
 have HT2 := Lib.hid ht2
 clear ht2
 refine tk1 8 (some 4) HS (h := ?_)
 refine tk1 9 (some 5) HS (h := ?_)
 obtain ⟨x2, rfl, hk2, hz2, kD⟩ := HS.jE
 have HB2 : Hid (Below w.heap.size w x2) := hk2.below
 clear HS hk2
 refine done_ (by kernel_rfl) ?_
 go_wp2_with fail
 refine (NV _ _ yy (tK (iC Hyy.out)) _ (HT2.out.next (pl (Below.refl _ _)))).mono ?_
 rintro e y3 ⟨⟨gh, zL, rfl, Ie⟩, hb3⟩
 replace HT1 := Lib.hid (HT1.out.next (bt hb3))
 have gI : Keeps w _ y3 := ak Ie (aO (Below.trans (pl HB2.out) (hb3.mono sz)))
 obtain ⟨x3, rfl, hk3, hz3, nN⟩ := gI.jE
 have HB3 : Hid (Below w.heap.size w x3) := hk3.below
 have HG3 : w.heap.size ≤ gh := by have := HB2.out.size; (try simp only [eF] at zL); omega
 clear gI hk3 hb3 Ie zL
 obtain ⟨y0, hy0⟩ : ∃ z, z = dw 32 yy := ⟨_, rfl⟩
 rw [← hy0]
 obtain ⟨v, hv⟩ : ∃ z, z = zV yy 31 := ⟨_, rfl⟩
 have alo : v < 128 := by
  have h1 : yy < 2 ^ 255 := Nat.lt_trans (iC Hyy.out) Ve
  rw [hv]; unfold zV; omega
 have hA : (bF y0)[31]? = some (.int .u8 (v : Int)) := by rw [hy0, hv, jr]; unfold dw; rw [List.getElem?_map, List.getElem?_range (by decide)]; rfl
 have Q5 := Lib.hid (And.intro hy0 hv)
 clear hy0 hv
 obtain ⟨L, hL⟩ : ∃ z, z = (aB xx).length := ⟨_, rfl⟩
 have HL := Lib.hid hL
 rw [← hL]
 clear hL
 by_cases h0 : L = 0
 · have hx0 : xx = 0 := oG (by rw [← HL.out]; exact h0)
   have h0I : ¬ (0 : Int) < (L : Int) := by omega
   clear h0
   go_wp2_with fail
   exact bodyPost_ret (v := .slice (some ⟨gh, 0, none⟩) 32 32) (by simp [results, Tryz.results21, go_sem]) rfl ⟨⟨gh, HG3, rfl, by rw [HBS.out, hx0, Nat.zero_mod, Nat.mul_zero, Nat.add_zero, ← Q5.out.1]; exact ob⟩, pl HB3.out⟩
 · have h0I : (0 : Int) < (L : Int) := by omega
   obtain ⟨gb, off, rfl, hgb, hc⟩ := HT1.out.cell (i := 0) (by have := HL.out; omega)
   obtain ⟨a, ha⟩ : ∃ z, z = xx / BB ^ 0 % BB := ⟨_, rfl⟩
   have hcell := hc 0 (by have := HL.out; omega)
   rw [← ha, Nat.add_zero, ← Q5.out.1] at hcell
   have HA : Hid (a % 2 = xx % 2) := Lib.hid (by rw [ha]; exact lM)
   clear hc ha h0
   obtain ⟨v2, hv2⟩ : ∃ z, z = v + 128 := ⟨_, rfl⟩
   have e5 : IntKind.u8.wrap ((v : Int) + 128) = (v2 : Int) := by rw [hv2, IntKind.wrap_u8]; omega
   have HV2 := Lib.hid hv2
   clear hv2
   by_cases hodd : a % 2 = 1
   · have e6 : (a : Int) % 2 = 1 := by omega
     have e7 : (a : Int).tmod 2 = 1 := by rw [Int.tmod_eq_emod_of_nonneg (Int.natCast_nonneg _)]; omega
     have aap := Lib.hid hodd
     clear hodd
     go_wp2_with fail
     exact bodyPost_ret (v := .slice (some ⟨gh, 0, none⟩) 32 32) (by simp [results, Tryz.results21, go_sem]) rfl ⟨⟨gh, HG3, rfl, by rw [HBS.out, ← HA.out, aap.out, Nat.mul_one, DZ _ _ rfl (Nat.lt_trans (iC Hyy.out) Ve), ← Q5.out.1, ← Q5.out.2, ← HV2.out, ← kU]; exact ob⟩, pl HB3.out⟩
   · have e6 : (a : Int) % 2 = 0 := by omega
     have e7 : (a : Int).tmod 2 = 0 := by rw [Int.tmod_eq_emod_of_nonneg (Int.natCast_nonneg _)]; omega
     have aap := Lib.hid (show a % 2 = 0 by omega)
     clear hodd
     go_wp2_with fail
     exact bodyPost_ret (v := .slice (some ⟨gh, 0, none⟩) 32 32) (by simp [results, Tryz.results21, go_sem]) rfl ⟨⟨gh, HG3, rfl, by rw [HBS.out, ← HA.out, aap.out, Nat.mul_zero, Nat.add_zero, ← Q5.out.1]; exact ob⟩, pl HB3.out⟩
theorem MK (p : Dp) (P : EP) (hp : p.of P) (w : World) (kp : p.ok w) : Calls Tryz.prog 21 #[p.v] w fun e w' => (∃ b, w.heap.size ≤ b ∧ e = .returned (.slice (some ⟨b, 0, none⟩) 32 32) ∧ w'.heap[b]? = some (.cells (bF (iM P)) 5)) ∧ Below w.heap.size w w' := by
 obtain ⟨lp, hz0, hX, hY⟩ := hp
 obtain ⟨zi, hzi⟩ : ∃ z, z = p.z ^ (Num.p - 2) % Num.p := ⟨_, rfl⟩
 have hq : fe p.z * fe zi = 1 := by rw [hzi, dA, ← aS, oh (inv_mul (nI.mp hz0)), iK]
 obtain ⟨xx, hxx⟩ : ∃ z, z = p.x * zi % Num.p := ⟨_, rfl⟩
 obtain ⟨yy, hyy⟩ : ∃ z, z = p.y * zi % Num.p := ⟨_, rfl⟩
 have h := OB p lp zi xx yy (Lib.hid hzi) (Lib.hid hxx) (Lib.hid hyy) w kp
 have fx : fe xx = P.x := by rw [hxx, dA, aS]; exact Nb _ _ _ _ hX hq
 have fy : fe yy = P.y := by rw [hyy, dA, aS]; exact Nb _ _ _ _ hY hq
 have ex : xx = P.x.val := by rw [← fx, Tt, Nat.mod_eq_of_lt (iC hxx)]
 have ey : yy = P.y.val := by rw [← fy, Tt, Nat.mod_eq_of_lt (iC hyy)]
 rw [ex, ey] at h
 exact h
end
section
open Go.RowKit Go.ChangeShapes Go.WideShapes Go.ChangeAt Go.Proofs.YtehfkbaendajbaaGreatDoorW.PrintLast
def Jp (w : World) (n : String) (d : DataW Unit) : Prop := ∃ g t cs fuel p, Tryz.prog.globalNamed n = some g ∧ (Tryz.prog.globals[g]?).map (·.type) = some t ∧ w.var? Tryz.prog n = some cs ∧ DataW.trod (fun _ => ()) Tryz.prog w 0 (fun _ => true) false fuel t cs.toList = some (d, p)
theorem acC {w : World} : ∀ {l : List (String × DataW Unit)} {ps : List MemPlace}, DataW.LaidVars Tryz.prog w l ps → ∀ n d, (n, d) ∈ l → Jp w n d := by
 intro l
 induction l with
 | nil => intro ps _ n d hm; cases hm
 | cons x r ih =>
  intro ps h n d hm
  obtain ⟨g, t, cs, fuel, p, q, h1, h2, h3, h4, h5, _⟩ := h
  rcases List.mem_cons.1 hm with e | e
  · cases e
    exact ⟨g, t, cs, fuel, p, h1, h2, h3, h4⟩
  · exact ih h5 n d e
theorem oK {w : World} {l : List (String × DataW Unit)} (hp : (l.all fun x => x.2.handleName?.isNone) = true) (h : laidMetH Tryz.prog l w) {n : String} {d : DataW Unit} (hm : (n, d) ∈ l) : Jp w n d := by
 rw [MakeChecks.laidMetH_plain _ _ _ hp] at h
 obtain ⟨_, hv, _⟩ := h
 exact acC hv n d hm
theorem og {w : World} {n : String} {g : Nat} {t e : TypeId} {m : Nat} {k : IntKind} {zs : List Int} (h : Jp w n (Lib.tabData k zs)) (hg : Tryz.prog.globalNamed n = some g) (ht : (Tryz.prog.globals[g]?).map (·.type) = some t)
 (hu : Tryz.prog.underlying t = some (.array m e)) (he : Tryz.prog.underlying e = some (.int k)) (hce : Tryz.prog.cellsOf e = 1) (hct : Tryz.prog.cellsOf t = m) : ∃ t' fr, w.heap[g]? = some (.cells (zs.map fun z => Value.int k z).toArray t' fr) := by
 obtain ⟨g', t', cs, fuel, p, h1, h2, h3, h4⟩ := h
 obtain rfl := Option.some.inj (hg.symm.trans h1)
 obtain rfl := Option.some.inj (ht.symm.trans h2)
 have hc := Lib.cells_of_tab hu he hce hct h4
 simp only [World.var?, hg, Option.bind_some] at h3
 split at h3
 · rename_i cs' t'' fr hb
   obtain rfl := Option.some.inj h3
   refine ⟨t'', fr, ?_⟩
   rw [hb, ← hc]
 · cases h3
theorem ae2 : ((Lp.map fun n => ((n : Nat) : Int)).map fun z => Value.int .u64 z).toArray = rk .u64 80 YW := by kernel_rfl
theorem abL (j : Nat) (hj : j < 8) : ((xM.map fun n => ((n : Nat) : Int)).map fun z => Value.int .u64 z).toArray[j]? = some (.int .u64 ((Jc j : Nat) : Int)) := by
 rcases j with _ | _ | _ | _ | _ | _ | _ | _ | j
 all_goals first | omega | kernel_rfl
end
end Go.Proofs.YtehfkbaendajbaaGreatDoor
