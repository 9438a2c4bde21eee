/-
  Shared, part 35r2356: walks and plain laws; each theorem states its own conditions.
-/
import Derived.Test.YtbghdkmpjiffeaaDoorM34r2356
import Derived.Test.YtbghdkmpjiffeaaDoorM35
namespace Go.Proofs.YtbghdkmpjiffeaaDoor
set_option linter.unusedSimpArgs false
set_option linter.unusedVariables false
set_option maxRecDepth 100000
set_option maxHeartbeats 8000000
section
open Go.RowKit Go.Proofs.YtbghdkmpjiffeaaDoorW.PrintLast
theorem OB (p : Dp) (lp : p.lt) (zi xx yy : Nat) (Hzi : Hid (zi = p.z ^ (Num.p - 2) % Num.p)) (Hxx : Hid (xx = p.x * zi % Num.p)) (Hyy : Hid (yy = p.y * zi % Num.p)) (w : World) (kp : p.ok w) :
 Calls Tryd.prog 59 #[p.v] w fun e w' => (∃ b, w.heap.size ≤ b ∧ e = .returned (.slice (some ⟨b, 0, none⟩) 32 32) ∧ w'.heap[b]? = some (.cells (bn (dw 32 (yy + 2 ^ 255 * (xx % 2)))) 5)) ∧ Below w.heap.size w w' := by
 have HP := Lib.hid kp
 have pX := Lib.hid lp
 obtain ⟨bs, hbs⟩ : ∃ z, z = dw 32 (yy + 2 ^ 255 * (xx % 2)) := ⟨_, rfl⟩
 rw [← hbs]
 have HBS := Lib.hid hbs
 clear kp lp hbs
 go_enter Tryd.func59, Tryd.ntmps59
 go_wp2_with fail
 refine (Gt p.C p.c p.z _ zi pX.out.z rfl Hzi.out _ (HP.out.next (pl (Below.refl _ _))).z).mono ?_
 rintro e y1 ⟨⟨R1, r1, rfl, hr1⟩, hb1⟩
 replace HP := Lib.hid (HP.out.next (bt hb1))
 obtain ⟨x1, rfl, hc1, hz1, l10⟩ := bQ (b := w.heap.size) hb1 rfl ob
 have HB1 : Hid (Below w.heap.size w x1) := Below.trans (pl (Below.refl _ _)) (hc1.mono sz)
 clear hb1 hc1
 try simp only [bF] at hz1
 have HR1 := Lib.hid hr1
 clear hr1
 go_wp2_with fail
 refine st1 w [] 10 (ak (b := w.heap.size) ob (aO (pl HB1.out))) (fun HS => ?_)
 refine tk1 0 (some 10) HS (h := ?_)
 refine tk1 1 (some 11) HS (h := ?_)
 refine tk1 2 (some 12) HS (h := ?_)
 refine tk1 4 (some 14) HS (h := ?_)
 refine tk1 5 (some 15) HS (h := ?_)
 refine tk1 6 (some 16) HS (h := ?_)
 refine dH 3 (some 13) (h := fun K hK => ?_)
 go_simp
 refine (fQ _ _ _ _ p.x zi xx pX.out.x (iC Hzi.out) Hxx.out _ (HP.out.next (pl (Below.refl _ _))).x (HR1.out.next (pl (Below.refl _ _)))).mono ?_
 rintro e y ⟨⟨T1, t1, rfl, ht1⟩, hb⟩
 refine hK.out _ _ (HS.step hb rfl) ?_
 replace HP := Lib.hid (HP.out.next (bt hb))
 replace HR1 := Lib.hid (HR1.out.next (bt hb))
 clear HS hb
 intro HS
 have HT1 := Lib.hid ht1
 clear ht1
 refine dH 7 (some 17) (h := fun K hK => ?_)
 go_simp
 refine (fQ _ _ _ _ p.y zi yy pX.out.y (iC Hzi.out) Hyy.out _ (HP.out.next (pl (Below.refl _ _))).y (HR1.out.next (pl (Below.refl _ _)))).mono ?_
 rintro e y ⟨⟨T2, t2, rfl, ht2⟩, hb⟩
 refine hK.out _ _ (HS.step hb rfl) ?_
 replace HP := Lib.hid (HP.out.next (bt hb))
 replace HR1 := Lib.hid (HR1.out.next (bt hb))
 replace HT1 := Lib.hid (HT1.out.next (bt hb))
 clear HS hb
 intro HS
 have HT2 := Lib.hid ht2
 clear ht2
 refine tk1 8 (some 4) HS (h := ?_)
 refine tk1 9 (some 5) HS (h := ?_)
 obtain ⟨x2, rfl, hk2, hz2, kD⟩ := HS.jE
 have HB2 : Hid (Below w.heap.size w x2) := hk2.below
 clear HS hk2
 refine done_ (by kernel_rfl) ?_
 go_wp2_with fail
 refine (NV _ _ yy (tK (iC Hyy.out)) _ (HT2.out.next (pl (Below.refl _ _)))).mono ?_
 rintro e y3 ⟨⟨gh, zL, rfl, Ie⟩, hb3⟩
 replace HT1 := Lib.hid (HT1.out.next (bt hb3))
 have gI : Keeps w _ y3 := ak Ie (aO (Below.trans (pl HB2.out) (hb3.mono sz)))
 obtain ⟨x3, rfl, hk3, hz3, nN⟩ := gI.jE
 have HB3 : Hid (Below w.heap.size w x3) := hk3.below
 have HG3 : w.heap.size ≤ gh := by have := HB2.out.size; (try simp only [bF] at zL); omega
 clear gI hk3 hb3 Ie zL
 obtain ⟨y0, hy0⟩ : ∃ z, z = dw 32 yy := ⟨_, rfl⟩
 rw [← hy0]
 obtain ⟨v, hv⟩ : ∃ z, z = zV yy 31 := ⟨_, rfl⟩
 have alo : v < 128 := by
  have h1 : yy < 2 ^ 255 := Nat.lt_trans (iC Hyy.out) Ve
  rw [hv]; unfold zV; omega
 have hA : (bn y0)[31]? = some (.int .u8 (v : Int)) := by rw [hy0, hv, jr]; unfold dw; rw [List.getElem?_map, List.getElem?_range (by decide)]; rfl
 have Q5 := Lib.hid (And.intro hy0 hv)
 clear hy0 hv
 obtain ⟨L, hL⟩ : ∃ z, z = (aB xx).length := ⟨_, rfl⟩
 have HL := Lib.hid hL
 rw [← hL]
 clear hL
 by_cases h0 : L = 0
 · have hx0 : xx = 0 := oG (by rw [← HL.out]; exact h0)
   have h0I : ¬ (0 : Int) < (L : Int) := by omega
   clear h0
   go_wp2_with fail
   exact bodyPost_ret (v := .slice (some ⟨gh, 0, none⟩) 32 32) (by simp [results, Tryd.results59, go_sem]) rfl ⟨⟨gh, HG3, rfl, by rw [HBS.out, hx0, Nat.zero_mod, Nat.mul_zero, Nat.add_zero, ← Q5.out.1]; exact ob⟩, pl HB3.out⟩
 · have h0I : (0 : Int) < (L : Int) := by omega
   obtain ⟨gb, off, rfl, hgb, hc⟩ := HT1.out.cell (i := 0) (by have := HL.out; omega)
   obtain ⟨a, ha⟩ : ∃ z, z = xx / BB ^ 0 % BB := ⟨_, rfl⟩
   have hcell := hc 0 (by have := HL.out; omega)
   rw [← ha, Nat.add_zero, ← Q5.out.1] at hcell
   have HA : Hid (a % 2 = xx % 2) := Lib.hid (by rw [ha]; exact lM)
   clear hc ha h0
   obtain ⟨v2, hv2⟩ : ∃ z, z = v + 128 := ⟨_, rfl⟩
   have e5 : IntKind.u8.wrap ((v : Int) + 128) = (v2 : Int) := by rw [hv2, IntKind.wrap_u8]; omega
   have HV2 := Lib.hid hv2
   clear hv2
   by_cases hodd : a % 2 = 1
   · have e6 : (a : Int) % 2 = 1 := by omega
     have e7 : (a : Int).tmod 2 = 1 := by rw [Int.tmod_eq_emod_of_nonneg (Int.natCast_nonneg _)]; omega
     have aap := Lib.hid hodd
     clear hodd
     go_wp2_with fail
     exact bodyPost_ret (v := .slice (some ⟨gh, 0, none⟩) 32 32) (by simp [results, Tryd.results59, go_sem]) rfl ⟨⟨gh, HG3, rfl, by rw [HBS.out, ← HA.out, aap.out, Nat.mul_one, DZ _ _ rfl (Nat.lt_trans (iC Hyy.out) Ve), ← Q5.out.1, ← Q5.out.2, ← HV2.out, ← kU]; exact ob⟩, pl HB3.out⟩
   · have e6 : (a : Int) % 2 = 0 := by omega
     have e7 : (a : Int).tmod 2 = 0 := by rw [Int.tmod_eq_emod_of_nonneg (Int.natCast_nonneg _)]; omega
     have aap := Lib.hid (show a % 2 = 0 by omega)
     clear hodd
     go_wp2_with fail
     exact bodyPost_ret (v := .slice (some ⟨gh, 0, none⟩) 32 32) (by simp [results, Tryd.results59, go_sem]) rfl ⟨⟨gh, HG3, rfl, by rw [HBS.out, ← HA.out, aap.out, Nat.mul_zero, Nat.add_zero, ← Q5.out.1]; exact ob⟩, pl HB3.out⟩
theorem MK (p : Dp) (P : EP) (hp : p.of P) (w : World) (kp : p.ok w) : Calls Tryd.prog 59 #[p.v] w fun e w' => (∃ b, w.heap.size ≤ b ∧ e = .returned (.slice (some ⟨b, 0, none⟩) 32 32) ∧ w'.heap[b]? = some (.cells (bn (iM P)) 5)) ∧ Below w.heap.size w w' := by
 obtain ⟨lp, hz0, hX, hY⟩ := hp
 obtain ⟨zi, hzi⟩ : ∃ z, z = p.z ^ (Num.p - 2) % Num.p := ⟨_, rfl⟩
 have hq : fe p.z * fe zi = 1 := by rw [hzi, dA, ← aS, oh (inv_mul (nI.mp hz0)), iK]
 obtain ⟨xx, hxx⟩ : ∃ z, z = p.x * zi % Num.p := ⟨_, rfl⟩
 obtain ⟨yy, hyy⟩ : ∃ z, z = p.y * zi % Num.p := ⟨_, rfl⟩
 have h := OB p lp zi xx yy (Lib.hid hzi) (Lib.hid hxx) (Lib.hid hyy) w kp
 have fx : fe xx = P.x := by rw [hxx, dA, aS]; exact Nb _ _ _ _ hX hq
 have fy : fe yy = P.y := by rw [hyy, dA, aS]; exact Nb _ _ _ _ hY hq
 have ex : xx = P.x.val := by rw [← fx, Tt, Nat.mod_eq_of_lt (iC hxx)]
 have ey : yy = P.y.val := by rw [← fy, Tt, Nat.mod_eq_of_lt (iC hyy)]
 rw [ex, ey] at h
 exact h
end
end Go.Proofs.YtbghdkmpjiffeaaDoor
