/-
  Shared, part 55: walks and plain laws; each theorem states its own conditions.
-/
import Derived.Test.YtehfkbaendajbaaGreatDoorA46
namespace Go.Proofs.YtehfkbaendajbaaGreatDoor
set_option linter.unusedSimpArgs false
set_option linter.unusedVariables false
set_option maxRecDepth 100000
set_option maxHeartbeats 8000000
section
open Go.RowKit Go.ChangeShapes Go.WideShapes Go.ChangeAt Go.Proofs.YtehfkbaendajbaaGreatDoorW.PrintLast
abbrev laid7 : List (String × DataW Unit) := [("imprimatur/sha2.constants", Rows.laid_imprimatur_sha2_constants), ("imprimatur/sha2.starts", Rows.laid_imprimatur_sha2_starts), ("imprimatur/field.order", Rows.laid_imprimatur_field_order), ("imprimatur/ed.curve", Rows.laid_imprimatur_ed_curve), ("imprimatur/ed.baseX", Rows.laid_imprimatur_ed_baseX), ("imprimatur/ed.baseY", Rows.laid_imprimatur_ed_baseY), ("imprimatur/ed.baseT", Rows.laid_imprimatur_ed_baseT)]
theorem an3 (os : Os) (args : Array Value) : laidMetH Tryz.prog laid7 ((World.doorLaid Tryz.prog 49 os).forCall (fun _ _ => 0) ⟨#[], args, []⟩).memory :=
 laidMetH_of_parts3 (fuel := 8) (laidMet_of_run' 8 (by kernel_rfl) (by kernel_rfl)) (by kernel_rfl) (by kernel_rfl)
theorem ap5 {w : World} (h : laidMetH Tryz.prog laid7 w) : ∃ t fr, w.heap[7]? = some (.cells ((Lp.map fun n => ((n : Nat) : Int)).map fun z => Value.int .u64 z).toArray t fr) :=
 og (n := "imprimatur/sha2.constants") (zs := (Lp.map fun n => ((n : Nat) : Int))) (oK (by kernel_rfl) h (show (_, Lib.tabData .u64 (Lp.map fun n => ((n : Nat) : Int))) ∈ laid7 from by
  have e : Lib.tabData .u64 (Lp.map fun n => ((n : Nat) : Int)) = (Rows.laid_imprimatur_sha2_constants : DataW Unit) := by kernel_rfl
  rw [e]; simp [laid7])) (by kernel_rfl) (t := 147) (e := 34) (m := 80) (by kernel_rfl) (by kernel_rfl) (by kernel_rfl) (by kernel_rfl) (by kernel_rfl)
theorem ap6 {w : World} (h : laidMetH Tryz.prog laid7 w) : ∃ t fr, w.heap[6]? = some (.cells ((xM.map fun n => ((n : Nat) : Int)).map fun z => Value.int .u64 z).toArray t fr) :=
 og (n := "imprimatur/sha2.starts") (zs := (xM.map fun n => ((n : Nat) : Int))) (oK (by kernel_rfl) h (show (_, Lib.tabData .u64 (xM.map fun n => ((n : Nat) : Int))) ∈ laid7 from by
  have e : Lib.tabData .u64 (xM.map fun n => ((n : Nat) : Int)) = (Rows.laid_imprimatur_sha2_starts : DataW Unit) := by kernel_rfl
  rw [e]; simp [laid7])) (by kernel_rfl) (t := 129) (e := 34) (m := 8) (by kernel_rfl) (by kernel_rfl) (by kernel_rfl) (by kernel_rfl) (by kernel_rfl)
theorem ap7 {w : World} (h : laidMetH Tryz.prog laid7 w) : ∃ t fr, w.heap[4]? = some (.cells ([6346243789798364141, 1503914060200516822, 0, 1152921504606846976].map fun z => Value.int .u64 z).toArray t fr) :=
 og (n := "imprimatur/field.order") (zs := [6346243789798364141, 1503914060200516822, 0, 1152921504606846976]) (oK (by kernel_rfl) h (show (_, Lib.tabData .u64 [6346243789798364141, 1503914060200516822, 0, 1152921504606846976]) ∈ laid7 from by
  have e : Lib.tabData .u64 [6346243789798364141, 1503914060200516822, 0, 1152921504606846976] = (Rows.laid_imprimatur_field_order : DataW Unit) := by kernel_rfl
  rw [e]; simp [laid7])) (by kernel_rfl) (t := 82) (e := 34) (m := 4) (by kernel_rfl) (by kernel_rfl) (by kernel_rfl) (by kernel_rfl) (by kernel_rfl)
theorem ap8 {w : World} (h : laidMetH Tryz.prog laid7 w) : ∃ t fr, w.heap[5]? = some (.cells ([1859910466990425, 932731440258426, 1072319116312658, 1815898335770999, 633789495995903].map fun z => Value.int .u64 z).toArray t fr) :=
 og (n := "imprimatur/ed.curve") (zs := [1859910466990425, 932731440258426, 1072319116312658, 1815898335770999, 633789495995903]) (oK (by kernel_rfl) h (show (_, Lib.tabData .u64 [1859910466990425, 932731440258426, 1072319116312658, 1815898335770999, 633789495995903]) ∈ laid7 from by
  have e : Lib.tabData .u64 [1859910466990425, 932731440258426, 1072319116312658, 1815898335770999, 633789495995903] = (Rows.laid_imprimatur_ed_curve : DataW Unit) := by kernel_rfl
  rw [e]; simp [laid7])) (by kernel_rfl) (t := 36) (e := 34) (m := 5) (by kernel_rfl) (by kernel_rfl) (by kernel_rfl) (by kernel_rfl) (by kernel_rfl)
theorem ap9 {w : World} (h : laidMetH Tryz.prog laid7 w) : ∃ t fr, w.heap[0]? = some (.cells ([1738742601995546, 1146398526822698, 2070867633025821, 562264141797630, 587772402128613].map fun z => Value.int .u64 z).toArray t fr) :=
 og (n := "imprimatur/ed.baseX") (zs := [1738742601995546, 1146398526822698, 2070867633025821, 562264141797630, 587772402128613]) (oK (by kernel_rfl) h (show (_, Lib.tabData .u64 [1738742601995546, 1146398526822698, 2070867633025821, 562264141797630, 587772402128613]) ∈ laid7 from by
  have e : Lib.tabData .u64 [1738742601995546, 1146398526822698, 2070867633025821, 562264141797630, 587772402128613] = (Rows.laid_imprimatur_ed_baseX : DataW Unit) := by kernel_rfl
  rw [e]; simp [laid7])) (by kernel_rfl) (t := 36) (e := 34) (m := 5) (by kernel_rfl) (by kernel_rfl) (by kernel_rfl) (by kernel_rfl) (by kernel_rfl)
theorem aqa {w : World} (h : laidMetH Tryz.prog laid7 w) : ∃ t fr, w.heap[1]? = some (.cells ([1801439850948184, 1351079888211148, 450359962737049, 900719925474099, 1801439850948198].map fun z => Value.int .u64 z).toArray t fr) :=
 og (n := "imprimatur/ed.baseY") (zs := [1801439850948184, 1351079888211148, 450359962737049, 900719925474099, 1801439850948198]) (oK (by kernel_rfl) h (show (_, Lib.tabData .u64 [1801439850948184, 1351079888211148, 450359962737049, 900719925474099, 1801439850948198]) ∈ laid7 from by
  have e : Lib.tabData .u64 [1801439850948184, 1351079888211148, 450359962737049, 900719925474099, 1801439850948198] = (Rows.laid_imprimatur_ed_baseY : DataW Unit) := by kernel_rfl
  rw [e]; simp [laid7])) (by kernel_rfl) (t := 36) (e := 34) (m := 5) (by kernel_rfl) (by kernel_rfl) (by kernel_rfl) (by kernel_rfl) (by kernel_rfl)
theorem aqb {w : World} (h : laidMetH Tryz.prog laid7 w) : ∃ t fr, w.heap[2]? = some (.cells ([1841354044333475, 16398895984059, 755974180946558, 900171276175154, 1821297809914039].map fun z => Value.int .u64 z).toArray t fr) :=
 og (n := "imprimatur/ed.baseT") (zs := [1841354044333475, 16398895984059, 755974180946558, 900171276175154, 1821297809914039]) (oK (by kernel_rfl) h (show (_, Lib.tabData .u64 [1841354044333475, 16398895984059, 755974180946558, 900171276175154, 1821297809914039]) ∈ laid7 from by
  have e : Lib.tabData .u64 [1841354044333475, 16398895984059, 755974180946558, 900171276175154, 1821297809914039] = (Rows.laid_imprimatur_ed_baseT : DataW Unit) := by kernel_rfl
  rw [e]; simp [laid7])) (by kernel_rfl) (t := 36) (e := 34) (m := 5) (by kernel_rfl) (by kernel_rfl) (by kernel_rfl) (by kernel_rfl) (by kernel_rfl)
theorem anG {w : World} (h : laidMetH Tryz.prog laid7 w) : Sg5 w := by
 obtain ⟨t0, f0, b0⟩ := ap5 h
 obtain ⟨t1, f1, b1⟩ := ap6 h
 obtain ⟨t7, f7, b7⟩ := ap7 h
 obtain ⟨t2, f2, b2⟩ := ap8 h
 obtain ⟨t4, f4, b4⟩ := ap9 h
 obtain ⟨t5, f5, b5⟩ := aqa h
 obtain ⟨t6, f6, b6⟩ := aqb h
 rw [ae2] at b0
 exact ⟨⟨⟨sH b0, t0, f0, b0⟩, ⟨sH b1, fun j hj => by simp only [World.cell?, b1]; exact abL j hj⟩⟩, ⟨sH b2, t2, f2, b2⟩, ⟨sH b6, ⟨t4, f4, b4⟩, ⟨t5, f5, b5⟩, ⟨t6, f6, b6⟩⟩, fun j hj => by simp only [World.cell?, b7]; exact akN j hj⟩
theorem ap3 (sd KB : List Nat) (A : Option Addr) (c : Nat) (hl : sd.length = 32) (hby : ∀ z ∈ sd, z < 256) (hKB : KB = Yb sd) (w : World) (h : Sg5 w) (hr : Rd w .u8 A sd) :
 Calls Tryz.prog 6 #[.slice A 32 c] w fun e w' => (∃ b, w.heap.size ≤ b ∧ e = .returned (.tuple #[.slice (some ⟨b, 0, none⟩) 32 32, .int .i64 0]) ∧ w'.heap[b]? = some (.cells (bF KB) 5)) ∧ Below w.heap.size w w' := by
 subst hKB
 exact aaI A c sd hl hby w h.h h.c h.b hr (fun b off e => by
  obtain ⟨b', off', e', hb, _⟩ := hr.place (by omega)
  rw [e'] at e
  cases e
  exact hb)
theorem amI (w : World) (h5 : Sg5 w) :
 Calls Tryz.prog 5 #[] w fun e w' => e = .returned (.bool true) ∧ Below w.heap.size w w' := by
 have HE := Lib.hid h5
 clear h5
 go_enter Tryz.func5, Tryz.ntmps5
 go_wp2_with fail
 refine (yG _ HE.out.b).mono ?_
 rintro e x1 ⟨rfl, hb1⟩
 have HB1 : Hid (Below w.heap.size w x1) := Below.trans (pl (Below.refl _ _)) (hb1.mono sz)
 have hz1 := HB1.out.size
 replace HE := Lib.hid (HE.out.next (bt hb1))
 clear hb1
 go_wp2_with fail
 refine (XJ _).mono ?_
 rintro e y2 ⟨⟨g1, zK, rfl, rO⟩, hb2⟩
 replace HE := Lib.hid (HE.out.next (bt hb2))
 have gI : Keeps w _ y2 := ak rO (aO (Below.trans (pl HB1.out) (hb2.mono sz)))
 obtain ⟨x2, rfl, hk2, hz2, kD⟩ := gI.jE
 have HB2 : Hid (Below w.heap.size w x2) := hk2.below
 have HG2 : w.heap.size ≤ g1 := by have := HB1.out.size; (try simp only [dU] at zK); omega
 clear gI hk2 hb2 rO zK
 go_wp2_with fail
 refine (qm _).mono ?_
 rintro e y3 ⟨rfl, hb3⟩
 replace HE := Lib.hid (HE.out.next (bt hb3))
 obtain ⟨x3, rfl, hc3, hz3, nN⟩ := bQ (b := g1) hb3 rfl ob
 have HB3 := aZ HB2.out hc3
 clear hb3 hc3
 try simp only [dU] at hz3
 go_wp2_with fail
 have hmk := UO
 refine (XL _).mono ?_
 rintro e y4 ⟨⟨g2, hge4, rfl, Ig⟩, hb4⟩
 replace HE := Lib.hid (HE.out.next (bt hb4))
 have gI : Keeps w _ y4 := ak (b := g1) ((hb4.block _ sz).trans ob) (ak Ig (aO (Below.trans (pl HB3.out) (hb4.mono sz))))
 obtain ⟨x4, rfl, hk4, lT, rU, yL⟩ := gI.iL
 have HB4 : Hid (Below w.heap.size w x4) := hk4.below
 have HG4 : w.heap.size ≤ g2 := by have := HB3.out.size; (try simp only [dU] at hge4); omega
 have abu : g1 < g2 := by (try simp only [dU] at hge4); omega
 clear gI hk4 hb4 Ig hge4
 go_wp2_with fail
 refine (Yc (some ⟨x4.heap.size, 0, none⟩) 32 _ (HE.out.next (pl (Below.refl _ _))).h (HE.out.next (pl (Below.refl _ _))).c (HE.out.next (pl (Below.refl _ _))).b (VG ob) (ab8 sz)).mono ?_
 rintro e y5 ⟨⟨g3, Du, rfl, TN⟩, hb5⟩
 replace HE := Lib.hid (HE.out.next (bt hb5))
 have gI : Keeps w _ y5 := ak (b := g1) ((hb5.block _ sz).trans ob) (ak (b := g2) ((hb5.block _ sz).trans ob) (ak TN (aO (Below.trans (pl HB4.out) (hb5.mono sz)))))
 obtain ⟨x5, rfl, hk5, rP, Ae, l51, Gi⟩ := gI.eG
 have kR : Hid (Below w.heap.size w x5) := hk5.below
 have HG5 : w.heap.size ≤ g3 := by have := HB4.out.size; (try simp only [dU] at Du); omega
 have abv : g1 < g3 := by (try simp only [dU] at Du); omega
 have abw : g2 < g3 := by (try simp only [dU] at Du); omega
 clear gI hk5 hb5 TN Du
 go_wp2_with fail
 go_ret
 exact ⟨rfl, (pl kR.out)⟩
theorem aoS (A : Option Addr) (c k : Nat) (h : k ≠ 32) (w : World) : Calls Tryz.prog 6 #[.slice A k c] w fun e w' => e = .returned (.tuple #[.slice none 0 0, .int .i64 1]) ∧ Below w.heap.size w w' := by
 have hI : ¬ (k : Int) = 32 := by omega
 have hJ : ((k : Int) == 32) = false := beq_eq_false_iff_ne.mpr hI
 have hK : ((k : Int) != 32) = true := by simp only [bne, hJ]; rfl
 go_enter Tryz.func6, Tryz.ntmps6
 go_wp2_with fail
 exact bodyPost_ret (v := .tuple #[.slice none 0 0, .int .i64 1]) (by simp [results, Tryz.results6, go_sem]) rfl ⟨rfl, pl (Below.refl _ _)⟩
theorem aos (A0 A1 : Option Addr) (c0 c1 k k1 : Nat) (h : k ≠ 32) (w : World) : Calls Tryz.prog 7 #[.slice A0 k c0, .slice A1 k1 c1] w fun e w' => e = .returned (.tuple #[.slice none 0 0, .int .i64 1]) ∧ Below w.heap.size w w' := by
 have hI : ¬ (k : Int) = 32 := by omega
 have hJ : ((k : Int) == 32) = false := beq_eq_false_iff_ne.mpr hI
 have hK : ((k : Int) != 32) = true := by simp only [bne, hJ]; rfl
 go_enter Tryz.func7, Tryz.ntmps7
 go_wp2_with fail
 exact bodyPost_ret (v := .tuple #[.slice none 0 0, .int .i64 1]) (by simp [results, Tryz.results7, go_sem]) rfl ⟨rfl, pl (Below.refl _ _)⟩
end
end Go.Proofs.YtehfkbaendajbaaGreatDoor
