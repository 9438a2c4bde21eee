/-
  Shared, part 46: walks and plain laws; each theorem states its own conditions.
-/
import Derived.Test.YtehfkbaendajbaaGreatDoorB35
import Derived.Test.YtehfkbaendajbaaGreatDoorB45
namespace Go.Proofs.YtehfkbaendajbaaGreatDoor
set_option linter.unusedSimpArgs false
set_option linter.unusedVariables false
set_option maxRecDepth 100000
set_option maxHeartbeats 8000000
section
open Go.RowKit Go.ChangeShapes Go.WideShapes Go.ChangeAt Go.Proofs.YtehfkbaendajbaaGreatDoorW.PrintLast
abbrev am8 : List (String × DataW Unit) := [("imprimatur/sha2.constants", Rows.laid_imprimatur_sha2_constants), ("imprimatur/sha2.starts", Rows.laid_imprimatur_sha2_starts), ("imprimatur/field.order", Rows.laid_imprimatur_field_order), ("imprimatur/ed.curve", Rows.laid_imprimatur_ed_curve), ("imprimatur/ed.once", Rows.laid_imprimatur_ed_once), ("imprimatur/ed.baseX", Rows.laid_imprimatur_ed_baseX), ("imprimatur/ed.baseY", Rows.laid_imprimatur_ed_baseY), ("imprimatur/ed.baseT", Rows.laid_imprimatur_ed_baseT)]
theorem ac3 (os : Os) (args : Array Value) : laidMetH Tryz.prog am8 ((World.doorLaid Tryz.prog 49 os).forCall (fun _ _ => 0) ⟨#[], args, []⟩).memory :=
 laidMetH_of_parts3 (fuel := 8) (laidMet_of_run' 8 (by kernel_rfl) (by kernel_rfl)) (by kernel_rfl) (by kernel_rfl)
theorem alV {w : World} (h : laidMetH Tryz.prog am8 w) : ∃ t fr, w.heap[7]? = some (.cells ((Lp.map fun n => ((n : Nat) : Int)).map fun z => Value.int .u64 z).toArray t fr) :=
 og (n := "imprimatur/sha2.constants") (zs := (Lp.map fun n => ((n : Nat) : Int))) (oK (by kernel_rfl) h (show (_, Lib.tabData .u64 (Lp.map fun n => ((n : Nat) : Int))) ∈ am8 from by
  have e : Lib.tabData .u64 (Lp.map fun n => ((n : Nat) : Int)) = (Rows.laid_imprimatur_sha2_constants : DataW Unit) := by kernel_rfl
  rw [e]; simp [am8])) (by kernel_rfl) (t := 147) (e := 34) (m := 80) (by kernel_rfl) (by kernel_rfl) (by kernel_rfl) (by kernel_rfl) (by kernel_rfl)
theorem alW {w : World} (h : laidMetH Tryz.prog am8 w) : ∃ t fr, w.heap[6]? = some (.cells ((xM.map fun n => ((n : Nat) : Int)).map fun z => Value.int .u64 z).toArray t fr) :=
 og (n := "imprimatur/sha2.starts") (zs := (xM.map fun n => ((n : Nat) : Int))) (oK (by kernel_rfl) h (show (_, Lib.tabData .u64 (xM.map fun n => ((n : Nat) : Int))) ∈ am8 from by
  have e : Lib.tabData .u64 (xM.map fun n => ((n : Nat) : Int)) = (Rows.laid_imprimatur_sha2_starts : DataW Unit) := by kernel_rfl
  rw [e]; simp [am8])) (by kernel_rfl) (t := 129) (e := 34) (m := 8) (by kernel_rfl) (by kernel_rfl) (by kernel_rfl) (by kernel_rfl) (by kernel_rfl)
theorem alX {w : World} (h : laidMetH Tryz.prog am8 w) : ∃ t fr, w.heap[4]? = some (.cells ([6346243789798364141, 1503914060200516822, 0, 1152921504606846976].map fun z => Value.int .u64 z).toArray t fr) :=
 og (n := "imprimatur/field.order") (zs := [6346243789798364141, 1503914060200516822, 0, 1152921504606846976]) (oK (by kernel_rfl) h (show (_, Lib.tabData .u64 [6346243789798364141, 1503914060200516822, 0, 1152921504606846976]) ∈ am8 from by
  have e : Lib.tabData .u64 [6346243789798364141, 1503914060200516822, 0, 1152921504606846976] = (Rows.laid_imprimatur_field_order : DataW Unit) := by kernel_rfl
  rw [e]; simp [am8])) (by kernel_rfl) (t := 82) (e := 34) (m := 4) (by kernel_rfl) (by kernel_rfl) (by kernel_rfl) (by kernel_rfl) (by kernel_rfl)
theorem alY {w : World} (h : laidMetH Tryz.prog am8 w) : ∃ t fr, w.heap[5]? = some (.cells ([1859910466990425, 932731440258426, 1072319116312658, 1815898335770999, 633789495995903].map fun z => Value.int .u64 z).toArray t fr) :=
 og (n := "imprimatur/ed.curve") (zs := [1859910466990425, 932731440258426, 1072319116312658, 1815898335770999, 633789495995903]) (oK (by kernel_rfl) h (show (_, Lib.tabData .u64 [1859910466990425, 932731440258426, 1072319116312658, 1815898335770999, 633789495995903]) ∈ am8 from by
  have e : Lib.tabData .u64 [1859910466990425, 932731440258426, 1072319116312658, 1815898335770999, 633789495995903] = (Rows.laid_imprimatur_ed_curve : DataW Unit) := by kernel_rfl
  rw [e]; simp [am8])) (by kernel_rfl) (t := 36) (e := 34) (m := 5) (by kernel_rfl) (by kernel_rfl) (by kernel_rfl) (by kernel_rfl) (by kernel_rfl)
theorem alZ {w : World} (h : laidMetH Tryz.prog am8 w) : ∃ t fr, w.heap[3]? = some (.cells ([929955233495203, 466365720129213, 1662059464998953, 2033849074728123, 1442794654840575].map fun z => Value.int .u64 z).toArray t fr) :=
 og (n := "imprimatur/ed.once") (zs := [929955233495203, 466365720129213, 1662059464998953, 2033849074728123, 1442794654840575]) (oK (by kernel_rfl) h (show (_, Lib.tabData .u64 [929955233495203, 466365720129213, 1662059464998953, 2033849074728123, 1442794654840575]) ∈ am8 from by
  have e : Lib.tabData .u64 [929955233495203, 466365720129213, 1662059464998953, 2033849074728123, 1442794654840575] = (Rows.laid_imprimatur_ed_once : DataW Unit) := by kernel_rfl
  rw [e]; simp [am8])) (by kernel_rfl) (t := 36) (e := 34) (m := 5) (by kernel_rfl) (by kernel_rfl) (by kernel_rfl) (by kernel_rfl) (by kernel_rfl)
theorem al0 {w : World} (h : laidMetH Tryz.prog am8 w) : ∃ t fr, w.heap[0]? = some (.cells ([1738742601995546, 1146398526822698, 2070867633025821, 562264141797630, 587772402128613].map fun z => Value.int .u64 z).toArray t fr) :=
 og (n := "imprimatur/ed.baseX") (zs := [1738742601995546, 1146398526822698, 2070867633025821, 562264141797630, 587772402128613]) (oK (by kernel_rfl) h (show (_, Lib.tabData .u64 [1738742601995546, 1146398526822698, 2070867633025821, 562264141797630, 587772402128613]) ∈ am8 from by
  have e : Lib.tabData .u64 [1738742601995546, 1146398526822698, 2070867633025821, 562264141797630, 587772402128613] = (Rows.laid_imprimatur_ed_baseX : DataW Unit) := by kernel_rfl
  rw [e]; simp [am8])) (by kernel_rfl) (t := 36) (e := 34) (m := 5) (by kernel_rfl) (by kernel_rfl) (by kernel_rfl) (by kernel_rfl) (by kernel_rfl)
theorem al1 {w : World} (h : laidMetH Tryz.prog am8 w) : ∃ t fr, w.heap[1]? = some (.cells ([1801439850948184, 1351079888211148, 450359962737049, 900719925474099, 1801439850948198].map fun z => Value.int .u64 z).toArray t fr) :=
 og (n := "imprimatur/ed.baseY") (zs := [1801439850948184, 1351079888211148, 450359962737049, 900719925474099, 1801439850948198]) (oK (by kernel_rfl) h (show (_, Lib.tabData .u64 [1801439850948184, 1351079888211148, 450359962737049, 900719925474099, 1801439850948198]) ∈ am8 from by
  have e : Lib.tabData .u64 [1801439850948184, 1351079888211148, 450359962737049, 900719925474099, 1801439850948198] = (Rows.laid_imprimatur_ed_baseY : DataW Unit) := by kernel_rfl
  rw [e]; simp [am8])) (by kernel_rfl) (t := 36) (e := 34) (m := 5) (by kernel_rfl) (by kernel_rfl) (by kernel_rfl) (by kernel_rfl) (by kernel_rfl)
theorem al2 {w : World} (h : laidMetH Tryz.prog am8 w) : ∃ t fr, w.heap[2]? = some (.cells ([1841354044333475, 16398895984059, 755974180946558, 900171276175154, 1821297809914039].map fun z => Value.int .u64 z).toArray t fr) :=
 og (n := "imprimatur/ed.baseT") (zs := [1841354044333475, 16398895984059, 755974180946558, 900171276175154, 1821297809914039]) (oK (by kernel_rfl) h (show (_, Lib.tabData .u64 [1841354044333475, 16398895984059, 755974180946558, 900171276175154, 1821297809914039]) ∈ am8 from by
  have e : Lib.tabData .u64 [1841354044333475, 16398895984059, 755974180946558, 900171276175154, 1821297809914039] = (Rows.laid_imprimatur_ed_baseT : DataW Unit) := by kernel_rfl
  rw [e]; simp [am8])) (by kernel_rfl) (t := 36) (e := 34) (m := 5) (by kernel_rfl) (by kernel_rfl) (by kernel_rfl) (by kernel_rfl) (by kernel_rfl)
theorem akN (j : Nat) (hj : j < 4) : (([6346243789798364141, 1503914060200516822, 0, 1152921504606846976] : List Int).map fun z => Value.int .u64 z).toArray[j]? = some (.int .u64 ((lim LO j : Nat) : Int)) := by
 rcases j with _ | _ | _ | _ | j
 all_goals first | omega | kernel_rfl
structure Ed8 (w : World) : Prop where
 e : uU w
 s : Sg5 w
theorem Ed8.next {w w' : World} (h : Ed8 w) (hb : Below w.heap.size w w') : Ed8 w' := ⟨h.e.next hb, h.s.next hb⟩
theorem acP {w : World} (h : laidMetH Tryz.prog am8 w) : Ed8 w := by
 obtain ⟨t0, f0, b0⟩ := alV h
 obtain ⟨t1, f1, b1⟩ := alW h
 obtain ⟨t7, f7, b7⟩ := alX h
 obtain ⟨t2, f2, b2⟩ := alY h
 obtain ⟨t3, f3, b3⟩ := alZ h
 obtain ⟨t4, f4, b4⟩ := al0 h
 obtain ⟨t5, f5, b5⟩ := al1 h
 obtain ⟨t6, f6, b6⟩ := al2 h
 rw [ae2] at b0
 have e5 : uU w := ⟨⟨⟨sH b0, t0, f0, b0⟩, ⟨sH b1, fun j hj => by simp only [World.cell?, b1]; exact abL j hj⟩⟩, ⟨sH b2, t2, f2, b2⟩, ⟨sH b3, t3, f3, b3⟩, ⟨sH b6, ⟨t4, f4, b4⟩, ⟨t5, f5, b5⟩, ⟨t6, f6, b6⟩⟩⟩
 exact ⟨e5, e5.h, e5.c, e5.b, fun j hj => by simp only [World.cell?, b7]; exact akN j hj⟩
end
end Go.Proofs.YtehfkbaendajbaaGreatDoor
