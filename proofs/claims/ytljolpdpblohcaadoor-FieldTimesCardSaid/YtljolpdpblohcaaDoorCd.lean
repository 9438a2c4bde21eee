/-
  What the condition on the variable that holds the order gives; what the statements share.
-/
import Derived.Test.YtljolpdpblohcaaDoorRows
import Derived.Test.YtljolpdpblohcaaDoorFr
import Derived.Test.YtljolpdpblohcaaDoorKn
import Derived.Test.YtljolpdpblohcaaDoorSb
import Derived.Test.YtljolpdpblohcaaDoorRu
import Derived.ProofKit
import Derived.LaidMore
import Derived.OpenShut
import Derived.Stop.Joined
import Derived.ChangeVars
namespace Go.Proofs.YtljolpdpblohcaaDoor
open Go.RowKit Go.ChangeShapes Go.WideShapes Go.ChangeAt Go.Proofs.YtljolpdpblohcaaDoorW.PrintLast
set_option linter.unusedSimpArgs false

set_option linter.unusedVariables false
theorem gOrd : Tryd.prog.globalNamed "imprimatur/field.order" = some 0 := by kernel_rfl
theorem tOrd : (Tryd.prog.globals[0]?).map (·.type) = some 51 := by kernel_rfl
theorem cellsA4 : Tryd.prog.cellsOf 51 = 4 := by kernel_rfl
theorem cellsU64 : Tryd.prog.cellsOf 33 = 1 := by kernel_rfl
/-- What is listed. -/
abbrev laidL {H : Type} : List (String × DataW H) := [("imprimatur/field.order", Rows.laid_imprimatur_field_order)]
theorem door_met (os : Os) (args : Array Value) : laidMetH Tryd.prog laidL ((World.doorLaid Tryd.prog 14 os).forCall (fun _ _ => 0) ⟨#[], args, []⟩).memory :=
  laidMetH_of_parts3 (fuel := 8) (laidMet_of_run' 8 (by kernel_rfl) (by kernel_rfl)) (by kernel_rfl) (by kernel_rfl)
theorem int_of_trodO {H : Type} {enc : TypeId × Value → H} {P : Program} {w : World} {base : Nat} {sp : Nat → Bool} {held : Bool} {fuel : Nat} {t : TypeId} {k : IntKind} {c : Value} {y : DataW H × List MemPlace}
    (ht : P.underlying t = some (.int k)) (h : DataW.trod enc P w base sp held fuel t [c] = some y) : ∃ n, c = .int k n ∧ y = (.lit (.int k n), []) := by
  cases fuel with
  | zero => simp [DataW.trod] at h
  | succ fuel =>
    cases c <;> simp [DataW.trod, ht] at h
    rename_i k' n
    obtain ⟨⟨rfl, _⟩, rfl⟩ := h
    exact ⟨n, rfl, rfl⟩
abbrev ordCells : Array Value := #[.int .u64 6346243789798364141, .int .u64 1503914060200516822, .int .u64 0, .int .u64 1152921504606846976]
theorem cells_of_laid {W : World} (h : laidMetH Tryd.prog laidL W) : W.var? Tryd.prog "imprimatur/field.order" = some ordCells := by
  rw [MakeChecks.laidMetH_plain _ _ _ (by kernel_rfl)] at h
  obtain ⟨ps, ⟨g, t, cs, fuel, p, q, hg, ht, hvar, hd, _, _⟩, _⟩ := h
  obtain rfl := Option.some.inj (gOrd.symm.trans hg)
  obtain rfl := Option.some.inj (tOrd.symm.trans ht)
  rw [hvar]
  congr 1
  obtain ⟨l⟩ := cs
  cases fuel with
  | zero => simp [DataW.trod] at hd
  | succ fuel =>
    simp only [DataW.trod, Tryd.underlying51, cellsA4, cellsU64] at hd
    split at hd
    · rename_i hl
      obtain ⟨c0, c1, c2, c3, rfl⟩ : ∃ c0 c1 c2 c3, l = [c0, c1, c2, c3] := by
        match l, hl with
        | [a, b, c, d], _ => exact ⟨a, b, c, d, rfl⟩
      have e : List.range 4 = [0, 1, 2, 3] := rfl
      rw [e] at hd
      simp only [Option.map_eq_some_iff, List.mapM_cons, List.mapM_nil, Option.bind_eq_bind, Option.bind_eq_some_iff, Option.pure_def, Option.some.injEq] at hd
      obtain ⟨xs, ⟨y0, h0, _, ⟨y1, h1, _, ⟨y2, h2, _, ⟨y3, h3, _, rfl, rfl⟩, rfl⟩, rfl⟩, rfl⟩, hx⟩ := hd
      obtain ⟨n0, rfl, rfl⟩ := int_of_trodO Tryd.underlying33 h0
      obtain ⟨n1, rfl, rfl⟩ := int_of_trodO Tryd.underlying33 h1
      obtain ⟨n2, rfl, rfl⟩ := int_of_trodO Tryd.underlying33 h2
      obtain ⟨n3, rfl, rfl⟩ := int_of_trodO Tryd.underlying33 h3
      simp [Rows.laid_imprimatur_field_order] at hx
      obtain ⟨⟨rfl, rfl, rfl, rfl⟩, _⟩ := hx
      rfl
    · cases hd
theorem ordC0 : ordCells[0]? = some (.int .u64 ((lim LO 0 : Nat) : Int)) := by kernel_rfl
theorem ordC1 : ordCells[1]? = some (.int .u64 ((lim LO 1 : Nat) : Int)) := by kernel_rfl
theorem ordC2 : ordCells[2]? = some (.int .u64 ((lim LO 2 : Nat) : Int)) := by kernel_rfl
theorem ordC3 : ordCells[3]? = some (.int .u64 ((lim LO 3 : Nat) : Int)) := by kernel_rfl
theorem ord_of_laid {W : World} (h : laidMetH Tryd.prog laidL W) : OrdAt W := by
  have hv := cells_of_laid h
  intro j hj
  have hc := World.var?_cell gOrd hv j
  rw [hc]
  match j, hj with
  | 0, _ => exact ordC0
  | 1, _ => exact ordC1
  | 2, _ => exact ordC2
  | 3, _ => exact ordC3
theorem Rd.next {w w' : World} {k : IntKind} {A : Option Addr} {xs : List Nat} (h : Rd w k A xs) (hb : Below w.heap.size w w') : Rd w' k A xs := h.mono hb (Nat.le_refl _)
theorem SameBZ (A B : Option Addr) (c d n m : Nat) (xs ys : List Nat) (b : Bool) (hn : xs.length = n) (hm : ys.length = m) (hx : ∀ b ∈ xs, b < 256) (hy : ∀ b ∈ ys, b < 256) (hb : decide (xs = ys) = b) (w : World) (hA : Rd w .u8 A xs) (hB : Rd w .u8 B ys) :
    Calls Tryd.prog 11 #[.slice A n c, .slice B m d] w fun e w' => e = .returned (.bool b) ∧ Below w.heap.size w w' := by
  subst hn hm hb
  exact SameBytes_any A B c d xs ys hx hy w hA hB

end Go.Proofs.YtljolpdpblohcaaDoor
