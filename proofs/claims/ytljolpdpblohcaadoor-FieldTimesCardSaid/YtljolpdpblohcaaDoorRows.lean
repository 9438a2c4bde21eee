/-
  NARROWER THAN 'FOR EVERY INPUT', by the rows' own cells (each row's printed sentence says how): FieldScalars: laid · FieldTimes: laid · FieldShares: laid.
  DERIVED. THE GIVEN ROWS OF THIS SEAT. 3 by the template 'for every input the law returns true; each argument reads behind the call as it read before'; 0 by the template 'total and deterministic' (their statements: YtljolpdpblohcaaDoorTotals.lean).
  GIVEN WITH THE SEED: the statements are not yours to turn. If you find one false, say at which input.
  Laid BY PROGRAM, IN A SANDBOX (cutbox-rows.mjs): the forced cells as the released guide's own fill.sh prints them over the translation c2ea7e847c3647bc… (all of the seat's roots in one cut). By AI agents, Wed Nov 11 2026. No macro, syntax, notation, axiom, sorry.
-/
import Derived.Test.YtljolpdpblohcaaDoorChecked
import GoSem.Claim
import GoSem.ClaimJoined
import GoSem.ClaimMapViews
import Derived.JoinedTies
import Derived.KernelRfl
namespace Go.Proofs.YtljolpdpblohcaaDoor
/- THE CELL 'sum', in the pinned program and in every row, IS THE sha256 OF THE DUMP (.gsa) THAT YtljolpdpblohcaaDoorProg.lean LOADS. Nothing in Lean hashes anything: it is a label: what it is worth is what the hold of that sum in a sandbox is worth. -/
noncomputable def Tryd.pinned : Pinned := { name := "ytljolpdpblohcaadoor", sum := "c2ea7e847c3647bc9152a38a75a22d8827e0b4c044b679ed703931ae93ff6580", checked := Tryd.checked }
namespace Rows
def none {H : Type} : Left H := { results := [], args := [] }

/- WHAT THE LISTED PACKAGE-LEVEL VARIABLES READ AS WHEN THE CALL BEGINS. Each datum BY PROGRAM (the guide's laid-datum.mjs) off the statement by which the dump's own 'gosem.cut.vars' lays the variable. In a bare row this is a premise. The card (YtljolpdpblohcaaDoorCards.lean) ties it to the program's text. -/
def laid_imprimatur_field_order {H : Type} : DataW H := .agg [.lit (.int .u64 6346243789798364141), .lit (.int .u64 1503914060200516822), .lit (.int .u64 0), .lit (.int .u64 1152921504606846976)]

/-- 'imprimaturlaw04.FieldScalars': WHATEVER THE INPUT: true; the input reads as it did. -/
def fieldScalarsSpec : ChangeSpec := { name := "fieldScalars", fn := fun _ => fun
  | [d] => { results := [.lit (.bool true)], args := [d] }
  | _ => none }
def fieldScalarsRow : OpenClaim := { program := "ytljolpdpblohcaadoor", sum := "c2ea7e847c3647bc9152a38a75a22d8827e0b4c044b679ed703931ae93ff6580", func := "imprimatur/imprimaturlaw04.FieldScalars", spec := "fieldScalars", inPlace := ["math/bits.Add64", "math/bits.Sub64"], recurses := true, named := ["imprimatur/field.order"], apart := false, laid := [("imprimatur/field.order", laid_imprimatur_field_order)] }
def FieldScalarsSaid : Prop := fieldScalarsRow.holds Tryd.pinned (OpenSpec.ofChange fieldScalarsSpec)

/-- ITS FALSE NEIGHBOUR: 'it returns false'. Refute it at one input. -/
def fieldScalarsWrong : ChangeSpec := { name := "fieldScalars", fn := fun _ => fun
  | [d] => { results := [.lit (.bool false)], args := [d] }
  | _ => none }
def FieldScalarsWrongFalsely : Prop := fieldScalarsRow.holds Tryd.pinned (OpenSpec.ofChange fieldScalarsWrong)

/-- 'imprimaturlaw04.FieldTimes': WHATEVER THE INPUT: true; the input reads as it did. -/
def fieldTimesSpec : ChangeSpec := { name := "fieldTimes", fn := fun _ => fun
  | [d1, d2, d3] => { results := [.lit (.bool true)], args := [d1, d2, d3] }
  | _ => none }
def fieldTimesRow : OpenClaim := { program := "ytljolpdpblohcaadoor", sum := "c2ea7e847c3647bc9152a38a75a22d8827e0b4c044b679ed703931ae93ff6580", func := "imprimatur/imprimaturlaw04.FieldTimes", spec := "fieldTimes", inPlace := ["math/bits.Add64", "math/bits.Sub64"], recurses := true, named := ["imprimatur/field.order"], apart := false, laid := [("imprimatur/field.order", laid_imprimatur_field_order)] }
def FieldTimesSaid : Prop := fieldTimesRow.holds Tryd.pinned (OpenSpec.ofChange fieldTimesSpec)

/-- ITS FALSE NEIGHBOUR: 'it returns false'. Refute it at one input. -/
def fieldTimesWrong : ChangeSpec := { name := "fieldTimes", fn := fun _ => fun
  | [d1, d2, d3] => { results := [.lit (.bool false)], args := [d1, d2, d3] }
  | _ => none }
def FieldTimesWrongFalsely : Prop := fieldTimesRow.holds Tryd.pinned (OpenSpec.ofChange fieldTimesWrong)

/-- 'imprimaturlaw04.FieldShares': WHATEVER THE INPUT: true; the input reads as it did. -/
def fieldSharesSpec : ChangeSpec := { name := "fieldShares", fn := fun _ => fun
  | [d1, d2, d3] => { results := [.lit (.bool true)], args := [d1, d2, d3] }
  | _ => none }
def fieldSharesRow : OpenClaim := { program := "ytljolpdpblohcaadoor", sum := "c2ea7e847c3647bc9152a38a75a22d8827e0b4c044b679ed703931ae93ff6580", func := "imprimatur/imprimaturlaw04.FieldShares", spec := "fieldShares", inPlace := ["math/bits.Add64", "math/bits.Sub64"], named := ["imprimatur/field.order"], apart := false, laid := [("imprimatur/field.order", laid_imprimatur_field_order)] }
def FieldSharesSaid : Prop := fieldSharesRow.holds Tryd.pinned (OpenSpec.ofChange fieldSharesSpec)

/-- ITS FALSE NEIGHBOUR: 'it returns false'. Refute it at one input. -/
def fieldSharesWrong : ChangeSpec := { name := "fieldShares", fn := fun _ => fun
  | [d1, d2, d3] => { results := [.lit (.bool false)], args := [d1, d2, d3] }
  | _ => none }
def FieldSharesWrongFalsely : Prop := fieldSharesRow.holds Tryd.pinned (OpenSpec.ofChange fieldSharesWrong)

/- THE SECOND FORM. 'bulk': how many values and letters a reading holds, each counted each time it is reached (what is shared counts as often as it is met; a slice's spare places count too). A statement '..UptoSaid' is the law's where the arguments, and the package variables that the reading takes, are together of bulk at most 1048576: NARROWER than '..Said'. Prove '..Said' where nothing that the law and all that it calls make is longer than what came in: it says more and counts as full. Else prove '..UptoSaid'. A law counts once. -/
mutual
def uptoBulk {H : Type} : DataW H → Nat
  | .lit (.string bytes) => bytes.length + 1
  | .lit _ => 1
  | .nil => 1
  | .ptr d => uptoBulk d + 1
  | .slice elems spare => uptoBulkAll elems + uptoBulkAll spare + 1
  | .agg parts => uptoBulkAll parts + 1
  | .iface _ d => uptoBulk d + 1
  | .map entries => uptoBulkEntries entries + 1
  | .held _ => 1
def uptoBulkAll {H : Type} : List (DataW H) → Nat
  | [] => 0
  | d :: r => uptoBulk d + uptoBulkAll r
def uptoBulkEntries {H : Type} : List (Lit × DataW H) → Nat
  | [] => 0
  | x :: r => uptoBulkEntry x + uptoBulkEntries r
def uptoBulkEntry {H : Type} : Lit × DataW H → Nat
  | (.string bytes, d) => bytes.length + uptoBulk d + 1
  | (_, d) => uptoBulk d + 1
 end
def uptoSmall : (H : Type) → List (DataW H) → Bool := fun _ ds => decide (uptoBulkAll ds ≤ 1048576)
def OpenSpec.upto (s : _root_.Go.ChangeSpec) : _root_.Go.OpenSpec := { _root_.Go.OpenSpec.ofChange s with cond := some uptoSmall }

/-- 'imprimaturlaw04.FieldScalars', WHERE WHAT IT READS IS OF BULK AT MOST 1048576: true; the input reads as it did. -/
def fieldScalarsUptoRow : OpenClaim := { program := "ytljolpdpblohcaadoor", sum := "c2ea7e847c3647bc9152a38a75a22d8827e0b4c044b679ed703931ae93ff6580", func := "imprimatur/imprimaturlaw04.FieldScalars", spec := "fieldScalars", inPlace := ["math/bits.Add64", "math/bits.Sub64"], recurses := true, named := ["imprimatur/field.order"], apart := false, laid := [("imprimatur/field.order", laid_imprimatur_field_order)], narrowed := true }
def FieldScalarsUptoSaid : Prop := fieldScalarsUptoRow.holds Tryd.pinned (OpenSpec.upto fieldScalarsSpec)

/-- 'imprimaturlaw04.FieldTimes', WHERE WHAT IT READS IS OF BULK AT MOST 1048576: true; the input reads as it did. -/
def fieldTimesUptoRow : OpenClaim := { program := "ytljolpdpblohcaadoor", sum := "c2ea7e847c3647bc9152a38a75a22d8827e0b4c044b679ed703931ae93ff6580", func := "imprimatur/imprimaturlaw04.FieldTimes", spec := "fieldTimes", inPlace := ["math/bits.Add64", "math/bits.Sub64"], recurses := true, named := ["imprimatur/field.order"], apart := false, laid := [("imprimatur/field.order", laid_imprimatur_field_order)], narrowed := true }
def FieldTimesUptoSaid : Prop := fieldTimesUptoRow.holds Tryd.pinned (OpenSpec.upto fieldTimesSpec)

/-- 'imprimaturlaw04.FieldShares', WHERE WHAT IT READS IS OF BULK AT MOST 1048576: true; the input reads as it did. -/
def fieldSharesUptoRow : OpenClaim := { program := "ytljolpdpblohcaadoor", sum := "c2ea7e847c3647bc9152a38a75a22d8827e0b4c044b679ed703931ae93ff6580", func := "imprimatur/imprimaturlaw04.FieldShares", spec := "fieldShares", inPlace := ["math/bits.Add64", "math/bits.Sub64"], named := ["imprimatur/field.order"], apart := false, laid := [("imprimatur/field.order", laid_imprimatur_field_order)], narrowed := true }
def FieldSharesUptoSaid : Prop := fieldSharesUptoRow.holds Tryd.pinned (OpenSpec.upto fieldSharesSpec)

end Rows
end Go.Proofs.YtljolpdpblohcaaDoor
