/-
  DERIVED. GIVEN WITH THE SEED: THE CARDS: each row of YtljolpdpblohcaaDoorRows.lean that lists a variable, with what it lists TIED to the program's text (the seventh form; the later family's looks); each row that meets fmt, with fmt's text TOLD by the authors' own Lean function (tested against real Go, not proved from fmt's source: count such statements apart). THE CARD IS WHAT COUNTS. Prove the row's statement (the work); the ties are given (YtljolpdpblohcaaDoorTie.lean); close each card by the builder's one call (the guide's Derived/Test/ToyasCard.lean, 'card_holds'). Laid BY PROGRAM, IN A SANDBOX (cutbox-door.mjs). By AI agents, Wed Nov 11 2026. No macro, syntax, notation, axiom, sorry.
-/
import Derived.Test.YtljolpdpblohcaaDoorRows
import GoSem.ClaimSeven
namespace Go.Proofs.YtljolpdpblohcaaDoor
namespace Rows

/-- THE TIED CARD OF 'imprimaturlaw04.FieldScalars'. -/
def fieldScalarsCard : Claim7 := { stood := { row := fieldScalarsRow, standIns := [], harness := (true, "7d2c27b929568f0ff6b242ee743fd7d5b33e039ad38333eb67c14a6dff9c6362"), looks := false }, kinds := [], alts := [], laidByText := true, laidKinds := [.widerDeep], laidTests := true, laidLooks := .later }
def FieldScalarsCardSaid : Prop := Claim7.holds Tryd.pinned (.plain (OpenSpec.ofChange fieldScalarsSpec)) fieldScalarsCard

/-- THE TIED CARD OF 'imprimaturlaw04.FieldTimes'. -/
def fieldTimesCard : Claim7 := { stood := { row := fieldTimesRow, standIns := [], harness := (true, "7d2c27b929568f0ff6b242ee743fd7d5b33e039ad38333eb67c14a6dff9c6362"), looks := false }, kinds := [], alts := [], laidByText := true, laidKinds := [.widerDeep], laidTests := true, laidLooks := .later }
def FieldTimesCardSaid : Prop := Claim7.holds Tryd.pinned (.plain (OpenSpec.ofChange fieldTimesSpec)) fieldTimesCard

/-- THE TIED CARD OF 'imprimaturlaw04.FieldShares'. -/
def fieldSharesCard : Claim7 := { stood := { row := fieldSharesRow, standIns := [], harness := (true, "7d2c27b929568f0ff6b242ee743fd7d5b33e039ad38333eb67c14a6dff9c6362"), looks := false }, kinds := [], alts := [], laidByText := true, laidKinds := [.widerDeep], laidTests := true, laidLooks := .later }
def FieldSharesCardSaid : Prop := Claim7.holds Tryd.pinned (.plain (OpenSpec.ofChange fieldSharesSpec)) fieldSharesCard

/-- THE SECOND FORM's CARD OF 'imprimaturlaw04.FieldScalars'. -/
def fieldScalarsUptoCard : Claim7 := { stood := { row := fieldScalarsUptoRow, standIns := [], harness := (true, "7d2c27b929568f0ff6b242ee743fd7d5b33e039ad38333eb67c14a6dff9c6362"), looks := false }, kinds := [], alts := [], laidByText := true, laidKinds := [.widerDeep], laidTests := true, laidLooks := .later }
def FieldScalarsUptoCardSaid : Prop := Claim7.holds Tryd.pinned (.plain (OpenSpec.upto fieldScalarsSpec)) fieldScalarsUptoCard

/-- THE SECOND FORM's CARD OF 'imprimaturlaw04.FieldTimes'. -/
def fieldTimesUptoCard : Claim7 := { stood := { row := fieldTimesUptoRow, standIns := [], harness := (true, "7d2c27b929568f0ff6b242ee743fd7d5b33e039ad38333eb67c14a6dff9c6362"), looks := false }, kinds := [], alts := [], laidByText := true, laidKinds := [.widerDeep], laidTests := true, laidLooks := .later }
def FieldTimesUptoCardSaid : Prop := Claim7.holds Tryd.pinned (.plain (OpenSpec.upto fieldTimesSpec)) fieldTimesUptoCard

/-- THE SECOND FORM's CARD OF 'imprimaturlaw04.FieldShares'. -/
def fieldSharesUptoCard : Claim7 := { stood := { row := fieldSharesUptoRow, standIns := [], harness := (true, "7d2c27b929568f0ff6b242ee743fd7d5b33e039ad38333eb67c14a6dff9c6362"), looks := false }, kinds := [], alts := [], laidByText := true, laidKinds := [.widerDeep], laidTests := true, laidLooks := .later }
def FieldSharesUptoCardSaid : Prop := Claim7.holds Tryd.pinned (.plain (OpenSpec.upto fieldSharesSpec)) fieldSharesUptoCard
end Rows
end Go.Proofs.YtljolpdpblohcaaDoor
