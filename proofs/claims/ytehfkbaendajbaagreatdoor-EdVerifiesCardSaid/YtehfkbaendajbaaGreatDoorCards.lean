/-
  DERIVED. GIVEN WITH THE SEED: THE CARDS: each row of YtehfkbaendajbaaGreatDoorRows.lean that lists a variable, with what it lists TIED to the program's text (the seventh form; the later family's looks); each row that meets fmt, with fmt's text TOLD by the authors' own Lean function (tested against real Go, not proved from fmt's source: count such statements apart). THE CARD IS WHAT COUNTS. Prove the row's statement (the work); the ties are given (YtehfkbaendajbaaGreatDoorTie.lean); close each card by the builder's one call (the guide's Derived/Test/ToyasCard.lean, 'card_holds'). Laid BY PROGRAM, IN A SANDBOX (cutbox-door.mjs). By AI agents, Wed Nov 11 2026. No macro, syntax, notation, axiom, sorry.
-/
import Derived.Test.YtehfkbaendajbaaGreatDoorRows
import GoSem.ClaimSeven
namespace Go.Proofs.YtehfkbaendajbaaGreatDoor
namespace Rows

/-- THE TIED CARD OF 'imprimaturlaw05.EdSigns'. -/
def edSignsCard : Claim7 := { stood := { row := edSignsRow, standIns := [], harness := (true, "442fac7cce3990444957d2d7fb37b897080886019b911eff12ef7574d0e8a946"), looks := false }, kinds := [], alts := [], laidByText := true, laidKinds := [.data, .data, .widerDeep, .data, .data, .data, .data], laidTests := true, laidLooks := .later }
def EdSignsCardSaid : Prop := Claim7.holds Tryz.pinned (.plain (OpenSpec.ofChange edSignsSpec)) edSignsCard

/-- THE TIED CARD OF 'imprimaturlaw05.EdVerifies'. -/
def edVerifiesCard : Claim7 := { stood := { row := edVerifiesRow, standIns := [], harness := (true, "442fac7cce3990444957d2d7fb37b897080886019b911eff12ef7574d0e8a946"), looks := false }, kinds := [], alts := [], laidByText := true, laidKinds := [.data, .data, .widerDeep, .data, .data, .data, .data, .data], laidTests := true, laidLooks := .later }
def EdVerifiesCardSaid : Prop := Claim7.holds Tryz.pinned (.plain (OpenSpec.ofChange edVerifiesSpec)) edVerifiesCard

/-- THE SECOND FORM's CARD OF 'imprimaturlaw05.EdSigns'. -/
def edSignsUptoCard : Claim7 := { stood := { row := edSignsUptoRow, standIns := [], harness := (true, "442fac7cce3990444957d2d7fb37b897080886019b911eff12ef7574d0e8a946"), looks := false }, kinds := [], alts := [], laidByText := true, laidKinds := [.data, .data, .widerDeep, .data, .data, .data, .data], laidTests := true, laidLooks := .later }
def EdSignsUptoCardSaid : Prop := Claim7.holds Tryz.pinned (.plain (OpenSpec.upto edSignsSpec)) edSignsUptoCard

/-- THE SECOND FORM's CARD OF 'imprimaturlaw05.EdVerifies'. -/
def edVerifiesUptoCard : Claim7 := { stood := { row := edVerifiesUptoRow, standIns := [], harness := (true, "442fac7cce3990444957d2d7fb37b897080886019b911eff12ef7574d0e8a946"), looks := false }, kinds := [], alts := [], laidByText := true, laidKinds := [.data, .data, .widerDeep, .data, .data, .data, .data, .data], laidTests := true, laidLooks := .later }
def EdVerifiesUptoCardSaid : Prop := Claim7.holds Tryz.pinned (.plain (OpenSpec.upto edVerifiesSpec)) edVerifiesUptoCard
end Rows
end Go.Proofs.YtehfkbaendajbaaGreatDoor
