/-
  DERIVED. GIVEN WITH THE SEED: THE CARDS: each row of YtbghdkmpjiffeaaDoorRows.lean that lists a variable, with what it lists TIED to the program's text (the seventh form; the later family's looks); each row that meets fmt, with fmt's text TOLD by the authors' own Lean function (tested against real Go, not proved from fmt's source: count such statements apart). THE CARD IS WHAT COUNTS. Prove the row's statement (the work); the ties are given (YtbghdkmpjiffeaaDoorTie.lean); close each card by the builder's one call (the guide's Derived/Test/ToyasCard.lean, 'card_holds'). Laid BY PROGRAM, IN A SANDBOX (cutbox-door.mjs). By AI agents, Wed Nov 11 2026. No macro, syntax, notation, axiom, sorry.
-/
import Derived.Test.YtbghdkmpjiffeaaDoorRows
import GoSem.ClaimSeven
namespace Go.Proofs.YtbghdkmpjiffeaaDoor
namespace Rows

/-- THE TIED CARD OF 'imprimaturlaw05.EdReads'. -/
def edReadsCard : Claim7 := { stood := { row := edReadsRow, standIns := [], harness := (true, "0f95a86f4b0bab74ae68208c68a1990d2615e57689ca15e110a62c814f1842c4"), looks := false }, kinds := [], alts := [], laidByText := true, laidKinds := [.data, .data, .data, .data, .data, .data, .data], laidTests := true, laidLooks := .later }
def EdReadsCardSaid : Prop := Claim7.holds Tryd.pinned (.plain (OpenSpec.ofChange edReadsSpec)) edReadsCard

/-- THE TIED CARD OF 'imprimaturlaw05.EdOn'. -/
def edOnCard : Claim7 := { stood := { row := edOnRow, standIns := [], harness := (true, "0f95a86f4b0bab74ae68208c68a1990d2615e57689ca15e110a62c814f1842c4"), looks := false }, kinds := [], alts := [], laidByText := true, laidKinds := [.data, .data, .data, .data, .data, .data, .data], laidTests := true, laidLooks := .later }
def EdOnCardSaid : Prop := Claim7.holds Tryd.pinned (.plain (OpenSpec.ofChange edOnSpec)) edOnCard

/-- THE TIED CARD OF 'imprimaturlaw05.EdAdds'. -/
def edAddsCard : Claim7 := { stood := { row := edAddsRow, standIns := [], harness := (true, "0f95a86f4b0bab74ae68208c68a1990d2615e57689ca15e110a62c814f1842c4"), looks := false }, kinds := [], alts := [], laidByText := true, laidKinds := [.data, .data, .data, .data, .data, .data, .data], laidTests := true, laidLooks := .later }
def EdAddsCardSaid : Prop := Claim7.holds Tryd.pinned (.plain (OpenSpec.ofChange edAddsSpec)) edAddsCard

/-- THE TIED CARD OF 'imprimaturlaw05.EdShares'. -/
def edSharesCard : Claim7 := { stood := { row := edSharesRow, standIns := [], harness := (true, "0f95a86f4b0bab74ae68208c68a1990d2615e57689ca15e110a62c814f1842c4"), looks := false }, kinds := [], alts := [], laidByText := true, laidKinds := [.data, .data, .data, .data, .data, .data, .data], laidTests := true, laidLooks := .later }
def EdSharesCardSaid : Prop := Claim7.holds Tryd.pinned (.plain (OpenSpec.ofChange edSharesSpec)) edSharesCard

/-- THE TIED CARD OF 'imprimaturlaw05.EdMuls'. -/
def edMulsCard : Claim7 := { stood := { row := edMulsRow, standIns := [], harness := (true, "0f95a86f4b0bab74ae68208c68a1990d2615e57689ca15e110a62c814f1842c4"), looks := false }, kinds := [], alts := [], laidByText := true, laidKinds := [.data, .data, .data, .data, .data, .data, .data], laidTests := true, laidLooks := .later }
def EdMulsCardSaid : Prop := Claim7.holds Tryd.pinned (.plain (OpenSpec.ofChange edMulsSpec)) edMulsCard

/-- THE TIED CARD OF 'imprimaturlaw05.EdGroup'. -/
def edGroupCard : Claim7 := { stood := { row := edGroupRow, standIns := [], harness := (true, "0f95a86f4b0bab74ae68208c68a1990d2615e57689ca15e110a62c814f1842c4"), looks := false }, kinds := [], alts := [], laidByText := true, laidKinds := [.data, .data, .data, .data, .data, .data, .data], laidTests := true, laidLooks := .later }
def EdGroupCardSaid : Prop := Claim7.holds Tryd.pinned (.plain (OpenSpec.ofChange edGroupSpec)) edGroupCard

/-- THE TIED CARD OF 'imprimaturlaw05.EdOwn'. -/
def edOwnCard : Claim7 := { stood := { row := edOwnRow, standIns := [], harness := (true, "0f95a86f4b0bab74ae68208c68a1990d2615e57689ca15e110a62c814f1842c4"), looks := false }, kinds := [], alts := [], laidByText := true, laidKinds := [.data, .data, .widerDeep, .data, .data, .data, .data, .data], laidTests := true, laidLooks := .later }
def EdOwnCardSaid : Prop := Claim7.holds Tryd.pinned (.plain (OpenSpec.ofChange edOwnSpec)) edOwnCard

/-- THE TIED CARD OF 'imprimaturlaw05.EdOther'. -/
def edOtherCard : Claim7 := { stood := { row := edOtherRow, standIns := [], harness := (true, "0f95a86f4b0bab74ae68208c68a1990d2615e57689ca15e110a62c814f1842c4"), looks := false }, kinds := [], alts := [], laidByText := true, laidKinds := [.data, .data, .widerDeep, .data, .data, .data, .data, .data], laidTests := true, laidLooks := .later }
def EdOtherCardSaid : Prop := Claim7.holds Tryd.pinned (.plain (OpenSpec.ofChange edOtherSpec)) edOtherCard

/-- THE TIED CARD OF 'imprimaturlaw05.EdLong'. -/
def edLongCard : Claim7 := { stood := { row := edLongRow, standIns := [], harness := (true, "0f95a86f4b0bab74ae68208c68a1990d2615e57689ca15e110a62c814f1842c4"), looks := false }, kinds := [], alts := [], laidByText := true, laidKinds := [.data, .data, .widerDeep, .data, .data, .data, .data, .data], laidTests := true, laidLooks := .later }
def EdLongCardSaid : Prop := Claim7.holds Tryd.pinned (.plain (OpenSpec.ofChange edLongSpec)) edLongCard

/-- THE SECOND FORM's CARD OF 'imprimaturlaw05.EdReads'. -/
def edReadsUptoCard : Claim7 := { stood := { row := edReadsUptoRow, standIns := [], harness := (true, "0f95a86f4b0bab74ae68208c68a1990d2615e57689ca15e110a62c814f1842c4"), looks := false }, kinds := [], alts := [], laidByText := true, laidKinds := [.data, .data, .data, .data, .data, .data, .data], laidTests := true, laidLooks := .later }
def EdReadsUptoCardSaid : Prop := Claim7.holds Tryd.pinned (.plain (OpenSpec.upto edReadsSpec)) edReadsUptoCard

/-- THE SECOND FORM's CARD OF 'imprimaturlaw05.EdOn'. -/
def edOnUptoCard : Claim7 := { stood := { row := edOnUptoRow, standIns := [], harness := (true, "0f95a86f4b0bab74ae68208c68a1990d2615e57689ca15e110a62c814f1842c4"), looks := false }, kinds := [], alts := [], laidByText := true, laidKinds := [.data, .data, .data, .data, .data, .data, .data], laidTests := true, laidLooks := .later }
def EdOnUptoCardSaid : Prop := Claim7.holds Tryd.pinned (.plain (OpenSpec.upto edOnSpec)) edOnUptoCard

/-- THE SECOND FORM's CARD OF 'imprimaturlaw05.EdAdds'. -/
def edAddsUptoCard : Claim7 := { stood := { row := edAddsUptoRow, standIns := [], harness := (true, "0f95a86f4b0bab74ae68208c68a1990d2615e57689ca15e110a62c814f1842c4"), looks := false }, kinds := [], alts := [], laidByText := true, laidKinds := [.data, .data, .data, .data, .data, .data, .data], laidTests := true, laidLooks := .later }
def EdAddsUptoCardSaid : Prop := Claim7.holds Tryd.pinned (.plain (OpenSpec.upto edAddsSpec)) edAddsUptoCard

/-- THE SECOND FORM's CARD OF 'imprimaturlaw05.EdShares'. -/
def edSharesUptoCard : Claim7 := { stood := { row := edSharesUptoRow, standIns := [], harness := (true, "0f95a86f4b0bab74ae68208c68a1990d2615e57689ca15e110a62c814f1842c4"), looks := false }, kinds := [], alts := [], laidByText := true, laidKinds := [.data, .data, .data, .data, .data, .data, .data], laidTests := true, laidLooks := .later }
def EdSharesUptoCardSaid : Prop := Claim7.holds Tryd.pinned (.plain (OpenSpec.upto edSharesSpec)) edSharesUptoCard

/-- THE SECOND FORM's CARD OF 'imprimaturlaw05.EdMuls'. -/
def edMulsUptoCard : Claim7 := { stood := { row := edMulsUptoRow, standIns := [], harness := (true, "0f95a86f4b0bab74ae68208c68a1990d2615e57689ca15e110a62c814f1842c4"), looks := false }, kinds := [], alts := [], laidByText := true, laidKinds := [.data, .data, .data, .data, .data, .data, .data], laidTests := true, laidLooks := .later }
def EdMulsUptoCardSaid : Prop := Claim7.holds Tryd.pinned (.plain (OpenSpec.upto edMulsSpec)) edMulsUptoCard

/-- THE SECOND FORM's CARD OF 'imprimaturlaw05.EdGroup'. -/
def edGroupUptoCard : Claim7 := { stood := { row := edGroupUptoRow, standIns := [], harness := (true, "0f95a86f4b0bab74ae68208c68a1990d2615e57689ca15e110a62c814f1842c4"), looks := false }, kinds := [], alts := [], laidByText := true, laidKinds := [.data, .data, .data, .data, .data, .data, .data], laidTests := true, laidLooks := .later }
def EdGroupUptoCardSaid : Prop := Claim7.holds Tryd.pinned (.plain (OpenSpec.upto edGroupSpec)) edGroupUptoCard

/-- THE SECOND FORM's CARD OF 'imprimaturlaw05.EdOwn'. -/
def edOwnUptoCard : Claim7 := { stood := { row := edOwnUptoRow, standIns := [], harness := (true, "0f95a86f4b0bab74ae68208c68a1990d2615e57689ca15e110a62c814f1842c4"), looks := false }, kinds := [], alts := [], laidByText := true, laidKinds := [.data, .data, .widerDeep, .data, .data, .data, .data, .data], laidTests := true, laidLooks := .later }
def EdOwnUptoCardSaid : Prop := Claim7.holds Tryd.pinned (.plain (OpenSpec.upto edOwnSpec)) edOwnUptoCard

/-- THE SECOND FORM's CARD OF 'imprimaturlaw05.EdOther'. -/
def edOtherUptoCard : Claim7 := { stood := { row := edOtherUptoRow, standIns := [], harness := (true, "0f95a86f4b0bab74ae68208c68a1990d2615e57689ca15e110a62c814f1842c4"), looks := false }, kinds := [], alts := [], laidByText := true, laidKinds := [.data, .data, .widerDeep, .data, .data, .data, .data, .data], laidTests := true, laidLooks := .later }
def EdOtherUptoCardSaid : Prop := Claim7.holds Tryd.pinned (.plain (OpenSpec.upto edOtherSpec)) edOtherUptoCard

/-- THE SECOND FORM's CARD OF 'imprimaturlaw05.EdLong'. -/
def edLongUptoCard : Claim7 := { stood := { row := edLongUptoRow, standIns := [], harness := (true, "0f95a86f4b0bab74ae68208c68a1990d2615e57689ca15e110a62c814f1842c4"), looks := false }, kinds := [], alts := [], laidByText := true, laidKinds := [.data, .data, .widerDeep, .data, .data, .data, .data, .data], laidTests := true, laidLooks := .later }
def EdLongUptoCardSaid : Prop := Claim7.holds Tryd.pinned (.plain (OpenSpec.upto edLongSpec)) edLongUptoCard
end Rows
end Go.Proofs.YtbghdkmpjiffeaaDoor
