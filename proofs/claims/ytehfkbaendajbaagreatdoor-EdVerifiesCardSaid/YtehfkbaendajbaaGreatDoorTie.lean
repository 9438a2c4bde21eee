/-
  DERIVED. GIVEN WITH THE SEED: THE PROGRAM's TIES (one call each: nine closed facts by the kernel) AND EACH ROW's TIE, after the 31st guide's Derived/Test/Toyas{Tie, Card}.lean. No idea stands in it: it is a product of the set-up. Laid BY PROGRAM, IN A SANDBOX (cutbox-door.mjs). By AI agents, Wed Nov 11 2026. No macro, syntax, notation, axiom, sorry.
-/
import Derived.Test.YtehfkbaendajbaaGreatDoorRows
import Derived.LaidByTextLater
import Derived.SevenTiedAt
import Derived.LaidSub
import Derived.LaidOnce
namespace Go.Proofs.YtehfkbaendajbaaGreatDoor
open Go
set_option maxRecDepth 100000
theorem seatTie1 : Tryz.prog.laidByTextLater [("imprimatur/sha2.constants", Rows.laid_imprimatur_sha2_constants), ("imprimatur/sha2.starts", Rows.laid_imprimatur_sha2_starts), ("imprimatur/field.order", Rows.laid_imprimatur_field_order), ("imprimatur/ed.curve", Rows.laid_imprimatur_ed_curve), ("imprimatur/ed.once", Rows.laid_imprimatur_ed_once), ("imprimatur/ed.baseX", Rows.laid_imprimatur_ed_baseX), ("imprimatur/ed.baseY", Rows.laid_imprimatur_ed_baseY), ("imprimatur/ed.baseT", Rows.laid_imprimatur_ed_baseT)] [.data, .data, .widerDeep, .data, .data, .data, .data, .data] true :=
  Program.laidByTextLater_by_one 49 8 81 (by kernel_rfl) (by kernel_rfl) (by kernel_rfl) (by kernel_rfl) (by kernel_rfl) (by kernel_rfl) (fun _ _ => by kernel_rfl)
theorem noOwnUnsafe : Tryz.pinned.checked.prog.headLifts.contains "ownunsafe" = false := by kernel_rfl
theorem tie : Tryz.prog.laidByTextLater [("imprimatur/sha2.constants", Rows.laid_imprimatur_sha2_constants), ("imprimatur/sha2.starts", Rows.laid_imprimatur_sha2_starts), ("imprimatur/field.order", Rows.laid_imprimatur_field_order), ("imprimatur/ed.curve", Rows.laid_imprimatur_ed_curve), ("imprimatur/ed.baseX", Rows.laid_imprimatur_ed_baseX), ("imprimatur/ed.baseY", Rows.laid_imprimatur_ed_baseY), ("imprimatur/ed.baseT", Rows.laid_imprimatur_ed_baseT)] [.data, .data, .widerDeep, .data, .data, .data, .data] true :=
  Program.laidByTextLater.sub seatTie1 ["imprimatur/sha2.constants", "imprimatur/sha2.starts", "imprimatur/field.order", "imprimatur/ed.curve", "imprimatur/ed.baseX", "imprimatur/ed.baseY", "imprimatur/ed.baseT"] (by kernel_rfl) (by kernel_rfl)
theorem edSigns_row_tie : Rows.edSignsRow.laidByTextAt .later Tryz.pinned [.data, .data, .widerDeep, .data, .data, .data, .data] true :=
  OpenClaim.laidByTextAt_later rfl rfl tie noOwnUnsafe
theorem tie2 : Tryz.prog.laidByTextLater [("imprimatur/sha2.constants", Rows.laid_imprimatur_sha2_constants), ("imprimatur/sha2.starts", Rows.laid_imprimatur_sha2_starts), ("imprimatur/field.order", Rows.laid_imprimatur_field_order), ("imprimatur/ed.curve", Rows.laid_imprimatur_ed_curve), ("imprimatur/ed.once", Rows.laid_imprimatur_ed_once), ("imprimatur/ed.baseX", Rows.laid_imprimatur_ed_baseX), ("imprimatur/ed.baseY", Rows.laid_imprimatur_ed_baseY), ("imprimatur/ed.baseT", Rows.laid_imprimatur_ed_baseT)] [.data, .data, .widerDeep, .data, .data, .data, .data, .data] true :=
  Program.laidByTextLater.sub seatTie1 ["imprimatur/sha2.constants", "imprimatur/sha2.starts", "imprimatur/field.order", "imprimatur/ed.curve", "imprimatur/ed.once", "imprimatur/ed.baseX", "imprimatur/ed.baseY", "imprimatur/ed.baseT"] (by kernel_rfl) (by kernel_rfl)
theorem edVerifies_row_tie : Rows.edVerifiesRow.laidByTextAt .later Tryz.pinned [.data, .data, .widerDeep, .data, .data, .data, .data, .data] true :=
  OpenClaim.laidByTextAt_later rfl rfl tie2 noOwnUnsafe
theorem edSignsUpto_row_tie : Rows.edSignsUptoRow.laidByTextAt .later Tryz.pinned [.data, .data, .widerDeep, .data, .data, .data, .data] true :=
  OpenClaim.laidByTextAt_later rfl rfl tie noOwnUnsafe
theorem edVerifiesUpto_row_tie : Rows.edVerifiesUptoRow.laidByTextAt .later Tryz.pinned [.data, .data, .widerDeep, .data, .data, .data, .data, .data] true :=
  OpenClaim.laidByTextAt_later rfl rfl tie2 noOwnUnsafe
end Go.Proofs.YtehfkbaendajbaaGreatDoor
