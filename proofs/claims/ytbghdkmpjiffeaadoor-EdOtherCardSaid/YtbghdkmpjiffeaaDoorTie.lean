/-
  DERIVED. GIVEN WITH THE SEED: THE PROGRAM's TIES (one call each: nine closed facts by the kernel) AND EACH ROW's TIE, after the 31st guide's Derived/Test/Toyas{Tie, Card}.lean. No idea stands in it: it is a product of the set-up. Laid BY PROGRAM, IN A SANDBOX (cutbox-door.mjs). By AI agents, Wed Nov 11 2026. No macro, syntax, notation, axiom, sorry.
-/
import Derived.Test.YtbghdkmpjiffeaaDoorRows
import Derived.LaidByTextLater
import Derived.SevenTiedAt
import Derived.LaidSub
import Derived.LaidOnce
namespace Go.Proofs.YtbghdkmpjiffeaaDoor
open Go
set_option maxRecDepth 100000
theorem seatTie1 : Tryd.prog.laidByTextLater [("imprimatur/sha2.constants", Rows.laid_imprimatur_sha2_constants), ("imprimatur/sha2.starts", Rows.laid_imprimatur_sha2_starts), ("imprimatur/field.order", Rows.laid_imprimatur_field_order), ("imprimatur/ed.curve", Rows.laid_imprimatur_ed_curve), ("imprimatur/ed.once", Rows.laid_imprimatur_ed_once), ("imprimatur/ed.baseX", Rows.laid_imprimatur_ed_baseX), ("imprimatur/ed.baseY", Rows.laid_imprimatur_ed_baseY), ("imprimatur/ed.baseT", Rows.laid_imprimatur_ed_baseT)] [.data, .data, .widerDeep, .data, .data, .data, .data, .data] true :=
  Program.laidByTextLater_by_one 49 8 81 (by kernel_rfl) (by kernel_rfl) (by kernel_rfl) (by kernel_rfl) (by kernel_rfl) (by kernel_rfl) (fun _ _ => by kernel_rfl)
theorem noOwnUnsafe : Tryd.pinned.checked.prog.headLifts.contains "ownunsafe" = false := by kernel_rfl
theorem tie : Tryd.prog.laidByTextLater [("imprimatur/sha2.constants", Rows.laid_imprimatur_sha2_constants), ("imprimatur/sha2.starts", Rows.laid_imprimatur_sha2_starts), ("imprimatur/ed.curve", Rows.laid_imprimatur_ed_curve), ("imprimatur/ed.once", Rows.laid_imprimatur_ed_once), ("imprimatur/ed.baseX", Rows.laid_imprimatur_ed_baseX), ("imprimatur/ed.baseY", Rows.laid_imprimatur_ed_baseY), ("imprimatur/ed.baseT", Rows.laid_imprimatur_ed_baseT)] [.data, .data, .data, .data, .data, .data, .data] true :=
  Program.laidByTextLater.sub seatTie1 ["imprimatur/sha2.constants", "imprimatur/sha2.starts", "imprimatur/ed.curve", "imprimatur/ed.once", "imprimatur/ed.baseX", "imprimatur/ed.baseY", "imprimatur/ed.baseT"] (by kernel_rfl) (by kernel_rfl)
theorem edReads_row_tie : Rows.edReadsRow.laidByTextAt .later Tryd.pinned [.data, .data, .data, .data, .data, .data, .data] true :=
  OpenClaim.laidByTextAt_later rfl rfl tie noOwnUnsafe
theorem edOn_row_tie : Rows.edOnRow.laidByTextAt .later Tryd.pinned [.data, .data, .data, .data, .data, .data, .data] true :=
  OpenClaim.laidByTextAt_later rfl rfl tie noOwnUnsafe
theorem edAdds_row_tie : Rows.edAddsRow.laidByTextAt .later Tryd.pinned [.data, .data, .data, .data, .data, .data, .data] true :=
  OpenClaim.laidByTextAt_later rfl rfl tie noOwnUnsafe
theorem edShares_row_tie : Rows.edSharesRow.laidByTextAt .later Tryd.pinned [.data, .data, .data, .data, .data, .data, .data] true :=
  OpenClaim.laidByTextAt_later rfl rfl tie noOwnUnsafe
theorem edMuls_row_tie : Rows.edMulsRow.laidByTextAt .later Tryd.pinned [.data, .data, .data, .data, .data, .data, .data] true :=
  OpenClaim.laidByTextAt_later rfl rfl tie noOwnUnsafe
theorem edGroup_row_tie : Rows.edGroupRow.laidByTextAt .later Tryd.pinned [.data, .data, .data, .data, .data, .data, .data] true :=
  OpenClaim.laidByTextAt_later rfl rfl tie noOwnUnsafe
theorem tie2 : Tryd.prog.laidByTextLater [("imprimatur/sha2.constants", Rows.laid_imprimatur_sha2_constants), ("imprimatur/sha2.starts", Rows.laid_imprimatur_sha2_starts), ("imprimatur/field.order", Rows.laid_imprimatur_field_order), ("imprimatur/ed.curve", Rows.laid_imprimatur_ed_curve), ("imprimatur/ed.once", Rows.laid_imprimatur_ed_once), ("imprimatur/ed.baseX", Rows.laid_imprimatur_ed_baseX), ("imprimatur/ed.baseY", Rows.laid_imprimatur_ed_baseY), ("imprimatur/ed.baseT", Rows.laid_imprimatur_ed_baseT)] [.data, .data, .widerDeep, .data, .data, .data, .data, .data] true :=
  Program.laidByTextLater.sub seatTie1 ["imprimatur/sha2.constants", "imprimatur/sha2.starts", "imprimatur/field.order", "imprimatur/ed.curve", "imprimatur/ed.once", "imprimatur/ed.baseX", "imprimatur/ed.baseY", "imprimatur/ed.baseT"] (by kernel_rfl) (by kernel_rfl)
theorem edOwn_row_tie : Rows.edOwnRow.laidByTextAt .later Tryd.pinned [.data, .data, .widerDeep, .data, .data, .data, .data, .data] true :=
  OpenClaim.laidByTextAt_later rfl rfl tie2 noOwnUnsafe
theorem edOther_row_tie : Rows.edOtherRow.laidByTextAt .later Tryd.pinned [.data, .data, .widerDeep, .data, .data, .data, .data, .data] true :=
  OpenClaim.laidByTextAt_later rfl rfl tie2 noOwnUnsafe
theorem edLong_row_tie : Rows.edLongRow.laidByTextAt .later Tryd.pinned [.data, .data, .widerDeep, .data, .data, .data, .data, .data] true :=
  OpenClaim.laidByTextAt_later rfl rfl tie2 noOwnUnsafe
theorem edReadsUpto_row_tie : Rows.edReadsUptoRow.laidByTextAt .later Tryd.pinned [.data, .data, .data, .data, .data, .data, .data] true :=
  OpenClaim.laidByTextAt_later rfl rfl tie noOwnUnsafe
theorem edOnUpto_row_tie : Rows.edOnUptoRow.laidByTextAt .later Tryd.pinned [.data, .data, .data, .data, .data, .data, .data] true :=
  OpenClaim.laidByTextAt_later rfl rfl tie noOwnUnsafe
theorem edAddsUpto_row_tie : Rows.edAddsUptoRow.laidByTextAt .later Tryd.pinned [.data, .data, .data, .data, .data, .data, .data] true :=
  OpenClaim.laidByTextAt_later rfl rfl tie noOwnUnsafe
theorem edSharesUpto_row_tie : Rows.edSharesUptoRow.laidByTextAt .later Tryd.pinned [.data, .data, .data, .data, .data, .data, .data] true :=
  OpenClaim.laidByTextAt_later rfl rfl tie noOwnUnsafe
theorem edMulsUpto_row_tie : Rows.edMulsUptoRow.laidByTextAt .later Tryd.pinned [.data, .data, .data, .data, .data, .data, .data] true :=
  OpenClaim.laidByTextAt_later rfl rfl tie noOwnUnsafe
theorem edGroupUpto_row_tie : Rows.edGroupUptoRow.laidByTextAt .later Tryd.pinned [.data, .data, .data, .data, .data, .data, .data] true :=
  OpenClaim.laidByTextAt_later rfl rfl tie noOwnUnsafe
theorem edOwnUpto_row_tie : Rows.edOwnUptoRow.laidByTextAt .later Tryd.pinned [.data, .data, .widerDeep, .data, .data, .data, .data, .data] true :=
  OpenClaim.laidByTextAt_later rfl rfl tie2 noOwnUnsafe
theorem edOtherUpto_row_tie : Rows.edOtherUptoRow.laidByTextAt .later Tryd.pinned [.data, .data, .widerDeep, .data, .data, .data, .data, .data] true :=
  OpenClaim.laidByTextAt_later rfl rfl tie2 noOwnUnsafe
theorem edLongUpto_row_tie : Rows.edLongUptoRow.laidByTextAt .later Tryd.pinned [.data, .data, .widerDeep, .data, .data, .data, .data, .data] true :=
  OpenClaim.laidByTextAt_later rfl rfl tie2 noOwnUnsafe
end Go.Proofs.YtbghdkmpjiffeaaDoor
