/-
  DERIVED. GIVEN WITH THE SEED: THE PROGRAM's TIES (one call each: nine closed facts by the kernel) AND EACH ROW's TIE, after the 31st guide's Derived/Test/Toyas{Tie, Card}.lean. No idea stands in it: it is a product of the set-up. Laid BY PROGRAM, IN A SANDBOX (cutbox-door.mjs). By AI agents, Wed Nov 11 2026. No macro, syntax, notation, axiom, sorry.
-/
import Derived.Test.YtdgbdkfoeaollaaGreatDoorRows
import Derived.LaidByTextLater
import Derived.SevenTiedAt
import Derived.LaidSub
import Derived.LaidOnce
namespace Go.Proofs.YtdgbdkfoeaollaaGreatDoor
open Go
set_option maxRecDepth 100000
theorem seatTie1 : Tryz.prog.laidByTextLater [("netlab/bit.ands", Rows.laid_netlab_bit_ands), ("netlab/bit.ors", Rows.laid_netlab_bit_ors), ("netlab/bit.xors", Rows.laid_netlab_bit_xors), ("netlab/bit.nots", Rows.laid_netlab_bit_nots)] [.data, .data, .data, .data] true :=
  Program.laidByTextLater_by_one 29 8 17 (by kernel_rfl) (by kernel_rfl) (by kernel_rfl) (by kernel_rfl) (by kernel_rfl) (by kernel_rfl) (fun _ _ => by kernel_rfl)
theorem noOwnUnsafe : Tryz.pinned.checked.prog.headLifts.contains "ownunsafe" = false := by kernel_rfl
theorem tie : Tryz.prog.laidByTextLater [("netlab/bit.ands", Rows.laid_netlab_bit_ands), ("netlab/bit.ors", Rows.laid_netlab_bit_ors), ("netlab/bit.xors", Rows.laid_netlab_bit_xors), ("netlab/bit.nots", Rows.laid_netlab_bit_nots)] [.data, .data, .data, .data] true :=
  Program.laidByTextLater.sub seatTie1 ["netlab/bit.ands", "netlab/bit.ors", "netlab/bit.xors", "netlab/bit.nots"] (by kernel_rfl) (by kernel_rfl)
theorem vecMonotone_row_tie : Rows.vecMonotoneRow.laidByTextAt .later Tryz.pinned [.data, .data, .data, .data] true :=
  OpenClaim.laidByTextAt_later rfl rfl tie noOwnUnsafe
theorem vecExamples_row_tie : Rows.vecExamplesRow.laidByTextAt .later Tryz.pinned [.data, .data, .data, .data] true :=
  OpenClaim.laidByTextAt_later rfl rfl tie noOwnUnsafe
theorem vecBasicsMatch_row_tie : Rows.vecBasicsMatchRow.laidByTextAt .later Tryz.pinned [.data, .data, .data, .data] true :=
  OpenClaim.laidByTextAt_later rfl rfl tie noOwnUnsafe
theorem vecStructureMatches_row_tie : Rows.vecStructureMatchesRow.laidByTextAt .later Tryz.pinned [.data, .data, .data, .data] true :=
  OpenClaim.laidByTextAt_later rfl rfl tie noOwnUnsafe
theorem vecIntegers_row_tie : Rows.vecIntegersRow.laidByTextAt .later Tryz.pinned [.data, .data, .data, .data] true :=
  OpenClaim.laidByTextAt_later rfl rfl tie noOwnUnsafe
theorem vecUnknown_row_tie : Rows.vecUnknownRow.laidByTextAt .later Tryz.pinned [.data, .data, .data, .data] true :=
  OpenClaim.laidByTextAt_later rfl rfl tie noOwnUnsafe
theorem vecMatches_row_tie : Rows.vecMatchesRow.laidByTextAt .later Tryz.pinned [.data, .data, .data, .data] true :=
  OpenClaim.laidByTextAt_later rfl rfl tie noOwnUnsafe
theorem vecMonotoneUpto_row_tie : Rows.vecMonotoneUptoRow.laidByTextAt .later Tryz.pinned [.data, .data, .data, .data] true :=
  OpenClaim.laidByTextAt_later rfl rfl tie noOwnUnsafe
theorem vecExamplesUpto_row_tie : Rows.vecExamplesUptoRow.laidByTextAt .later Tryz.pinned [.data, .data, .data, .data] true :=
  OpenClaim.laidByTextAt_later rfl rfl tie noOwnUnsafe
theorem vecBasicsMatchUpto_row_tie : Rows.vecBasicsMatchUptoRow.laidByTextAt .later Tryz.pinned [.data, .data, .data, .data] true :=
  OpenClaim.laidByTextAt_later rfl rfl tie noOwnUnsafe
theorem vecStructureMatchesUpto_row_tie : Rows.vecStructureMatchesUptoRow.laidByTextAt .later Tryz.pinned [.data, .data, .data, .data] true :=
  OpenClaim.laidByTextAt_later rfl rfl tie noOwnUnsafe
theorem vecIntegersUpto_row_tie : Rows.vecIntegersUptoRow.laidByTextAt .later Tryz.pinned [.data, .data, .data, .data] true :=
  OpenClaim.laidByTextAt_later rfl rfl tie noOwnUnsafe
theorem vecUnknownUpto_row_tie : Rows.vecUnknownUptoRow.laidByTextAt .later Tryz.pinned [.data, .data, .data, .data] true :=
  OpenClaim.laidByTextAt_later rfl rfl tie noOwnUnsafe
theorem vecMatchesUpto_row_tie : Rows.vecMatchesUptoRow.laidByTextAt .later Tryz.pinned [.data, .data, .data, .data] true :=
  OpenClaim.laidByTextAt_later rfl rfl tie noOwnUnsafe
end Go.Proofs.YtdgbdkfoeaollaaGreatDoor
