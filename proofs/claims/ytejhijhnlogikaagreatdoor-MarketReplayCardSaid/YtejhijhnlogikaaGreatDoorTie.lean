/-
  DERIVED. GIVEN WITH THE SEED: THE PROGRAM's TIES (one call each: nine closed facts by the kernel) AND EACH ROW's TIE, after the 31st guide's Derived/Test/Toyas{Tie, Card}.lean. No idea stands in it: it is a product of the set-up. Laid BY PROGRAM, IN A SANDBOX (cutbox-door.mjs). By AI agents, Wed Nov 11 2026. No macro, syntax, notation, axiom, sorry.
-/
import Derived.Test.YtejhijhnlogikaaGreatDoorRows
import Derived.LaidByTextLater
import Derived.SevenTiedAt
import Derived.LaidSub
import Derived.LaidOnce
namespace Go.Proofs.YtejhijhnlogikaaGreatDoor
open Go
set_option maxRecDepth 100000
theorem seatTie1 : Tryz.prog.laidByTextLater [("souk/book.prices", Rows.laid_souk_book_prices), ("souk/schema.kinds", Rows.laid_souk_schema_kinds), ("souk/schema.commands", Rows.laid_souk_schema_commands)] [.funcs, .data, .data] true :=
  Program.laidByTextLater_by_one 110 8 116 (by kernel_rfl) (by kernel_rfl) (by kernel_rfl) (by kernel_rfl) (by kernel_rfl) (by kernel_rfl) (fun _ _ => by kernel_rfl)
theorem noOwnUnsafe : Tryz.pinned.checked.prog.headLifts.contains "ownunsafe" = false := by kernel_rfl
theorem tie : Tryz.prog.laidByTextLater [("souk/book.prices", Rows.laid_souk_book_prices), ("souk/schema.kinds", Rows.laid_souk_schema_kinds), ("souk/schema.commands", Rows.laid_souk_schema_commands)] [.funcs, .data, .data] true :=
  Program.laidByTextLater.sub seatTie1 ["souk/book.prices", "souk/schema.kinds", "souk/schema.commands"] (by kernel_rfl) (by kernel_rfl)
theorem marketCross_row_tie : Rows.marketCrossRow.laidByTextAt .later Tryz.pinned [.funcs, .data, .data] true :=
  OpenClaim.laidByTextAt_later rfl rfl tie noOwnUnsafe
theorem marketCopies_row_tie : Rows.marketCopiesRow.laidByTextAt .later Tryz.pinned [.funcs, .data, .data] true :=
  OpenClaim.laidByTextAt_later rfl rfl tie noOwnUnsafe
theorem marketNames_row_tie : Rows.marketNamesRow.laidByTextAt .later Tryz.pinned [.funcs, .data, .data] true :=
  OpenClaim.laidByTextAt_later rfl rfl tie noOwnUnsafe
theorem marketLeaves_row_tie : Rows.marketLeavesRow.laidByTextAt .later Tryz.pinned [.funcs, .data, .data] true :=
  OpenClaim.laidByTextAt_later rfl rfl tie noOwnUnsafe
theorem marketLift_row_tie : Rows.marketLiftRow.laidByTextAt .later Tryz.pinned [.funcs, .data, .data] true :=
  OpenClaim.laidByTextAt_later rfl rfl tie noOwnUnsafe
theorem marketReplay_row_tie : Rows.marketReplayRow.laidByTextAt .later Tryz.pinned [.funcs, .data, .data] true :=
  OpenClaim.laidByTextAt_later rfl rfl tie noOwnUnsafe
theorem marketCrossUpto_row_tie : Rows.marketCrossUptoRow.laidByTextAt .later Tryz.pinned [.funcs, .data, .data] true :=
  OpenClaim.laidByTextAt_later rfl rfl tie noOwnUnsafe
theorem marketCopiesUpto_row_tie : Rows.marketCopiesUptoRow.laidByTextAt .later Tryz.pinned [.funcs, .data, .data] true :=
  OpenClaim.laidByTextAt_later rfl rfl tie noOwnUnsafe
theorem marketNamesUpto_row_tie : Rows.marketNamesUptoRow.laidByTextAt .later Tryz.pinned [.funcs, .data, .data] true :=
  OpenClaim.laidByTextAt_later rfl rfl tie noOwnUnsafe
theorem marketLeavesUpto_row_tie : Rows.marketLeavesUptoRow.laidByTextAt .later Tryz.pinned [.funcs, .data, .data] true :=
  OpenClaim.laidByTextAt_later rfl rfl tie noOwnUnsafe
theorem marketLiftUpto_row_tie : Rows.marketLiftUptoRow.laidByTextAt .later Tryz.pinned [.funcs, .data, .data] true :=
  OpenClaim.laidByTextAt_later rfl rfl tie noOwnUnsafe
theorem marketReplayUpto_row_tie : Rows.marketReplayUptoRow.laidByTextAt .later Tryz.pinned [.funcs, .data, .data] true :=
  OpenClaim.laidByTextAt_later rfl rfl tie noOwnUnsafe
end Go.Proofs.YtejhijhnlogikaaGreatDoor
