/-
  DERIVED. GIVEN WITH THE SEED: THE PROGRAM's TIES (one call each: nine closed facts by the kernel) AND EACH ROW's TIE, after the 31st guide's Derived/Test/Toyas{Tie, Card}.lean. No idea stands in it: it is a product of the set-up. Laid BY PROGRAM, IN A SANDBOX (cutbox-door.mjs). By AI agents, Wed Nov 11 2026. No macro, syntax, notation, axiom, sorry.
-/
import Derived.Test.YthbflajpdhgfiaaGreatDoorRows
import Derived.LaidByTextLater
import Derived.SevenTiedAt
import Derived.LaidSub
import Derived.LaidOnce
namespace Go.Proofs.YthbflajpdhgfiaaGreatDoor
open Go
set_option maxRecDepth 100000
theorem seatTie1 : Tryz.prog.laidByTextLater [("souk/book.prices", Rows.laid_souk_book_prices), ("souk/schema.kinds", Rows.laid_souk_schema_kinds), ("souk/schema.commands", Rows.laid_souk_schema_commands)] [.funcs, .data, .data] true :=
  Program.laidByTextLater_by_one 110 8 116 (by kernel_rfl) (by kernel_rfl) (by kernel_rfl) (by kernel_rfl) (by kernel_rfl) (by kernel_rfl) (fun _ _ => by kernel_rfl)
theorem noOwnUnsafe : Tryz.pinned.checked.prog.headLifts.contains "ownunsafe" = false := by kernel_rfl
theorem tie : Tryz.prog.laidByTextLater [("souk/book.prices", Rows.laid_souk_book_prices), ("souk/schema.kinds", Rows.laid_souk_schema_kinds), ("souk/schema.commands", Rows.laid_souk_schema_commands)] [.funcs, .data, .data] true :=
  Program.laidByTextLater.sub seatTie1 ["souk/book.prices", "souk/schema.kinds", "souk/schema.commands"] (by kernel_rfl) (by kernel_rfl)
theorem decideNames_row_tie : Rows.decideNamesRow.laidByTextAt .later Tryz.pinned [.funcs, .data, .data] true :=
  OpenClaim.laidByTextAt_later rfl rfl tie noOwnUnsafe
theorem decideServed_row_tie : Rows.decideServedRow.laidByTextAt .later Tryz.pinned [.funcs, .data, .data] true :=
  OpenClaim.laidByTextAt_later rfl rfl tie noOwnUnsafe
theorem decideSold_row_tie : Rows.decideSoldRow.laidByTextAt .later Tryz.pinned [.funcs, .data, .data] true :=
  OpenClaim.laidByTextAt_later rfl rfl tie noOwnUnsafe
theorem decideHappens_row_tie : Rows.decideHappensRow.laidByTextAt .later Tryz.pinned [.funcs, .data, .data] true :=
  OpenClaim.laidByTextAt_later rfl rfl tie noOwnUnsafe
theorem decideNamesUpto_row_tie : Rows.decideNamesUptoRow.laidByTextAt .later Tryz.pinned [.funcs, .data, .data] true :=
  OpenClaim.laidByTextAt_later rfl rfl tie noOwnUnsafe
theorem decideServedUpto_row_tie : Rows.decideServedUptoRow.laidByTextAt .later Tryz.pinned [.funcs, .data, .data] true :=
  OpenClaim.laidByTextAt_later rfl rfl tie noOwnUnsafe
theorem decideSoldUpto_row_tie : Rows.decideSoldUptoRow.laidByTextAt .later Tryz.pinned [.funcs, .data, .data] true :=
  OpenClaim.laidByTextAt_later rfl rfl tie noOwnUnsafe
theorem decideHappensUpto_row_tie : Rows.decideHappensUptoRow.laidByTextAt .later Tryz.pinned [.funcs, .data, .data] true :=
  OpenClaim.laidByTextAt_later rfl rfl tie noOwnUnsafe
end Go.Proofs.YthbflajpdhgfiaaGreatDoor
