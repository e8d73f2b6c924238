/-
  DERIVED. GIVEN WITH THE SEED: THE CARDS: each row of YtibmaifoaajllaaGreatDoorRows.lean that lists a variable, with what it lists TIED to the program's text (the seventh form; the later family's looks); each row that meets fmt, with fmt's text TOLD by the authors' own Lean function (tested against real Go, not proved from fmt's source: count such statements apart). THE CARD IS WHAT COUNTS. Prove the row's statement (the work); the ties are given (YtibmaifoaajllaaGreatDoorTie.lean); close each card by the builder's one call (the guide's Derived/Test/ToyasCard.lean, 'card_holds'). Laid BY PROGRAM, IN A SANDBOX (cutbox-door.mjs). By AI agents, Wed Nov 11 2026. No macro, syntax, notation, axiom, sorry.
-/
import Derived.Test.YtibmaifoaajllaaGreatDoorRows
import GoSem.ClaimSeven
namespace Go.Proofs.YtibmaifoaajllaaGreatDoor
namespace Rows

/-- THE TIED CARD OF 'souklaw19.ApplyWhere'. -/
def applyWhereCard : Claim7 := { stood := { row := applyWhereRow, standIns := [], harness := (true, "2cb74efe37e49ddaa48174a20b20e39ba821ff786b7622978b0bb01c61fbf3bc"), looks := false }, kinds := [], alts := [], laidByText := true, laidKinds := [.funcs, .data], laidTests := true, laidLooks := .later }
def ApplyWhereCardSaid : Prop := Claim7.holds Tryz.pinned (.plain (OpenSpec.ofChange applyWhereSpec)) applyWhereCard

/-- THE TIED CARD OF 'souklaw19.ApplyFirst'. -/
def applyFirstCard : Claim7 := { stood := { row := applyFirstRow, standIns := [], harness := (true, "2cb74efe37e49ddaa48174a20b20e39ba821ff786b7622978b0bb01c61fbf3bc"), looks := false }, kinds := [], alts := [], laidByText := true, laidKinds := [.funcs, .data], laidTests := true, laidLooks := .later }
def ApplyFirstCardSaid : Prop := Claim7.holds Tryz.pinned (.plain (OpenSpec.ofChange applyFirstSpec)) applyFirstCard

/-- THE TIED CARD OF 'souklaw19.ApplyNames'. -/
def applyNamesCard : Claim7 := { stood := { row := applyNamesRow, standIns := [], harness := (true, "2cb74efe37e49ddaa48174a20b20e39ba821ff786b7622978b0bb01c61fbf3bc"), looks := false }, kinds := [], alts := [], laidByText := true, laidKinds := [.funcs, .data], laidTests := true, laidLooks := .later }
def ApplyNamesCardSaid : Prop := Claim7.holds Tryz.pinned (.plain (OpenSpec.ofChange applyNamesSpec)) applyNamesCard

/-- THE TIED CARD OF 'souklaw19.ApplyWins'. -/
def applyWinsCard : Claim7 := { stood := { row := applyWinsRow, standIns := [], harness := (true, "2cb74efe37e49ddaa48174a20b20e39ba821ff786b7622978b0bb01c61fbf3bc"), looks := false }, kinds := [], alts := [], laidByText := true, laidKinds := [.funcs, .data], laidTests := true, laidLooks := .later }
def ApplyWinsCardSaid : Prop := Claim7.holds Tryz.pinned (.plain (OpenSpec.ofChange applyWinsSpec)) applyWinsCard

/-- THE TIED CARD OF 'souklaw19.ApplyBack'. -/
def applyBackCard : Claim7 := { stood := { row := applyBackRow, standIns := [], harness := (true, "2cb74efe37e49ddaa48174a20b20e39ba821ff786b7622978b0bb01c61fbf3bc"), looks := false }, kinds := [], alts := [], laidByText := true, laidKinds := [.funcs, .data], laidTests := true, laidLooks := .later }
def ApplyBackCardSaid : Prop := Claim7.holds Tryz.pinned (.plain (OpenSpec.ofChange applyBackSpec)) applyBackCard

/-- THE TIED CARD OF 'souklaw19.ApplyParts'. -/
def applyPartsCard : Claim7 := { stood := { row := applyPartsRow, standIns := [], harness := (true, "2cb74efe37e49ddaa48174a20b20e39ba821ff786b7622978b0bb01c61fbf3bc"), looks := false }, kinds := [], alts := [], laidByText := true, laidKinds := [.funcs, .data], laidTests := true, laidLooks := .later }
def ApplyPartsCardSaid : Prop := Claim7.holds Tryz.pinned (.plain (OpenSpec.ofChange applyPartsSpec)) applyPartsCard

/-- THE TIED CARD OF 'souklaw19.ApplyMay'. -/
def applyMayCard : Claim7 := { stood := { row := applyMayRow, standIns := [], harness := (true, "2cb74efe37e49ddaa48174a20b20e39ba821ff786b7622978b0bb01c61fbf3bc"), looks := false }, kinds := [], alts := [], laidByText := true, laidKinds := [.funcs, .data], laidTests := true, laidLooks := .later }
def ApplyMayCardSaid : Prop := Claim7.holds Tryz.pinned (.plain (OpenSpec.ofChange applyMaySpec)) applyMayCard

/-- THE SECOND FORM's CARD OF 'souklaw19.ApplyWhere'. -/
def applyWhereUptoCard : Claim7 := { stood := { row := applyWhereUptoRow, standIns := [], harness := (true, "2cb74efe37e49ddaa48174a20b20e39ba821ff786b7622978b0bb01c61fbf3bc"), looks := false }, kinds := [], alts := [], laidByText := true, laidKinds := [.funcs, .data], laidTests := true, laidLooks := .later }
def ApplyWhereUptoCardSaid : Prop := Claim7.holds Tryz.pinned (.plain (OpenSpec.upto applyWhereSpec)) applyWhereUptoCard

/-- THE SECOND FORM's CARD OF 'souklaw19.ApplyFirst'. -/
def applyFirstUptoCard : Claim7 := { stood := { row := applyFirstUptoRow, standIns := [], harness := (true, "2cb74efe37e49ddaa48174a20b20e39ba821ff786b7622978b0bb01c61fbf3bc"), looks := false }, kinds := [], alts := [], laidByText := true, laidKinds := [.funcs, .data], laidTests := true, laidLooks := .later }
def ApplyFirstUptoCardSaid : Prop := Claim7.holds Tryz.pinned (.plain (OpenSpec.upto applyFirstSpec)) applyFirstUptoCard

/-- THE SECOND FORM's CARD OF 'souklaw19.ApplyNames'. -/
def applyNamesUptoCard : Claim7 := { stood := { row := applyNamesUptoRow, standIns := [], harness := (true, "2cb74efe37e49ddaa48174a20b20e39ba821ff786b7622978b0bb01c61fbf3bc"), looks := false }, kinds := [], alts := [], laidByText := true, laidKinds := [.funcs, .data], laidTests := true, laidLooks := .later }
def ApplyNamesUptoCardSaid : Prop := Claim7.holds Tryz.pinned (.plain (OpenSpec.upto applyNamesSpec)) applyNamesUptoCard

/-- THE SECOND FORM's CARD OF 'souklaw19.ApplyWins'. -/
def applyWinsUptoCard : Claim7 := { stood := { row := applyWinsUptoRow, standIns := [], harness := (true, "2cb74efe37e49ddaa48174a20b20e39ba821ff786b7622978b0bb01c61fbf3bc"), looks := false }, kinds := [], alts := [], laidByText := true, laidKinds := [.funcs, .data], laidTests := true, laidLooks := .later }
def ApplyWinsUptoCardSaid : Prop := Claim7.holds Tryz.pinned (.plain (OpenSpec.upto applyWinsSpec)) applyWinsUptoCard

/-- THE SECOND FORM's CARD OF 'souklaw19.ApplyBack'. -/
def applyBackUptoCard : Claim7 := { stood := { row := applyBackUptoRow, standIns := [], harness := (true, "2cb74efe37e49ddaa48174a20b20e39ba821ff786b7622978b0bb01c61fbf3bc"), looks := false }, kinds := [], alts := [], laidByText := true, laidKinds := [.funcs, .data], laidTests := true, laidLooks := .later }
def ApplyBackUptoCardSaid : Prop := Claim7.holds Tryz.pinned (.plain (OpenSpec.upto applyBackSpec)) applyBackUptoCard

/-- THE SECOND FORM's CARD OF 'souklaw19.ApplyParts'. -/
def applyPartsUptoCard : Claim7 := { stood := { row := applyPartsUptoRow, standIns := [], harness := (true, "2cb74efe37e49ddaa48174a20b20e39ba821ff786b7622978b0bb01c61fbf3bc"), looks := false }, kinds := [], alts := [], laidByText := true, laidKinds := [.funcs, .data], laidTests := true, laidLooks := .later }
def ApplyPartsUptoCardSaid : Prop := Claim7.holds Tryz.pinned (.plain (OpenSpec.upto applyPartsSpec)) applyPartsUptoCard

/-- THE SECOND FORM's CARD OF 'souklaw19.ApplyMay'. -/
def applyMayUptoCard : Claim7 := { stood := { row := applyMayUptoRow, standIns := [], harness := (true, "2cb74efe37e49ddaa48174a20b20e39ba821ff786b7622978b0bb01c61fbf3bc"), looks := false }, kinds := [], alts := [], laidByText := true, laidKinds := [.funcs, .data], laidTests := true, laidLooks := .later }
def ApplyMayUptoCardSaid : Prop := Claim7.holds Tryz.pinned (.plain (OpenSpec.upto applyMaySpec)) applyMayUptoCard
end Rows
end Go.Proofs.YtibmaifoaajllaaGreatDoor
