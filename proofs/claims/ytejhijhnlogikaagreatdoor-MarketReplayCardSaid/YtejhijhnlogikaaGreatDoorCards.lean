/-
  DERIVED. GIVEN WITH THE SEED: THE CARDS: each row of YtejhijhnlogikaaGreatDoorRows.lean that lists a variable, with what it lists TIED to the program's text (the seventh form; the later family's looks); each row that meets fmt, with fmt's text TOLD by the authors' own Lean function (tested against real Go, not proved from fmt's source: count such statements apart). THE CARD IS WHAT COUNTS. Prove the row's statement (the work); the ties are given (YtejhijhnlogikaaGreatDoorTie.lean); close each card by the builder's one call (the guide's Derived/Test/ToyasCard.lean, 'card_holds'). Laid BY PROGRAM, IN A SANDBOX (cutbox-door.mjs). By AI agents, Wed Nov 11 2026. No macro, syntax, notation, axiom, sorry.
-/
import Derived.Test.YtejhijhnlogikaaGreatDoorRows
import GoSem.ClaimSeven
namespace Go.Proofs.YtejhijhnlogikaaGreatDoor
namespace Rows

/-- THE TIED CARD OF 'souklaw21.MarketCross'. -/
def marketCrossCard : Claim7 := { stood := { row := marketCrossRow, standIns := [], harness := (true, "c82b803e3f2e2875f9a5956136b444149ac90835b36d94098f6a86d6ca23ae9b"), looks := false }, kinds := [], alts := [], laidByText := true, laidKinds := [.funcs, .data, .data], laidTests := true, laidLooks := .later }
def MarketCrossCardSaid : Prop := Claim7.holds Tryz.pinned (.plain (OpenSpec.ofChange marketCrossSpec)) marketCrossCard

/-- THE TIED CARD OF 'souklaw21.MarketCopies'. -/
def marketCopiesCard : Claim7 := { stood := { row := marketCopiesRow, standIns := [], harness := (true, "c82b803e3f2e2875f9a5956136b444149ac90835b36d94098f6a86d6ca23ae9b"), looks := false }, kinds := [], alts := [], laidByText := true, laidKinds := [.funcs, .data, .data], laidTests := true, laidLooks := .later }
def MarketCopiesCardSaid : Prop := Claim7.holds Tryz.pinned (.plain (OpenSpec.ofChange marketCopiesSpec)) marketCopiesCard

/-- THE TIED CARD OF 'souklaw21.MarketNames'. -/
def marketNamesCard : Claim7 := { stood := { row := marketNamesRow, standIns := [], harness := (true, "c82b803e3f2e2875f9a5956136b444149ac90835b36d94098f6a86d6ca23ae9b"), looks := false }, kinds := [], alts := [], laidByText := true, laidKinds := [.funcs, .data, .data], laidTests := true, laidLooks := .later }
def MarketNamesCardSaid : Prop := Claim7.holds Tryz.pinned (.plain (OpenSpec.ofChange marketNamesSpec)) marketNamesCard

/-- THE TIED CARD OF 'souklaw21.MarketLeaves'. -/
def marketLeavesCard : Claim7 := { stood := { row := marketLeavesRow, standIns := [], harness := (true, "c82b803e3f2e2875f9a5956136b444149ac90835b36d94098f6a86d6ca23ae9b"), looks := false }, kinds := [], alts := [], laidByText := true, laidKinds := [.funcs, .data, .data], laidTests := true, laidLooks := .later }
def MarketLeavesCardSaid : Prop := Claim7.holds Tryz.pinned (.plain (OpenSpec.ofChange marketLeavesSpec)) marketLeavesCard

/-- THE TIED CARD OF 'souklaw21.MarketLift'. -/
def marketLiftCard : Claim7 := { stood := { row := marketLiftRow, standIns := [], harness := (true, "c82b803e3f2e2875f9a5956136b444149ac90835b36d94098f6a86d6ca23ae9b"), looks := false }, kinds := [], alts := [], laidByText := true, laidKinds := [.funcs, .data, .data], laidTests := true, laidLooks := .later }
def MarketLiftCardSaid : Prop := Claim7.holds Tryz.pinned (.plain (OpenSpec.ofChange marketLiftSpec)) marketLiftCard

/-- THE TIED CARD OF 'souklaw21.MarketReplay'. -/
def marketReplayCard : Claim7 := { stood := { row := marketReplayRow, standIns := [], harness := (true, "c82b803e3f2e2875f9a5956136b444149ac90835b36d94098f6a86d6ca23ae9b"), looks := false }, kinds := [], alts := [], laidByText := true, laidKinds := [.funcs, .data, .data], laidTests := true, laidLooks := .later }
def MarketReplayCardSaid : Prop := Claim7.holds Tryz.pinned (.plain (OpenSpec.ofChange marketReplaySpec)) marketReplayCard

/-- THE SECOND FORM's CARD OF 'souklaw21.MarketCross'. -/
def marketCrossUptoCard : Claim7 := { stood := { row := marketCrossUptoRow, standIns := [], harness := (true, "c82b803e3f2e2875f9a5956136b444149ac90835b36d94098f6a86d6ca23ae9b"), looks := false }, kinds := [], alts := [], laidByText := true, laidKinds := [.funcs, .data, .data], laidTests := true, laidLooks := .later }
def MarketCrossUptoCardSaid : Prop := Claim7.holds Tryz.pinned (.plain (OpenSpec.upto marketCrossSpec)) marketCrossUptoCard

/-- THE SECOND FORM's CARD OF 'souklaw21.MarketCopies'. -/
def marketCopiesUptoCard : Claim7 := { stood := { row := marketCopiesUptoRow, standIns := [], harness := (true, "c82b803e3f2e2875f9a5956136b444149ac90835b36d94098f6a86d6ca23ae9b"), looks := false }, kinds := [], alts := [], laidByText := true, laidKinds := [.funcs, .data, .data], laidTests := true, laidLooks := .later }
def MarketCopiesUptoCardSaid : Prop := Claim7.holds Tryz.pinned (.plain (OpenSpec.upto marketCopiesSpec)) marketCopiesUptoCard

/-- THE SECOND FORM's CARD OF 'souklaw21.MarketNames'. -/
def marketNamesUptoCard : Claim7 := { stood := { row := marketNamesUptoRow, standIns := [], harness := (true, "c82b803e3f2e2875f9a5956136b444149ac90835b36d94098f6a86d6ca23ae9b"), looks := false }, kinds := [], alts := [], laidByText := true, laidKinds := [.funcs, .data, .data], laidTests := true, laidLooks := .later }
def MarketNamesUptoCardSaid : Prop := Claim7.holds Tryz.pinned (.plain (OpenSpec.upto marketNamesSpec)) marketNamesUptoCard

/-- THE SECOND FORM's CARD OF 'souklaw21.MarketLeaves'. -/
def marketLeavesUptoCard : Claim7 := { stood := { row := marketLeavesUptoRow, standIns := [], harness := (true, "c82b803e3f2e2875f9a5956136b444149ac90835b36d94098f6a86d6ca23ae9b"), looks := false }, kinds := [], alts := [], laidByText := true, laidKinds := [.funcs, .data, .data], laidTests := true, laidLooks := .later }
def MarketLeavesUptoCardSaid : Prop := Claim7.holds Tryz.pinned (.plain (OpenSpec.upto marketLeavesSpec)) marketLeavesUptoCard

/-- THE SECOND FORM's CARD OF 'souklaw21.MarketLift'. -/
def marketLiftUptoCard : Claim7 := { stood := { row := marketLiftUptoRow, standIns := [], harness := (true, "c82b803e3f2e2875f9a5956136b444149ac90835b36d94098f6a86d6ca23ae9b"), looks := false }, kinds := [], alts := [], laidByText := true, laidKinds := [.funcs, .data, .data], laidTests := true, laidLooks := .later }
def MarketLiftUptoCardSaid : Prop := Claim7.holds Tryz.pinned (.plain (OpenSpec.upto marketLiftSpec)) marketLiftUptoCard

/-- THE SECOND FORM's CARD OF 'souklaw21.MarketReplay'. -/
def marketReplayUptoCard : Claim7 := { stood := { row := marketReplayUptoRow, standIns := [], harness := (true, "c82b803e3f2e2875f9a5956136b444149ac90835b36d94098f6a86d6ca23ae9b"), looks := false }, kinds := [], alts := [], laidByText := true, laidKinds := [.funcs, .data, .data], laidTests := true, laidLooks := .later }
def MarketReplayUptoCardSaid : Prop := Claim7.holds Tryz.pinned (.plain (OpenSpec.upto marketReplaySpec)) marketReplayUptoCard
end Rows
end Go.Proofs.YtejhijhnlogikaaGreatDoor
