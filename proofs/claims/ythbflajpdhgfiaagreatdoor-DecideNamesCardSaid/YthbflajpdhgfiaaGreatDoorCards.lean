/-
  DERIVED. GIVEN WITH THE SEED: THE CARDS: each row of YthbflajpdhgfiaaGreatDoorRows.lean that lists a variable, with what it lists TIED to the program's text (the seventh form; the later family's looks); each row that meets fmt, with fmt's text TOLD by the authors' own Lean function (tested against real Go, not proved from fmt's source: count such statements apart). THE CARD IS WHAT COUNTS. Prove the row's statement (the work); the ties are given (YthbflajpdhgfiaaGreatDoorTie.lean); close each card by the builder's one call (the guide's Derived/Test/ToyasCard.lean, 'card_holds'). Laid BY PROGRAM, IN A SANDBOX (cutbox-door.mjs). By AI agents, Wed Nov 11 2026. No macro, syntax, notation, axiom, sorry.
-/
import Derived.Test.YthbflajpdhgfiaaGreatDoorRows
import GoSem.ClaimSeven
namespace Go.Proofs.YthbflajpdhgfiaaGreatDoor
namespace Rows

/-- THE TIED CARD OF 'souklaw20.DecideNames'. -/
def decideNamesCard : Claim7 := { stood := { row := decideNamesRow, standIns := [], harness := (true, "7f542e007e972030139f9c78914e2695e57cd363c09c7183fd8cbc5f16d485c5"), looks := false }, kinds := [], alts := [], laidByText := true, laidKinds := [.funcs, .data, .data], laidTests := true, laidLooks := .later }
def DecideNamesCardSaid : Prop := Claim7.holds Tryz.pinned (.plain (OpenSpec.ofChange decideNamesSpec)) decideNamesCard

/-- THE TIED CARD OF 'souklaw20.DecideServed'. -/
def decideServedCard : Claim7 := { stood := { row := decideServedRow, standIns := [], harness := (true, "7f542e007e972030139f9c78914e2695e57cd363c09c7183fd8cbc5f16d485c5"), looks := false }, kinds := [], alts := [], laidByText := true, laidKinds := [.funcs, .data, .data], laidTests := true, laidLooks := .later }
def DecideServedCardSaid : Prop := Claim7.holds Tryz.pinned (.plain (OpenSpec.ofChange decideServedSpec)) decideServedCard

/-- THE TIED CARD OF 'souklaw20.DecideSold'. -/
def decideSoldCard : Claim7 := { stood := { row := decideSoldRow, standIns := [], harness := (true, "7f542e007e972030139f9c78914e2695e57cd363c09c7183fd8cbc5f16d485c5"), looks := false }, kinds := [], alts := [], laidByText := true, laidKinds := [.funcs, .data, .data], laidTests := true, laidLooks := .later }
def DecideSoldCardSaid : Prop := Claim7.holds Tryz.pinned (.plain (OpenSpec.ofChange decideSoldSpec)) decideSoldCard

/-- THE TIED CARD OF 'souklaw20.DecideHappens'. -/
def decideHappensCard : Claim7 := { stood := { row := decideHappensRow, standIns := [], harness := (true, "7f542e007e972030139f9c78914e2695e57cd363c09c7183fd8cbc5f16d485c5"), looks := false }, kinds := [], alts := [], laidByText := true, laidKinds := [.funcs, .data, .data], laidTests := true, laidLooks := .later }
def DecideHappensCardSaid : Prop := Claim7.holds Tryz.pinned (.plain (OpenSpec.ofChange decideHappensSpec)) decideHappensCard

/-- THE SECOND FORM's CARD OF 'souklaw20.DecideNames'. -/
def decideNamesUptoCard : Claim7 := { stood := { row := decideNamesUptoRow, standIns := [], harness := (true, "7f542e007e972030139f9c78914e2695e57cd363c09c7183fd8cbc5f16d485c5"), looks := false }, kinds := [], alts := [], laidByText := true, laidKinds := [.funcs, .data, .data], laidTests := true, laidLooks := .later }
def DecideNamesUptoCardSaid : Prop := Claim7.holds Tryz.pinned (.plain (OpenSpec.upto decideNamesSpec)) decideNamesUptoCard

/-- THE SECOND FORM's CARD OF 'souklaw20.DecideServed'. -/
def decideServedUptoCard : Claim7 := { stood := { row := decideServedUptoRow, standIns := [], harness := (true, "7f542e007e972030139f9c78914e2695e57cd363c09c7183fd8cbc5f16d485c5"), looks := false }, kinds := [], alts := [], laidByText := true, laidKinds := [.funcs, .data, .data], laidTests := true, laidLooks := .later }
def DecideServedUptoCardSaid : Prop := Claim7.holds Tryz.pinned (.plain (OpenSpec.upto decideServedSpec)) decideServedUptoCard

/-- THE SECOND FORM's CARD OF 'souklaw20.DecideSold'. -/
def decideSoldUptoCard : Claim7 := { stood := { row := decideSoldUptoRow, standIns := [], harness := (true, "7f542e007e972030139f9c78914e2695e57cd363c09c7183fd8cbc5f16d485c5"), looks := false }, kinds := [], alts := [], laidByText := true, laidKinds := [.funcs, .data, .data], laidTests := true, laidLooks := .later }
def DecideSoldUptoCardSaid : Prop := Claim7.holds Tryz.pinned (.plain (OpenSpec.upto decideSoldSpec)) decideSoldUptoCard

/-- THE SECOND FORM's CARD OF 'souklaw20.DecideHappens'. -/
def decideHappensUptoCard : Claim7 := { stood := { row := decideHappensUptoRow, standIns := [], harness := (true, "7f542e007e972030139f9c78914e2695e57cd363c09c7183fd8cbc5f16d485c5"), looks := false }, kinds := [], alts := [], laidByText := true, laidKinds := [.funcs, .data, .data], laidTests := true, laidLooks := .later }
def DecideHappensUptoCardSaid : Prop := Claim7.holds Tryz.pinned (.plain (OpenSpec.upto decideHappensSpec)) decideHappensUptoCard
end Rows
end Go.Proofs.YthbflajpdhgfiaaGreatDoor
