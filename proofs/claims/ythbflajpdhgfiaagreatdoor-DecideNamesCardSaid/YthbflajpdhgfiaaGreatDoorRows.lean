/-
  NARROWER THAN 'FOR EVERY INPUT', by the rows' own cells (each row's printed sentence says how): DecideNames: laid · DecideServed: laid · DecideSold: laid · DecideHappens: laid.
  DERIVED. THE GIVEN ROWS OF THIS SEAT. 4 by the template 'for every input the law returns true; each argument reads behind the call as it read before'; 0 by the template 'total and deterministic' (their statements: YthbflajpdhgfiaaGreatDoorTotals.lean).
  GIVEN WITH THE SEED: the statements are not yours to turn. If you find one false, say at which input.
  Laid BY PROGRAM, IN A SANDBOX (cutbox-rows.mjs): the forced cells as the released guide's own fill.sh prints them over the translation a9cde2e854c20714… (all of the seat's roots in one cut). By AI agents, Wed Nov 11 2026. No macro, syntax, notation, axiom, sorry.
-/
import Derived.Test.YthbflajpdhgfiaaGreatDoorChecked
import GoSem.Claim
import GoSem.ClaimJoined
import GoSem.ClaimMapViews
import Derived.JoinedTies
import Derived.KernelRfl
namespace Go.Proofs.YthbflajpdhgfiaaGreatDoor
/- THE CELL 'sum', in the pinned program and in every row, IS THE sha256 OF THE DUMP (.gsa) THAT YthbflajpdhgfiaaGreatDoorProg.lean LOADS. Nothing in Lean hashes anything: it is a label: what it is worth is what the hold of that sum in a sandbox is worth. -/
noncomputable def Tryz.pinned : Pinned := { name := "ythbflajpdhgfiaagreatdoor", sum := "a9cde2e854c20714c87a52e5d1b55bb4b099f084ce6d34bcd12c5d9e2bfe8eb7", checked := Tryz.checked }
namespace Rows
def none {H : Type} : Left H := { results := [], args := [] }

/- WHAT THE LISTED PACKAGE-LEVEL VARIABLES READ AS WHEN THE CALL BEGINS. Each datum BY PROGRAM (the guide's laid-datum.mjs) off the statement by which the dump's own 'gosem.cut.vars' lays the variable. In a bare row this is a premise. The card (YthbflajpdhgfiaaGreatDoorCards.lean) ties it to the program's text. -/
def laid_souk_book_prices {H : Type} : DataW H := .iface "func table" (.agg [.nil, .iface "func" (.lit (.string [115, 111, 117, 107, 47, 98, 111, 111, 107, 46, 112, 114, 105, 99, 101, 115, 36, 49])), .iface "func" (.lit (.string [115, 111, 117, 107, 47, 98, 111, 111, 107, 46, 112, 114, 105, 99, 101, 115, 36, 50]))])
def laid_souk_schema_kinds {H : Type} : DataW H := .agg [.agg [.lit (.string [111, 112, 101, 110, 101, 100]), .agg [.lit (.string [97]), .lit (.string [97]), .lit (.string [97])], .lit (.bool true)], .agg [.lit (.string [99, 108, 111, 115, 101, 100]), .agg [.lit (.string [97]), .lit (.string [97]), .lit (.string [97])], .lit (.bool false)], .agg [.lit (.string [108, 105, 115, 116, 101, 100]), .agg [.lit (.string [105]), .lit (.string [105, 107]), .lit (.string [105, 107])], .lit (.bool true)], .agg [.lit (.string [104, 97, 108, 116, 101, 100]), .agg [.lit (.string [105]), .lit (.string [105]), .lit (.string [105])], .lit (.bool false)], .agg [.lit (.string [114, 101, 115, 117, 109, 101, 100]), .agg [.lit (.string [105]), .lit (.string [105]), .lit (.string [105])], .lit (.bool false)], .agg [.lit (.string [100, 101, 112, 111, 115, 105, 116, 101, 100]), .agg [.lit (.string [97, 109]), .lit (.string [97, 109]), .lit (.string [97, 109])], .lit (.bool false)], .agg [.lit (.string [119, 105, 116, 104, 100, 114, 97, 119, 110]), .agg [.lit (.string [97, 109]), .lit (.string [97, 109]), .lit (.string [97, 109])], .lit (.bool false)], .agg [.lit (.string [105, 115, 115, 117, 101, 100]), .agg [.lit (.string [97, 105, 113]), .lit (.string [97, 105, 113]), .lit (.string [97, 105, 113])], .lit (.bool false)], .agg [.lit (.string [114, 101, 100, 101, 101, 109, 101, 100]), .agg [.lit (.string [97, 105, 113]), .lit (.string [97, 105, 113]), .lit (.string [97, 105, 113])], .lit (.bool false)], .agg [.lit (.string [102, 101, 101, 32, 115, 101, 116]), .agg [.lit (.string [98]), .lit (.string [98]), .lit (.string [98])], .lit (.bool false)], .agg [.lit (.string [112, 108, 97, 99, 101, 100]), .agg [.lit (.string [111, 97, 105, 115, 112, 113]), .lit (.string [111, 97, 105, 115, 112, 113]), .lit (.string [111, 97, 105, 115, 112, 113])], .lit (.bool false)], .agg [.lit (.string [99, 97, 110, 99, 101, 108, 108, 101, 100]), .agg [.lit (.string [111]), .lit (.string [111]), .lit (.string [111])], .lit (.bool false)], .agg [.lit (.string [116, 114, 97, 100, 101, 100]), .agg [.lit (.string [111, 111, 112, 113]), .lit (.string [111, 111, 112, 113, 122]), .lit (.string [111, 111, 112, 113, 122])], .lit (.bool false)], .agg [.lit (.string [101, 110, 103, 108, 105, 115, 104]), .agg [.lit (.string [99, 97, 105, 113, 109, 116]), .lit (.string [99, 97, 105, 113, 109, 109, 116]), .lit (.string [99, 97, 105, 113, 109, 109, 116])], .lit (.bool false)], .agg [.lit (.string [114, 97, 105, 115, 101, 100]), .agg [.lit (.string [99, 97, 109]), .lit (.string [99, 97, 109]), .lit (.string [99, 97, 109])], .lit (.bool false)], .agg [.lit (.string [115, 101, 97, 108, 101, 100]), .agg [.lit (.string [99, 97, 105, 113, 109, 116]), .lit (.string [99, 97, 105, 113, 109, 116]), .lit (.string [99, 97, 105, 113, 109, 116])], .lit (.bool false)], .agg [.lit (.string [98, 105, 100]), .agg [.lit (.string [99, 97, 109]), .lit (.string [99, 97, 109]), .lit (.string [99, 97, 109])], .lit (.bool false)], .agg [.lit (.string [115, 111, 108, 100]), .agg [.lit (.string [99, 97, 109]), .lit (.string [99, 97, 109, 122]), .lit (.string [99, 97, 109, 122])], .lit (.bool false)], .agg [.lit (.string [117, 110, 115, 111, 108, 100]), .agg [.lit (.string [99]), .lit (.string [99]), .lit (.string [99])], .lit (.bool false)], .agg [.lit (.string [109, 111, 118, 101, 100]), .agg [.lit (.string [116]), .lit (.string [116]), .lit (.string [116])], .lit (.bool false)], .agg [.lit (.string [116, 114, 97, 110, 115, 102, 101, 114, 114, 101, 100]), .agg [.lit (.string [32]), .lit (.string [97, 97, 109]), .lit (.string [97, 97, 109])], .lit (.bool false)], .agg [.lit (.string [114, 101, 110, 97, 109, 101, 100]), .agg [.lit (.string [32]), .lit (.string [32]), .lit (.string [97])], .lit (.bool true)], .agg [.lit (.string [116, 105, 99, 107, 101, 100]), .agg [.lit (.string [32]), .lit (.string [32]), .lit (.string [105, 107])], .lit (.bool false)]]
def laid_souk_schema_commands {H : Type} : DataW H := .agg [.agg [.lit (.string [111, 112, 101, 110]), .agg [.lit (.string [32]), .lit (.string [32]), .lit (.string [])], .lit (.bool true)], .agg [.lit (.string [99, 108, 111, 115, 101]), .agg [.lit (.string [32]), .lit (.string [32]), .lit (.string [97])], .lit (.bool false)], .agg [.lit (.string [108, 105, 115, 116]), .agg [.lit (.string [32]), .lit (.string [32]), .lit (.string [107])], .lit (.bool true)], .agg [.lit (.string [104, 97, 108, 116]), .agg [.lit (.string [32]), .lit (.string [32]), .lit (.string [105])], .lit (.bool false)], .agg [.lit (.string [114, 101, 115, 117, 109, 101]), .agg [.lit (.string [32]), .lit (.string [32]), .lit (.string [105])], .lit (.bool false)], .agg [.lit (.string [100, 101, 112, 111, 115, 105, 116]), .agg [.lit (.string [32]), .lit (.string [32]), .lit (.string [97, 109])], .lit (.bool false)], .agg [.lit (.string [119, 105, 116, 104, 100, 114, 97, 119]), .agg [.lit (.string [32]), .lit (.string [32]), .lit (.string [97, 109])], .lit (.bool false)], .agg [.lit (.string [105, 115, 115, 117, 101]), .agg [.lit (.string [32]), .lit (.string [32]), .lit (.string [97, 105, 113])], .lit (.bool false)], .agg [.lit (.string [114, 101, 100, 101, 101, 109]), .agg [.lit (.string [32]), .lit (.string [32]), .lit (.string [97, 105, 113])], .lit (.bool false)], .agg [.lit (.string [102, 101, 101]), .agg [.lit (.string [32]), .lit (.string [32]), .lit (.string [98])], .lit (.bool false)], .agg [.lit (.string [112, 108, 97, 99, 101]), .agg [.lit (.string [32]), .lit (.string [32]), .lit (.string [97, 105, 115, 112, 113])], .lit (.bool false)], .agg [.lit (.string [99, 97, 110, 99, 101, 108]), .agg [.lit (.string [32]), .lit (.string [32]), .lit (.string [97, 111])], .lit (.bool false)], .agg [.lit (.string [101, 110, 103, 108, 105, 115, 104]), .agg [.lit (.string [32]), .lit (.string [32]), .lit (.string [97, 105, 113, 109, 109, 116])], .lit (.bool false)], .agg [.lit (.string [114, 97, 105, 115, 101]), .agg [.lit (.string [32]), .lit (.string [32]), .lit (.string [97, 99, 109])], .lit (.bool false)], .agg [.lit (.string [115, 101, 97, 108, 101, 100]), .agg [.lit (.string [32]), .lit (.string [32]), .lit (.string [97, 105, 113, 109, 116])], .lit (.bool false)], .agg [.lit (.string [98, 105, 100]), .agg [.lit (.string [32]), .lit (.string [32]), .lit (.string [97, 99, 109])], .lit (.bool false)], .agg [.lit (.string [109, 111, 118, 101]), .agg [.lit (.string [32]), .lit (.string [32]), .lit (.string [116])], .lit (.bool false)], .agg [.lit (.string [116, 114, 97, 110, 115, 102, 101, 114]), .agg [.lit (.string [32]), .lit (.string [32]), .lit (.string [97, 97, 109])], .lit (.bool false)], .agg [.lit (.string [114, 101, 110, 97, 109, 101]), .agg [.lit (.string [32]), .lit (.string [32]), .lit (.string [97])], .lit (.bool true)], .agg [.lit (.string [116, 105, 99, 107]), .agg [.lit (.string [32]), .lit (.string [32]), .lit (.string [105, 107])], .lit (.bool false)]]

/-- 'souklaw20.DecideNames': WHATEVER THE INPUT: true; the input reads as it did. -/
def decideNamesSpec : ChangeSpec := { name := "decideNames", fn := fun _ => fun
  | [] => { results := [.lit (.bool true)], args := [] }
  | _ => none }
def decideNamesRow : OpenClaim := { program := "ythbflajpdhgfiaagreatdoor", sum := "a9cde2e854c20714c87a52e5d1b55bb4b099f084ce6d34bcd12c5d9e2bfe8eb7", func := "souk/souklaw20.DecideNames", spec := "decideNames", inPlace := ["math/bits.Add64"], unfollowed := true, recurses := true, named := ["souk/schema.commands", "souk/schema.kinds", "souk/book.prices", "math/bits.divideError", "math/bits.overflowError"], plainKeys := false, apart := false, laid := [("souk/book.prices", laid_souk_book_prices), ("souk/schema.kinds", laid_souk_schema_kinds), ("souk/schema.commands", laid_souk_schema_commands)] }
def DecideNamesSaid : Prop := decideNamesRow.holds Tryz.pinned (OpenSpec.ofChange decideNamesSpec)

/-- ITS FALSE NEIGHBOUR: 'it returns false'. Refute it at one input. -/
def decideNamesWrong : ChangeSpec := { name := "decideNames", fn := fun _ => fun
  | [] => { results := [.lit (.bool false)], args := [] }
  | _ => none }
def DecideNamesWrongFalsely : Prop := decideNamesRow.holds Tryz.pinned (OpenSpec.ofChange decideNamesWrong)

/-- 'souklaw20.DecideServed': WHATEVER THE INPUT: true; the input reads as it did. -/
def decideServedSpec : ChangeSpec := { name := "decideServed", fn := fun _ => fun
  | [d1, d2] => { results := [.lit (.bool true)], args := [d1, d2] }
  | _ => none }
def decideServedRow : OpenClaim := { program := "ythbflajpdhgfiaagreatdoor", sum := "a9cde2e854c20714c87a52e5d1b55bb4b099f084ce6d34bcd12c5d9e2bfe8eb7", func := "souk/souklaw20.DecideServed", spec := "decideServed", inPlace := ["math/bits.Add64"], unfollowed := true, recurses := true, named := ["souk/schema.commands", "souk/schema.kinds", "souk/book.prices", "math/bits.divideError", "math/bits.overflowError"], plainKeys := false, apart := false, laid := [("souk/book.prices", laid_souk_book_prices), ("souk/schema.kinds", laid_souk_schema_kinds), ("souk/schema.commands", laid_souk_schema_commands)] }
def DecideServedSaid : Prop := decideServedRow.holds Tryz.pinned (OpenSpec.ofChange decideServedSpec)

/-- ITS FALSE NEIGHBOUR: 'it returns false'. Refute it at one input. -/
def decideServedWrong : ChangeSpec := { name := "decideServed", fn := fun _ => fun
  | [d1, d2] => { results := [.lit (.bool false)], args := [d1, d2] }
  | _ => none }
def DecideServedWrongFalsely : Prop := decideServedRow.holds Tryz.pinned (OpenSpec.ofChange decideServedWrong)

/-- 'souklaw20.DecideSold': WHATEVER THE INPUT: true; the input reads as it did. -/
def decideSoldSpec : ChangeSpec := { name := "decideSold", fn := fun _ => fun
  | [d1, d2] => { results := [.lit (.bool true)], args := [d1, d2] }
  | _ => none }
def decideSoldRow : OpenClaim := { program := "ythbflajpdhgfiaagreatdoor", sum := "a9cde2e854c20714c87a52e5d1b55bb4b099f084ce6d34bcd12c5d9e2bfe8eb7", func := "souk/souklaw20.DecideSold", spec := "decideSold", inPlace := ["math/bits.Add64"], unfollowed := true, recurses := true, named := ["souk/schema.commands", "souk/schema.kinds", "souk/book.prices", "math/bits.divideError", "math/bits.overflowError"], plainKeys := false, apart := false, laid := [("souk/book.prices", laid_souk_book_prices), ("souk/schema.kinds", laid_souk_schema_kinds), ("souk/schema.commands", laid_souk_schema_commands)] }
def DecideSoldSaid : Prop := decideSoldRow.holds Tryz.pinned (OpenSpec.ofChange decideSoldSpec)

/-- ITS FALSE NEIGHBOUR: 'it returns false'. Refute it at one input. -/
def decideSoldWrong : ChangeSpec := { name := "decideSold", fn := fun _ => fun
  | [d1, d2] => { results := [.lit (.bool false)], args := [d1, d2] }
  | _ => none }
def DecideSoldWrongFalsely : Prop := decideSoldRow.holds Tryz.pinned (OpenSpec.ofChange decideSoldWrong)

/-- 'souklaw20.DecideHappens': WHATEVER THE INPUT: true; the input reads as it did. -/
def decideHappensSpec : ChangeSpec := { name := "decideHappens", fn := fun _ => fun
  | [d1, d2] => { results := [.lit (.bool true)], args := [d1, d2] }
  | _ => none }
def decideHappensRow : OpenClaim := { program := "ythbflajpdhgfiaagreatdoor", sum := "a9cde2e854c20714c87a52e5d1b55bb4b099f084ce6d34bcd12c5d9e2bfe8eb7", func := "souk/souklaw20.DecideHappens", spec := "decideHappens", inPlace := ["math/bits.Add64"], unfollowed := true, recurses := true, named := ["souk/schema.commands", "souk/schema.kinds", "souk/book.prices", "math/bits.divideError", "math/bits.overflowError"], plainKeys := false, apart := false, laid := [("souk/book.prices", laid_souk_book_prices), ("souk/schema.kinds", laid_souk_schema_kinds), ("souk/schema.commands", laid_souk_schema_commands)] }
def DecideHappensSaid : Prop := decideHappensRow.holds Tryz.pinned (OpenSpec.ofChange decideHappensSpec)

/-- ITS FALSE NEIGHBOUR: 'it returns false'. Refute it at one input. -/
def decideHappensWrong : ChangeSpec := { name := "decideHappens", fn := fun _ => fun
  | [d1, d2] => { results := [.lit (.bool false)], args := [d1, d2] }
  | _ => none }
def DecideHappensWrongFalsely : Prop := decideHappensRow.holds Tryz.pinned (OpenSpec.ofChange decideHappensWrong)

/- THE SECOND FORM. 'bulk': how many values and letters a reading holds, each counted each time it is reached (what is shared counts as often as it is met; a slice's spare places count too). A statement '..UptoSaid' is the law's where the arguments, and the package variables that the reading takes, are together of bulk at most 1048576: NARROWER than '..Said'. Prove '..Said' where nothing that the law and all that it calls make is longer than what came in: it says more and counts as full. Else prove '..UptoSaid'. A law counts once. -/
mutual
def uptoBulk {H : Type} : DataW H → Nat
  | .lit (.string bytes) => bytes.length + 1
  | .lit _ => 1
  | .nil => 1
  | .ptr d => uptoBulk d + 1
  | .slice elems spare => uptoBulkAll elems + uptoBulkAll spare + 1
  | .agg parts => uptoBulkAll parts + 1
  | .iface _ d => uptoBulk d + 1
  | .map entries => uptoBulkEntries entries + 1
  | .held _ => 1
def uptoBulkAll {H : Type} : List (DataW H) → Nat
  | [] => 0
  | d :: r => uptoBulk d + uptoBulkAll r
def uptoBulkEntries {H : Type} : List (Lit × DataW H) → Nat
  | [] => 0
  | x :: r => uptoBulkEntry x + uptoBulkEntries r
def uptoBulkEntry {H : Type} : Lit × DataW H → Nat
  | (.string bytes, d) => bytes.length + uptoBulk d + 1
  | (_, d) => uptoBulk d + 1
 end
def uptoSmall : (H : Type) → List (DataW H) → Bool := fun _ ds => decide (uptoBulkAll ds ≤ 1048576)
def OpenSpec.upto (s : _root_.Go.ChangeSpec) : _root_.Go.OpenSpec := { _root_.Go.OpenSpec.ofChange s with cond := some uptoSmall }

/-- 'souklaw20.DecideNames', WHERE WHAT IT READS IS OF BULK AT MOST 1048576: true; the input reads as it did. -/
def decideNamesUptoRow : OpenClaim := { program := "ythbflajpdhgfiaagreatdoor", sum := "a9cde2e854c20714c87a52e5d1b55bb4b099f084ce6d34bcd12c5d9e2bfe8eb7", func := "souk/souklaw20.DecideNames", spec := "decideNames", inPlace := ["math/bits.Add64"], unfollowed := true, recurses := true, named := ["souk/schema.commands", "souk/schema.kinds", "souk/book.prices", "math/bits.divideError", "math/bits.overflowError"], plainKeys := false, apart := false, laid := [("souk/book.prices", laid_souk_book_prices), ("souk/schema.kinds", laid_souk_schema_kinds), ("souk/schema.commands", laid_souk_schema_commands)], narrowed := true }
def DecideNamesUptoSaid : Prop := decideNamesUptoRow.holds Tryz.pinned (OpenSpec.upto decideNamesSpec)

/-- 'souklaw20.DecideServed', WHERE WHAT IT READS IS OF BULK AT MOST 1048576: true; the input reads as it did. -/
def decideServedUptoRow : OpenClaim := { program := "ythbflajpdhgfiaagreatdoor", sum := "a9cde2e854c20714c87a52e5d1b55bb4b099f084ce6d34bcd12c5d9e2bfe8eb7", func := "souk/souklaw20.DecideServed", spec := "decideServed", inPlace := ["math/bits.Add64"], unfollowed := true, recurses := true, named := ["souk/schema.commands", "souk/schema.kinds", "souk/book.prices", "math/bits.divideError", "math/bits.overflowError"], plainKeys := false, apart := false, laid := [("souk/book.prices", laid_souk_book_prices), ("souk/schema.kinds", laid_souk_schema_kinds), ("souk/schema.commands", laid_souk_schema_commands)], narrowed := true }
def DecideServedUptoSaid : Prop := decideServedUptoRow.holds Tryz.pinned (OpenSpec.upto decideServedSpec)

/-- 'souklaw20.DecideSold', WHERE WHAT IT READS IS OF BULK AT MOST 1048576: true; the input reads as it did. -/
def decideSoldUptoRow : OpenClaim := { program := "ythbflajpdhgfiaagreatdoor", sum := "a9cde2e854c20714c87a52e5d1b55bb4b099f084ce6d34bcd12c5d9e2bfe8eb7", func := "souk/souklaw20.DecideSold", spec := "decideSold", inPlace := ["math/bits.Add64"], unfollowed := true, recurses := true, named := ["souk/schema.commands", "souk/schema.kinds", "souk/book.prices", "math/bits.divideError", "math/bits.overflowError"], plainKeys := false, apart := false, laid := [("souk/book.prices", laid_souk_book_prices), ("souk/schema.kinds", laid_souk_schema_kinds), ("souk/schema.commands", laid_souk_schema_commands)], narrowed := true }
def DecideSoldUptoSaid : Prop := decideSoldUptoRow.holds Tryz.pinned (OpenSpec.upto decideSoldSpec)

/-- 'souklaw20.DecideHappens', WHERE WHAT IT READS IS OF BULK AT MOST 1048576: true; the input reads as it did. -/
def decideHappensUptoRow : OpenClaim := { program := "ythbflajpdhgfiaagreatdoor", sum := "a9cde2e854c20714c87a52e5d1b55bb4b099f084ce6d34bcd12c5d9e2bfe8eb7", func := "souk/souklaw20.DecideHappens", spec := "decideHappens", inPlace := ["math/bits.Add64"], unfollowed := true, recurses := true, named := ["souk/schema.commands", "souk/schema.kinds", "souk/book.prices", "math/bits.divideError", "math/bits.overflowError"], plainKeys := false, apart := false, laid := [("souk/book.prices", laid_souk_book_prices), ("souk/schema.kinds", laid_souk_schema_kinds), ("souk/schema.commands", laid_souk_schema_commands)], narrowed := true }
def DecideHappensUptoSaid : Prop := decideHappensUptoRow.holds Tryz.pinned (OpenSpec.upto decideHappensSpec)

end Rows
end Go.Proofs.YthbflajpdhgfiaaGreatDoor
