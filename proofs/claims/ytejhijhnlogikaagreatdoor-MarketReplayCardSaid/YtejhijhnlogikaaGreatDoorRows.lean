/-
  NARROWER THAN 'FOR EVERY INPUT', by the rows' own cells (each row's printed sentence says how): MarketCross: laid · MarketCopies: laid · MarketNames: laid · MarketLeaves: laid · MarketLift: laid · MarketReplay: laid.
  DERIVED. THE GIVEN ROWS OF THIS SEAT. 6 by the template 'for every input the law returns true; each argument reads behind the call as it read before'; 0 by the template 'total and deterministic' (their statements: YtejhijhnlogikaaGreatDoorTotals.lean).
  GIVEN WITH THE SEED: the statements are not yours to turn. If you find one false, say at which input.
  Laid BY PROGRAM, IN A SANDBOX (cutbox-rows.mjs): the forced cells as the released guide's own fill.sh prints them over the translation 43987e32208491cc… (all of the seat's roots in one cut). By AI agents, Wed Nov 11 2026. No macro, syntax, notation, axiom, sorry.
-/
import Derived.Test.YtejhijhnlogikaaGreatDoorChecked
import GoSem.Claim
import GoSem.ClaimJoined
import GoSem.ClaimMapViews
import Derived.JoinedTies
import Derived.KernelRfl
namespace Go.Proofs.YtejhijhnlogikaaGreatDoor
/- THE CELL 'sum', in the pinned program and in every row, IS THE sha256 OF THE DUMP (.gsa) THAT YtejhijhnlogikaaGreatDoorProg.lean LOADS. Nothing in Lean hashes anything: it is a label: what it is worth is what the hold of that sum in a sandbox is worth. -/
noncomputable def Tryz.pinned : Pinned := { name := "ytejhijhnlogikaagreatdoor", sum := "43987e32208491cc873c61c4121d36e2a49eaa6b9c7c7cecb2cf546bbd231935", checked := Tryz.checked }
namespace Rows
def none {H : Type} : Left H := { results := [], args := [] }

/- WHAT THE LISTED PACKAGE-LEVEL VARIABLES READ AS WHEN THE CALL BEGINS. Each datum BY PROGRAM (the guide's laid-datum.mjs) off the statement by which the dump's own 'gosem.cut.vars' lays the variable. In a bare row this is a premise. The card (YtejhijhnlogikaaGreatDoorCards.lean) ties it to the program's text. -/
def laid_souk_book_prices {H : Type} : DataW H := .iface "func table" (.agg [.nil, .iface "func" (.lit (.string [115, 111, 117, 107, 47, 98, 111, 111, 107, 46, 112, 114, 105, 99, 101, 115, 36, 49])), .iface "func" (.lit (.string [115, 111, 117, 107, 47, 98, 111, 111, 107, 46, 112, 114, 105, 99, 101, 115, 36, 50]))])
def laid_souk_schema_kinds {H : Type} : DataW H := .agg [.agg [.lit (.string [111, 112, 101, 110, 101, 100]), .agg [.lit (.string [97]), .lit (.string [97]), .lit (.string [97])], .lit (.bool true)], .agg [.lit (.string [99, 108, 111, 115, 101, 100]), .agg [.lit (.string [97]), .lit (.string [97]), .lit (.string [97])], .lit (.bool false)], .agg [.lit (.string [108, 105, 115, 116, 101, 100]), .agg [.lit (.string [105]), .lit (.string [105, 107]), .lit (.string [105, 107])], .lit (.bool true)], .agg [.lit (.string [104, 97, 108, 116, 101, 100]), .agg [.lit (.string [105]), .lit (.string [105]), .lit (.string [105])], .lit (.bool false)], .agg [.lit (.string [114, 101, 115, 117, 109, 101, 100]), .agg [.lit (.string [105]), .lit (.string [105]), .lit (.string [105])], .lit (.bool false)], .agg [.lit (.string [100, 101, 112, 111, 115, 105, 116, 101, 100]), .agg [.lit (.string [97, 109]), .lit (.string [97, 109]), .lit (.string [97, 109])], .lit (.bool false)], .agg [.lit (.string [119, 105, 116, 104, 100, 114, 97, 119, 110]), .agg [.lit (.string [97, 109]), .lit (.string [97, 109]), .lit (.string [97, 109])], .lit (.bool false)], .agg [.lit (.string [105, 115, 115, 117, 101, 100]), .agg [.lit (.string [97, 105, 113]), .lit (.string [97, 105, 113]), .lit (.string [97, 105, 113])], .lit (.bool false)], .agg [.lit (.string [114, 101, 100, 101, 101, 109, 101, 100]), .agg [.lit (.string [97, 105, 113]), .lit (.string [97, 105, 113]), .lit (.string [97, 105, 113])], .lit (.bool false)], .agg [.lit (.string [102, 101, 101, 32, 115, 101, 116]), .agg [.lit (.string [98]), .lit (.string [98]), .lit (.string [98])], .lit (.bool false)], .agg [.lit (.string [112, 108, 97, 99, 101, 100]), .agg [.lit (.string [111, 97, 105, 115, 112, 113]), .lit (.string [111, 97, 105, 115, 112, 113]), .lit (.string [111, 97, 105, 115, 112, 113])], .lit (.bool false)], .agg [.lit (.string [99, 97, 110, 99, 101, 108, 108, 101, 100]), .agg [.lit (.string [111]), .lit (.string [111]), .lit (.string [111])], .lit (.bool false)], .agg [.lit (.string [116, 114, 97, 100, 101, 100]), .agg [.lit (.string [111, 111, 112, 113]), .lit (.string [111, 111, 112, 113, 122]), .lit (.string [111, 111, 112, 113, 122])], .lit (.bool false)], .agg [.lit (.string [101, 110, 103, 108, 105, 115, 104]), .agg [.lit (.string [99, 97, 105, 113, 109, 116]), .lit (.string [99, 97, 105, 113, 109, 109, 116]), .lit (.string [99, 97, 105, 113, 109, 109, 116])], .lit (.bool false)], .agg [.lit (.string [114, 97, 105, 115, 101, 100]), .agg [.lit (.string [99, 97, 109]), .lit (.string [99, 97, 109]), .lit (.string [99, 97, 109])], .lit (.bool false)], .agg [.lit (.string [115, 101, 97, 108, 101, 100]), .agg [.lit (.string [99, 97, 105, 113, 109, 116]), .lit (.string [99, 97, 105, 113, 109, 116]), .lit (.string [99, 97, 105, 113, 109, 116])], .lit (.bool false)], .agg [.lit (.string [98, 105, 100]), .agg [.lit (.string [99, 97, 109]), .lit (.string [99, 97, 109]), .lit (.string [99, 97, 109])], .lit (.bool false)], .agg [.lit (.string [115, 111, 108, 100]), .agg [.lit (.string [99, 97, 109]), .lit (.string [99, 97, 109, 122]), .lit (.string [99, 97, 109, 122])], .lit (.bool false)], .agg [.lit (.string [117, 110, 115, 111, 108, 100]), .agg [.lit (.string [99]), .lit (.string [99]), .lit (.string [99])], .lit (.bool false)], .agg [.lit (.string [109, 111, 118, 101, 100]), .agg [.lit (.string [116]), .lit (.string [116]), .lit (.string [116])], .lit (.bool false)], .agg [.lit (.string [116, 114, 97, 110, 115, 102, 101, 114, 114, 101, 100]), .agg [.lit (.string [32]), .lit (.string [97, 97, 109]), .lit (.string [97, 97, 109])], .lit (.bool false)], .agg [.lit (.string [114, 101, 110, 97, 109, 101, 100]), .agg [.lit (.string [32]), .lit (.string [32]), .lit (.string [97])], .lit (.bool true)], .agg [.lit (.string [116, 105, 99, 107, 101, 100]), .agg [.lit (.string [32]), .lit (.string [32]), .lit (.string [105, 107])], .lit (.bool false)]]
def laid_souk_schema_commands {H : Type} : DataW H := .agg [.agg [.lit (.string [111, 112, 101, 110]), .agg [.lit (.string [32]), .lit (.string [32]), .lit (.string [])], .lit (.bool true)], .agg [.lit (.string [99, 108, 111, 115, 101]), .agg [.lit (.string [32]), .lit (.string [32]), .lit (.string [97])], .lit (.bool false)], .agg [.lit (.string [108, 105, 115, 116]), .agg [.lit (.string [32]), .lit (.string [32]), .lit (.string [107])], .lit (.bool true)], .agg [.lit (.string [104, 97, 108, 116]), .agg [.lit (.string [32]), .lit (.string [32]), .lit (.string [105])], .lit (.bool false)], .agg [.lit (.string [114, 101, 115, 117, 109, 101]), .agg [.lit (.string [32]), .lit (.string [32]), .lit (.string [105])], .lit (.bool false)], .agg [.lit (.string [100, 101, 112, 111, 115, 105, 116]), .agg [.lit (.string [32]), .lit (.string [32]), .lit (.string [97, 109])], .lit (.bool false)], .agg [.lit (.string [119, 105, 116, 104, 100, 114, 97, 119]), .agg [.lit (.string [32]), .lit (.string [32]), .lit (.string [97, 109])], .lit (.bool false)], .agg [.lit (.string [105, 115, 115, 117, 101]), .agg [.lit (.string [32]), .lit (.string [32]), .lit (.string [97, 105, 113])], .lit (.bool false)], .agg [.lit (.string [114, 101, 100, 101, 101, 109]), .agg [.lit (.string [32]), .lit (.string [32]), .lit (.string [97, 105, 113])], .lit (.bool false)], .agg [.lit (.string [102, 101, 101]), .agg [.lit (.string [32]), .lit (.string [32]), .lit (.string [98])], .lit (.bool false)], .agg [.lit (.string [112, 108, 97, 99, 101]), .agg [.lit (.string [32]), .lit (.string [32]), .lit (.string [97, 105, 115, 112, 113])], .lit (.bool false)], .agg [.lit (.string [99, 97, 110, 99, 101, 108]), .agg [.lit (.string [32]), .lit (.string [32]), .lit (.string [97, 111])], .lit (.bool false)], .agg [.lit (.string [101, 110, 103, 108, 105, 115, 104]), .agg [.lit (.string [32]), .lit (.string [32]), .lit (.string [97, 105, 113, 109, 109, 116])], .lit (.bool false)], .agg [.lit (.string [114, 97, 105, 115, 101]), .agg [.lit (.string [32]), .lit (.string [32]), .lit (.string [97, 99, 109])], .lit (.bool false)], .agg [.lit (.string [115, 101, 97, 108, 101, 100]), .agg [.lit (.string [32]), .lit (.string [32]), .lit (.string [97, 105, 113, 109, 116])], .lit (.bool false)], .agg [.lit (.string [98, 105, 100]), .agg [.lit (.string [32]), .lit (.string [32]), .lit (.string [97, 99, 109])], .lit (.bool false)], .agg [.lit (.string [109, 111, 118, 101]), .agg [.lit (.string [32]), .lit (.string [32]), .lit (.string [116])], .lit (.bool false)], .agg [.lit (.string [116, 114, 97, 110, 115, 102, 101, 114]), .agg [.lit (.string [32]), .lit (.string [32]), .lit (.string [97, 97, 109])], .lit (.bool false)], .agg [.lit (.string [114, 101, 110, 97, 109, 101]), .agg [.lit (.string [32]), .lit (.string [32]), .lit (.string [97])], .lit (.bool true)], .agg [.lit (.string [116, 105, 99, 107]), .agg [.lit (.string [32]), .lit (.string [32]), .lit (.string [105, 107])], .lit (.bool false)]]

/-- 'souklaw21.MarketCross': WHATEVER THE INPUT: true; the input reads as it did. -/
def marketCrossSpec : ChangeSpec := { name := "marketCross", fn := fun _ => fun
  | [d] => { results := [.lit (.bool true)], args := [d] }
  | _ => none }
def marketCrossRow : OpenClaim := { program := "ytejhijhnlogikaagreatdoor", sum := "43987e32208491cc873c61c4121d36e2a49eaa6b9c7c7cecb2cf546bbd231935", func := "souk/souklaw21.MarketCross", spec := "marketCross", inPlace := ["math/bits.Add64"], unfollowed := true, recurses := true, named := ["souk/schema.commands", "souk/schema.kinds", "souk/book.prices", "math/bits.divideError", "math/bits.overflowError"], plainKeys := false, apart := false, laid := [("souk/book.prices", laid_souk_book_prices), ("souk/schema.kinds", laid_souk_schema_kinds), ("souk/schema.commands", laid_souk_schema_commands)] }
def MarketCrossSaid : Prop := marketCrossRow.holds Tryz.pinned (OpenSpec.ofChange marketCrossSpec)

/-- ITS FALSE NEIGHBOUR: 'it returns false'. Refute it at one input. -/
def marketCrossWrong : ChangeSpec := { name := "marketCross", fn := fun _ => fun
  | [d] => { results := [.lit (.bool false)], args := [d] }
  | _ => none }
def MarketCrossWrongFalsely : Prop := marketCrossRow.holds Tryz.pinned (OpenSpec.ofChange marketCrossWrong)

/-- 'souklaw21.MarketCopies': WHATEVER THE INPUT: true; the input reads as it did. -/
def marketCopiesSpec : ChangeSpec := { name := "marketCopies", fn := fun _ => fun
  | [d1, d2, d3, d4] => { results := [.lit (.bool true)], args := [d1, d2, d3, d4] }
  | _ => none }
def marketCopiesRow : OpenClaim := { program := "ytejhijhnlogikaagreatdoor", sum := "43987e32208491cc873c61c4121d36e2a49eaa6b9c7c7cecb2cf546bbd231935", func := "souk/souklaw21.MarketCopies", spec := "marketCopies", inPlace := ["math/bits.Add64"], unfollowed := true, recurses := true, named := ["souk/schema.commands", "souk/schema.kinds", "souk/book.prices", "math/bits.divideError", "math/bits.overflowError"], plainKeys := false, apart := false, laid := [("souk/book.prices", laid_souk_book_prices), ("souk/schema.kinds", laid_souk_schema_kinds), ("souk/schema.commands", laid_souk_schema_commands)] }
def MarketCopiesSaid : Prop := marketCopiesRow.holds Tryz.pinned (OpenSpec.ofChange marketCopiesSpec)

/-- ITS FALSE NEIGHBOUR: 'it returns false'. Refute it at one input. -/
def marketCopiesWrong : ChangeSpec := { name := "marketCopies", fn := fun _ => fun
  | [d1, d2, d3, d4] => { results := [.lit (.bool false)], args := [d1, d2, d3, d4] }
  | _ => none }
def MarketCopiesWrongFalsely : Prop := marketCopiesRow.holds Tryz.pinned (OpenSpec.ofChange marketCopiesWrong)

/-- 'souklaw21.MarketNames': WHATEVER THE INPUT: true; the input reads as it did. -/
def marketNamesSpec : ChangeSpec := { name := "marketNames", fn := fun _ => fun
  | [] => { results := [.lit (.bool true)], args := [] }
  | _ => none }
def marketNamesRow : OpenClaim := { program := "ytejhijhnlogikaagreatdoor", sum := "43987e32208491cc873c61c4121d36e2a49eaa6b9c7c7cecb2cf546bbd231935", func := "souk/souklaw21.MarketNames", spec := "marketNames", inPlace := ["math/bits.Add64"], unfollowed := true, recurses := true, named := ["souk/schema.commands", "souk/schema.kinds", "souk/book.prices", "math/bits.divideError", "math/bits.overflowError"], plainKeys := false, apart := false, laid := [("souk/book.prices", laid_souk_book_prices), ("souk/schema.kinds", laid_souk_schema_kinds), ("souk/schema.commands", laid_souk_schema_commands)] }
def MarketNamesSaid : Prop := marketNamesRow.holds Tryz.pinned (OpenSpec.ofChange marketNamesSpec)

/-- ITS FALSE NEIGHBOUR: 'it returns false'. Refute it at one input. -/
def marketNamesWrong : ChangeSpec := { name := "marketNames", fn := fun _ => fun
  | [] => { results := [.lit (.bool false)], args := [] }
  | _ => none }
def MarketNamesWrongFalsely : Prop := marketNamesRow.holds Tryz.pinned (OpenSpec.ofChange marketNamesWrong)

/-- 'souklaw21.MarketLeaves': WHATEVER THE INPUT: true; the input reads as it did. -/
def marketLeavesSpec : ChangeSpec := { name := "marketLeaves", fn := fun _ => fun
  | [d1, d2, d3, d4] => { results := [.lit (.bool true)], args := [d1, d2, d3, d4] }
  | _ => none }
def marketLeavesRow : OpenClaim := { program := "ytejhijhnlogikaagreatdoor", sum := "43987e32208491cc873c61c4121d36e2a49eaa6b9c7c7cecb2cf546bbd231935", func := "souk/souklaw21.MarketLeaves", spec := "marketLeaves", inPlace := ["math/bits.Add64"], unfollowed := true, recurses := true, named := ["souk/schema.commands", "souk/schema.kinds", "souk/book.prices", "math/bits.divideError", "math/bits.overflowError"], plainKeys := false, apart := false, laid := [("souk/book.prices", laid_souk_book_prices), ("souk/schema.kinds", laid_souk_schema_kinds), ("souk/schema.commands", laid_souk_schema_commands)] }
def MarketLeavesSaid : Prop := marketLeavesRow.holds Tryz.pinned (OpenSpec.ofChange marketLeavesSpec)

/-- ITS FALSE NEIGHBOUR: 'it returns false'. Refute it at one input. -/
def marketLeavesWrong : ChangeSpec := { name := "marketLeaves", fn := fun _ => fun
  | [d1, d2, d3, d4] => { results := [.lit (.bool false)], args := [d1, d2, d3, d4] }
  | _ => none }
def MarketLeavesWrongFalsely : Prop := marketLeavesRow.holds Tryz.pinned (OpenSpec.ofChange marketLeavesWrong)

/-- 'souklaw21.MarketLift': WHATEVER THE INPUT: true; the input reads as it did. -/
def marketLiftSpec : ChangeSpec := { name := "marketLift", fn := fun _ => fun
  | [d1, d2, d3] => { results := [.lit (.bool true)], args := [d1, d2, d3] }
  | _ => none }
def marketLiftRow : OpenClaim := { program := "ytejhijhnlogikaagreatdoor", sum := "43987e32208491cc873c61c4121d36e2a49eaa6b9c7c7cecb2cf546bbd231935", func := "souk/souklaw21.MarketLift", spec := "marketLift", inPlace := ["math/bits.Add64"], unfollowed := true, recurses := true, named := ["souk/schema.commands", "souk/schema.kinds", "souk/book.prices", "math/bits.divideError", "math/bits.overflowError"], plainKeys := false, apart := false, laid := [("souk/book.prices", laid_souk_book_prices), ("souk/schema.kinds", laid_souk_schema_kinds), ("souk/schema.commands", laid_souk_schema_commands)] }
def MarketLiftSaid : Prop := marketLiftRow.holds Tryz.pinned (OpenSpec.ofChange marketLiftSpec)

/-- ITS FALSE NEIGHBOUR: 'it returns false'. Refute it at one input. -/
def marketLiftWrong : ChangeSpec := { name := "marketLift", fn := fun _ => fun
  | [d1, d2, d3] => { results := [.lit (.bool false)], args := [d1, d2, d3] }
  | _ => none }
def MarketLiftWrongFalsely : Prop := marketLiftRow.holds Tryz.pinned (OpenSpec.ofChange marketLiftWrong)

/-- 'souklaw21.MarketReplay': WHATEVER THE INPUT: true; the input reads as it did. -/
def marketReplaySpec : ChangeSpec := { name := "marketReplay", fn := fun _ => fun
  | [d1, d2, d3, d4] => { results := [.lit (.bool true)], args := [d1, d2, d3, d4] }
  | _ => none }
def marketReplayRow : OpenClaim := { program := "ytejhijhnlogikaagreatdoor", sum := "43987e32208491cc873c61c4121d36e2a49eaa6b9c7c7cecb2cf546bbd231935", func := "souk/souklaw21.MarketReplay", spec := "marketReplay", inPlace := ["math/bits.Add64"], unfollowed := true, recurses := true, named := ["souk/schema.commands", "souk/schema.kinds", "souk/book.prices", "math/bits.divideError", "math/bits.overflowError"], plainKeys := false, apart := false, laid := [("souk/book.prices", laid_souk_book_prices), ("souk/schema.kinds", laid_souk_schema_kinds), ("souk/schema.commands", laid_souk_schema_commands)] }
def MarketReplaySaid : Prop := marketReplayRow.holds Tryz.pinned (OpenSpec.ofChange marketReplaySpec)

/-- ITS FALSE NEIGHBOUR: 'it returns false'. Refute it at one input. -/
def marketReplayWrong : ChangeSpec := { name := "marketReplay", fn := fun _ => fun
  | [d1, d2, d3, d4] => { results := [.lit (.bool false)], args := [d1, d2, d3, d4] }
  | _ => none }
def MarketReplayWrongFalsely : Prop := marketReplayRow.holds Tryz.pinned (OpenSpec.ofChange marketReplayWrong)

/- THE SECOND FORM. 'bulk': how many values and letters a reading holds, each counted each time it is reached (what is shared counts as often as it is met; a slice's spare places count too). A statement '..UptoSaid' is the law's where the arguments, and the package variables that the reading takes, are together of bulk at most 1048576: NARROWER than '..Said'. Prove '..Said' where nothing that the law and all that it calls make is longer than what came in: it says more and counts as full. Else prove '..UptoSaid'. A law counts once. -/
mutual
def uptoBulk {H : Type} : DataW H → Nat
  | .lit (.string bytes) => bytes.length + 1
  | .lit _ => 1
  | .nil => 1
  | .ptr d => uptoBulk d + 1
  | .slice elems spare => uptoBulkAll elems + uptoBulkAll spare + 1
  | .agg parts => uptoBulkAll parts + 1
  | .iface _ d => uptoBulk d + 1
  | .map entries => uptoBulkEntries entries + 1
  | .held _ => 1
def uptoBulkAll {H : Type} : List (DataW H) → Nat
  | [] => 0
  | d :: r => uptoBulk d + uptoBulkAll r
def uptoBulkEntries {H : Type} : List (Lit × DataW H) → Nat
  | [] => 0
  | x :: r => uptoBulkEntry x + uptoBulkEntries r
def uptoBulkEntry {H : Type} : Lit × DataW H → Nat
  | (.string bytes, d) => bytes.length + uptoBulk d + 1
  | (_, d) => uptoBulk d + 1
 end
def uptoSmall : (H : Type) → List (DataW H) → Bool := fun _ ds => decide (uptoBulkAll ds ≤ 1048576)
def OpenSpec.upto (s : _root_.Go.ChangeSpec) : _root_.Go.OpenSpec := { _root_.Go.OpenSpec.ofChange s with cond := some uptoSmall }

/-- 'souklaw21.MarketCross', WHERE WHAT IT READS IS OF BULK AT MOST 1048576: true; the input reads as it did. -/
def marketCrossUptoRow : OpenClaim := { program := "ytejhijhnlogikaagreatdoor", sum := "43987e32208491cc873c61c4121d36e2a49eaa6b9c7c7cecb2cf546bbd231935", func := "souk/souklaw21.MarketCross", spec := "marketCross", inPlace := ["math/bits.Add64"], unfollowed := true, recurses := true, named := ["souk/schema.commands", "souk/schema.kinds", "souk/book.prices", "math/bits.divideError", "math/bits.overflowError"], plainKeys := false, apart := false, laid := [("souk/book.prices", laid_souk_book_prices), ("souk/schema.kinds", laid_souk_schema_kinds), ("souk/schema.commands", laid_souk_schema_commands)], narrowed := true }
def MarketCrossUptoSaid : Prop := marketCrossUptoRow.holds Tryz.pinned (OpenSpec.upto marketCrossSpec)

/-- 'souklaw21.MarketCopies', WHERE WHAT IT READS IS OF BULK AT MOST 1048576: true; the input reads as it did. -/
def marketCopiesUptoRow : OpenClaim := { program := "ytejhijhnlogikaagreatdoor", sum := "43987e32208491cc873c61c4121d36e2a49eaa6b9c7c7cecb2cf546bbd231935", func := "souk/souklaw21.MarketCopies", spec := "marketCopies", inPlace := ["math/bits.Add64"], unfollowed := true, recurses := true, named := ["souk/schema.commands", "souk/schema.kinds", "souk/book.prices", "math/bits.divideError", "math/bits.overflowError"], plainKeys := false, apart := false, laid := [("souk/book.prices", laid_souk_book_prices), ("souk/schema.kinds", laid_souk_schema_kinds), ("souk/schema.commands", laid_souk_schema_commands)], narrowed := true }
def MarketCopiesUptoSaid : Prop := marketCopiesUptoRow.holds Tryz.pinned (OpenSpec.upto marketCopiesSpec)

/-- 'souklaw21.MarketNames', WHERE WHAT IT READS IS OF BULK AT MOST 1048576: true; the input reads as it did. -/
def marketNamesUptoRow : OpenClaim := { program := "ytejhijhnlogikaagreatdoor", sum := "43987e32208491cc873c61c4121d36e2a49eaa6b9c7c7cecb2cf546bbd231935", func := "souk/souklaw21.MarketNames", spec := "marketNames", inPlace := ["math/bits.Add64"], unfollowed := true, recurses := true, named := ["souk/schema.commands", "souk/schema.kinds", "souk/book.prices", "math/bits.divideError", "math/bits.overflowError"], plainKeys := false, apart := false, laid := [("souk/book.prices", laid_souk_book_prices), ("souk/schema.kinds", laid_souk_schema_kinds), ("souk/schema.commands", laid_souk_schema_commands)], narrowed := true }
def MarketNamesUptoSaid : Prop := marketNamesUptoRow.holds Tryz.pinned (OpenSpec.upto marketNamesSpec)

/-- 'souklaw21.MarketLeaves', WHERE WHAT IT READS IS OF BULK AT MOST 1048576: true; the input reads as it did. -/
def marketLeavesUptoRow : OpenClaim := { program := "ytejhijhnlogikaagreatdoor", sum := "43987e32208491cc873c61c4121d36e2a49eaa6b9c7c7cecb2cf546bbd231935", func := "souk/souklaw21.MarketLeaves", spec := "marketLeaves", inPlace := ["math/bits.Add64"], unfollowed := true, recurses := true, named := ["souk/schema.commands", "souk/schema.kinds", "souk/book.prices", "math/bits.divideError", "math/bits.overflowError"], plainKeys := false, apart := false, laid := [("souk/book.prices", laid_souk_book_prices), ("souk/schema.kinds", laid_souk_schema_kinds), ("souk/schema.commands", laid_souk_schema_commands)], narrowed := true }
def MarketLeavesUptoSaid : Prop := marketLeavesUptoRow.holds Tryz.pinned (OpenSpec.upto marketLeavesSpec)

/-- 'souklaw21.MarketLift', WHERE WHAT IT READS IS OF BULK AT MOST 1048576: true; the input reads as it did. -/
def marketLiftUptoRow : OpenClaim := { program := "ytejhijhnlogikaagreatdoor", sum := "43987e32208491cc873c61c4121d36e2a49eaa6b9c7c7cecb2cf546bbd231935", func := "souk/souklaw21.MarketLift", spec := "marketLift", inPlace := ["math/bits.Add64"], unfollowed := true, recurses := true, named := ["souk/schema.commands", "souk/schema.kinds", "souk/book.prices", "math/bits.divideError", "math/bits.overflowError"], plainKeys := false, apart := false, laid := [("souk/book.prices", laid_souk_book_prices), ("souk/schema.kinds", laid_souk_schema_kinds), ("souk/schema.commands", laid_souk_schema_commands)], narrowed := true }
def MarketLiftUptoSaid : Prop := marketLiftUptoRow.holds Tryz.pinned (OpenSpec.upto marketLiftSpec)

/-- 'souklaw21.MarketReplay', WHERE WHAT IT READS IS OF BULK AT MOST 1048576: true; the input reads as it did. -/
def marketReplayUptoRow : OpenClaim := { program := "ytejhijhnlogikaagreatdoor", sum := "43987e32208491cc873c61c4121d36e2a49eaa6b9c7c7cecb2cf546bbd231935", func := "souk/souklaw21.MarketReplay", spec := "marketReplay", inPlace := ["math/bits.Add64"], unfollowed := true, recurses := true, named := ["souk/schema.commands", "souk/schema.kinds", "souk/book.prices", "math/bits.divideError", "math/bits.overflowError"], plainKeys := false, apart := false, laid := [("souk/book.prices", laid_souk_book_prices), ("souk/schema.kinds", laid_souk_schema_kinds), ("souk/schema.commands", laid_souk_schema_commands)], narrowed := true }
def MarketReplayUptoSaid : Prop := marketReplayUptoRow.holds Tryz.pinned (OpenSpec.upto marketReplaySpec)

end Rows
end Go.Proofs.YtejhijhnlogikaaGreatDoor
