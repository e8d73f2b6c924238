/-
  NARROWER THAN 'FOR EVERY INPUT', by the rows' own cells (each row's printed sentence says how): ApplyWhere: laid · ApplyFirst: laid · ApplyNames: laid · ApplyWins: laid · ApplyBack: laid · ApplyParts: laid · ApplyMay: laid.
  DERIVED. THE GIVEN ROWS OF THIS SEAT. 7 by the template 'for every input the law returns true; each argument reads behind the call as it read before'; 0 by the template 'total and deterministic' (their statements: YtibmaifoaajllaaGreatDoorTotals.lean).
  GIVEN WITH THE SEED: the statements are not yours to turn. If you find one false, say at which input.
  Laid BY PROGRAM, IN A SANDBOX (cutbox-rows.mjs): the forced cells as the released guide's own fill.sh prints them over the translation fb5e51a786e9e5ed… (all of the seat's roots in one cut). By AI agents, Wed Nov 11 2026. No macro, syntax, notation, axiom, sorry.
-/
import Derived.Test.YtibmaifoaajllaaGreatDoorChecked
import GoSem.Claim
import GoSem.ClaimJoined
import GoSem.ClaimMapViews
import Derived.JoinedTies
import Derived.KernelRfl
namespace Go.Proofs.YtibmaifoaajllaaGreatDoor
/- THE CELL 'sum', in the pinned program and in every row, IS THE sha256 OF THE DUMP (.gsa) THAT YtibmaifoaajllaaGreatDoorProg.lean LOADS. Nothing in Lean hashes anything: it is a label: what it is worth is what the hold of that sum in a sandbox is worth. -/
noncomputable def Tryz.pinned : Pinned := { name := "ytibmaifoaajllaagreatdoor", sum := "fb5e51a786e9e5ed0893f91d060a6f09fb2d1ffdd56578f0d34a2d588caba262", checked := Tryz.checked }
namespace Rows
def none {H : Type} : Left H := { results := [], args := [] }

/- WHAT THE LISTED PACKAGE-LEVEL VARIABLES READ AS WHEN THE CALL BEGINS. Each datum BY PROGRAM (the guide's laid-datum.mjs) off the statement by which the dump's own 'gosem.cut.vars' lays the variable. In a bare row this is a premise. The card (YtibmaifoaajllaaGreatDoorCards.lean) ties it to the program's text. -/
def laid_souk_book_prices {H : Type} : DataW H := .iface "func table" (.agg [.nil, .iface "func" (.lit (.string [115, 111, 117, 107, 47, 98, 111, 111, 107, 46, 112, 114, 105, 99, 101, 115, 36, 49])), .iface "func" (.lit (.string [115, 111, 117, 107, 47, 98, 111, 111, 107, 46, 112, 114, 105, 99, 101, 115, 36, 50]))])
def laid_souk_schema_kinds {H : Type} : DataW H := .agg [.agg [.lit (.string [111, 112, 101, 110, 101, 100]), .agg [.lit (.string [97]), .lit (.string [97]), .lit (.string [97])], .lit (.bool true)], .agg [.lit (.string [99, 108, 111, 115, 101, 100]), .agg [.lit (.string [97]), .lit (.string [97]), .lit (.string [97])], .lit (.bool false)], .agg [.lit (.string [108, 105, 115, 116, 101, 100]), .agg [.lit (.string [105]), .lit (.string [105, 107]), .lit (.string [105, 107])], .lit (.bool true)], .agg [.lit (.string [104, 97, 108, 116, 101, 100]), .agg [.lit (.string [105]), .lit (.string [105]), .lit (.string [105])], .lit (.bool false)], .agg [.lit (.string [114, 101, 115, 117, 109, 101, 100]), .agg [.lit (.string [105]), .lit (.string [105]), .lit (.string [105])], .lit (.bool false)], .agg [.lit (.string [100, 101, 112, 111, 115, 105, 116, 101, 100]), .agg [.lit (.string [97, 109]), .lit (.string [97, 109]), .lit (.string [97, 109])], .lit (.bool false)], .agg [.lit (.string [119, 105, 116, 104, 100, 114, 97, 119, 110]), .agg [.lit (.string [97, 109]), .lit (.string [97, 109]), .lit (.string [97, 109])], .lit (.bool false)], .agg [.lit (.string [105, 115, 115, 117, 101, 100]), .agg [.lit (.string [97, 105, 113]), .lit (.string [97, 105, 113]), .lit (.string [97, 105, 113])], .lit (.bool false)], .agg [.lit (.string [114, 101, 100, 101, 101, 109, 101, 100]), .agg [.lit (.string [97, 105, 113]), .lit (.string [97, 105, 113]), .lit (.string [97, 105, 113])], .lit (.bool false)], .agg [.lit (.string [102, 101, 101, 32, 115, 101, 116]), .agg [.lit (.string [98]), .lit (.string [98]), .lit (.string [98])], .lit (.bool false)], .agg [.lit (.string [112, 108, 97, 99, 101, 100]), .agg [.lit (.string [111, 97, 105, 115, 112, 113]), .lit (.string [111, 97, 105, 115, 112, 113]), .lit (.string [111, 97, 105, 115, 112, 113])], .lit (.bool false)], .agg [.lit (.string [99, 97, 110, 99, 101, 108, 108, 101, 100]), .agg [.lit (.string [111]), .lit (.string [111]), .lit (.string [111])], .lit (.bool false)], .agg [.lit (.string [116, 114, 97, 100, 101, 100]), .agg [.lit (.string [111, 111, 112, 113]), .lit (.string [111, 111, 112, 113, 122]), .lit (.string [111, 111, 112, 113, 122])], .lit (.bool false)], .agg [.lit (.string [101, 110, 103, 108, 105, 115, 104]), .agg [.lit (.string [99, 97, 105, 113, 109, 116]), .lit (.string [99, 97, 105, 113, 109, 109, 116]), .lit (.string [99, 97, 105, 113, 109, 109, 116])], .lit (.bool false)], .agg [.lit (.string [114, 97, 105, 115, 101, 100]), .agg [.lit (.string [99, 97, 109]), .lit (.string [99, 97, 109]), .lit (.string [99, 97, 109])], .lit (.bool false)], .agg [.lit (.string [115, 101, 97, 108, 101, 100]), .agg [.lit (.string [99, 97, 105, 113, 109, 116]), .lit (.string [99, 97, 105, 113, 109, 116]), .lit (.string [99, 97, 105, 113, 109, 116])], .lit (.bool false)], .agg [.lit (.string [98, 105, 100]), .agg [.lit (.string [99, 97, 109]), .lit (.string [99, 97, 109]), .lit (.string [99, 97, 109])], .lit (.bool false)], .agg [.lit (.string [115, 111, 108, 100]), .agg [.lit (.string [99, 97, 109]), .lit (.string [99, 97, 109, 122]), .lit (.string [99, 97, 109, 122])], .lit (.bool false)], .agg [.lit (.string [117, 110, 115, 111, 108, 100]), .agg [.lit (.string [99]), .lit (.string [99]), .lit (.string [99])], .lit (.bool false)], .agg [.lit (.string [109, 111, 118, 101, 100]), .agg [.lit (.string [116]), .lit (.string [116]), .lit (.string [116])], .lit (.bool false)], .agg [.lit (.string [116, 114, 97, 110, 115, 102, 101, 114, 114, 101, 100]), .agg [.lit (.string [32]), .lit (.string [97, 97, 109]), .lit (.string [97, 97, 109])], .lit (.bool false)], .agg [.lit (.string [114, 101, 110, 97, 109, 101, 100]), .agg [.lit (.string [32]), .lit (.string [32]), .lit (.string [97])], .lit (.bool true)], .agg [.lit (.string [116, 105, 99, 107, 101, 100]), .agg [.lit (.string [32]), .lit (.string [32]), .lit (.string [105, 107])], .lit (.bool false)]]

/-- 'souklaw19.ApplyWhere': WHATEVER THE INPUT: true; the input reads as it did. -/
def applyWhereSpec : ChangeSpec := { name := "applyWhere", fn := fun _ => fun
  | [d1, d2] => { results := [.lit (.bool true)], args := [d1, d2] }
  | _ => none }
def applyWhereRow : OpenClaim := { program := "ytibmaifoaajllaagreatdoor", sum := "fb5e51a786e9e5ed0893f91d060a6f09fb2d1ffdd56578f0d34a2d588caba262", func := "souk/souklaw19.ApplyWhere", spec := "applyWhere", inPlace := ["math/bits.Add64"], unfollowed := true, recurses := true, named := ["souk/schema.kinds", "souk/book.prices", "math/bits.divideError", "math/bits.overflowError"], plainKeys := false, apart := false, laid := [("souk/book.prices", laid_souk_book_prices), ("souk/schema.kinds", laid_souk_schema_kinds)] }
def ApplyWhereSaid : Prop := applyWhereRow.holds Tryz.pinned (OpenSpec.ofChange applyWhereSpec)

/-- ITS FALSE NEIGHBOUR: 'it returns false'. Refute it at one input. -/
def applyWhereWrong : ChangeSpec := { name := "applyWhere", fn := fun _ => fun
  | [d1, d2] => { results := [.lit (.bool false)], args := [d1, d2] }
  | _ => none }
def ApplyWhereWrongFalsely : Prop := applyWhereRow.holds Tryz.pinned (OpenSpec.ofChange applyWhereWrong)

/-- 'souklaw19.ApplyFirst': WHATEVER THE INPUT: true; the input reads as it did. -/
def applyFirstSpec : ChangeSpec := { name := "applyFirst", fn := fun _ => fun
  | [d1, d2] => { results := [.lit (.bool true)], args := [d1, d2] }
  | _ => none }
def applyFirstRow : OpenClaim := { program := "ytibmaifoaajllaagreatdoor", sum := "fb5e51a786e9e5ed0893f91d060a6f09fb2d1ffdd56578f0d34a2d588caba262", func := "souk/souklaw19.ApplyFirst", spec := "applyFirst", inPlace := ["math/bits.Add64"], unfollowed := true, recurses := true, named := ["souk/schema.kinds", "souk/book.prices", "math/bits.divideError", "math/bits.overflowError"], plainKeys := false, apart := false, laid := [("souk/book.prices", laid_souk_book_prices), ("souk/schema.kinds", laid_souk_schema_kinds)] }
def ApplyFirstSaid : Prop := applyFirstRow.holds Tryz.pinned (OpenSpec.ofChange applyFirstSpec)

/-- ITS FALSE NEIGHBOUR: 'it returns false'. Refute it at one input. -/
def applyFirstWrong : ChangeSpec := { name := "applyFirst", fn := fun _ => fun
  | [d1, d2] => { results := [.lit (.bool false)], args := [d1, d2] }
  | _ => none }
def ApplyFirstWrongFalsely : Prop := applyFirstRow.holds Tryz.pinned (OpenSpec.ofChange applyFirstWrong)

/-- 'souklaw19.ApplyNames': WHATEVER THE INPUT: true; the input reads as it did. -/
def applyNamesSpec : ChangeSpec := { name := "applyNames", fn := fun _ => fun
  | [] => { results := [.lit (.bool true)], args := [] }
  | _ => none }
def applyNamesRow : OpenClaim := { program := "ytibmaifoaajllaagreatdoor", sum := "fb5e51a786e9e5ed0893f91d060a6f09fb2d1ffdd56578f0d34a2d588caba262", func := "souk/souklaw19.ApplyNames", spec := "applyNames", inPlace := ["math/bits.Add64"], unfollowed := true, recurses := true, named := ["souk/schema.kinds", "souk/book.prices", "math/bits.divideError", "math/bits.overflowError"], plainKeys := false, apart := false, laid := [("souk/book.prices", laid_souk_book_prices), ("souk/schema.kinds", laid_souk_schema_kinds)] }
def ApplyNamesSaid : Prop := applyNamesRow.holds Tryz.pinned (OpenSpec.ofChange applyNamesSpec)

/-- ITS FALSE NEIGHBOUR: 'it returns false'. Refute it at one input. -/
def applyNamesWrong : ChangeSpec := { name := "applyNames", fn := fun _ => fun
  | [] => { results := [.lit (.bool false)], args := [] }
  | _ => none }
def ApplyNamesWrongFalsely : Prop := applyNamesRow.holds Tryz.pinned (OpenSpec.ofChange applyNamesWrong)

/-- 'souklaw19.ApplyWins': WHATEVER THE INPUT: true; the input reads as it did. -/
def applyWinsSpec : ChangeSpec := { name := "applyWins", fn := fun _ => fun
  | [d1, d2, d3, d4, d5] => { results := [.lit (.bool true)], args := [d1, d2, d3, d4, d5] }
  | _ => none }
def applyWinsRow : OpenClaim := { program := "ytibmaifoaajllaagreatdoor", sum := "fb5e51a786e9e5ed0893f91d060a6f09fb2d1ffdd56578f0d34a2d588caba262", func := "souk/souklaw19.ApplyWins", spec := "applyWins", inPlace := ["math/bits.Add64"], unfollowed := true, recurses := true, named := ["souk/schema.kinds", "souk/book.prices", "math/bits.divideError", "math/bits.overflowError"], plainKeys := false, apart := false, laid := [("souk/book.prices", laid_souk_book_prices), ("souk/schema.kinds", laid_souk_schema_kinds)] }
def ApplyWinsSaid : Prop := applyWinsRow.holds Tryz.pinned (OpenSpec.ofChange applyWinsSpec)

/-- ITS FALSE NEIGHBOUR: 'it returns false'. Refute it at one input. -/
def applyWinsWrong : ChangeSpec := { name := "applyWins", fn := fun _ => fun
  | [d1, d2, d3, d4, d5] => { results := [.lit (.bool false)], args := [d1, d2, d3, d4, d5] }
  | _ => none }
def ApplyWinsWrongFalsely : Prop := applyWinsRow.holds Tryz.pinned (OpenSpec.ofChange applyWinsWrong)

/-- 'souklaw19.ApplyBack': WHATEVER THE INPUT: true; the input reads as it did. -/
def applyBackSpec : ChangeSpec := { name := "applyBack", fn := fun _ => fun
  | [d1, d2] => { results := [.lit (.bool true)], args := [d1, d2] }
  | _ => none }
def applyBackRow : OpenClaim := { program := "ytibmaifoaajllaagreatdoor", sum := "fb5e51a786e9e5ed0893f91d060a6f09fb2d1ffdd56578f0d34a2d588caba262", func := "souk/souklaw19.ApplyBack", spec := "applyBack", inPlace := ["math/bits.Add64"], unfollowed := true, recurses := true, named := ["souk/schema.kinds", "souk/book.prices", "math/bits.divideError", "math/bits.overflowError"], plainKeys := false, apart := false, laid := [("souk/book.prices", laid_souk_book_prices), ("souk/schema.kinds", laid_souk_schema_kinds)] }
def ApplyBackSaid : Prop := applyBackRow.holds Tryz.pinned (OpenSpec.ofChange applyBackSpec)

/-- ITS FALSE NEIGHBOUR: 'it returns false'. Refute it at one input. -/
def applyBackWrong : ChangeSpec := { name := "applyBack", fn := fun _ => fun
  | [d1, d2] => { results := [.lit (.bool false)], args := [d1, d2] }
  | _ => none }
def ApplyBackWrongFalsely : Prop := applyBackRow.holds Tryz.pinned (OpenSpec.ofChange applyBackWrong)

/-- 'souklaw19.ApplyParts': WHATEVER THE INPUT: true; the input reads as it did. -/
def applyPartsSpec : ChangeSpec := { name := "applyParts", fn := fun _ => fun
  | [d1, d2, d3] => { results := [.lit (.bool true)], args := [d1, d2, d3] }
  | _ => none }
def applyPartsRow : OpenClaim := { program := "ytibmaifoaajllaagreatdoor", sum := "fb5e51a786e9e5ed0893f91d060a6f09fb2d1ffdd56578f0d34a2d588caba262", func := "souk/souklaw19.ApplyParts", spec := "applyParts", inPlace := ["math/bits.Add64"], unfollowed := true, recurses := true, named := ["souk/schema.kinds", "souk/book.prices", "math/bits.divideError", "math/bits.overflowError"], plainKeys := false, apart := false, laid := [("souk/book.prices", laid_souk_book_prices), ("souk/schema.kinds", laid_souk_schema_kinds)] }
def ApplyPartsSaid : Prop := applyPartsRow.holds Tryz.pinned (OpenSpec.ofChange applyPartsSpec)

/-- ITS FALSE NEIGHBOUR: 'it returns false'. Refute it at one input. -/
def applyPartsWrong : ChangeSpec := { name := "applyParts", fn := fun _ => fun
  | [d1, d2, d3] => { results := [.lit (.bool false)], args := [d1, d2, d3] }
  | _ => none }
def ApplyPartsWrongFalsely : Prop := applyPartsRow.holds Tryz.pinned (OpenSpec.ofChange applyPartsWrong)

/-- 'souklaw19.ApplyMay': WHATEVER THE INPUT: true; the input reads as it did. -/
def applyMaySpec : ChangeSpec := { name := "applyMay", fn := fun _ => fun
  | [d1, d2] => { results := [.lit (.bool true)], args := [d1, d2] }
  | _ => none }
def applyMayRow : OpenClaim := { program := "ytibmaifoaajllaagreatdoor", sum := "fb5e51a786e9e5ed0893f91d060a6f09fb2d1ffdd56578f0d34a2d588caba262", func := "souk/souklaw19.ApplyMay", spec := "applyMay", inPlace := ["math/bits.Add64"], unfollowed := true, recurses := true, named := ["souk/schema.kinds", "souk/book.prices", "math/bits.divideError", "math/bits.overflowError"], plainKeys := false, apart := false, laid := [("souk/book.prices", laid_souk_book_prices), ("souk/schema.kinds", laid_souk_schema_kinds)] }
def ApplyMaySaid : Prop := applyMayRow.holds Tryz.pinned (OpenSpec.ofChange applyMaySpec)

/-- ITS FALSE NEIGHBOUR: 'it returns false'. Refute it at one input. -/
def applyMayWrong : ChangeSpec := { name := "applyMay", fn := fun _ => fun
  | [d1, d2] => { results := [.lit (.bool false)], args := [d1, d2] }
  | _ => none }
def ApplyMayWrongFalsely : Prop := applyMayRow.holds Tryz.pinned (OpenSpec.ofChange applyMayWrong)

/- THE SECOND FORM. 'bulk': how many values and letters a reading holds, each counted each time it is reached (what is shared counts as often as it is met; a slice's spare places count too). A statement '..UptoSaid' is the law's where the arguments, and the package variables that the reading takes, are together of bulk at most 1048576: NARROWER than '..Said'. Prove '..Said' where nothing that the law and all that it calls make is longer than what came in: it says more and counts as full. Else prove '..UptoSaid'. A law counts once. -/
mutual
def uptoBulk {H : Type} : DataW H → Nat
  | .lit (.string bytes) => bytes.length + 1
  | .lit _ => 1
  | .nil => 1
  | .ptr d => uptoBulk d + 1
  | .slice elems spare => uptoBulkAll elems + uptoBulkAll spare + 1
  | .agg parts => uptoBulkAll parts + 1
  | .iface _ d => uptoBulk d + 1
  | .map entries => uptoBulkEntries entries + 1
  | .held _ => 1
def uptoBulkAll {H : Type} : List (DataW H) → Nat
  | [] => 0
  | d :: r => uptoBulk d + uptoBulkAll r
def uptoBulkEntries {H : Type} : List (Lit × DataW H) → Nat
  | [] => 0
  | x :: r => uptoBulkEntry x + uptoBulkEntries r
def uptoBulkEntry {H : Type} : Lit × DataW H → Nat
  | (.string bytes, d) => bytes.length + uptoBulk d + 1
  | (_, d) => uptoBulk d + 1
 end
def uptoSmall : (H : Type) → List (DataW H) → Bool := fun _ ds => decide (uptoBulkAll ds ≤ 1048576)
def OpenSpec.upto (s : _root_.Go.ChangeSpec) : _root_.Go.OpenSpec := { _root_.Go.OpenSpec.ofChange s with cond := some uptoSmall }

/-- 'souklaw19.ApplyWhere', WHERE WHAT IT READS IS OF BULK AT MOST 1048576: true; the input reads as it did. -/
def applyWhereUptoRow : OpenClaim := { program := "ytibmaifoaajllaagreatdoor", sum := "fb5e51a786e9e5ed0893f91d060a6f09fb2d1ffdd56578f0d34a2d588caba262", func := "souk/souklaw19.ApplyWhere", spec := "applyWhere", inPlace := ["math/bits.Add64"], unfollowed := true, recurses := true, named := ["souk/schema.kinds", "souk/book.prices", "math/bits.divideError", "math/bits.overflowError"], plainKeys := false, apart := false, laid := [("souk/book.prices", laid_souk_book_prices), ("souk/schema.kinds", laid_souk_schema_kinds)], narrowed := true }
def ApplyWhereUptoSaid : Prop := applyWhereUptoRow.holds Tryz.pinned (OpenSpec.upto applyWhereSpec)

/-- 'souklaw19.ApplyFirst', WHERE WHAT IT READS IS OF BULK AT MOST 1048576: true; the input reads as it did. -/
def applyFirstUptoRow : OpenClaim := { program := "ytibmaifoaajllaagreatdoor", sum := "fb5e51a786e9e5ed0893f91d060a6f09fb2d1ffdd56578f0d34a2d588caba262", func := "souk/souklaw19.ApplyFirst", spec := "applyFirst", inPlace := ["math/bits.Add64"], unfollowed := true, recurses := true, named := ["souk/schema.kinds", "souk/book.prices", "math/bits.divideError", "math/bits.overflowError"], plainKeys := false, apart := false, laid := [("souk/book.prices", laid_souk_book_prices), ("souk/schema.kinds", laid_souk_schema_kinds)], narrowed := true }
def ApplyFirstUptoSaid : Prop := applyFirstUptoRow.holds Tryz.pinned (OpenSpec.upto applyFirstSpec)

/-- 'souklaw19.ApplyNames', WHERE WHAT IT READS IS OF BULK AT MOST 1048576: true; the input reads as it did. -/
def applyNamesUptoRow : OpenClaim := { program := "ytibmaifoaajllaagreatdoor", sum := "fb5e51a786e9e5ed0893f91d060a6f09fb2d1ffdd56578f0d34a2d588caba262", func := "souk/souklaw19.ApplyNames", spec := "applyNames", inPlace := ["math/bits.Add64"], unfollowed := true, recurses := true, named := ["souk/schema.kinds", "souk/book.prices", "math/bits.divideError", "math/bits.overflowError"], plainKeys := false, apart := false, laid := [("souk/book.prices", laid_souk_book_prices), ("souk/schema.kinds", laid_souk_schema_kinds)], narrowed := true }
def ApplyNamesUptoSaid : Prop := applyNamesUptoRow.holds Tryz.pinned (OpenSpec.upto applyNamesSpec)

/-- 'souklaw19.ApplyWins', WHERE WHAT IT READS IS OF BULK AT MOST 1048576: true; the input reads as it did. -/
def applyWinsUptoRow : OpenClaim := { program := "ytibmaifoaajllaagreatdoor", sum := "fb5e51a786e9e5ed0893f91d060a6f09fb2d1ffdd56578f0d34a2d588caba262", func := "souk/souklaw19.ApplyWins", spec := "applyWins", inPlace := ["math/bits.Add64"], unfollowed := true, recurses := true, named := ["souk/schema.kinds", "souk/book.prices", "math/bits.divideError", "math/bits.overflowError"], plainKeys := false, apart := false, laid := [("souk/book.prices", laid_souk_book_prices), ("souk/schema.kinds", laid_souk_schema_kinds)], narrowed := true }
def ApplyWinsUptoSaid : Prop := applyWinsUptoRow.holds Tryz.pinned (OpenSpec.upto applyWinsSpec)

/-- 'souklaw19.ApplyBack', WHERE WHAT IT READS IS OF BULK AT MOST 1048576: true; the input reads as it did. -/
def applyBackUptoRow : OpenClaim := { program := "ytibmaifoaajllaagreatdoor", sum := "fb5e51a786e9e5ed0893f91d060a6f09fb2d1ffdd56578f0d34a2d588caba262", func := "souk/souklaw19.ApplyBack", spec := "applyBack", inPlace := ["math/bits.Add64"], unfollowed := true, recurses := true, named := ["souk/schema.kinds", "souk/book.prices", "math/bits.divideError", "math/bits.overflowError"], plainKeys := false, apart := false, laid := [("souk/book.prices", laid_souk_book_prices), ("souk/schema.kinds", laid_souk_schema_kinds)], narrowed := true }
def ApplyBackUptoSaid : Prop := applyBackUptoRow.holds Tryz.pinned (OpenSpec.upto applyBackSpec)

/-- 'souklaw19.ApplyParts', WHERE WHAT IT READS IS OF BULK AT MOST 1048576: true; the input reads as it did. -/
def applyPartsUptoRow : OpenClaim := { program := "ytibmaifoaajllaagreatdoor", sum := "fb5e51a786e9e5ed0893f91d060a6f09fb2d1ffdd56578f0d34a2d588caba262", func := "souk/souklaw19.ApplyParts", spec := "applyParts", inPlace := ["math/bits.Add64"], unfollowed := true, recurses := true, named := ["souk/schema.kinds", "souk/book.prices", "math/bits.divideError", "math/bits.overflowError"], plainKeys := false, apart := false, laid := [("souk/book.prices", laid_souk_book_prices), ("souk/schema.kinds", laid_souk_schema_kinds)], narrowed := true }
def ApplyPartsUptoSaid : Prop := applyPartsUptoRow.holds Tryz.pinned (OpenSpec.upto applyPartsSpec)

/-- 'souklaw19.ApplyMay', WHERE WHAT IT READS IS OF BULK AT MOST 1048576: true; the input reads as it did. -/
def applyMayUptoRow : OpenClaim := { program := "ytibmaifoaajllaagreatdoor", sum := "fb5e51a786e9e5ed0893f91d060a6f09fb2d1ffdd56578f0d34a2d588caba262", func := "souk/souklaw19.ApplyMay", spec := "applyMay", inPlace := ["math/bits.Add64"], unfollowed := true, recurses := true, named := ["souk/schema.kinds", "souk/book.prices", "math/bits.divideError", "math/bits.overflowError"], plainKeys := false, apart := false, laid := [("souk/book.prices", laid_souk_book_prices), ("souk/schema.kinds", laid_souk_schema_kinds)], narrowed := true }
def ApplyMayUptoSaid : Prop := applyMayUptoRow.holds Tryz.pinned (OpenSpec.upto applyMaySpec)

end Rows
end Go.Proofs.YtibmaifoaajllaaGreatDoor
