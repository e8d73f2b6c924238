/-
  No cell of these rows narrows 'for every input' (looked for: loops, veiled, ifaces, maps, wideKeys, modest, calm, conditions, laid).
  DERIVED. THE GIVEN ROWS OF THIS SEAT. 9 by the template 'for every input the law returns true; each argument reads behind the call as it read before'; 0 by the template 'total and deterministic' (their statements: YtkcoemikglbomaaTotals.lean).
  GIVEN WITH THE SEED: the statements are not yours to turn. If you find one false, say at which input.
  Laid BY PROGRAM, IN A SANDBOX (cutbox-rows.mjs): the forced cells as the released guide's own fill.sh prints them over the translation afe280b4bb90d536… (all of the seat's roots in one cut). By AI agents, Wed Nov 11 2026. No macro, syntax, notation, axiom, sorry.
-/
import Derived.Test.YtkcoemikglbomaaChecked
import GoSem.Claim
import GoSem.ClaimJoined
import GoSem.ClaimMapViews
import Derived.JoinedTies
import Derived.KernelRfl
namespace Go.Proofs.Ytkcoemikglbomaa
/- THE CELL 'sum', in the pinned program and in every row, IS THE sha256 OF THE DUMP (.gsa) THAT YtkcoemikglbomaaProg.lean LOADS. Nothing in Lean hashes anything: it is a label: what it is worth is what the hold of that sum in a sandbox is worth. -/
noncomputable def Try.pinned : Pinned := { name := "ytkcoemikglbomaa", sum := "afe280b4bb90d536c3031ad5685085e7f46037ce4f4e0f236ea3e2e896394cc6", checked := Try.checked }
namespace Rows
def none {H : Type} : Left H := { results := [], args := [] }

/-- 'souklaw17.AuctionBids': WHATEVER THE INPUT: true; the input reads as it did. -/
def auctionBidsSpec : ChangeSpec := { name := "auctionBids", fn := fun _ => fun
  | [d1, d2] => { results := [.lit (.bool true)], args := [d1, d2] }
  | _ => none }
def auctionBidsRow : OpenClaim := { program := "ytkcoemikglbomaa", sum := "afe280b4bb90d536c3031ad5685085e7f46037ce4f4e0f236ea3e2e896394cc6", func := "souk/souklaw17.AuctionBids", spec := "auctionBids", unfollowed := true, recurses := true, apart := false }
def AuctionBidsSaid : Prop := auctionBidsRow.holds Try.pinned (OpenSpec.ofChange auctionBidsSpec)

/-- ITS FALSE NEIGHBOUR: 'it returns false'. Refute it at one input. -/
def auctionBidsWrong : ChangeSpec := { name := "auctionBids", fn := fun _ => fun
  | [d1, d2] => { results := [.lit (.bool false)], args := [d1, d2] }
  | _ => none }
def AuctionBidsWrongFalsely : Prop := auctionBidsRow.holds Try.pinned (OpenSpec.ofChange auctionBidsWrong)

/-- 'souklaw17.AuctionTruth': WHATEVER THE INPUT: true; the input reads as it did. -/
def auctionTruthSpec : ChangeSpec := { name := "auctionTruth", fn := fun _ => fun
  | [d1, d2, d3] => { results := [.lit (.bool true)], args := [d1, d2, d3] }
  | _ => none }
def auctionTruthRow : OpenClaim := { program := "ytkcoemikglbomaa", sum := "afe280b4bb90d536c3031ad5685085e7f46037ce4f4e0f236ea3e2e896394cc6", func := "souk/souklaw17.AuctionTruth", spec := "auctionTruth", unfollowed := true, recurses := true, apart := false }
def AuctionTruthSaid : Prop := auctionTruthRow.holds Try.pinned (OpenSpec.ofChange auctionTruthSpec)

/-- ITS FALSE NEIGHBOUR: 'it returns false'. Refute it at one input. -/
def auctionTruthWrong : ChangeSpec := { name := "auctionTruth", fn := fun _ => fun
  | [d1, d2, d3] => { results := [.lit (.bool false)], args := [d1, d2, d3] }
  | _ => none }
def AuctionTruthWrongFalsely : Prop := auctionTruthRow.holds Try.pinned (OpenSpec.ofChange auctionTruthWrong)

/-- 'souklaw17.AuctionWins': WHATEVER THE INPUT: true; the input reads as it did. -/
def auctionWinsSpec : ChangeSpec := { name := "auctionWins", fn := fun _ => fun
  | [d1, d2, d3] => { results := [.lit (.bool true)], args := [d1, d2, d3] }
  | _ => none }
def auctionWinsRow : OpenClaim := { program := "ytkcoemikglbomaa", sum := "afe280b4bb90d536c3031ad5685085e7f46037ce4f4e0f236ea3e2e896394cc6", func := "souk/souklaw17.AuctionWins", spec := "auctionWins", unfollowed := true, recurses := true, apart := false }
def AuctionWinsSaid : Prop := auctionWinsRow.holds Try.pinned (OpenSpec.ofChange auctionWinsSpec)

/-- ITS FALSE NEIGHBOUR: 'it returns false'. Refute it at one input. -/
def auctionWinsWrong : ChangeSpec := { name := "auctionWins", fn := fun _ => fun
  | [d1, d2, d3] => { results := [.lit (.bool false)], args := [d1, d2, d3] }
  | _ => none }
def AuctionWinsWrongFalsely : Prop := auctionWinsRow.holds Try.pinned (OpenSpec.ofChange auctionWinsWrong)

/-- 'souklaw17.AuctionBest': WHATEVER THE INPUT: true; the input reads as it did. -/
def auctionBestSpec : ChangeSpec := { name := "auctionBest", fn := fun _ => fun
  | [d] => { results := [.lit (.bool true)], args := [d] }
  | _ => none }
def auctionBestRow : OpenClaim := { program := "ytkcoemikglbomaa", sum := "afe280b4bb90d536c3031ad5685085e7f46037ce4f4e0f236ea3e2e896394cc6", func := "souk/souklaw17.AuctionBest", spec := "auctionBest", unfollowed := true, recurses := true, apart := false }
def AuctionBestSaid : Prop := auctionBestRow.holds Try.pinned (OpenSpec.ofChange auctionBestSpec)

/-- ITS FALSE NEIGHBOUR: 'it returns false'. Refute it at one input. -/
def auctionBestWrong : ChangeSpec := { name := "auctionBest", fn := fun _ => fun
  | [d] => { results := [.lit (.bool false)], args := [d] }
  | _ => none }
def AuctionBestWrongFalsely : Prop := auctionBestRow.holds Try.pinned (OpenSpec.ofChange auctionBestWrong)

/-- 'souklaw17.AuctionTurned': WHATEVER THE INPUT: true; the input reads as it did. -/
def auctionTurnedSpec : ChangeSpec := { name := "auctionTurned", fn := fun _ => fun
  | [d1, d2] => { results := [.lit (.bool true)], args := [d1, d2] }
  | _ => none }
def auctionTurnedRow : OpenClaim := { program := "ytkcoemikglbomaa", sum := "afe280b4bb90d536c3031ad5685085e7f46037ce4f4e0f236ea3e2e896394cc6", func := "souk/souklaw17.AuctionTurned", spec := "auctionTurned", unfollowed := true, recurses := true, apart := false }
def AuctionTurnedSaid : Prop := auctionTurnedRow.holds Try.pinned (OpenSpec.ofChange auctionTurnedSpec)

/-- ITS FALSE NEIGHBOUR: 'it returns false'. Refute it at one input. -/
def auctionTurnedWrong : ChangeSpec := { name := "auctionTurned", fn := fun _ => fun
  | [d1, d2] => { results := [.lit (.bool false)], args := [d1, d2] }
  | _ => none }
def AuctionTurnedWrongFalsely : Prop := auctionTurnedRow.holds Try.pinned (OpenSpec.ofChange auctionTurnedWrong)

/-- 'souklaw17.AuctionRow': WHATEVER THE INPUT: true; the input reads as it did. -/
def auctionRowSpec : ChangeSpec := { name := "auctionRow", fn := fun _ => fun
  | [d1, d2, d3] => { results := [.lit (.bool true)], args := [d1, d2, d3] }
  | _ => none }
def auctionRowRow : OpenClaim := { program := "ytkcoemikglbomaa", sum := "afe280b4bb90d536c3031ad5685085e7f46037ce4f4e0f236ea3e2e896394cc6", func := "souk/souklaw17.AuctionRow", spec := "auctionRow", unfollowed := true, recurses := true, apart := false }
def AuctionRowSaid : Prop := auctionRowRow.holds Try.pinned (OpenSpec.ofChange auctionRowSpec)

/-- ITS FALSE NEIGHBOUR: 'it returns false'. Refute it at one input. -/
def auctionRowWrong : ChangeSpec := { name := "auctionRow", fn := fun _ => fun
  | [d1, d2, d3] => { results := [.lit (.bool false)], args := [d1, d2, d3] }
  | _ => none }
def AuctionRowWrongFalsely : Prop := auctionRowRow.holds Try.pinned (OpenSpec.ofChange auctionRowWrong)

/-- 'souklaw17.AuctionNames': WHATEVER THE INPUT: true; the input reads as it did. -/
def auctionNamesSpec : ChangeSpec := { name := "auctionNames", fn := fun _ => fun
  | [] => { results := [.lit (.bool true)], args := [] }
  | _ => none }
def auctionNamesRow : OpenClaim := { program := "ytkcoemikglbomaa", sum := "afe280b4bb90d536c3031ad5685085e7f46037ce4f4e0f236ea3e2e896394cc6", func := "souk/souklaw17.AuctionNames", spec := "auctionNames", unfollowed := true, recurses := true, apart := false }
def AuctionNamesSaid : Prop := auctionNamesRow.holds Try.pinned (OpenSpec.ofChange auctionNamesSpec)

/-- ITS FALSE NEIGHBOUR: 'it returns false'. Refute it at one input. -/
def auctionNamesWrong : ChangeSpec := { name := "auctionNames", fn := fun _ => fun
  | [] => { results := [.lit (.bool false)], args := [] }
  | _ => none }
def AuctionNamesWrongFalsely : Prop := auctionNamesRow.holds Try.pinned (OpenSpec.ofChange auctionNamesWrong)

/-- 'souklaw17.AuctionRises': WHATEVER THE INPUT: true; the input reads as it did. -/
def auctionRisesSpec : ChangeSpec := { name := "auctionRises", fn := fun _ => fun
  | [d1, d2] => { results := [.lit (.bool true)], args := [d1, d2] }
  | _ => none }
def auctionRisesRow : OpenClaim := { program := "ytkcoemikglbomaa", sum := "afe280b4bb90d536c3031ad5685085e7f46037ce4f4e0f236ea3e2e896394cc6", func := "souk/souklaw17.AuctionRises", spec := "auctionRises", unfollowed := true, recurses := true, apart := false }
def AuctionRisesSaid : Prop := auctionRisesRow.holds Try.pinned (OpenSpec.ofChange auctionRisesSpec)

/-- ITS FALSE NEIGHBOUR: 'it returns false'. Refute it at one input. -/
def auctionRisesWrong : ChangeSpec := { name := "auctionRises", fn := fun _ => fun
  | [d1, d2] => { results := [.lit (.bool false)], args := [d1, d2] }
  | _ => none }
def AuctionRisesWrongFalsely : Prop := auctionRisesRow.holds Try.pinned (OpenSpec.ofChange auctionRisesWrong)

/-- 'souklaw17.AuctionTells': WHATEVER THE INPUT: true; the input reads as it did. -/
def auctionTellsSpec : ChangeSpec := { name := "auctionTells", fn := fun _ => fun
  | [d1, d2, d3, d4, d5] => { results := [.lit (.bool true)], args := [d1, d2, d3, d4, d5] }
  | _ => none }
def auctionTellsRow : OpenClaim := { program := "ytkcoemikglbomaa", sum := "afe280b4bb90d536c3031ad5685085e7f46037ce4f4e0f236ea3e2e896394cc6", func := "souk/souklaw17.AuctionTells", spec := "auctionTells", unfollowed := true, recurses := true, apart := false }
def AuctionTellsSaid : Prop := auctionTellsRow.holds Try.pinned (OpenSpec.ofChange auctionTellsSpec)

/-- ITS FALSE NEIGHBOUR: 'it returns false'. Refute it at one input. -/
def auctionTellsWrong : ChangeSpec := { name := "auctionTells", fn := fun _ => fun
  | [d1, d2, d3, d4, d5] => { results := [.lit (.bool false)], args := [d1, d2, d3, d4, d5] }
  | _ => none }
def AuctionTellsWrongFalsely : Prop := auctionTellsRow.holds Try.pinned (OpenSpec.ofChange auctionTellsWrong)

/- THE SECOND FORM. 'bulk': how many values and letters a reading holds, each counted each time it is reached (what is shared counts as often as it is met; a slice's spare places count too). A statement '..UptoSaid' is the law's where the arguments, and the package variables that the reading takes, are together of bulk at most 1048576: NARROWER than '..Said'. Prove '..Said' where nothing that the law and all that it calls make is longer than what came in: it says more and counts as full. Else prove '..UptoSaid'. A law counts once. -/
mutual
def uptoBulk {H : Type} : DataW H → Nat
  | .lit (.string bytes) => bytes.length + 1
  | .lit _ => 1
  | .nil => 1
  | .ptr d => uptoBulk d + 1
  | .slice elems spare => uptoBulkAll elems + uptoBulkAll spare + 1
  | .agg parts => uptoBulkAll parts + 1
  | .iface _ d => uptoBulk d + 1
  | .map entries => uptoBulkEntries entries + 1
  | .held _ => 1
def uptoBulkAll {H : Type} : List (DataW H) → Nat
  | [] => 0
  | d :: r => uptoBulk d + uptoBulkAll r
def uptoBulkEntries {H : Type} : List (Lit × DataW H) → Nat
  | [] => 0
  | x :: r => uptoBulkEntry x + uptoBulkEntries r
def uptoBulkEntry {H : Type} : Lit × DataW H → Nat
  | (.string bytes, d) => bytes.length + uptoBulk d + 1
  | (_, d) => uptoBulk d + 1
 end
def uptoSmall : (H : Type) → List (DataW H) → Bool := fun _ ds => decide (uptoBulkAll ds ≤ 1048576)
def OpenSpec.upto (s : _root_.Go.ChangeSpec) : _root_.Go.OpenSpec := { _root_.Go.OpenSpec.ofChange s with cond := some uptoSmall }

/-- 'souklaw17.AuctionBids', WHERE WHAT IT READS IS OF BULK AT MOST 1048576: true; the input reads as it did. -/
def auctionBidsUptoRow : OpenClaim := { program := "ytkcoemikglbomaa", sum := "afe280b4bb90d536c3031ad5685085e7f46037ce4f4e0f236ea3e2e896394cc6", func := "souk/souklaw17.AuctionBids", spec := "auctionBids", unfollowed := true, recurses := true, apart := false, narrowed := true }
def AuctionBidsUptoSaid : Prop := auctionBidsUptoRow.holds Try.pinned (OpenSpec.upto auctionBidsSpec)

/-- 'souklaw17.AuctionTruth', WHERE WHAT IT READS IS OF BULK AT MOST 1048576: true; the input reads as it did. -/
def auctionTruthUptoRow : OpenClaim := { program := "ytkcoemikglbomaa", sum := "afe280b4bb90d536c3031ad5685085e7f46037ce4f4e0f236ea3e2e896394cc6", func := "souk/souklaw17.AuctionTruth", spec := "auctionTruth", unfollowed := true, recurses := true, apart := false, narrowed := true }
def AuctionTruthUptoSaid : Prop := auctionTruthUptoRow.holds Try.pinned (OpenSpec.upto auctionTruthSpec)

/-- 'souklaw17.AuctionWins', WHERE WHAT IT READS IS OF BULK AT MOST 1048576: true; the input reads as it did. -/
def auctionWinsUptoRow : OpenClaim := { program := "ytkcoemikglbomaa", sum := "afe280b4bb90d536c3031ad5685085e7f46037ce4f4e0f236ea3e2e896394cc6", func := "souk/souklaw17.AuctionWins", spec := "auctionWins", unfollowed := true, recurses := true, apart := false, narrowed := true }
def AuctionWinsUptoSaid : Prop := auctionWinsUptoRow.holds Try.pinned (OpenSpec.upto auctionWinsSpec)

/-- 'souklaw17.AuctionBest', WHERE WHAT IT READS IS OF BULK AT MOST 1048576: true; the input reads as it did. -/
def auctionBestUptoRow : OpenClaim := { program := "ytkcoemikglbomaa", sum := "afe280b4bb90d536c3031ad5685085e7f46037ce4f4e0f236ea3e2e896394cc6", func := "souk/souklaw17.AuctionBest", spec := "auctionBest", unfollowed := true, recurses := true, apart := false, narrowed := true }
def AuctionBestUptoSaid : Prop := auctionBestUptoRow.holds Try.pinned (OpenSpec.upto auctionBestSpec)

/-- 'souklaw17.AuctionTurned', WHERE WHAT IT READS IS OF BULK AT MOST 1048576: true; the input reads as it did. -/
def auctionTurnedUptoRow : OpenClaim := { program := "ytkcoemikglbomaa", sum := "afe280b4bb90d536c3031ad5685085e7f46037ce4f4e0f236ea3e2e896394cc6", func := "souk/souklaw17.AuctionTurned", spec := "auctionTurned", unfollowed := true, recurses := true, apart := false, narrowed := true }
def AuctionTurnedUptoSaid : Prop := auctionTurnedUptoRow.holds Try.pinned (OpenSpec.upto auctionTurnedSpec)

/-- 'souklaw17.AuctionRow', WHERE WHAT IT READS IS OF BULK AT MOST 1048576: true; the input reads as it did. -/
def auctionRowUptoRow : OpenClaim := { program := "ytkcoemikglbomaa", sum := "afe280b4bb90d536c3031ad5685085e7f46037ce4f4e0f236ea3e2e896394cc6", func := "souk/souklaw17.AuctionRow", spec := "auctionRow", unfollowed := true, recurses := true, apart := false, narrowed := true }
def AuctionRowUptoSaid : Prop := auctionRowUptoRow.holds Try.pinned (OpenSpec.upto auctionRowSpec)

/-- 'souklaw17.AuctionNames', WHERE WHAT IT READS IS OF BULK AT MOST 1048576: true; the input reads as it did. -/
def auctionNamesUptoRow : OpenClaim := { program := "ytkcoemikglbomaa", sum := "afe280b4bb90d536c3031ad5685085e7f46037ce4f4e0f236ea3e2e896394cc6", func := "souk/souklaw17.AuctionNames", spec := "auctionNames", unfollowed := true, recurses := true, apart := false, narrowed := true }
def AuctionNamesUptoSaid : Prop := auctionNamesUptoRow.holds Try.pinned (OpenSpec.upto auctionNamesSpec)

/-- 'souklaw17.AuctionRises', WHERE WHAT IT READS IS OF BULK AT MOST 1048576: true; the input reads as it did. -/
def auctionRisesUptoRow : OpenClaim := { program := "ytkcoemikglbomaa", sum := "afe280b4bb90d536c3031ad5685085e7f46037ce4f4e0f236ea3e2e896394cc6", func := "souk/souklaw17.AuctionRises", spec := "auctionRises", unfollowed := true, recurses := true, apart := false, narrowed := true }
def AuctionRisesUptoSaid : Prop := auctionRisesUptoRow.holds Try.pinned (OpenSpec.upto auctionRisesSpec)

/-- 'souklaw17.AuctionTells', WHERE WHAT IT READS IS OF BULK AT MOST 1048576: true; the input reads as it did. -/
def auctionTellsUptoRow : OpenClaim := { program := "ytkcoemikglbomaa", sum := "afe280b4bb90d536c3031ad5685085e7f46037ce4f4e0f236ea3e2e896394cc6", func := "souk/souklaw17.AuctionTells", spec := "auctionTells", unfollowed := true, recurses := true, apart := false, narrowed := true }
def AuctionTellsUptoSaid : Prop := auctionTellsUptoRow.holds Try.pinned (OpenSpec.upto auctionTellsSpec)

end Rows
end Go.Proofs.Ytkcoemikglbomaa
