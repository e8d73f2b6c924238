/- Texts of ours, joined: the steps of the proof, or the claim's theorem. -/
import Derived.Test.YtggolnppckpdlaaGreatR35
set_option linter.unusedSimpArgs false
set_option linter.unusedVariables false
namespace Go.Proofs.YtggolnppckpdlaaGreat
open Go Go.Sk Go.RowKit
attribute [local irreducible] Go.Calls
structure Light (s : Sta) : Prop where
 rw : s.rows.length ≤ 1500
 od : s.orders.length ≤ 1500
 ac : s.accts.length ≤ 1500
 acN : ∀ k, k < s.accts.length → (ac_ s.accts k).name.size ≤ 1500
 ins : s.insts.length ≤ 1500
 insN : ∀ k, k < s.insts.length → (in_ s.insts k).name.size ≤ 1500
 au : s.aucs.length ≤ 1500
 bd : ∀ k, k < s.aucs.length → (s.aucs.getD k default).bids.length ≤ 1500
end Go.Proofs.YtggolnppckpdlaaGreat
