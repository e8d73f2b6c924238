/- Texts of ours, joined: the steps of the proof, or the claim's theorem. -/
import Derived.Test.YtggolnppckpdlaaGreatQ02
import Derived.Test.YtggolnppckpdlaaGreatQ37
set_option linter.unusedSimpArgs false
set_option linter.unusedVariables false
namespace Go.Proofs.YtggolnppckpdlaaGreat
open Go Go.Sk Go.RowKit
structure MayP (x : Auc) : Prop where
  id : within x.id 1099511627776 = true
  seller : within x.seller 64 = true
  inst : within x.inst 16 = true
  qty : within x.qty 1048576 = true
  reserve : within x.reserve 1125899906842624 = true
  fin : within x.fin 1099511627776 = true
  step0 : x.sealed = true → x.step = 0
  step1 : x.sealed = false → within x.step 1125899906842624 = true
  len16 : x.bids.length ≤ 16
  len1 : x.sealed = false → x.bids.length ≤ 1
  high : x.sealed = false → ∀ j, j < x.bids.length → x.reserve ≤ (x.bids.getD j default).amount
  ok : ∀ j, j < x.bids.length → badBid x j = false
end Go.Proofs.YtggolnppckpdlaaGreat
