/- DecideNames: the orders behind them. -/
import Derived.Test.YthbflajpdhgfiaaGreatDoorQdDecideNamesa
set_option linter.all false
set_option maxHeartbeats 16000000
namespace Go.Proofs.YthbflajpdhgfiaaGreatDoor
open Go Go.Sk Go.RowKit
theorem dn_stB:((List.range 16).all fun k=>stepB (dnS (k+16)) dnOne (dnS (k+16+1)))=true:=by decide +kernel
end Go.Proofs.YthbflajpdhgfiaaGreatDoor
