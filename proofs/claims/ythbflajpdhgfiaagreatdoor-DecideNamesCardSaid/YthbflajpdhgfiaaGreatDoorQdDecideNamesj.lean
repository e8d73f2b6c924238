/- DecideNames: one order more, the trades behind them. -/
import Derived.Test.YthbflajpdhgfiaaGreatDoorQdDecideNamesf
set_option linter.all false
set_option maxHeartbeats 16000000
namespace Go.Proofs.YthbflajpdhgfiaaGreatDoor
open Go Go.Sk Go.RowKit
theorem dn_tD:((List.range 15).all (fun j=>trB 32 (j+16))&&(zE5 (sT 32 31) 33).isSome)=true:=by decide +kernel
end Go.Proofs.YthbflajpdhgfiaaGreatDoor
