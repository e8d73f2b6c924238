/- DecideNames: the trades behind them. -/
import Derived.Test.YthbflajpdhgfiaaGreatDoorQdDecideNamesf
set_option linter.all false
set_option maxHeartbeats 16000000
namespace Go.Proofs.YthbflajpdhgfiaaGreatDoor
open Go Go.Sk Go.RowKit
theorem dn_tB:((List.range 15).all (fun j=>trB 31 (j+16))&&(zE5 (sT 31 31) 32).isNone&&staB (sT 31 31) dnT)=true:=by decide +kernel
end Go.Proofs.YthbflajpdhgfiaaGreatDoor
