/- DecideNames: one order more, the first trades. -/
import Derived.Test.YthbflajpdhgfiaaGreatDoorQdDecideNamesf
set_option linter.all false
set_option maxHeartbeats 16000000
namespace Go.Proofs.YthbflajpdhgfiaaGreatDoor
open Go Go.Sk Go.RowKit
theorem dn_tC:(fsB 32&&(List.range 16).all fun j=>trB 32 j)=true:=by decide +kernel
end Go.Proofs.YthbflajpdhgfiaaGreatDoor
