/- The statement DecideServedSaid, proved, and its tied card. -/
import Derived.ChangeKeysEq
import Derived.Deep.LoopGhost
import Derived.Deep.QuietTactic
import Derived.Deep.Slices
import Derived.KernelRfl
import Derived.LaidMore
import Derived.Laws.Bits64b
import Derived.Laws.IdiomStrings
import Derived.Laws.MakeOwn
import Derived.Laws.RangeString
import Derived.Laws.StructEq
import Derived.Lib.Mul64
import Derived.Maps.RangeRun
import Derived.OpenShut
import Derived.OrdersHeld
import Derived.ProofKit
import Derived.RangeFuncLeaves
import Derived.RangeFuncNested
import Derived.SevenTiedAt
import Derived.Shelf.SlLaysE
import Derived.Shelf.SlLaysF0
import Derived.Shelf.SlLaysM
import Derived.Shelf.SlSortCmp.NoneTotal
import Derived.Shelf.SlicesE.Compact
import Derived.Shelf.SortM.Plain
import Derived.Shelf.SortM.SortNone
import Derived.SizedLaws
import Derived.Sort.LoopGhostIn
import Derived.Stop.Joined
import Derived.TacticsIn
import Derived.Test.YthbflajpdhgfiaaGreatDoorCards
import Derived.Test.YthbflajpdhgfiaaGreatDoorChecked
import Derived.Test.YthbflajpdhgfiaaGreatDoorProg
import Derived.Test.YthbflajpdhgfiaaGreatDoorRows
import Derived.Test.YthbflajpdhgfiaaGreatDoorTie
import Derived.WalkKit
import Derived.WalkSpells
import Derived.Test.YthbflajpdhgfiaaGreatDoorQdDecideServedb
set_option linter.all false
set_option maxHeartbeats 16000000
namespace Go.Proofs.YthbflajpdhgfiaaGreatDoor
open Go Go.Sk Go.RowKit Go.ChangeShapes Go.WideShapes
set_option maxRecDepth 100000 in
theorem decideServed_holds:Rows.DecideServedSaid :=
 OpenClaim.holds_of_wide 4 Tryz.f4 rfl rfl rfl rfl rfl rfl rfl ⟨rfl,rfl,rfl,rfl,rfl⟩ rfl rfl rfl rfl rfl (by as_aux_lemma=>kernel_rfl) Tryz.func4 (by as_aux_lemma=>kernel_rfl)
  (zzA (by as_aux_lemma=>kernel_rfl)) (by unfold Func.isWrapper;first|(rw[if_pos (by decide +kernel)];kernel_rfl)|(rw[if_neg (by decide +kernel)];exact⟨rfl,rfl⟩))
  (fun os started H enc _=>decideServed_lifted os started H enc)
set_option maxRecDepth 100000 in
theorem decideServedCard_holds:Rows.DecideServedCardSaid :=
 Claim7.holds_tied_plain_at .later [] [.funcs,.data,.data] true (true,"7f542e007e972030139f9c78914e2695e57cd363c09c7183fd8cbc5f16d485c5") false
  decideServed_holds (fun _ h=>by cases h) (by kernel_rfl) (fun _ h=>by cases h) decideServed_row_tie rfl ⟨rfl,rfl⟩ (by kernel_rfl) rfl
  (fun f fn hf hfn=>by
   obtain rfl:f=4:=Option.some.inj ((show Tryz.prog.funcNamed "souk/souklaw20.DecideServed"=some 4 by kernel_rfl).symm.trans hf) |>.symm
   obtain rfl:fn=Tryz.f4:=(Option.some.inj (Tryz.func4.symm.trans hfn)).symm
   exact⟨by kernel_rfl,fun j t ht=>by
    have hp:Tryz.f4.params=#[48,28]:=by kernel_rfl
    rw[hp] at ht
    have hm:t∈([48,28]:List TypeId):=by simpa using Array.mem_of_getElem? ht
    have hall:(([48,28]:List TypeId).all fun u=>!Tryz.prog.wantsStandIn u)=true:=by kernel_rfl
    exact(show Tryz.prog.wantsStandIn t=false by simpa using List.all_eq_true.1 hall t hm)⟩)
  (by kernel_rfl)
end Go.Proofs.YthbflajpdhgfiaaGreatDoor
