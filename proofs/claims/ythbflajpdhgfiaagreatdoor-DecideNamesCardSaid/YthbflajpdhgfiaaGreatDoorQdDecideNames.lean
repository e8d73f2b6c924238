/- The statement DecideNamesSaid, proved, and its tied card. -/
import Derived.SevenTiedAt
import Derived.Test.YthbflajpdhgfiaaGreatDoorTie
import Derived.Test.YthbflajpdhgfiaaGreatDoorCards
import Derived.Test.YthbflajpdhgfiaaGreatDoorQdDecideNamesc
set_option linter.all false
set_option maxHeartbeats 16000000
namespace Go.Proofs.YthbflajpdhgfiaaGreatDoor
open Go Go.Sk Go.RowKit Go.ChangeShapes Go.WideShapes
set_option maxRecDepth 100000 in
theorem decideNames_holds:Rows.DecideNamesSaid :=
 OpenClaim.holds_of_wide 3 Tryz.f3 rfl rfl rfl rfl rfl rfl rfl ⟨rfl,rfl,rfl,rfl,rfl⟩ rfl rfl rfl rfl rfl (by as_aux_lemma=>kernel_rfl) Tryz.func3 (by as_aux_lemma=>kernel_rfl)
  (zzA (by as_aux_lemma=>kernel_rfl)) (by unfold Func.isWrapper;first|(rw[if_pos (by decide +kernel)];kernel_rfl)|(rw[if_neg (by decide +kernel)];exact⟨rfl,rfl⟩))
  (fun os started H enc _=>decideNames_lifted os started H enc)
set_option maxRecDepth 100000 in
theorem decideNamesCard_holds:Rows.DecideNamesCardSaid :=
 Claim7.holds_tied_plain_at .later [] [.funcs,.data,.data] true (true,"7f542e007e972030139f9c78914e2695e57cd363c09c7183fd8cbc5f16d485c5") false
  decideNames_holds (fun _ h=>by cases h) (by kernel_rfl) (fun _ h=>by cases h) decideNames_row_tie rfl ⟨rfl,rfl⟩ (by kernel_rfl) rfl
  (fun f fn hf hfn=>by
   obtain rfl:f=3:=Option.some.inj ((show Tryz.prog.funcNamed "souk/souklaw20.DecideNames"=some 3 by kernel_rfl).symm.trans hf) |>.symm
   obtain rfl:fn=Tryz.f3:=(Option.some.inj (Tryz.func3.symm.trans hfn)).symm
   exact⟨by kernel_rfl,fun j t ht=>by
    have hp:Tryz.f3.params=#[]:=by kernel_rfl
    rw[hp] at ht
    have hm:t∈([]:List TypeId):=by simpa using Array.mem_of_getElem? ht
    have hall:(([]:List TypeId).all fun u=>!Tryz.prog.wantsStandIn u)=true:=by kernel_rfl
    exact(show Tryz.prog.wantsStandIn t=false by simpa using List.all_eq_true.1 hall t hm)⟩)
  (by kernel_rfl)
end Go.Proofs.YthbflajpdhgfiaaGreatDoor
