/- The statement ApplyNamesSaid, proved, and its tied card. -/
import Derived.SevenTiedAt
import Derived.Test.YtibmaifoaajllaaGreatDoorCards
import Derived.Test.YtibmaifoaajllaaGreatDoorTie
import Derived.Test.YtibmaifoaajllaaGreatDoorQaApplyNamesb
set_option linter.unusedSimpArgs false
set_option linter.unusedVariables false
set_option maxHeartbeats 16000000
namespace Go.Proofs.YtibmaifoaajllaaGreatDoor
open Go Go.Sk Go.RowKit Go.ChangeShapes Go.WideShapes
set_option maxRecDepth 100000 in
theorem applyNames_holds:Rows.ApplyNamesSaid :=
 OpenClaim.holds_of_wide 5 Tryz.f5 rfl rfl rfl rfl rfl rfl rfl ⟨rfl,rfl,rfl,rfl,rfl⟩ rfl rfl rfl rfl rfl (by as_aux_lemma=>kernel_rfl) Tryz.func5 (by as_aux_lemma=>kernel_rfl)
  (zzA (by as_aux_lemma=>kernel_rfl)) (by unfold Func.isWrapper;first|(rw[if_pos (by decide +kernel)];kernel_rfl)|(rw[if_neg (by decide +kernel)];exact⟨rfl,rfl⟩))
  (fun os started H enc _=>applyNames_lifted os started H enc)
set_option maxRecDepth 100000 in
theorem applyNamesCard_holds:Rows.ApplyNamesCardSaid :=
 Claim7.holds_tied_plain_at .later [] [.funcs,.data] true (true,"2cb74efe37e49ddaa48174a20b20e39ba821ff786b7622978b0bb01c61fbf3bc") false
  applyNames_holds (fun _ h=>by cases h) (by kernel_rfl) (fun _ h=>by cases h) applyNames_row_tie rfl ⟨rfl,rfl⟩ (by kernel_rfl) rfl
  (fun f fn hf hfn=>by
   obtain rfl:f=5:=Option.some.inj ((show Tryz.prog.funcNamed "souk/souklaw19.ApplyNames"=some 5 by kernel_rfl).symm.trans hf) |>.symm
   obtain rfl:fn=Tryz.f5:=(Option.some.inj (Tryz.func5.symm.trans hfn)).symm
   exact⟨by kernel_rfl,fun j t ht=>by
    have hp:Tryz.f5.params=#[]:=by kernel_rfl
    rw[hp] at ht
    have hm:t∈([]:List TypeId):=by simpa using Array.mem_of_getElem? ht
    have hall:(([]:List TypeId).all fun u=>!Tryz.prog.wantsStandIn u)=true:=by kernel_rfl
    exact(show Tryz.prog.wantsStandIn t=false by simpa using List.all_eq_true.1 hall t hm)⟩)
  (by kernel_rfl)
end Go.Proofs.YtibmaifoaajllaaGreatDoor
