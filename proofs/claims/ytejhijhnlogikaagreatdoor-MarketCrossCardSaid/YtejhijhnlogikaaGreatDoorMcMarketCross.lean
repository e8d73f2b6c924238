/- The statement MarketCrossSaid, proved, and its tied card. -/
import Derived.SevenTiedAt
import Derived.Test.YtejhijhnlogikaaGreatDoorCards
import Derived.Test.YtejhijhnlogikaaGreatDoorTie
import Derived.Test.YtejhijhnlogikaaGreatDoorMcMarketCrossa
set_option linter.all false
set_option maxHeartbeats 16000000
namespace Go.Proofs.YtejhijhnlogikaaGreatDoor
open Go Go.Sk Go.RowKit Go.ChangeShapes Go.WideShapes Go.Proofs.Tryz
set_option maxRecDepth 100000 in
theorem marketCross_holds:Rows.MarketCrossSaid :=
 OpenClaim.holds_of_wide 3 f3 rfl rfl rfl rfl rfl rfl rfl ⟨rfl,rfl,rfl,rfl,rfl⟩ rfl rfl rfl rfl rfl (by as_aux_lemma=>kernel_rfl) func3 (by as_aux_lemma=>kernel_rfl)
  (zzA (by as_aux_lemma=>kernel_rfl)) (by unfold Func.isWrapper;first|(rw[if_pos (by decide +kernel)];kernel_rfl)|(rw[if_neg (by decide +kernel)];exact⟨rfl,rfl⟩))
  (fun os started H enc _=>marketCross_lifted os started H enc)
set_option maxRecDepth 100000 in
theorem marketCrossCard_holds:Rows.MarketCrossCardSaid :=
 Claim7.holds_tied_plain_at .later [] [.funcs,.data,.data] true (true,"c82b803e3f2e2875f9a5956136b444149ac90835b36d94098f6a86d6ca23ae9b") false
  marketCross_holds (fun _ h=>by cases h) (by kernel_rfl) (fun _ h=>by cases h) marketCross_row_tie rfl ⟨rfl,rfl⟩ (by kernel_rfl) rfl
  (fun f fn hf hfn=>by
   obtain rfl:f=3:=Option.some.inj ((show prog.funcNamed "souk/souklaw21.MarketCross"=some 3 by kernel_rfl).symm.trans hf) |>.symm
   obtain rfl:fn=f3:=(Option.some.inj (func3.symm.trans hfn)).symm
   exact⟨by kernel_rfl,fun j t ht=>by
    have hp:f3.params=#[22]:=by kernel_rfl
    rw[hp] at ht
    have hm:t∈([22]:List TypeId):=by simpa using Array.mem_of_getElem? ht
    have hall:(([22]:List TypeId).all fun u=>!prog.wantsStandIn u)=true:=by kernel_rfl
    exact(show prog.wantsStandIn t=false by simpa using List.all_eq_true.1 hall t hm)⟩)
  (by kernel_rfl)
end Go.Proofs.YtejhijhnlogikaaGreatDoor
