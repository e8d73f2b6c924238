/- The statement MarketReplaySaid, proved, and its tied card. -/
import Derived.KernelRfl
import Derived.SevenTiedAt
import Derived.Test.YtejhijhnlogikaaGreatDoorCards
import Derived.Test.YtejhijhnlogikaaGreatDoorTie
import Derived.Test.YtejhijhnlogikaaGreatDoorMeMarketReplaya
set_option linter.all false
set_option maxHeartbeats 16000000
namespace Go.Proofs.YtejhijhnlogikaaGreatDoor
open Go Go.Sk Go.RowKit Go.ChangeShapes Go.WideShapes Go.Proofs.Tryz
theorem and_tt {a b:Bool}(h:a=true)(k:b=true):(a&&b)=true:=by rw[h,k];rfl
set_option maxRecDepth 100000 in
theorem marketReplay_holds:Rows.MarketReplaySaid :=
 OpenClaim.holds_of_wide 8 f8 rfl rfl rfl rfl rfl rfl rfl ⟨rfl,rfl,rfl,rfl,rfl⟩ rfl rfl rfl rfl rfl (by as_aux_lemma=>kernel_rfl) func8 (by unfold joinedFacts;(repeat' with_reducible apply and_tt);all_goals (as_aux_lemma=>kernel_rfl))
  (zzA (by as_aux_lemma=>kernel_rfl)) (by unfold Func.isWrapper;first|(rw[if_pos (by decide +kernel)];kernel_rfl)|(rw[if_neg (by decide +kernel)];exact⟨rfl,rfl⟩))
  (fun os started H enc _=>marketReplay_lifted os started H enc)
set_option maxRecDepth 100000 in
theorem marketReplayCard_holds:Rows.MarketReplayCardSaid :=
 Claim7.holds_tied_plain_at .later [] [.funcs,.data,.data] true (true,"c82b803e3f2e2875f9a5956136b444149ac90835b36d94098f6a86d6ca23ae9b") false
  marketReplay_holds (fun _ h=>by cases h) (by kernel_rfl) (fun _ h=>by cases h) marketReplay_row_tie rfl ⟨rfl,rfl⟩ (by kernel_rfl) rfl
  (fun f fn hf hfn=>by
   obtain rfl:f=8:=Option.some.inj ((show prog.funcNamed "souk/souklaw21.MarketReplay"=some 8 by kernel_rfl).symm.trans hf) |>.symm
   obtain rfl:fn=f8:=(Option.some.inj (func8.symm.trans hfn)).symm
   exact⟨by kernel_rfl,fun j t ht=>by
    have hp:f8.params=#[40,2,22,67]:=by kernel_rfl
    rw[hp] at ht
    have hm:t∈([40,2,22,67]:List TypeId):=by simpa using Array.mem_of_getElem? ht
    have hall:(([40,2,22,67]:List TypeId).all fun u=>!prog.wantsStandIn u)=true:=by kernel_rfl
    exact(show prog.wantsStandIn t=false by simpa using List.all_eq_true.1 hall t hm)⟩)
  (by kernel_rfl)
end Go.Proofs.YtejhijhnlogikaaGreatDoor
