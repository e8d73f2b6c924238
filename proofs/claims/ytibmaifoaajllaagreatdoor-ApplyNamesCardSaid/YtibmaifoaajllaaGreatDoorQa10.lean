/- Texts of ours, joined: the steps of the proof, or the claim's theorem. -/
import Derived.Test.YtibmaifoaajllaaGreatDoorQa09
set_option linter.unusedSimpArgs false
set_option linter.unusedVariables false
set_option maxHeartbeats 16000000
namespace Go.Proofs.YtibmaifoaajllaaGreatDoor
open Go Go.Sk Go.RowKit
theorem m_smay:Mth Tryz.prog 223 "souk/auction.may" (.agg #[]) 277 (.agg #[]):=fun w=>by kernel_rfl
theorem m_emay:Mth Tryz.prog 224 "souk/auction.may" (.agg #[]) 282 (.agg #[]):=fun w=>by kernel_rfl
theorem zTQ:Mth Tryz.prog 223 "souk/auction.wins" (.agg #[]) 279 (.agg #[]):=fun w=>by kernel_rfl
theorem zTR:Mth Tryz.prog 224 "souk/auction.wins" (.agg #[]) 284 (.agg #[]):=fun w=>by kernel_rfl
theorem zTS:Mth Tryz.prog 223 "souk/auction.take" (.agg #[]) 278 (.agg #[]):=fun w=>by kernel_rfl
theorem zTT:Mth Tryz.prog 224 "souk/auction.take" (.agg #[]) 283 (.agg #[]):=fun w=>by kernel_rfl
def zF8 (x:Auc):Bool:=x.step==0&&decide ((x.bids.length:Int)≤16)
def zEo (x:Auc):Bool:=zp x.step 1125899906842624&&(decide ((x.bids.length:Int)≤1)&&((x.bids.length:Int)==0||decide ((x.bids.getD 0 default).amount ≥ x.reserve)))
theorem c_smay {a:Option Addr}{cap:Nat}(x:Auc)(w0:World) :
  Calls Tryz.prog 277 [.agg #[],.agg (x.cells a cap).toArray].toArray w0 (Ret (.bool (zF8 x)) w0):=by
 refine enter [.tmp 4] Tryz.func277 rfl Tryz.ntmps277 rfl rfl ?_
 have H:=zB w0
 repeat' (first|refine yT ?_|refine y7 sg H ?_|(refine y9 H ?_;intro b w H)|refine yU ?_|(refine y17 ?_ ?_;all_goals intro h)|fail)
 all_goals exact zQ rfl H.cl (by simp only[zF8,h];simp)
theorem c_emay {a:Option Addr}{cap:Nat}(x:Auc){F:zH}(w0:World)(hF:Mem w0 F)(hs:Bids F a cap x.bids) :
  Calls Tryz.prog 282 [.agg #[],.agg (x.cells a cap).toArray].toArray w0 (Ret (.bool (zEo x)) w0):=by
 obtain⟨hn,hc,b0,off,cs,T,fr,hs⟩:=hs
 refine enter [.tmp 4] Tryz.func282 rfl Tryz.ntmps282 rfl rfl ?_
 have H:=zB w0
 repeat' (first|refine yT ?_|refine y8 sg H ?_|(refine y9 H ?_;intro b w H)|(refine' y31 zGg ?_ ?_;rotate_left;exact(fun _ hcl=>zCW _ _ _))|(refine y41 sg (hs) ?_ ?_ ?_;(omega);((have:=neI h;omega)))|(refine y45 sg (hs) ((H.memF hF)) ?_ ?_;((have:=neI h;omega)))|refine yU ?_|(refine y18 ?_ ?_;all_goals intro h)|(with_reducible apply zL;intro w hcl;replace H:=H.ext hcl;clear hcl)|refine y20 mixed ?_|fail)
 all_goals first|exact zQ rfl H.cl (by simp only[zEo, *];simp)
theorem zQ5 (x:Auc)(a:Option Addr)(cap:Nat)(w:World)(h:x.sealed=true):Calls Tryz.prog 130 [.agg (x.cells a cap).toArray].toArray w (Ret (.iface 223 (.agg #[])) w):=by
 have:=c_of x a cap w
 rwa [h] at this
theorem zQ6 (x:Auc)(a:Option Addr)(cap:Nat)(w:World)(h:x.sealed=false):Calls Tryz.prog 130 [.agg (x.cells a cap).toArray].toArray w (Ret (.iface 224 (.agg #[])) w):=by
 have:=c_of x a cap w
 rwa [h] at this
def zAc (x:Auc):Bool:=if x.sealed then zF8 x else zEo x
def zAV (x:Auc):Bool :=
 zp x.id 1099511627776&&zp x.seller 64&&zp x.inst 16&&zp x.qty 1048576&&zp x.reserve 1125899906842624&&zp x.fin 1099511627776&&zAc x&&zCE x
theorem zHs {a:Option Addr}{cap:Nat}(x:Auc){F:zH}(w0:World)(hF:Mem w0 F)(hs:Bids F a cap x.bids) :
  Calls Tryz.prog 93 [.agg (x.cells a cap).toArray].toArray w0 (Ret (.bool (zAV x)) w0):=by
 refine enter [.tmp 2] Tryz.func93 rfl Tryz.ntmps93 rfl rfl ?_
 have H:=zB w0
 rcases Bool.eq_false_or_eq_true x.sealed with hse|hse
 ·repeat' (first|refine yT ?_|refine y8 sg H ?_|(refine y9 H ?_;intro b w H)|(refine' y31 zHp ?_ ?_;rotate_left;exact(fun _ hcl=>zDt _ _ _))|(refine' y31 zGg ?_ ?_;rotate_left;exact(fun _ hcl=>zCW _ _ _))|(refine' y31 zGf ?_ ?_;rotate_left;exact(fun _ hcl=>zQ5 x a cap _ hse))|((with_reducible apply QX.call);exact rfl;exact rfl;exact En.inv ent277 rfl rfl (m_smay) rfl;exact(fun _ hcl=>c_smay x _))|(refine' y31 zQS ?_ ?_;rotate_left;exact(fun _ hcl=>zQ4 x _ ((H.ext hcl).memF hF) hs))|refine yU ?_|(refine y18 ?_ ?_;all_goals intro h)|(with_reducible apply zL;intro w hcl;replace H:=H.ext hcl;clear hcl)|refine y20 mixed ?_|fail)
  all_goals first|exact zQ rfl H.cl (by simp only[zAV,zAc, *];simp)
 ·repeat' (first|refine yT ?_|refine y8 sg H ?_|(refine y9 H ?_;intro b w H)|(refine' y31 zHp ?_ ?_;rotate_left;exact(fun _ hcl=>zDt _ _ _))|(refine' y31 zGg ?_ ?_;rotate_left;exact(fun _ hcl=>zCW _ _ _))|(refine' y31 zGf ?_ ?_;rotate_left;exact(fun _ hcl=>zQ6 x a cap _ hse))|((with_reducible apply QX.call);exact rfl;exact rfl;exact En.inv ent282 rfl rfl (m_emay) rfl;exact(fun _ hcl=>c_emay x _ ((H.ext hcl).memF hF) hs))|(refine' y31 zQS ?_ ?_;rotate_left;exact(fun _ hcl=>zQ4 x _ ((H.ext hcl).memF hF) hs))|refine yU ?_|(refine y18 ?_ ?_;all_goals intro h)|(with_reducible apply zL;intro w hcl;replace H:=H.ext hcl;clear hcl)|refine y20 mixed ?_|fail)
  all_goals first|exact zQ rfl H.cl (by simp only[zAV,zAc, *];simp)
end Go.Proofs.YtibmaifoaajllaaGreatDoor
