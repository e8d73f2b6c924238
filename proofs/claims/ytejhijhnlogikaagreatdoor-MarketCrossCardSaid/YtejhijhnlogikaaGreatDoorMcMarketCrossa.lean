/- The statement MarketCrossSaid, proved: for every input the law answers true, and all read behind the call as they read before; where the two listed tables lie as listed. -/
import Derived.Test.YtejhijhnlogikaaGreatDoorMc31
set_option linter.all false
set_option maxHeartbeats 16000000
namespace Go.Proofs.YtejhijhnlogikaaGreatDoor
open Go Go.Sk Go.RowKit Go.ChangeShapes Go.WideShapes Go.Proofs.Tryz
set_option maxRecDepth 100000 in
theorem marketCross_calls {H:Type}{enc:TypeId × Value→H}{W:World}{args:Array Value}{ds:List (DataW H)}{p:List MemPlace}
  (hA:DataW.TrodAll enc prog W 0 (fun _=>true) true [22] args.toList ds p) (hz:∀ (j:Nat) t d,([22]:List TypeId)[j]?=some t→ds[j]?=some d→∀ n∈d.weights prog t,n≤reachBytes) (hv:∀ (j:Nat) t v,([22]:List TypeId)[j]?=some t→args[j]?=some v→Value.okWide prog W .any 0 t v) (hL:laidMetH prog zE9 W) :
  Calls prog 3 args W (Ret (.bool true) W):=by
 obtain⟨v0,d0,r0,rfl,rfl,rfl,h0⟩:=zPB hA
 obtain⟨l0,a0,cap0,q0,rfl,hE0,hT0⟩:=zTW h0 (hz 0 _ _ rfl rfl) (hv 0 _ _ rfl rfl)
 exact zUA l0 q0 hT0 W (zQy W) (pri_of hL) (kin_of hL) (com_of hL) hE0
set_option maxRecDepth 100000 in
theorem marketCross_lifted (os:Os)(started:os.Started)(H:Type)(enc:TypeId × Value→H) :
  ReturnsInHanded {} checked os 3 .any (fun w args=>(Rows.marketCrossSpec.pre enc prog f3 [] false w args∧laidMetH prog zE9 w)∧sizedMet enc prog f3 (OpenSpec.ofChange Rows.marketCrossSpec) false w args)
   (Rows.marketCrossSpec.post enc prog f3 false true false false):=by
 refine returnsInHanded_of_change_and (C:=checked) (X:=fun w _=>laidMetH prog zE9 w) (fun _ _ _ hh h=>h.of_heap hh) (by kernel_rfl) started (by kernel_rfl) func3
  (ChangeSpec.witness_shaped (enc:=enc) (C:=checked) (os:=os) (X:=fun w _=>laidMetH prog zE9 w) false (World.doorLaid prog 600 os) #[.slice none 0 0] 8 rfl (World.shaped_of_RefB (by kernel_rfl) (by kernel_rfl)) (by kernel_rfl) (by kernel_rfl) (by kernel_rfl) (zTX os _)) ?_
 intro W base args ds gs before hval hW _ hsz hL _
 have hA:DataW.TrodAll enc prog W 0 (fun _=>true) true [22] args.toList ds hW.choose:=hW.choose_spec.choose_spec.1
 refine(marketCross_calls hA (fun j t d h1 h2=>zQz hsz (Eq.trans ?_ h1) h2) (fun j t v h1 h2=>?_) hL).mono fun e W' ⟨he,hc⟩=>?_
 ·exact congrArg (fun l:List TypeId=>l[j]?) (by kernel_rfl)
 ·refine hval j t v (Eq.trans ?_ h1) h2
  rw[← Array.getElem?_toList]
  exact congrArg (fun l:List TypeId=>l[j]?) (by kernel_rfl)
 ·have hds:∃ q,hW.choose=q:=⟨_,rfl⟩
  obtain⟨q,hq⟩:=hds
  rw[hq] at hA
  refine⟨_,he,zQx (tb:=4) (by kernel_rfl) rfl (by kernel_rfl) rfl (sg.desc rfl rfl) ?_ hW hc⟩
  clear hq
  obtain⟨v0,d0,r0,_,rfl,_⟩:=zPB hA
  rfl
end Go.Proofs.YtejhijhnlogikaaGreatDoor
