/- The statement DecideNamesSaid: for every input the law answers true, and all read behind the call as they read before; where the listed tables lie as listed. -/
import Derived.Test.YthbflajpdhgfiaaGreatDoorQdDecideNamesb
set_option linter.all false
set_option maxHeartbeats 16000000
namespace Go.Proofs.YthbflajpdhgfiaaGreatDoor
section
open Go Go.Sk Go.RowKit Go.ChangeShapes Go.WideShapes
section
variable {H:Type}{enc:TypeId × Value→H}{P:Program}{w:World}{base:Nat}{spare:Nat→Bool}{held:Bool}{t0 t1 t2 t3 t4:TypeId}{args:Array Value}{ds:List (DataW H)}{ps:List MemPlace}
theorem trodZ_0 (h:DataW.TrodAll enc P w base spare held [] args.toList ds ps):args=#[]∧ds=[]∧ps=[]:=by
 obtain⟨e,rfl,rfl⟩:=trodAll_nil h
 exact⟨by cases args;simp_all,rfl,rfl⟩
end
end
section
open Go Go.Sk Go.RowKit Go.ChangeShapes Go.WideShapes
set_option maxRecDepth 100000 in
theorem decideNames_calls {H:Type}{enc:TypeId × Value→H}{W:World}{args:Array Value}{ds:List (DataW H)}{p:List MemPlace}
  (hA:DataW.TrodAll enc Tryz.prog W 0 (fun _=>true) true [] args.toList ds p) (hz:∀ (j:Nat) t d,([]:List TypeId)[j]?=some t→ds[j]?=some d→∀ n∈d.weights Tryz.prog t,n≤reachBytes) (hv:∀ (j:Nat) t v,([]:List TypeId)[j]?=some t→args[j]?=some v→Value.okWide Tryz.prog W .any 0 t v) (hL:laidMetH Tryz.prog zC9 W) :
  Calls Tryz.prog 3 args W (Ret (.bool true) W):=by
 obtain⟨rfl,rfl,rfl⟩:=trodZ_0 hA
 exact c_lDN W (zKm W) (zS3 hL) (zS1 hL) (zS2 hL)
set_option maxRecDepth 100000 in
theorem decideNames_lifted (os:Os)(started:os.Started)(H:Type)(enc:TypeId × Value→H) :
  ReturnsInHanded {} Tryz.checked os 3 .any (fun w args=>(Rows.decideNamesSpec.pre enc Tryz.prog Tryz.f3 [] false w args∧laidMetH Tryz.prog zC9 w)∧sizedMet enc Tryz.prog Tryz.f3 (OpenSpec.ofChange Rows.decideNamesSpec) false w args)
   (Rows.decideNamesSpec.post enc Tryz.prog Tryz.f3 false true false false):=by
 refine returnsInHanded_of_change_and (C:=Tryz.checked) (X:=fun w _=>laidMetH Tryz.prog zC9 w) (fun _ _ _ hh h=>h.of_heap hh) (by kernel_rfl) started (by kernel_rfl) Tryz.func3
  (ChangeSpec.witness_shaped (enc:=enc) (C:=Tryz.checked) (os:=os) (X:=fun w _=>laidMetH Tryz.prog zC9 w) false (World.doorLaid Tryz.prog 600 os) #[] 8 rfl (World.shaped_of_RefB (by kernel_rfl) (by kernel_rfl)) (by kernel_rfl) (by kernel_rfl) (by kernel_rfl) (zLv os _)) ?_
 intro W base args ds gs before hval hW _ hsz hL _
 have hA:DataW.TrodAll enc Tryz.prog W 0 (fun _=>true) true [] args.toList ds hW.choose:=hW.choose_spec.choose_spec.1
 refine(decideNames_calls hA (fun j t d h1 h2=>zKp hsz (Eq.trans ?_ h1) h2) (fun j t v h1 h2=>?_) hL).mono fun e W' ⟨he,hc⟩=>?_
 ·exact congrArg (fun l:List TypeId=>l[j]?) (by kernel_rfl)
 ·refine hval j t v (Eq.trans ?_ h1) h2
  rw[← Array.getElem?_toList]
  exact congrArg (fun l:List TypeId=>l[j]?) (by kernel_rfl)
 ·have hds:∃ q,hW.choose=q:=⟨_,rfl⟩
  obtain⟨q,hq⟩:=hds
  rw[hq] at hA
  refine⟨_,he,zKk (tb:=4) (by kernel_rfl) rfl (by kernel_rfl) rfl (sg.desc rfl rfl) ?_ hW hc⟩
  clear hq
  obtain⟨_,rfl,_⟩:=trodZ_0 hA
  rfl
end
end Go.Proofs.YthbflajpdhgfiaaGreatDoor
