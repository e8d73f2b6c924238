/- The statement ApplyNamesSaid, proved, and its tied card. -/
import Derived.Test.YtibmaifoaajllaaGreatDoorQaApplyNamesc
set_option linter.unusedSimpArgs false
set_option linter.unusedVariables false
set_option maxHeartbeats 16000000
namespace Go.Proofs.YtibmaifoaajllaaGreatDoor
section
open Go Go.Sk Go.RowKit Go.ChangeShapes Go.WideShapes
set_option maxRecDepth 100000 in
theorem applyNames_calls {H:Type}{enc:TypeId × Value→H}{W:World}{args:Array Value}{ds:List (DataW H)}{p:List MemPlace}
  (hA:DataW.TrodAll enc Tryz.prog W 0 (fun _=>true) true [] args.toList ds p) (hz:∀ (j:Nat) t d,([]:List TypeId)[j]?=some t→ds[j]?=some d→∀ n∈d.weights Tryz.prog t,n≤reachBytes) (hv:∀ (j:Nat) t v,([]:List TypeId)[j]?=some t→args[j]?=some v→Value.okWide Tryz.prog W .any 0 t v) (hL:laidMetH Tryz.prog zA4 W) :
  Calls Tryz.prog 5 args W (Ret (.bool true) W):=by
 obtain⟨rfl,rfl,rfl⟩:=trodZ_0 hA
 exact c_lNames W (zDq W) (zG6 hL) (zG5 hL)
set_option maxRecDepth 100000 in
theorem applyNames_lifted (os:Os)(started:os.Started)(H:Type)(enc:TypeId × Value→H) :
  ReturnsInHanded {} Tryz.checked os 5 .any (fun w args=>(Rows.applyNamesSpec.pre enc Tryz.prog Tryz.f5 [] false w args∧laidMetH Tryz.prog zA4 w)∧sizedMet enc Tryz.prog Tryz.f5 (OpenSpec.ofChange Rows.applyNamesSpec) false w args)
   (Rows.applyNamesSpec.post enc Tryz.prog Tryz.f5 false true false false):=by
 refine returnsInHanded_of_change_and (C:=Tryz.checked) (X:=fun w _=>laidMetH Tryz.prog zA4 w) (fun _ _ _ hh h=>h.of_heap hh) (by kernel_rfl) started (by kernel_rfl) Tryz.func5
  (ChangeSpec.witness_shaped (enc:=enc) (C:=Tryz.checked) (os:=os) (X:=fun w _=>laidMetH Tryz.prog zA4 w) false (World.doorLaid Tryz.prog 600 os) #[] 8 rfl (World.shaped_of_RefB (by kernel_rfl) (by kernel_rfl)) (by kernel_rfl) (by kernel_rfl) (by kernel_rfl) (zD2 os _)) ?_
 intro W base args ds gs before hval hW _ hsz hL _
 have hA:DataW.TrodAll enc Tryz.prog W 0 (fun _=>true) true [] args.toList ds hW.choose:=hW.choose_spec.choose_spec.1
 refine(applyNames_calls hA (fun j t d h1 h2=>zDr hsz (Eq.trans ?_ h1) h2) (fun j t v h1 h2=>?_) hL).mono fun e W' ⟨he,hc⟩=>?_
 ·exact congrArg (fun l:List TypeId=>l[j]?) (by kernel_rfl)
 ·refine hval j t v (Eq.trans ?_ h1) h2
  rw[← Array.getElem?_toList]
  exact congrArg (fun l:List TypeId=>l[j]?) (by kernel_rfl)
 ·have hds:∃ q,hW.choose=q:=⟨_,rfl⟩
  obtain⟨q,hq⟩:=hds
  rw[hq] at hA
  refine⟨_,he,zDp (tb:=4) (by kernel_rfl) rfl (by kernel_rfl) rfl (sg.desc rfl rfl) ?_ hW hc⟩
  clear hq
  obtain⟨_,rfl,_⟩:=trodZ_0 hA
  rfl
end
end Go.Proofs.YtibmaifoaajllaaGreatDoor
