/- The statement ApplyPartsSaid, proved, and its tied card. -/
import Derived.ChangeKeysEq
import Derived.Deep.LoopGhost
import Derived.Deep.QuietTactic
import Derived.Deep.Slices
import Derived.KernelRfl
import Derived.LaidMore
import Derived.Laws.Bits64b
import Derived.Laws.IdiomStrings
import Derived.Laws.MakeOwn
import Derived.Laws.RangeString
import Derived.Laws.StructEq
import Derived.Lib.Mul64
import Derived.Maps.RangeRun
import Derived.OpenShut
import Derived.OrdersHeld
import Derived.ProofKit
import Derived.RangeFuncLeaves
import Derived.RangeFuncNested
import Derived.Shelf.SlLaysE
import Derived.Shelf.SlLaysF0
import Derived.Shelf.SlLaysM
import Derived.Shelf.SlSortCmp.NoneTotal
import Derived.Shelf.SlicesE.Compact
import Derived.Shelf.SortM.Plain
import Derived.Shelf.SortM.SortNone
import Derived.SizedLaws
import Derived.Sort.LoopGhostIn
import Derived.Stop.Joined
import Derived.TacticsIn
import Derived.Test.YtibmaifoaajllaaGreatDoorChecked
import Derived.Test.YtibmaifoaajllaaGreatDoorProg
import Derived.Test.YtibmaifoaajllaaGreatDoorRows
import Derived.WalkKit
import Derived.WalkSpells
import Derived.Test.YtibmaifoaajllaaGreatDoorQa47
set_option linter.unusedSimpArgs false
set_option linter.unusedVariables false
set_option maxHeartbeats 16000000
namespace Go.Proofs.YtibmaifoaajllaaGreatDoor
section
open Go Go.Sk Go.RowKit
theorem ent29:Ent Tryz.prog 29:=em Tryz.func29
theorem zOZ:∀ {l:List Evt} {s t:Sta} {i j:Int},Good s→zAB s l i=(t,j,0)→Good t
 | [],s,t,i,j,h,he=>by
   obtain rfl:=(Prod.mk.inj he).1;exact h
 | e::l,s,t,i,j,h,he=>by
   unfold zAB at he
   by_cases h1:(zy s e).2=0
   ·rw[if_pos h1] at he
    exact zOZ (zEU h (Prod.ext rfl h1)) he
   ·rw[if_neg h1] at he;exact absurd (Prod.mk.inj (Prod.mk.inj he).2).2 h1
theorem zHh:∀ {l:List Evt} {s:Sta} {i:Int},zAB s l i=((zAB s l 0).1,i+(zAB s l 0).2.1,(zAB s l 0).2.2)
 | [],s,i=>by simp[zAB]
 | e::l,s,i=>by
   unfold zAB
   by_cases h1:(zy s e).2=0
   ·rw[if_pos h1,if_pos h1,zHh (i:=i+1),zHh (i:=0+1)]
    simp only;congr 2;omega
   ·rw[if_neg h1,if_neg h1];simp
theorem zOa:∀ {l:List Evt} {s:Sta},(zAB s l 0).2.2=0→(zAB s l 0).2.1=l.length
 | [],s,_=>rfl
 | e::l,s,h=>by
   unfold zAB at h ⊢
   by_cases h1:(zy s e).2=0
   ·rw[if_pos h1] at h ⊢
    rw[zHh] at h ⊢
    simp only at h ⊢
    rw[zOa h,List.length_cons];omega
   ·rw[if_neg h1] at h;exact absurd h h1
end
section
open Go Go.Sk Go.RowKit Go.ChangeShapes
section
variable {H:Type}{enc:TypeId × Value→H}{w:World}
set_option maxRecDepth 20000 in
theorem zUQ {v:Value}{d:DataW H}{p:List MemPlace}(h:DataW.Trod enc Tryz.prog w 0 (fun _=>true) true 52 v d p)(hz:∀ n∈d.weights Tryz.prog 52,n≤reachBytes)(hv:Value.okWide Tryz.prog w .any 0 52 v) :
  ∃ (l:List Evt) (a:Option Addr) (cap:Nat) (q:Nat→EPt),v=.slice a l.length cap∧EvsM (zEh w) a cap l q∧∀ e∈l,zFq e:=by
 obtain⟨a,len,cap,rfl⟩:=Go.WideShapes.okWide_slice (sg.desc rfl rfl) hv
 have hR:Rz enc Tryz.prog w 52 [.slice a len cap]:=Rz.of h hz
 obtain⟨a,len,cap,e,hs⟩:=Rz.slice hR (sg.desc rfl rfl) (sg.ncells rfl rfl) (sg.nbytes rfl rfl)
 cases e
 obtain⟨l0,rfl,hm,hp⟩:=hs.named (α:=Evt × EPt) (el:=fun x=>x.1.cells x.2) (fun _=>zRv)
 have hg:∀ j,(l0.map (·.1)).getD j default=(l0.getD j default).1:=fun j=>by
  simp only[List.getD_eq_getElem?_getD,List.getElem?_map]
  cases l0[j]?<;>rfl
 refine⟨l0.map (·.1),a,cap,fun j=>(l0.getD j default).2,by simp,?_,?_⟩
 ·constructor
  ·have:(fun j=>(ev_ (l0.map (·.1)) j).cells ((l0.getD j default).2))=fun j=>(l0.getD j default).1.cells (l0.getD j default).2:=by
    funext j
    exact congrArg (fun x=>Evt.cells x _) (hg j)
   simp only[List.length_map]
   rw[this]
   exact hm
  ·intro j hj
   simp only[List.length_map] at hj
   exact(congrArg (fun x=>EvtM (zEh w) x (l0.getD j default).2) (hg j)).mpr (hp j hj).1
 ·intro e he
  obtain⟨x,hx,rfl⟩:=List.mem_map.1 he
  obtain⟨j,hj,rfl⟩:=List.getElem_of_mem hx
  have:=(hp j hj).2
  rw[List.getD_eq_getElem?_getD,List.getElem?_eq_getElem hj] at this
  exact this
end
end
section
open Go Go.Sk Go.RowKit
attribute [local irreducible] Go.Calls
def zEY (l:List Evt):Bool:=decide ((l.length:Int)>60)||l.any zGn
theorem zSn {l:List Evt}(h:zEY l=false):l.length≤60∧∀ e∈l,zGn e=false:=by
 unfold zEY at h
 rw[Bool.or_eq_false_iff,List.any_eq_false] at h
 have:=zzB h.1
 exact⟨by omega,fun e he=>by have:=h.2 e he;simpa using this⟩
theorem mem_ev {l:List Evt}{e:Evt}(h:e∈l):∃ j,j<l.length∧e=ev_ l j:=by
 obtain⟨j,hj,rfl⟩:=List.getElem_of_mem h
 exact⟨j,hj,by unfold ev_;rw[List.getD_eq_getElem?_getD,List.getElem?_eq_getElem hj];rfl⟩
theorem c_many {F:zH}{a:Option Addr}{cap:Nat}(l:List Evt)(q:Nat→EPt)(w0:World)(hF:Mem w0 F)(hM:EvsM F a cap l q) :
  Calls Tryz.prog 29 [.slice a l.length cap].toArray w0 (Ret (.bool (zEY l)) w0):=by
 obtain⟨⟨hn,hc,b0,off,cs,T,fr,hs⟩,hev⟩:=hM
 by_cases h0:(l.length:Int)>60
 ·have d0:decide ((l.length:Int)>60)=true:=decide_eq_true h0
  refine enter [.tmp 2] Tryz.func29 rfl Tryz.ntmps29 rfl rfl ?_
  have H:=zB w0
  repeat' (first|refine yT ?_|refine yU ?_|(refine y23 ?_ ?_;all_goals(intro h;try (exfalso;first|((cases d0.symm.trans h);done))))|fail)
  exact zQ rfl H.cl (by unfold zEY;rw[d0];rfl)
 have d0:decide ((l.length:Int)>60)=false:=decide_eq_false h0
 refine enter [.tmp 2] Tryz.func29 rfl Tryz.ntmps29 rfl rfl ?_
 have H:=zB w0
 repeat' (first|refine yT ?_|refine yU ?_|fail)
 refine CW.condF (congrArg Value.bool d0) ?_
 repeat' (first|refine yT ?_|refine yU ?_|with_reducible apply zA|fail)
 refine zM [(2,3),(7,17)] (fun k:Nat=>[(3,.int .i64 (k:Int))]) (fun k w=>k≤l.length∧(∀ j,j<k→zGn (ev_ l j)=false)∧St w0 [] w) (fun k=>l.length - k) 0 ⟨rfl,trivial⟩ ⟨zzD _,fun j hj=>absurd hj (zzE _),H⟩ ?_
 clear H
 rintro k gh w ⟨hk,hok,H⟩
 repeat' (first|refine yT ?_|refine yU ?_|fail)
 refine zJ rfl (fun h=>?_) (fun h=>?_)
 ·have hlt:k<l.length:=by have:=zzA h;omega
  clear h
  have hod:=fun w (hG:Mem w F)=>zK4 (ev_ l k) (q k) w hG (hev k hlt)
  repeat' (first|refine yT ?_|(refine y40 sg (hs) ?_ ?_ ?_;(omega);(omega))|(refine y42 sg (hs) ((H.memF hF)) ?_ ?_;(omega))|(refine' y30 zAr ?_ ?_;rotate_left;exact hod _ (H.memF hF);intro w hcl;replace H:=H.ext hcl;clear hcl)|refine yU ?_|with_reducible apply zA|fail)
  refine zJ rfl (fun h=>?_) (fun h=>?_)
  ·repeat' (first|refine yT ?_|refine yU ?_|fail)
   refine zQ rfl H.cl (congrArg Value.bool ?_)
   unfold zEY
   rw[d0,Bool.false_or]
   symm
   exact List.any_eq_true.2 ⟨_,zSi hlt,h⟩
  ·repeat' (first|refine yT ?_|refine yU ?_|fail)
   refine zK (k+1) rfl ⟨zZ (by omega),trivial⟩ ⟨hlt,fun j hj=>?_,H⟩ (by omega)
   by_cases e:j=k
   ·rw[e];exact h
   ·exact hok j (by omega)
 ·obtain rfl:k=l.length:=by have:=zzB h;omega
  repeat' (first|refine yT ?_|refine yU ?_|fail)
  refine zQ rfl H.cl (congrArg Value.bool ?_)
  unfold zEY
  rw[d0,Bool.false_or]
  symm
  rw[List.any_eq_false]
  intro e he
  obtain⟨j,hj,rfl⟩:=mem_ev he
  rw[hok j hj];decide
end
section
open Go Go.Sk Go.RowKit Go.ChangeShapes Go.WideShapes
section
variable {H:Type}{enc:TypeId × Value→H}{P:Program}{w:World}{base:Nat}{spare:Nat→Bool}{held:Bool}{t0 t1 t2 t3 t4:TypeId}{args:Array Value}{ds:List (DataW H)}{ps:List MemPlace}
theorem zOb (h:DataW.TrodAll enc P w base spare held [t0,t1,t2] args.toList ds ps) :
  ∃ v0 v1 v2 d0 d1 d2 p0 p1 p2,args=#[v0,v1,v2]∧ds=[d0,d1,d2]∧ps=p0++p1++p2∧DataW.Trod enc P w base spare held t0 v0 d0 p0∧DataW.Trod enc P w base spare held t1 v1 d1 p1∧DataW.Trod enc P w base spare held t2 v2 d2 p2:=by
 obtain⟨v0,_,d0,_,p0,_,e,rfl,rfl,h0,h⟩:=trodAll_cons h
 obtain⟨v1,_,d1,_,p1,_,rfl,rfl,rfl,h1,h⟩:=trodAll_cons h
 obtain⟨v2,_,d2,_,p2,_,rfl,rfl,rfl,h2,h⟩:=trodAll_cons h
 obtain⟨rfl,rfl,rfl⟩:=trodAll_nil h
 exact⟨v0,v1,v2,d0,d1,d2,p0,p1,p2,by cases args;simp_all,rfl,by simp,h0,h1,h2⟩
end
end
section
open Go Go.Sk Go.RowKit
theorem zSo:∀ (l:List Evt) (s:Sta) (i:Int),i≤(zAB s l i).2.1∧(zAB s l i).2.1≤i+l.length
 | [],s,i=>⟨Int.le_refl _,by simp[zAB]⟩
 | e::l,s,i=>by
   rw[all_cons]
   split
   ·have:=zSo l (zy s e).1 (i+1)
    rw[List.length_cons];omega
   ·simp only[List.length_cons];omega
theorem zOc (s:Sta)(l:List Evt):0≤(zBL s l).2.1∧(zBL s l).2.1≤l.length:=by
 unfold zBL
 split
 ·have:=zSo l s 0;omega
 ·simp only;omega
theorem zPu {s:Sta}{l:List Evt}{k:Nat}(h:(zBL s (l.take k)).2.2≠0):(zBL s l).2.2=(zBL s (l.take k)).2.2∧(zBL s l).2.1=(zBL s (l.take k)).2.1:=by
 unfold zBL at h ⊢
 by_cases hm:zCC s=true
 ·rw[if_pos hm] at h ⊢
  rw[if_pos hm]
  have e:l=l.take k++l.drop k:=(List.take_append_drop _ _).symm
  have e2:zAB s l 0=zAB s (l.take k) 0:=by
   conv=>lhs;rw[e]
   rw[zGQ,if_neg h]
  rw[e2];exact⟨rfl,rfl⟩
 ·rw[if_neg hm,if_neg hm];exact⟨rfl,rfl⟩
theorem zSp {s:Sta}{l:List Evt}{k:Nat}(hk:k≤l.length)(h:(zBL s (l.take k)).2.2=0):Good (zBL s (l.take k)).1∧(zBL s (l.take k)).2.1=k∧(zBL (zBL s (l.take k)).1 (l.drop k)).1=(zBL s l).1∧(zBL (zBL s (l.take k)).1 (l.drop k)).2.2=(zBL s l).2.2∧(zBL s l).2.1=k+(zBL (zBL s (l.take k)).1 (l.drop k)).2.1:=by
 have hm:zCC s=true:=by
  unfold zBL at h
  by_cases hm:zCC s=true
  ·exact hm
  ·rw[if_neg hm] at h;exact absurd h (by decide)
 have e1:∀ l,zBL s l=zAB s l 0:=fun l=>by unfold zBL;rw[if_pos hm]
 rw[e1] at h
 rw[e1,e1]
 have g:Good (zAB s (l.take k) 0).1:=zOZ (zAl.1 hm) (show zAB s (l.take k) 0=((zAB s (l.take k) 0).1,(zAB s (l.take k) 0).2.1,0) from Prod.ext rfl (Prod.ext rfl h))
 have hn:=zOa h
 rw[List.length_take,Nat.min_eq_left hk] at hn
 have e2:zBL (zAB s (l.take k) 0).1 (l.drop k)=zAB (zAB s (l.take k) 0).1 (l.drop k) 0:=by unfold zBL;rw[if_pos (zAl.2 g)]
 have e:l=l.take k++l.drop k:=(List.take_append_drop _ _).symm
 have e3:zAB s l 0=((zAB (zAB s (l.take k) 0).1 (l.drop k) 0).1,(k:Int)+(zAB (zAB s (l.take k) 0).1 (l.drop k) 0).2.1,(zAB (zAB s (l.take k) 0).1 (l.drop k) 0).2.2):=by
  conv=>lhs;rw[e]
  rw[zGQ,if_pos h,zHh,hn]
 rw[e2,e3]
 exact⟨g,hn,rfl,rfl,rfl⟩
end
section
open Go Go.Sk Go.RowKit
attribute [local irreducible] Go.Calls
theorem EvsM.suf {F:zH}{a:Option Addr}{cap:Nat}{l:List Evt}{q:Nat→EPt}(h:EvsM F a cap l q){k:Nat}(hk:k≤l.length):EvsM F (if cap=k then a else a.map (·.add (k*4))) (cap - k) (l.drop k) (fun j=>q (k+j)):=by
 obtain⟨⟨hn,hc,b,off,cs,T,fr,hs⟩,hev⟩:=h
 have hl:(l.drop k).length=l.length - k:=List.length_drop
 have he:∀ j,ev_ (l.drop k) j=ev_ l (k+j):=fun j=>by
  unfold ev_;rw[List.getD_eq_getElem?_getD,List.getD_eq_getElem?_getD,List.getElem?_drop]
 refine⟨⟨by omega,by omega,b,off+k*4,cs,T,fr,fun h0=>?_⟩,fun j hj=>?_⟩
 ·obtain⟨rfl,h2,h3⟩:=hs (by omega)
  rw[if_neg (by omega),Option.map_some,zz]
  refine⟨rfl,h2,fun j hj=>?_⟩
  show _∧_=(ev_ (l.drop k) j).cells (q (k+j))
  rw[he j,show off+k*4+j*4=off+(k+j)*4 by omega]
  exact h3 (k+j) (by omega)
 ·rw[he j];exact hev (k+j) (by omega)
theorem zSq:∀ (l:List Evt) (s:Sta) (i:Int),Good s→Good (zAB s l i).1∨(zAB s l i).1=zCt
 | [],s,i,h=>.inl h
 | e::l,s,i,h=>by
   rw[all_cons]
   split
   ·rename_i g
    exact zSq l _ _ (zEU h (Prod.ext rfl g))
   ·exact .inr rfl
theorem zKY (s:Sta)(l:List Evt):LtS (zBL s l).1:=by
 unfold zBL
 split
 ·rename_i h
  rcases zSq l s 0 (zAl.1 h) with g|g
  ·exact zDf g
  ·rw[g];exact lt_z
 ·exact lt_z
theorem zSr {F:zH}{a:Option Addr}{cap:Nat}(s:Sta)(p:SPt)(l:List Evt)(q:Nat→EPt)(x:Int)(hac:∀ k,k<s.accts.length→(ac_ s.accts k).name.size≤140737488355328)(hin:∀ k,k<s.insts.length→(in_ s.insts k).name.size≤140737488355328)(hr:∀ j,j<s.rows.length→(rw_ s.rows j).wf)(hT:∀ e∈l,zFq e)(w0:World)(hF:Mem w0 F)(hP:PriM F)(hK:KinM F)(hs:StaM F s p)(hM:EvsM F a cap l q) :
  Calls Tryz.prog 8 [.agg (s.cells p).toArray,.slice a l.length cap,.int .i64 x].toArray w0 (Ret (.bool true) w0):=by
 have hlg:=fun w (hG:Mem w F)=>zFE s p hac hin w hG hs
 have hmn:=fun w (hG:Mem w F)=>c_many l q w hG hM
 have haw:=fun w (hG:Mem w F)=>zFO w hG hP hK
 by_cases hg:zCu s=false∧zEY l=false
 rotate_left
 ·cases h1:zCu s with
  | true =>
    rw[h1] at hlg
    refine enter [.tmp 6] Tryz.func8 rfl Tryz.ntmps8 rfl rfl ?_
    have H:=zB w0
    repeat' (first|refine yT ?_|refine y7 sg H ?_|(refine y9 H ?_;intro b w H)|(refine' y30 zAa ?_ ?_;rotate_left;exact hlg _ (H.memF hF);intro w hcl;replace H:=H.ext hcl;clear hcl)|(refine' y30 zAb ?_ ?_;rotate_left;exact haw _ (H.memF hF);intro w hcl;replace H:=H.ext hcl;clear hcl)|refine yU ?_|fail)
    all_goals exact zQ rfl H.cl rfl
  | false =>
    have h2:zEY l=true:=by
     cases h2:zEY l with
     | true=>rfl
     | false=>exact absurd ⟨h1,h2⟩ hg
    rw[h1] at hlg
    rw[h2] at hmn
    refine enter [.tmp 6] Tryz.func8 rfl Tryz.ntmps8 rfl rfl ?_
    have H:=zB w0
    repeat' (first|refine yT ?_|refine y7 sg H ?_|(refine y9 H ?_;intro b w H)|(refine' y30 zAa ?_ ?_;rotate_left;exact hlg _ (H.memF hF);intro w hcl;replace H:=H.ext hcl;clear hcl)|(refine' y30 ent29 ?_ ?_;rotate_left;exact hmn _ (H.memF hF);intro w hcl;replace H:=H.ext hcl;clear hcl)|(refine' y30 zAb ?_ ?_;rotate_left;exact haw _ (H.memF hF);intro w hcl;replace H:=H.ext hcl;clear hcl)|refine yU ?_|fail)
    all_goals exact zQ rfl H.cl rfl
 obtain⟨h1,h2⟩:=hg
 have sm:=zDv h1
 have hW:=zFP sm hr
 obtain⟨hl60,_⟩:=zSn h2
 rw[h1] at hlg
 rw[h2] at hmn
 obtain⟨hn1,hc1,_⟩:=id hM.1
 obtain⟨k,hk,hrk,hkw⟩:=zNV x (n:=l.length+1) (by omega) (by omega)
 have hkl:k≤l.length:=by omega
 have hw1:IntKind.i64.wrap ((l.length:Int)+1)=((l.length+1:Nat):Int):=by rw[w64 (by omega) (by omega)];omega
 have cA:=fun w (G:zH) (hG:Mem w (G++F))=>zKV (s:=s) (p:=p) hW l q hT w hG (hP.mono (zz8 _ _)) (hK.mono (zz8 _ _)) (hs.mono (zz8 _ _)) (hM.mono (zz8 _ _))
 have cB:=fun w (G:zH) (hG:Mem w (G++F))=>zKV (s:=s) (p:=p) hW (l.take k) q (fun e he=>hT e (List.mem_of_mem_take he)) w hG (hP.mono (zz8 _ _)) (hK.mono (zz8 _ _)) (hs.mono (zz8 _ _)) ((hM.pre hkl).mono (zz8 _ _))
 rw[show(l.take k).length=k by rw[List.length_take];omega] at cB
 refine enter [.tmp 6] Tryz.func8 rfl Tryz.ntmps8 rfl rfl ?_
 have H:=zB w0
 repeat' (first|refine yT ?_|refine y7 sg H ?_|(refine y9 H ?_;intro b w H)|(refine' y30 zAa ?_ ?_;rotate_left;exact hlg _ (H.memF hF);intro w hcl;replace H:=H.ext hcl;clear hcl)|(refine' y30 ent29 ?_ ?_;rotate_left;exact hmn _ (H.memF hF);intro w hcl;replace H:=H.ext hcl;clear hcl)|(refine' y30 zAb ?_ ?_;rotate_left;exact haw _ (H.memF hF);intro w hcl;replace H:=H.ext hcl;clear hcl)|refine yU ?_|fail)
 repeat' (first|refine yT ?_|refine y7 sg H ?_|(refine zf rfl rfl (Yq.rem rfl rfl rfl (by rw[hw1,zJZ (by omega) (by omega)];omega)) ?_)|refine yU ?_|fail)
 rw[hw1,hrk,hkw]
 clear hrk hkw hw1
 obtain⟨⟨cs,ns,es⟩,hA⟩:∃ r,zBL s l=r:=⟨_,rfl⟩
 obtain⟨⟨co,m,f⟩,hB⟩:∃ r,zBL s (l.take k)=r:=⟨_,rfl⟩
 have ltA:LtS cs:=by have:=zKY s l;rw[hA] at this;exact this
 have ltB:LtS co:=by have:=zKY s (l.take k);rw[hB] at this;exact this
 rw[hA] at cA
 rw[hB] at cB
 repeat' (first|refine yT ?_|(refine y10 sg H ?_;intro b w H)|(refine y11 sg H ?_;intro w H)|(refine' y32 zNW ?_ ?_;rotate_left;exact cA _ _ (H.all hF);intro v M w hR hS;replace H:=H.addR hS;clear hS;(try simp only[List.cons_append,List.nil_append] at H);obtain⟨pA,rfl,hsA⟩:=AllR.sta hR ltA)|refine yU ?_|fail)
 rename_i b3 _ _ _ _ _ _ _ _
 obtain⟨N,hN,hb3,hb8,hsA⟩:∃ N:zH,St w0 N w∧cb b3 (s.cells p) 28∈N∧cb b (cs.cells pA) 28∈N∧StaM N cs pA:=⟨_,H,zz5 _ (zz2 _),zz2 _,hsA.mono qS⟩
 clear H
 have H:=hN
 clear hN
 have H0:=H
 have hF1:=H.all hF
 clear H
 obtain⟨w1,rfl⟩:∃ w1,w1=w:=⟨w,rfl⟩
 have H:=zB w1
 (try with_reducible apply zBW)
 refine CW.cutT (fun en w=>∃ bx px N' en',en=ovl [(1,.slice a l.length cap),(7,.int .i64 (k:Int)),(8,.pointer (some ⟨b,0,none⟩)),(9,.int .i64 ns),(10,.int .i64 es),(11,.pointer (some ⟨bx,0,none⟩)),(12,.int .i64 m),(13,.int .i64 f)] en'∧St w0 N' w∧cb bx (co.cells px) 28∈N'∧N⊆N'∧StaM N' co px) ?_ ?_
 ·repeat' (first|refine yT ?_|(refine y10 sg H ?_;intro b w H)|(refine y11 sg H ?_;intro w H)|(refine CW.regionL mixed 13 (H.memF hF1) [] ?_ ?_;exact rfl;intro w hcl;replace H:=H.ext hcl;clear hcl;have qh:=H.memF hF1;refine' l1 0 qh ?_ ?_;rotate_left;(exact(fun w2 hM2=>zG sg rfl rfl hM2 (zz6 _ hb3) rfl rfl));refine' l1 1 qh ?_ ?_;rotate_left;(exact z4 sg);refine' l1 2 qh ?_ ?_;rotate_left;(exact z4 sg);refine' l1 3 qh ?_ ?_;rotate_left;(exact(fun w2 _=>Yq.sliceHi sg rfl rfl rfl rfl rfl rfl (zz1 _) (by omega) (by omega))))|((with_reducible apply RL.nil);decide +kernel)|(refine' l1 5 (H.memF hF1) ?_ ?_;rotate_left;(exact z4 sg))|(refine' l1 6 (H.memF hF1) ?_ ?_;rotate_left;(exact z4 sg))|(refine' l1 7 (H.memF hF1) ?_ ?_;rotate_left;(exact z4 sg))|(refine' l1 8 (H.memF hF1) ?_ ?_;rotate_left;(exact z4 sg))|(refine' l1 11 (H.memF hF1) ?_ ?_;rotate_left;(exact z4 sg))|(refine' l1 12 (H.memF hF1) ?_ ?_;rotate_left;(exact z4 sg))|refine l2 4 ?_|refine l2 9 ?_|refine l2 10 ?_|refine l4 4 9 ?_ ?_|(refine l5 (H.memF hF1) ?_)|(refine' y32 zNW ?_ ?_;rotate_left;exact cB _ (_++N) (by rw[List.append_assoc];exact H.all hF1);intro v M w hR hS;replace H:=H.addR hS;clear hS;(try simp only[List.cons_append,List.nil_append] at H);obtain⟨px,rfl,hx⟩:=AllR.sta hR ltB)|refine yU ?_|fail)
  all_goals exact⟨_,px,_,_,za rfl (za rfl (za rfl (za rfl (za rfl (zAZ rfl rfl rfl))))),H0.addR H,zz3 _ qC,by intro q hq;simp[hq],hx.mono qS⟩
 clear H H0 hF1
 rintro _ w ⟨b11,pB,N',_,rfl,H,hb11,hsub,hsB⟩
 replace hb8:=hsub hb8
 replace hsA:=hsA.mono hsub
 clear hsub
 obtain⟨N,rfl⟩:∃ N,N=N':=⟨N',rfl⟩
 by_cases hf:f=0
 rotate_left
 ·have d1:(f != 0)=true:=by simpa using hf
  have pe:=zPu (s:=s) (l:=l) (k:=k) (by rw[hB];exact hf)
  have pb:=zOc s (l.take k)
  rw[hA,hB] at pe
  rw[hB] at pb
  rw[show(l.take k).length=k by rw[List.length_take];omega] at pb
  obtain⟨rfl,rfl⟩:es=f∧ns=m:=pe
  have d2:(es==es)=true:=by simp
  have d3:(ns==ns)=true:=by simp
  have d4:decide (ns≤(k:Int))=true:=decide_eq_true pb.2
  repeat' (first|refine yT ?_|refine yU ?_|(refine y17 ?_ ?_;all_goals(intro h;try (exfalso;first|((cases d1.symm.trans h);done)|((cases d2.symm.trans h);done)|((cases d3.symm.trans h);done))))|(refine y23 ?_ ?_;all_goals(intro h;try (exfalso;first|((cases d1.symm.trans h);done)|((cases d2.symm.trans h);done)|((cases d3.symm.trans h);done))))|fail)
  exact zQ rfl H.cl (congrArg Value.bool d4)
 subst hf
 have d1:((0:Int) != 0)=false:=rfl
 have po:=zSp (s:=s) (l:=l) (k:=k) hkl (by rw[hB])
 rw[hB] at po
 obtain⟨gB,hm,pe1,pe2,pe3⟩:=po
 obtain⟨⟨ct,o,g⟩,hC⟩:∃ r,zBL co (l.drop k)=r:=⟨_,rfl⟩
 have ltC:LtS ct:=by have:=zKY co (l.drop k);rw[hC] at this;exact this
 simp only at gB hm pe1 pe2 pe3
 rw[hC,hA] at pe1 pe2 pe3
 simp only at pe1 pe2 pe3
 have po:=zOc co (l.drop k)
 rw[hC] at po
 have hld:(l.drop k).length=l.length - k:=List.length_drop
 have cC:=fun w (G:zH) (hG:Mem w (G++(N++F)))=>zKV (s:=co) (p:=pB) (zG4 gB) (l.drop k) (fun j=>q (k+j)) (fun e he=>hT e (List.mem_of_mem_drop he)) w hG (hP.mono fun x hx=>zz3 _ (zz3 _ hx)) (hK.mono fun x hx=>zz3 _ (zz3 _ hx)) (hsB.mono fun x hx=>zz3 _ (zz6 _ hx)) ((hM.suf hkl).mono fun x hx=>zz3 _ (zz3 _ hx))
 rw[hld,hC] at cC
 repeat' (first|refine yT ?_|refine yU ?_|fail)
 have H0:=H
 have hF1:=H.all hF
 clear H
 obtain⟨w1,rfl⟩:∃ w1,w1=w:=⟨w,rfl⟩
 have H:=zB w1
 (try with_reducible apply zBW)
 refine CW.cutT (fun en w=>∃ bx px N' en',en=ovl [(7,.int .i64 (k:Int)),(8,.pointer (some ⟨b,0,none⟩)),(9,.int .i64 ns),(10,.int .i64 es),(12,.int .i64 m),(14,.pointer (some ⟨bx,0,none⟩)),(15,.int .i64 o),(16,.int .i64 g)] en'∧St w0 N' w∧cb bx (ct.cells px) 28∈N'∧N⊆N'∧StaM N' ct px) ?_ ?_
 ·repeat' (first|refine yT ?_|(refine y10 sg H ?_;intro b w H)|(refine y11 sg H ?_;intro w H)|(refine CW.regionL mixed 13 (H.memF hF1) [] ?_ ?_;exact rfl;intro w hcl;replace H:=H.ext hcl;clear hcl;have qh:=H.memF hF1;refine' l1 0 qh ?_ ?_;rotate_left;(exact(fun w2 hM2=>zG sg rfl rfl hM2 (zz6 _ hb11) rfl rfl));refine' l1 1 qh ?_ ?_;rotate_left;(exact z4 sg);refine' l1 2 qh ?_ ?_;rotate_left;(exact z4 sg);refine' l1 3 qh ?_ ?_;rotate_left;(exact(fun w2 _=>Yq.sliceLo sg rfl rfl rfl rfl rfl rfl (zz1 _) (by omega) (by omega))))|((with_reducible apply RL.nil);decide +kernel)|(refine' l1 5 (H.memF hF1) ?_ ?_;rotate_left;(exact z4 sg))|(refine' l1 6 (H.memF hF1) ?_ ?_;rotate_left;(exact z4 sg))|(refine' l1 7 (H.memF hF1) ?_ ?_;rotate_left;(exact z4 sg))|(refine' l1 8 (H.memF hF1) ?_ ?_;rotate_left;(exact z4 sg))|(refine' l1 11 (H.memF hF1) ?_ ?_;rotate_left;(exact z4 sg))|(refine' l1 12 (H.memF hF1) ?_ ?_;rotate_left;(exact z4 sg))|refine l2 4 ?_|refine l2 9 ?_|refine l2 10 ?_|refine l4 4 9 ?_ ?_|(refine l5 (H.memF hF1) ?_)|(refine' y32 zNW ?_ ?_;rotate_left;exact cC _ _ (H.all hF1);intro v M w hR hS;replace H:=H.addR hS;clear hS;(try simp only[List.cons_append,List.nil_append] at H);obtain⟨px,rfl,hx⟩:=AllR.sta hR ltC)|refine yU ?_|fail)
  all_goals exact⟨_,px,_,_,za rfl (za rfl (za rfl (za rfl (za rfl (zAZ rfl rfl rfl))))),H0.addR H,zz3 _ qC,by intro q hq;simp[hq],hx.mono qS⟩
 clear H H0 hF1
 rintro _ w ⟨b14,pC,N',_,rfl,H,hb14,hsub,hsC⟩
 replace hb8:=hsub hb8
 replace hsA:=hsA.mono hsub
 clear hsub
 obtain⟨N,rfl⟩:∃ N,N=N':=⟨N',rfl⟩
 subst pe1
 subst pe2
 have hw2:IntKind.i64.wrap (m+o)=m+o:=by
  simp only at po
  exact w64 (by omega) (by omega)
 have d2:(g==g)=true:=by simp
 have d3:(ns==IntKind.i64.wrap (m+o))=true:=by rw[hw2,pe3,hm];simp
 have d4:(m==(k:Int))=true:=by rw[hm];simp
 have d5:zFy ct ct=true:=zD1.2 rfl
 have cS:=fun w (hG:Mem w N)=>zId ct ct pC pA w hG hsC hsA
 rw[d5] at cS
 repeat' (first|refine yT ?_|refine z13 (zG sg rfl rfl H.mem hb14 rfl rfl) ?_|refine z13 (zG sg rfl rfl H.mem hb8 rfl rfl) ?_|(refine' y30 zKl ?_ ?_;rotate_left;exact cS _ H.mem;intro w hcl;replace H:=H.ext hcl;clear hcl)|refine yU ?_|(refine y17 ?_ ?_;all_goals(intro h;try (exfalso;first|((cases d2.symm.trans h);done)|((cases d3.symm.trans h);done)|((cases d4.symm.trans h);done))))|fail)
 exact zQ rfl H.cl rfl
end
section
open Go Go.Sk Go.RowKit Go.ChangeShapes Go.WideShapes
set_option maxRecDepth 100000 in
theorem applyParts_calls {H:Type}{enc:TypeId × Value→H}{W:World}{args:Array Value}{ds:List (DataW H)}{p:List MemPlace}
  (hA:DataW.TrodAll enc Tryz.prog W 0 (fun _=>true) true [28,52,3] args.toList ds p) (hz:∀ (j:Nat) t d,([28,52,3]:List TypeId)[j]?=some t→ds[j]?=some d→∀ n∈d.weights Tryz.prog t,n≤reachBytes) (hv:∀ (j:Nat) t v,([28,52,3]:List TypeId)[j]?=some t→args[j]?=some v→Value.okWide Tryz.prog W .any 0 t v) (hL:laidMetH Tryz.prog zA4 W) :
  Calls Tryz.prog 8 args W (Ret (.bool true) W):=by
 obtain⟨v0,v1,v2,d0,d1,d2,r0,r1,r2,rfl,rfl,rfl,h0,h1,h2⟩:=zOb hA
 obtain⟨s0,p0,rfl,hM0,hA0⟩:=zFK h0 (hz 0 _ _ rfl rfl) (hv 0 _ _ rfl rfl)
 obtain⟨l1,a1,cap1,q1,rfl,hE1,hT1⟩:=zUQ h1 (hz 1 _ _ rfl rfl) (hv 1 _ _ rfl rfl)
 obtain⟨x2,rfl,hx2⟩:=zGR (sg.desc rfl rfl) h2 (hv 2 _ _ rfl rfl)
 exact zSr s0 p0 l1 q1 x2 hA0.acN hA0.insN hA0.rw hT1 W (zDq W) (zG6 hL) (zG5 hL) hM0 hE1
set_option maxRecDepth 100000 in
theorem applyParts_lifted (os:Os)(started:os.Started)(H:Type)(enc:TypeId × Value→H) :
  ReturnsInHanded {} Tryz.checked os 8 .any (fun w args=>(Rows.applyPartsSpec.pre enc Tryz.prog Tryz.f8 [] false w args∧laidMetH Tryz.prog zA4 w)∧sizedMet enc Tryz.prog Tryz.f8 (OpenSpec.ofChange Rows.applyPartsSpec) false w args)
   (Rows.applyPartsSpec.post enc Tryz.prog Tryz.f8 false true false false):=by
 refine returnsInHanded_of_change_and (C:=Tryz.checked) (X:=fun w _=>laidMetH Tryz.prog zA4 w) (fun _ _ _ hh h=>h.of_heap hh) (by kernel_rfl) started (by kernel_rfl) Tryz.func8
  (ChangeSpec.witness_shaped (enc:=enc) (C:=Tryz.checked) (os:=os) (X:=fun w _=>laidMetH Tryz.prog zA4 w) false (World.doorLaid Tryz.prog 600 os) #[.agg #[.int .i64 0,.int .i64 0,.int .i64 0,.int .i64 0,.slice none 0 0,.slice none 0 0,.slice none 0 0,.slice none 0 0,.slice none 0 0],.slice none 0 0,.int .i64 0] 8 rfl (World.shaped_of_RefB (by kernel_rfl) (by kernel_rfl)) (by kernel_rfl) (by kernel_rfl) (by kernel_rfl) (zD2 os _)) ?_
 intro W base args ds gs before hval hW _ hsz hL _
 have hA:DataW.TrodAll enc Tryz.prog W 0 (fun _=>true) true [28,52,3] args.toList ds hW.choose:=hW.choose_spec.choose_spec.1
 refine(applyParts_calls hA (fun j t d h1 h2=>zDr hsz (Eq.trans ?_ h1) h2) (fun j t v h1 h2=>?_) hL).mono fun e W' ⟨he,hc⟩=>?_
 ·exact congrArg (fun l:List TypeId=>l[j]?) (by kernel_rfl)
 ·refine hval j t v (Eq.trans ?_ h1) h2
  rw[← Array.getElem?_toList]
  exact congrArg (fun l:List TypeId=>l[j]?) (by kernel_rfl)
 ·have hds:∃ q,hW.choose=q:=⟨_,rfl⟩
  obtain⟨q,hq⟩:=hds
  rw[hq] at hA
  refine⟨_,he,zDp (tb:=4) (by kernel_rfl) rfl (by kernel_rfl) rfl (sg.desc rfl rfl) ?_ hW hc⟩
  clear hq
  obtain⟨v0,v1,v2,d0,d1,d2,r0,r1,r2,_,rfl,_⟩:=zOb hA
  rfl
end
end Go.Proofs.YtibmaifoaajllaaGreatDoor
