/- Texts of ours, joined: the steps of the proof, or the claim's theorem. -/
import Derived.Stop.Joined
import Derived.Test.YtejhijhnlogikaaGreatDoorChecked
import Derived.Test.YtejhijhnlogikaaGreatDoorRows
import Derived.Test.YtejhijhnlogikaaGreatDoorMc24
set_option linter.all false
set_option maxHeartbeats 16000000
namespace Go.Proofs.YtejhijhnlogikaaGreatDoor
section
open Go Go.Sk Go.RowKit Go.ChangeShapes Go.WideShapes Go.Proofs.Tryz
section
variable {H:Type}{enc:TypeId × Value→H}{w:World}
set_option maxRecDepth 20000 in
theorem zTW {v:Value}{d:DataW H}{p:List MemPlace}(h:DataW.Trod enc prog w 0 (fun _=>true) true 22 v d p)(hz:∀ n∈d.weights prog 22,n≤reachBytes)(hv:Value.okWide prog w .any 0 22 v) :
  ∃ (l:List Cmd) (a:Option Addr) (cap:Nat) (q:Nat→CPt),v=.slice a l.length cap∧CmsM (zFf w) a cap l q∧∀ c∈l,zIy c:=by
 obtain⟨a,len,cap,rfl⟩:=Go.WideShapes.okWide_slice (sg.desc rfl rfl) hv
 have hR:Rz enc prog w 22 [.slice a len cap]:=Rz.of h hz
 obtain⟨a,len,cap,e,hs⟩:=Rz.slice hR (sg.desc rfl rfl) (sg.ncells rfl rfl) (sg.nbytes rfl rfl)
 cases e
 letI:Inhabited Cmd:=⟨cmZ⟩
 obtain⟨l0,rfl,hm,hp⟩:=hs.named (α:=Cmd × CPt) (el:=fun x=>x.1.cells x.2.1 x.2.2) (fun _=>rz_cmd)
 have hg:∀ j,(l0.map (·.1)).getD j cmZ=(l0.getD j default).1:=fun j=>by
  simp only[List.getD_eq_getElem?_getD,List.getElem?_map]
  cases l0[j]?<;>rfl
 refine⟨l0.map (·.1),a,cap,fun j=>(l0.getD j default).2,by simp,?_,?_⟩
 ·constructor
  ·have:cml (l0.map (·.1)) (fun j=>(l0.getD j default).2)=fun j=>(l0.getD j default).1.cells (l0.getD j default).2.1 (l0.getD j default).2.2:=by
    funext j
    exact congrArg (fun x=>Cmd.cells x _ _) (hg j)
   simp only[List.length_map]
   rw[this]
   exact hm
  ·intro j hj
   simp only[List.length_map] at hj
   exact(congrArg (fun x=>Ints (zFf w) (l0.getD j default).2.1 (l0.getD j default).2.2 (Cmd.nums x)) (hg j)).mpr (hp j hj).1
 ·intro e he
  obtain⟨x,hx,rfl⟩:=List.mem_map.1 he
  obtain⟨j,hj,rfl⟩:=List.getElem_of_mem hx
  have:=(hp j hj).2
  rw[List.getD_eq_getElem?_getD,List.getElem?_eq_getElem hj] at this
  exact this
end
end
section
open Go Go.Sk Go.RowKit Go.ChangeShapes Go.WideShapes Go.Proofs.Tryz
section
variable {H:Type}{enc:TypeId × Value→H}{P:Program}{w:World}{base:Nat}{spare:Nat→Bool}{held:Bool}{t0 t1 t2 t3 t4:TypeId}{args:Array Value}{ds:List (DataW H)}{ps:List MemPlace}
theorem zPB (h:DataW.TrodAll enc P w base spare held [t0] args.toList ds ps) :
  ∃ v0 d0 p0,args=#[v0]∧ds=[d0]∧ps=p0∧DataW.Trod enc P w base spare held t0 v0 d0 p0:=by
 obtain⟨v0,_,d0,_,p0,_,e,rfl,rfl,h0,h⟩:=trodAll_cons h
 obtain⟨rfl,rfl,rfl⟩:=trodAll_nil h
 exact⟨v0,d0,p0,by cases args;simp_all,rfl,by simp,h0⟩
end
set_option maxRecDepth 100000 in
theorem zTX (os:Os)(args:Array Value):laidMetH prog zE9 ((World.doorLaid prog 600 os).forCall (fun _ _=>0) ⟨#[],args,[]⟩).memory :=
 laidMetH_of_parts3 (fuel:=8) (laidMet_of_run' 8 (by kernel_rfl) (by kernel_rfl)) (by kernel_rfl) (by kernel_rfl)
end
section
open Go Go.Sk Go.RowKit Go.Proofs.Tryz
structure Rul where
 frm:Int
 times:Int
 plus:Int
 deriving DecidableEq,Inhabited
def zAy (v:Int)(c:Nat):Int × Int:=if v=1∧(c=112∨c=107∨c=109∨c=98) then(100,0) else if v=2∧c=116 then(10,0) else if v=2∧c=115 then(1,1) else(1,0)
def zDg (c:Nat):Rul:=⟨-1,0,if c=122 then 0 else 100⟩
def zAd (v:Int)(old:List Nat):List Nat→Nat→List Rul
 | [],_=>[]
 | c::l,k=>if k=old.length∨old.getD k 0≠c then zDg c::zAd v old l k else⟨(k:Int),(zAy v c).1,(zAy v c).2⟩::zAd v old l (k+1)
def zCM (v k:Int):Option (List Rul) :=
 match zAj v k with
 | none=>none
 | some (old,_)=>if 3≤v then none else some (zAd v old (zBT (v+1) k).1 0)
def upN (n:List Int)(r:Rul):Int:=if 0≤r.frm then r.plus+r.times*n.getD r.frm.toNat 0 else r.plus
def upF (e:Evt):Evt × Int :=
 if zAm e=false then(⟨0,0,[],[]⟩,4) else
 match zCM e.v e.kind with
 | none=>(⟨0,0,[],[]⟩,43)
 | some l=>(⟨e.v+1,e.kind,l.map (upN e.nums),e.texts⟩,0)
def zG0 (e:Evt):Evt × Int :=
 if zAm e=false then(⟨0,0,[],[]⟩,4) else
 if e.v=1 then((upF (upF e).1).1,0) else if e.v=2 then((upF e).1,0) else(e,0)
def zDK:List Evt→List Evt→List Evt × Int
 | [],o=>(o,0)
 | e::l,o=>if (zG0 e).2≠0 then([],(zG0 e).2) else zDK l (o++[(zG0 e).1])
def zKo (l:List Evt):Bool:=decide (0<l.length)&&decide (l.length≤40)&&!(l.any fun e=>e.v != (l.getD 0 ⟨0,0,[],[]⟩).v||!zAm e)
structure Mrk where
 s:Sta
 n:Int
def zKp:Mrk:=⟨zGl,0⟩
def zCi (m:Mrk)(l:List Evt):Mrk × Int :=
 if 1048576≤m.n then(m,40) else
 if zKo l=false then(m,4) else
 if (zDK l []).2≠0 then(m,(zDK l []).2) else
 if (zCg m.s (zDK l []).1).2.2≠0 then(m,(zCg m.s (zDK l []).1).2.2) else(⟨(zCg m.s (zDK l []).1).1,m.n+1⟩,0)
end
end Go.Proofs.YtejhijhnlogikaaGreatDoor
namespace Go.Sk
open Go Go.RowKit
def Byt (l:List Nat):Prop:=∀ b∈l,b<256
theorem Byt.take {l:List Nat}(h:Byt l)(n:Nat):Byt (l.take n):=fun x hx=>h x (List.mem_of_mem_take hx)
theorem Byt.drop {l:List Nat}(h:Byt l)(n:Nat):Byt (l.drop n):=fun x hx=>h x (List.mem_of_mem_drop hx)
theorem zGT (s:ByteArray):bytesOf (zM4 s)=s:=by
 cases s with
 | mk d =>
   unfold bytesOf zM4
   congr 1
   apply Array.ext'
   simp[List.map_map,Function.comp_def]
theorem zMF {a b:ByteArray}(h:zM4 a=zM4 b):a=b:=by rw[← zGT a,← zGT b,h]
theorem str_eq (a b:ByteArray):(a.toList==b.toList)=decide (zM4 a=zM4 b):=by
 rw[ByteArray.toList_eq,ByteArray.toList_eq,Bool.eq_iff_iff,beq_iff_eq,decide_eq_true_eq]
 constructor
 ·intro h;unfold zM4;rw[h]
 ·intro h;rw[zMF h]
end Go.Sk
namespace Go.Proofs.YtejhijhnlogikaaGreatDoor
section
open Go Go.Sk Go.RowKit Go.Proofs.Tryz
attribute [local irreducible] Go.Calls
theorem zPC (a b:ByteArray):(a.toList==b.toList)=true↔a=b:=by
 rw[str_eq,decide_eq_true_iff]
 exact⟨zMF,fun h=>by rw[h]⟩
theorem zVQ (a b:ByteArray):a.toList=b.toList↔a=b:=by rw[← beq_iff_eq (a:=a.toList),zPC]
theorem zVR {α:Type}[Inhabited α]{l l':List α}(hlen:l.length=l'.length)(h:∀ j,j<l.length→l.getD j default=l'.getD j default):l=l' :=
 List.ext_getElem hlen fun j h1 h2=>by
  have:=h j h1
  simpa [List.getD,h1,h2] using this
end
section
open Go Go.Sk Go.RowKit Go.Proofs.Tryz
attribute [local irreducible] Go.Calls
section
attribute [local semireducible] Yq
end
def mrk (m:Mrk)(p:SPt):List Value:=m.s.cells p++[.int .i64 m.n]
def MkM (F:zB)(b:Nat)(m:Mrk):Prop:=∃ p,cb b (mrk m p) 74∈F∧StaM F m.s p
theorem MkM.mono {F G:zB}{b:Nat}{m:Mrk}(h:MkM F b m)(hs:F⊆G):MkM G b m:=let ⟨p,h1,h2⟩:=h;⟨p,hs h1,h2.mono hs⟩
def MkR (m:Mrk)(M:zB)(v:Value):Prop:=∃ b p N,v=.pointer (some ⟨b,0,none⟩)∧M=cb b (mrk m p) 74::N∧StaM N m.s p
theorem staM_e {F:zB}:StaM F zGl SPt.n0:=⟨SlA.nil,SlA.nil,SlA.nil,SlA.nil,SlA.nil,fun j hj=>absurd hj (zzE _)⟩
theorem CopyR.sta {s:Sta}{M:zB}{v:Value}(h:CopyR s M v)(hL:LtS s):∃ p,v=.agg (s.cells p).toArray∧StaM M s p:=by
 obtain⟨p,Ma,Mi,Mu,R,rfl,rfl,hC⟩:=h
 exact⟨p,rfl,hC.sta hL⟩
theorem zTY (w0:World):Calls prog 10 [].toArray w0 (zf (MkR zKp) w0):=by
 refine eN func10 ntmps10 ?_
 have H:=zA w0
 repeat' (first|refine yW ?_|(refine yB ?_;intro b w H)|(refine c0 ent35 ?_;refine⟨_,zSF _,?_⟩;clear H;intro w H)|fail)
 exact zO (M:=[_]) rfl H ⟨_,SPt.n0,[],rfl,rfl,staM_e⟩
theorem zNp {F:zB}{b:Nat}{m:Mrk}(w0:World)(hF:Mem w0 F)(hm:MkM F b m):Calls prog 22 [.pointer (some ⟨b,0,none⟩)].toArray w0 (Ret (.int .i64 m.n) w0):=by
 obtain⟨p,hb,_⟩:=hm
 refine eN func22 ntmps22 ?_
 have H:=zA w0
 repeat' (first|refine yW ?_|refine z13 (zH sg rfl rfl (H.memF hF) hb rfl rfl) ?_|fail)
 exact zP rfl H.cl rfl
theorem zIj {F:zB}{b:Nat}{m:Mrk}(hL:LtS m.s)(w0:World)(hF:Mem w0 F)(hm:MkM F b m):Calls prog 13 [.pointer (some ⟨b,0,none⟩)].toArray w0 (zf (fun M v=>∃ p,v=.agg (m.s.cells p).toArray∧StaM M m.s p) w0):=by
 obtain⟨p,hb,hs⟩:=hm
 refine eN func13 ntmps13 ?_
 have H:=zA w0
 repeat' (first|refine yW ?_|(refine yB ?_;intro b w H)|(refine y11 sg H ?_;intro w H)|refine z13 (zH sg rfl rfl (H.memF hF) hb rfl rfl) ?_|(refine f0 zQ4 ?_;refine⟨_,zNa m.s p hL _ (H.memF hF) hs,?_⟩;clear H;intro v M w hR H;(try simp only[zca,zcb] at H);obtain⟨p2,rfl,hs2⟩:=hR.sta hL)|fail)
 exact zi (vs:=[_]) (M:=M) ⟨zm sg rfl H.mem (zz2 _) rfl rfl,trivial⟩ (H.sub (zz7 _ _)) ⟨p2,rfl,hs2⟩
structure MkOk (m:Mrk):Prop where
 good:Good m.s
 n:0≤m.n∧m.n≤1048576
def ActR (bm:Nat)(m:Mrk)(p:SPt)(X:Sta→SPt→Int→zB→Prop)(M:zB)(v:Value):Prop:=∃ t q e N',v=.tuple #[.agg (t.cells q).toArray,.int .i64 e]∧M=cb bm (mrk m p) 74::N'∧X t q e N'
def ChgR (bm:Nat)(m:Mrk)(p:SPt)(X:Sta→SPt→Int→zB→Prop)(M:zB)(v:Value):Prop:=∃ t q e N',v=.int .i64 e∧X t q e N'∧M=cb bm (if e=0 then mrk ⟨t,m.n+1⟩ q else mrk m p) 74::N'
theorem zJc {N:zB}{m:Mrk}{p:SPt}{bm:Nat}{f:FuncId}{caps:List Value}{w0 w:World}{X:Sta→SPt→Int→zB→Prop}(H:St w0 (cb bm (mrk m p) 74::N) w)(hn:0≤m.n∧m.n<1048576)(hf:Ent prog f)
  (hact:∀ w,St w0 (cb bm (mrk m p) 74::N) w→Calls prog f ([Value.agg (m.s.cells p).toArray]++caps).toArray w (zf (ActR bm m p X) w0)) :
  Calls prog 36 [.pointer (some ⟨bm,0,none⟩),.func (.func f) #[] caps.toArray].toArray w (zf (ChgR bm m p X) w0):=by
 have d1:decide (m.n ≥ 1048576)=false:=decide_eq_false qO
 refine eN func36 ntmps36 ?_
 repeat' (first|refine yX ?_|with_reducible apply zC|fail)
 refine CW.condF (congrArg Value.bool d1) ?_
 repeat' (first|refine yX ?_|(refine yB ?_;intro b w H)|(refine y11 sg H ?_;intro w H)|(refine zY rfl rfl (zA3 hf rfl rfl rfl) (hact _ H) ?_;rintro v M w ⟨t,q,e,N',rfl,rfl,hX⟩ H2;clear H;have H:=H2;clear H2)|fail)
 by_cases h0:e=0
 ·subst h0
  repeat' (first|refine yW ?_|(refine y11 sg H ?_;intro w H)|fail)
  have e1:IntKind.i64.wrap (m.n+1)=m.n+1:=w64 qO qO
  rw[e1] at H
  exact zO (M:=_::N') rfl (H.sub (zz7 _ _)) ⟨t,q,0,N',rfl,hX,rfl⟩
 ·have d2:(e != 0)=true:=by simpa using h0
  repeat' (first|refine yW ?_|fail)
  exact zO (M:=_::N') rfl (H.sub (zz7 _ _)) ⟨t,q,e,N',rfl,hX,by rw[if_neg h0]⟩
theorem zIk {F:zB}{m:Mrk}{bm:Nat}{f:Value}(hn:1048576≤m.n)(w0:World)(hF:Mem w0 F)(hm:MkM F bm m) :
  Calls prog 36 [.pointer (some ⟨bm,0,none⟩),f].toArray w0 (Ret (.int .i64 40) w0):=by
 obtain⟨p,hb,_⟩:=hm
 have d1:decide (m.n ≥ 1048576)=true:=decide_eq_true qO
 refine eN func36 ntmps36 ?_
 have H:=zA w0
 repeat' (first|refine yW ?_|refine z13 (zH sg rfl rfl (H.memF hF) hb rfl rfl) ?_|with_reducible apply zC|fail)
 exact zP rfl H.cl rfl
end
section
open Go Go.Sk Go.RowKit Go.Proofs.Tryz
def zEY (s:Sta)(id:Int):Option Evt :=
 let o:=(zT s.orders id).1
 let u:=(zAQ s.orders o.inst (3 - o.side)).1
 if (zT s.orders id).2=true∧(zAQ s.orders o.inst (3 - o.side)).2=true∧zo o u=true then
  some (evF 13 [id,u.id,u.price,min o.left u.left,(zBh (u.price*min o.left u.left) s.fee).1])
 else none
def zCN (s:Sta)(id:Int):Evt:=if (zAu s id).2.2=true then evF 18 [id,(zAu s id).1.acct,(zAu s id).1.amount,(zAu s id).2.1] else evF 19 [id]
end
end Go.Proofs.YtejhijhnlogikaaGreatDoor
