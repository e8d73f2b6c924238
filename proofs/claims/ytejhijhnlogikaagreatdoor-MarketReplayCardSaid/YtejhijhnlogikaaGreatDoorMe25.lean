/- Steps of the proof. -/
import Derived.Stop.Joined
import Derived.Test.YtejhijhnlogikaaGreatDoorChecked
import Derived.Test.YtejhijhnlogikaaGreatDoorRows
import Derived.Test.YtejhijhnlogikaaGreatDoorMe24
set_option linter.all false
set_option maxHeartbeats 16000000
namespace Go.Proofs.YtejhijhnlogikaaGreatDoor
section
open Go Go.Sk Go.RowKit Go.ChangeShapes Go.WideShapes Go.Proofs.Tryz
section
variable {H:Type}{enc:TypeId × Value->H}{w:World}
set_option maxRecDepth 20000 in
theorem zJr {v:Value}{d:DataW H}{p:List MemPlace}(h:DataW.Trod enc prog w 0 (fun _=>true) true 22 v d p)(hz:∀ n∈d.weights prog 22,n<=reachBytes)(hv:Value.okWide prog w .any 0 22 v) :
  ∃ (l:List Cmd) (a:OA) (cap:Nat) (q:Nat->CPt),v=.slice a l.length cap/\CmsM (zDD w) a cap l q/\∀ c∈l,zGG c:=by{
obtain⟨a,len,cap,rfl⟩:=Go.WideShapes.okWide_slice (sg.desc rfl rfl) hv;have hR:Rz enc prog w 22 [.slice a len cap]:=Rz.of h hz;obtain⟨a,len,cap,e,hs⟩:=Rz.slice hR (sg.desc rfl rfl) (sg.ncells rfl rfl) (sg.nbytes rfl rfl);cases e
letI:Inhabited Cmd:=⟨cmZ⟩
obtain⟨l0,rfl,hm,hp⟩:=hs.named (α:=Cmd × CPt) (el:=fun x=>x.1.cells x.2.1 x.2.2) (fun _=>zVV);have hg:∀ j,(l0.map (·.1)).getD j cmZ=(l0.getD j default).1:=fun j=>by simp only[yy2,List.getElem?_map];cases l0[j]?<;>rfl
refine⟨l0.map (·.1),a,cap,fun j=>(l0.getD j default).2,by simp,?_,?_⟩
.constructor
 .have:cml (l0.map (·.1)) (fun j=>(l0.getD j default).2)=fun j=>(l0.getD j default).1.cells (l0.getD j default).2.1 (l0.getD j default).2.2:=by funext j;exact congrArg (fun x=>Cmd.cells x _ _) (hg j)
  simp only[yyp];rw[this];exact hm
 .intro j hj;simp only[yyp] at hj;exact(congrArg (fun x=>Ints (zDD w) (l0.getD j default).2.1 (l0.getD j default).2.2 (Cmd.nums x)) (hg j)).mpr (hp j hj).1
.intro e he;obtain⟨x,hx,rfl⟩:=List.mem_map.1 he;obtain⟨j,hj,rfl⟩:=List.getElem_of_mem hx;have:=(hp j hj).2;rw[yy2,yy1 hj] at this;exact this}
end
end
section
open Go Go.Sk Go.RowKit Go.ChangeShapes Go.WideShapes Go.Proofs.Tryz
section
variable {H:Type}{enc:TypeId × Value->H}{P:Program}{w:World}{base:Nat}{spare:Nat->Bool}{held:Bool}{t0 t1 t2 t3 t4:TypeId}{args:Array Value}{ds:List (DataW H)}{ps:List MemPlace}
theorem zF7 (h:DataW.TrodAll enc P w base spare held [t0,t1,t2,t3] args.toList ds ps) :
  ∃ v0 v1 v2 v3 d0 d1 d2 d3 p0 p1 p2 p3,args=#[v0,v1,v2,v3]/\ds=[d0,d1,d2,d3]/\ps=p0++p1++p2++p3/\DataW.Trod enc P w base spare held t0 v0 d0 p0/\DataW.Trod enc P w base spare held t1 v1 d1 p1/\DataW.Trod enc P w base spare held t2 v2 d2 p2/\DataW.Trod enc P w base spare held t3 v3 d3 p3:=by obtain⟨v0,_,d0,_,p0,_,e,rfl,rfl,h0,h⟩:=trodAll_cons h;obtain⟨v1,_,d1,_,p1,_,rfl,rfl,rfl,h1,h⟩:=trodAll_cons h;obtain⟨v2,_,d2,_,p2,_,rfl,rfl,rfl,h2,h⟩:=trodAll_cons h;obtain⟨v3,_,d3,_,p3,_,rfl,rfl,rfl,h3,h⟩:=trodAll_cons h;obtain⟨rfl,rfl,rfl⟩:=trodAll_nil h;exact⟨v0,v1,v2,v3,d0,d1,d2,d3,p0,p1,p2,p3,by cases args;simp_all,rfl,by simp,h0,h1,h2,h3⟩
end
set_option maxRecDepth 100000 in
theorem zFl (os:Os)(args:Array Value):laidMetH prog zBN ((World.doorLaid prog 600 os).forCall (fun _ _=>0) ⟨#[],args,[]⟩).memory :=
 laidMetH_of_parts3 (fuel:=8) (laidMet_of_run' 8 (by kernel_rfl) (by kernel_rfl)) (by kernel_rfl) (by kernel_rfl)
end
section
open Go Go.Sk Go.RowKit Go.Proofs.Tryz
structure Rul where
 frm:Int
 times:Int
 plus:Int
 deriving DecidableEq,Inhabited
def zAu (v:Int)(c:Nat):Int × Int:=if v=1/\(c=112\/c=107\/c=109\/c=98) then(100,0) else if v=2/\c=116 then(10,0) else if v=2/\c=115 then(1,1) else(1,0)
def zDd (c:Nat):Rul:=⟨-1,0,if c=122 then 0 else 100⟩
def zAY (v:Int)(old:List Nat):List Nat->Nat->List Rul
 | [],_=>[]
 | c::l,k=>if k=old.length\/old.getD k 0≠c then zDd c::zAY v old l k else⟨(k:Int),(zAu v c).1,(zAu v c).2⟩::zAY v old l (k+1)
def zBG (v k:Int):Option (List Rul) :=
 match zAg v k with
 | none=>none
 | some (old,_)=>if 3<=v then none else some (zAY v old (zBT (v+1) k).1 0)
def upN (n:List Int)(r:Rul):Int:=if 0<=r.frm then r.plus+r.times*n.getD r.frm.toNat 0 else r.plus
def upF (e:Evt):Evt × Int :=
 if zk e=false then(⟨0,0,[],[]⟩,4) else
 match zBG e.v e.kind with
 | none=>(⟨0,0,[],[]⟩,43)
 | some l=>(⟨e.v+1,e.kind,l.map (upN e.nums),e.texts⟩,0)
def zB8 (e:Evt):Evt × Int :=
 if zk e=false then(⟨0,0,[],[]⟩,4) else
 if e.v=1 then((upF (upF e).1).1,0) else if e.v=2 then((upF e).1,0) else(e,0)
def zC2:List Evt->List Evt->List Evt × Int
 | [],o=>(o,0)
 | e::l,o=>if (zB8 e).2≠0 then([],(zB8 e).2) else zC2 l (o++[(zB8 e).1])
def zHG (l:List Evt):Bool:=decide (0<l.length)&&decide (l.length<=40)&&!(l.any fun e=>e.v != (l.getD 0 ⟨0,0,[],[]⟩).v||!zk e)
structure Mrk where
 s:Sta
 n:Int
def zNi:Mrk:=⟨zB4,0⟩
def zBB (m:Mrk)(l:List Evt):Mrk × Int :=
 if 1048576<=m.n then(m,40) else
 if zHG l=false then(m,4) else
 if (zC2 l []).2≠0 then(m,(zC2 l []).2) else
 if (zCs m.s (zC2 l []).1).2.2≠0 then(m,(zCs m.s (zC2 l []).1).2.2) else(⟨(zCs m.s (zC2 l []).1).1,m.n+1⟩,0)
end
end Go.Proofs.YtejhijhnlogikaaGreatDoor
namespace Go.Sk
open Go Go.RowKit
def Byt (l:List Nat):Prop:=∀ b∈l,b<256
theorem Byt.take {l:List Nat}(h:Byt l)(n:Nat):Byt (l.take n):=fun x hx=>h x (List.mem_of_mem_take hx)
theorem Byt.drop {l:List Nat}(h:Byt l)(n:Nat):Byt (l.drop n):=fun x hx=>h x (List.mem_of_mem_drop hx)
theorem zHH (s:ByteArray):bytesOf (zOg s)=s:=by{
cases s with
| mk d =>
  unfold bytesOf zOg
  congr 1
  apply Array.ext';simp[List.map_map,Function.comp_def]}
theorem zNj {a b:ByteArray}(h:zOg a=zOg b):a=b:=by rw[<- zHH a,<- zHH b,h]
theorem str_eq (a b:ByteArray):(a.toList==b.toList)=decide (zOg a=zOg b):=by{
rw[ByteArray.toList_eq,ByteArray.toList_eq,Bool.eq_iff_iff,beq_iff_eq,decide_eq_true_eq];constructor
.intro h;unfold zOg;rw[h]
.intro h;rw[zNj h]}
end Go.Sk
namespace Go.Proofs.YtejhijhnlogikaaGreatDoor
section
open Go Go.Sk Go.RowKit Go.Proofs.Tryz
attribute [local irreducible] Go.Calls
theorem zQt (a b:ByteArray):(a.toList==b.toList)=true↔a=b:=by rw[str_eq,decide_eq_true_iff];exact⟨zNj,fun h=>by rw[h]⟩
theorem zHI (a b:ByteArray):a.toList=b.toList↔a=b:=by rw[<- beq_iff_eq (a:=a.toList),zQt]
theorem zF8 {α:Type}[Inhabited α]{l l':List α}(hlen:l.length=l'.length)(h:∀ j,j<l.length->l.getD j default=l'.getD j default):l=l' :=
 List.ext_getElem hlen fun j h1 h2=>by have:=h j h1;simpa [List.getD,h1,h2] using this
theorem st_Acc:prog.stoodInHeld 97=false:=by kernel_rfl
theorem eg_Acc:prog.eqGuardType prog.depth 97=false:=by kernel_rfl
theorem zQu (c d:Ac):((c.name.toList==d.name.toList)&&((c.opn==d.opn)&&true))=true↔c=d:=by cases c;cases d;simp only[yy3,beq_iff_eq,zHI,and_true,Ac.mk.injEq]
theorem zPS {a a':OA}{cap cap':Nat}(l l':List Ac){F:zA}(w0:World)(hF:Mem w0 F)(hs:SlA F 2 a l.length cap (acl l))(hs':SlA F 2 a' l'.length cap' (acl l')) :
  Cr 52 [.slice a l.length cap,.slice a' l'.length cap'] (.bool (@decide (l=l') (Classical.propDecidable _))) w0:=by{
obtain⟨hn,hc,b,off,cs,T,fr,hs⟩:=hs;obtain⟨hn',hc',b',off',cs',T',fr',hs'⟩:=hs';refine eS func52 ntmps52 fun H=>?_;(repeat' first|refine yX ?_|fail);refine zB rfl (fun h=>?_) (fun h=>?_)
·(repeat' first|refine yX ?_|fail)
 exact zG rfl H.cl (by
  have:l≠l':=fun he=>by subst he;simp at h
  simp[this])
.have hlen:l.length=l'.length:=by simp at h;omega
 (repeat' first|refine yX ?_|fail);refine zD [(4,5),(13,25)] (fun k:Nat=>[(13,.int .i64 (k:Int))]) (fun k w=>k<=l.length/\(∀ j,j<k->l.getD j default=l'.getD j default)/\St w0 [] w) (fun k=>l.length - k) 0 ⟨rfl,trivial⟩ ⟨zzD _,fun j hj=>by omega,H⟩ ?_;clear H;rintro k g w ⟨hk,hpk,H⟩;(repeat' first|refine yX ?_|fail);refine zB rfl (fun h=>?_) (fun h=>?_)
 .have hlt:k<l.length:=by{simpa using h};(repeat' first|refine yX ?_|refine x41 sg hs ?_|(refine y41 sg (hs') ?_ ?_ ?_;(omega);(omega))|refine x43 sg hs (H.memF hF) ?_|(refine y43 sg (hs') ((H.memF hF)) ?_ ?_;(omega))|(refine zAp rfl rfl (zIW sg (cs:=(ac_ l k).cells) (ds:=(ac_ l' k).cells) st_Acc eg_Acc rfl rfl rfl rfl rfl rfl rfl) ?_)|(refine qN H ?_;clear H;intro w H)|refine y20 mixed ?_|fail)
  refine zB rfl (fun h2=>?_) (fun h2=>?_)
  .rw[Bool.not_eq_true'] at h2;have hne:=mt (zQu (ac_ l k) (ac_ l' k)).2 (by intro h3;exact absurd (h2.symm.trans h3) (by simp));(repeat' first|refine yX ?_|fail)
   exact zG rfl H.cl (by
    have:l≠l':=fun he=>by subst he;exact hne rfl
    simp[this])
  .rw[Bool.not_eq_false'] at h2;have heq:ac_ l k=ac_ l' k:=(zQu _ _).1 h2;(repeat' first|refine yX ?_|fail);refine zC (k+1) rfl ⟨zU qO,trivial⟩ ⟨hlt,fun j hj=>?_,H⟩ qO;by_cases hj':j=k
   .rw[hj'];exact heq
   .exact hpk j qO
 ·(repeat' first|refine yX ?_|fail);have hkn:k=l.length:=by simp at h;omega
  subst hkn
  exact zG rfl H.cl (by
   have:l=l':=zF8 hlen hpk
   simp[this])}
theorem st_Ins:prog.stoodInHeld 99=false:=by kernel_rfl
theorem eg_Ins:prog.eqGuardType prog.depth 99=false:=by kernel_rfl
theorem zQv (c d:Ins):((c.name.toList==d.name.toList)&&((c.tick==d.tick)&&((c.halted==d.halted)&&true)))=true↔c=d:=by cases c;cases d;simp only[yy3,beq_iff_eq,zHI,and_true,Ins.mk.injEq]
theorem zPT {a a':OA}{cap cap':Nat}(l l':List Ins){F:zA}(w0:World)(hF:Mem w0 F)(hs:SlA F 3 a l.length cap (ing l))(hs':SlA F 3 a' l'.length cap' (ing l')) :
  Cr 53 [.slice a l.length cap,.slice a' l'.length cap'] (.bool (@decide (l=l') (Classical.propDecidable _))) w0:=by{
obtain⟨hn,hc,b,off,cs,T,fr,hs⟩:=hs;obtain⟨hn',hc',b',off',cs',T',fr',hs'⟩:=hs';refine eS func53 ntmps53 fun H=>?_;(repeat' first|refine yX ?_|fail);refine zB rfl (fun h=>?_) (fun h=>?_)
·(repeat' first|refine yX ?_|fail)
 exact zG rfl H.cl (by
  have:l≠l':=fun he=>by subst he;simp at h
  simp[this])
.have hlen:l.length=l'.length:=by simp at h;omega
 (repeat' first|refine yX ?_|fail);refine zD [(4,5),(13,25)] (fun k:Nat=>[(13,.int .i64 (k:Int))]) (fun k w=>k<=l.length/\(∀ j,j<k->l.getD j default=l'.getD j default)/\St w0 [] w) (fun k=>l.length - k) 0 ⟨rfl,trivial⟩ ⟨zzD _,fun j hj=>by omega,H⟩ ?_;clear H;rintro k g w ⟨hk,hpk,H⟩;(repeat' first|refine yX ?_|fail);refine zB rfl (fun h=>?_) (fun h=>?_)
 .have hlt:k<l.length:=by{simpa using h};(repeat' first|refine yX ?_|refine x41 sg hs ?_|(refine y41 sg (hs') ?_ ?_ ?_;(omega);(omega))|refine x43 sg hs (H.memF hF) ?_|(refine y43 sg (hs') ((H.memF hF)) ?_ ?_;(omega))|(refine zAp rfl rfl (zIW sg (cs:=(in_ l k).cells) (ds:=(in_ l' k).cells) st_Ins eg_Ins rfl rfl rfl rfl rfl rfl rfl) ?_)|(refine qN H ?_;clear H;intro w H)|refine y20 mixed ?_|fail)
  refine zB rfl (fun h2=>?_) (fun h2=>?_)
  .rw[Bool.not_eq_true'] at h2;have hne:=mt (zQv (in_ l k) (in_ l' k)).2 (by intro h3;exact absurd (h2.symm.trans h3) (by simp));(repeat' first|refine yX ?_|fail)
   exact zG rfl H.cl (by
    have:l≠l':=fun he=>by subst he;exact hne rfl
    simp[this])
  .rw[Bool.not_eq_false'] at h2;have heq:in_ l k=in_ l' k:=(zQv _ _).1 h2;(repeat' first|refine yX ?_|fail);refine zC (k+1) rfl ⟨zU qO,trivial⟩ ⟨hlt,fun j hj=>?_,H⟩ qO;by_cases hj':j=k
   .rw[hj'];exact heq
   .exact hpk j qO
 ·(repeat' first|refine yX ?_|fail);have hkn:k=l.length:=by simp at h;omega
  subst hkn
  exact zG rfl H.cl (by
   have:l=l':=zF8 hlen hpk
   simp[this])}
theorem st_Row:prog.stoodInHeld 104=false:=by kernel_rfl
theorem eg_Row:prog.eqGuardType prog.depth 104=false:=by kernel_rfl
theorem zQw (c d:Row4):((c.acct==d.acct)&&((c.asset==d.asset)&&((c.free==d.free)&&((c.held==d.held)&&true))))=true↔c=d:=by cases c;cases d;simp only[yy3,beq_iff_eq,zHI,and_true,Row4.mk.injEq]
theorem zPU {a a':OA}{cap cap':Nat}(l l':List Row4){F:zA}(w0:World)(hF:Mem w0 F)(hs:SlA F 4 a l.length cap (rwl l))(hs':SlA F 4 a' l'.length cap' (rwl l')) :
  Cr 54 [.slice a l.length cap,.slice a' l'.length cap'] (.bool (@decide (l=l') (Classical.propDecidable _))) w0:=by{
obtain⟨hn,hc,b,off,cs,T,fr,hs⟩:=hs;obtain⟨hn',hc',b',off',cs',T',fr',hs'⟩:=hs';refine eS func54 ntmps54 fun H=>?_;(repeat' first|refine yX ?_|fail);refine zB rfl (fun h=>?_) (fun h=>?_)
·(repeat' first|refine yX ?_|fail)
 exact zG rfl H.cl (by
  have:l≠l':=fun he=>by subst he;simp at h
  simp[this])
.have hlen:l.length=l'.length:=by simp at h;omega
 (repeat' first|refine yX ?_|fail);refine zD [(4,5),(13,25)] (fun k:Nat=>[(13,.int .i64 (k:Int))]) (fun k w=>k<=l.length/\(∀ j,j<k->l.getD j default=l'.getD j default)/\St w0 [] w) (fun k=>l.length - k) 0 ⟨rfl,trivial⟩ ⟨zzD _,fun j hj=>by omega,H⟩ ?_;clear H;rintro k g w ⟨hk,hpk,H⟩;(repeat' first|refine yX ?_|fail);refine zB rfl (fun h=>?_) (fun h=>?_)
 .have hlt:k<l.length:=by{simpa using h};(repeat' first|refine yX ?_|refine x41 sg hs ?_|(refine y41 sg (hs') ?_ ?_ ?_;(omega);(omega))|refine x43 sg hs (H.memF hF) ?_|(refine y43 sg (hs') ((H.memF hF)) ?_ ?_;(omega))|(refine zAp rfl rfl (zIW sg (cs:=(rw_ l k).cells) (ds:=(rw_ l' k).cells) st_Row eg_Row rfl rfl rfl rfl rfl rfl rfl) ?_)|(refine qN H ?_;clear H;intro w H)|refine y20 mixed ?_|fail)
  refine zB rfl (fun h2=>?_) (fun h2=>?_)
  .rw[Bool.not_eq_true'] at h2;have hne:=mt (zQw (rw_ l k) (rw_ l' k)).2 (by intro h3;exact absurd (h2.symm.trans h3) (by simp));(repeat' first|refine yX ?_|fail)
   exact zG rfl H.cl (by
    have:l≠l':=fun he=>by subst he;exact hne rfl
    simp[this])
  .rw[Bool.not_eq_false'] at h2;have heq:rw_ l k=rw_ l' k:=(zQw _ _).1 h2;(repeat' first|refine yX ?_|fail);refine zC (k+1) rfl ⟨zU qO,trivial⟩ ⟨hlt,fun j hj=>?_,H⟩ qO;by_cases hj':j=k
   .rw[hj'];exact heq
   .exact hpk j qO
 ·(repeat' first|refine yX ?_|fail);have hkn:k=l.length:=by simp at h;omega
  subst hkn
  exact zG rfl H.cl (by
   have:l=l':=zF8 hlen hpk
   simp[this])}
theorem st_Ord:prog.stoodInHeld 45=false:=by kernel_rfl
theorem eg_Ord:prog.eqGuardType prog.depth 45=false:=by kernel_rfl
theorem zQx (c d:Odr):((c.id==d.id)&&((c.acct==d.acct)&&((c.inst==d.inst)&&((c.side==d.side)&&((c.price==d.price)&&((c.left==d.left)&&true))))))=true↔c=d:=by cases c;cases d;simp only[yy3,beq_iff_eq,zHI,and_true,Odr.mk.injEq]
theorem zPV {a a':OA}{cap cap':Nat}(l l':List Odr){F:zA}(w0:World)(hF:Mem w0 F)(hs:SlA F 6 a l.length cap (odl l))(hs':SlA F 6 a' l'.length cap' (odl l')) :
  Cr 55 [.slice a l.length cap,.slice a' l'.length cap'] (.bool (@decide (l=l') (Classical.propDecidable _))) w0:=by{
obtain⟨hn,hc,b,off,cs,T,fr,hs⟩:=hs;obtain⟨hn',hc',b',off',cs',T',fr',hs'⟩:=hs';refine eS func55 ntmps55 fun H=>?_;(repeat' first|refine yX ?_|fail);refine zB rfl (fun h=>?_) (fun h=>?_)
·(repeat' first|refine yX ?_|fail)
 exact zG rfl H.cl (by
  have:l≠l':=fun he=>by subst he;simp at h
  simp[this])
.have hlen:l.length=l'.length:=by simp at h;omega
 (repeat' first|refine yX ?_|fail);refine zD [(4,5),(13,25)] (fun k:Nat=>[(13,.int .i64 (k:Int))]) (fun k w=>k<=l.length/\(∀ j,j<k->l.getD j default=l'.getD j default)/\St w0 [] w) (fun k=>l.length - k) 0 ⟨rfl,trivial⟩ ⟨zzD _,fun j hj=>by omega,H⟩ ?_;clear H;rintro k g w ⟨hk,hpk,H⟩;(repeat' first|refine yX ?_|fail);refine zB rfl (fun h=>?_) (fun h=>?_)
 .have hlt:k<l.length:=by{simpa using h};(repeat' first|refine yX ?_|refine x41 sg hs ?_|(refine y41 sg (hs') ?_ ?_ ?_;(omega);(omega))|refine x43 sg hs (H.memF hF) ?_|(refine y43 sg (hs') ((H.memF hF)) ?_ ?_;(omega))|(refine zAp rfl rfl (zIW sg (cs:=(od_ l k).cells) (ds:=(od_ l' k).cells) st_Ord eg_Ord rfl rfl rfl rfl rfl rfl rfl) ?_)|(refine qN H ?_;clear H;intro w H)|refine y20 mixed ?_|fail)
  refine zB rfl (fun h2=>?_) (fun h2=>?_)
  .rw[Bool.not_eq_true'] at h2;have hne:=mt (zQx (od_ l k) (od_ l' k)).2 (by intro h3;exact absurd (h2.symm.trans h3) (by simp));(repeat' first|refine yX ?_|fail)
   exact zG rfl H.cl (by
    have:l≠l':=fun he=>by subst he;exact hne rfl
    simp[this])
  .rw[Bool.not_eq_false'] at h2;have heq:od_ l k=od_ l' k:=(zQx _ _).1 h2;(repeat' first|refine yX ?_|fail);refine zC (k+1) rfl ⟨zU qO,trivial⟩ ⟨hlt,fun j hj=>?_,H⟩ qO;by_cases hj':j=k
   .rw[hj'];exact heq
   .exact hpk j qO
 ·(repeat' first|refine yX ?_|fail);have hkn:k=l.length:=by simp at h;omega
  subst hkn
  exact zG rfl H.cl (by
   have:l=l':=zF8 hlen hpk
   simp[this])}
noncomputable def zHJ {α:Type} (x y:α):Bool:=@decide (x=y) (Classical.propDecidable _)
theorem zEM {α:Type}{x y:α}:zHJ x y=true↔x=y:=by unfold zHJ;exact @decide_eq_true_iff _ (Classical.propDecidable _)
theorem zQy {α:Type}{x y:α}(h:x≠y):zHJ x y=false:=by cases hb:zHJ x y;rfl;exact absurd (zEM.1 hb) h
theorem zKv (x y:Auc):zP4 x y=true↔x=y:=by cases x;cases y;simp only[zP4,yy3,beq_iff_eq,decide_eq_true_iff,Auc.mk.injEq,and_assoc]
theorem zPW {a a':OA}{cap cap':Nat}(l l':List Auc){ad ad':Nat->OA × Nat}{F:zA}(w0:World)(hF:Mem w0 F)(hs:Aucs F a cap l ad)(hs':Aucs F a' cap' l' ad') :
  Cr 56 [.slice a l.length cap,.slice a' l'.length cap',.func (.func 57) #[] #[]] (.bool (zHJ l l')) w0:=by{
obtain⟨⟨hn,hc,b,off,cs,T,fr,hs⟩,hb⟩:=hs;obtain⟨⟨hn',hc',b',off',cs',T',fr',hs'⟩,hb'⟩:=hs';refine eS func56 ntmps56 fun H=>?_;(repeat' first|refine yX ?_|fail);refine zB rfl (fun h=>?_) (fun h=>?_)
·(repeat' first|refine yX ?_|fail)
 exact zG rfl H.cl (by
  have:l≠l':=fun he=>by subst he;simp at h
  rw[zQy this])
.have hlen:l.length=l'.length:=by simp at h;omega
 (repeat' first|refine yX ?_|fail);refine zD [(6,9),(17,31)] (fun k:Nat=>[(17,.int .i64 (k:Int))]) (fun k w=>k<=l.length/\(∀ j,j<k->l.getD j default=l'.getD j default)/\St w0 [] w) (fun k=>l.length - k) 0 ⟨rfl,trivial⟩ ⟨zzD _,fun j hj=>by omega,H⟩ ?_;clear H;rintro k g w ⟨hk,hpk,H⟩;(repeat' first|refine yX ?_|fail);refine zB rfl (fun h=>?_) (fun h=>?_)
 .have hlt:k<l.length:=by{simpa using h};(repeat' first|refine yX ?_|(refine yB ?_;intro b w H)|(refine y11 sg H ?_;intro w H)|refine x40 sg hs ?_|(refine y40 sg (hs') ?_ ?_ ?_;(omega);(omega))|refine x42 sg hs (H.memF hF) ?_|(refine y42 sg (hs') ((H.memF hF)) ?_ ?_;(omega))|(refine' y34 ent57 ?_ ?_;rotate_left;exact c_Same (l.getD k default) (l'.getD k default) _ (H.memF hF) (hb k hlt) (hb' k qO);refine wQ H ?_;clear H;intro w H)|fail)
  refine zB rfl (fun h2=>?_) (fun h2=>?_)
  .have hne:l.getD k default≠l'.getD k default:=fun he=>by rw[(zKv _ _).2 he] at h2;cases h2
   (repeat' first|refine yX ?_|fail)
   exact zG rfl H.cl (by
    have:l≠l':=fun he=>by subst he;exact hne rfl
    rw[zQy this])
  .have heq:=(zKv (l.getD k default) (l'.getD k default)).1 (by simpa using h2);(repeat' first|refine yX ?_|fail);refine zC (k+1) rfl ⟨zU qO,trivial⟩ ⟨hlt,fun j hj=>?_,(H.sub (zz7 _ _)).sub (zz7 _ _)⟩ qO;by_cases hj':j=k
   .rw[hj'];exact heq
   .exact hpk j qO
 ·(repeat' first|refine yX ?_|fail);have hkn:k=l.length:=by simp at h;omega
  subst hkn
  exact zG rfl H.cl (by
   have:l=l':=zF8 hlen hpk
   rw[zEM.2 this])}
theorem zNk {F:zA}(s t:Sta)(p q:SPt)(w0:World)(hF:Mem w0 F)(hs:StaM F s p)(ht:StaM F t q) :
  Cr 23 [.agg (s.cells p).toArray,.agg (t.cells q).toArray] (.bool (zHJ s t)) w0:=by
 have hq:zHJ s t=(s.clock==t.clock&&s.fee==t.fee&&s.nextO==t.nextO&&s.nextA==t.nextA&&zHJ s.accts t.accts&&zHJ s.insts t.insts&&zHJ s.rows t.rows&&zHJ s.orders t.orders&&zHJ s.aucs t.aucs):=by rw[Bool.eq_iff_iff,zEM];cases s;cases t;simp only[yy3,beq_iff_eq,zEM,Sta.mk.injEq,and_assoc]
 rw[hq];refine eS func23 ntmps23 fun H=>?_;(repeat' first|refine yW ?_|(refine yB ?_;intro b w H)|(refine c0 ent52 ?_;refine⟨_,zPS s.accts t.accts _ (H.memF hF) hs.ac ht.ac,?_⟩;clear H;intro w H)|(refine c0 ent53 ?_;refine⟨_,zPT s.insts t.insts _ (H.memF hF) hs.ins ht.ins,?_⟩;clear H;intro w H)|(refine c0 ent54 ?_;refine⟨_,zPU s.rows t.rows _ (H.memF hF) hs.rw ht.rw,?_⟩;clear H;intro w H)|(refine c0 ent55 ?_;refine⟨_,zPV s.orders t.orders _ (H.memF hF) hs.od ht.od,?_⟩;clear H;intro w H)|(refine c0 ent56 ?_;refine⟨_,zPW s.aucs t.aucs _ (H.memF hF) hs.au ht.au,?_⟩;clear H;intro w H)|(refine y17 ?_ ?_;all_goals intro h)|fail);all_goals exact zG rfl H.cl (congrArg Value.bool (by unfold zHJ at *;simp only[*,Bool.true_and,Bool.and_true,Bool.false_and,Bool.and_false]))
end
section
open Go Go.Sk Go.RowKit Go.Proofs.Tryz
attribute [local irreducible] Go.Calls
section
attribute [local semireducible] Yq
end
def mrk (m:Mrk)(p:SPt):List Value:=m.s.cells p++[.int .i64 m.n]
def MkM (F:zA)(b:Nat)(m:Mrk):Prop:=∃ p,cb b (mrk m p) 74∈F/\StaM F m.s p
theorem MkM.mono {F G:zA}{b:Nat}{m:Mrk}(h:MkM F b m)(hs:F⊆G):MkM G b m:=let ⟨p,h1,h2⟩:=h;⟨p,hs h1,h2.mono hs⟩
def MkR (m:Mrk)(M:zA)(v:Value):Prop:=∃ b p N,v=(pt b)/\M=cb b (mrk m p) 74::N/\StaM N m.s p
theorem zJs {F:zA}:StaM F zB4 SPt.n0:=⟨SlA.nil,SlA.nil,SlA.nil,SlA.nil,SlA.nil,fun j hj=>absurd hj (zzE _)⟩
theorem CopyR.sta {s:Sta}{M:zA}{v:Value}(h:CopyR s M v)(hL:LtS s):∃ p,v=.agg (s.cells p).toArray/\StaM M s p:=by obtain⟨p,Ma,Mi,Mu,R,rfl,rfl,hC⟩:=h;exact⟨p,rfl,hC.sta hL⟩
theorem zVW (w0:World):Cf 10 [] (MkR zNi) w0:=by refine eS func10 ntmps10 fun H=>?_;(repeat' first|refine yW ?_|(refine yB ?_;intro b w H)|(refine c0 ent35 ?_;refine⟨_,zUD _,?_⟩;clear H;intro w H)|fail);exact zL (M:=[_]) rfl H ⟨_,SPt.n0,[],rfl,rfl,zJs⟩
theorem zEz {F:zA}{b:Nat}{m:Mrk}(w0:World)(hF:Mem w0 F)(hm:MkM F b m):Cr 22 [(pt b)] (.int .i64 m.n) w0:=by obtain⟨p,hb,_⟩:=hm;refine eS func22 ntmps22 fun H=>?_;(repeat' first|refine yW ?_|refine z13 (zF sg rfl rfl (H.memF hF) hb rfl rfl) ?_|fail);exact zG rfl H.cl rfl
theorem zJt {F:zA}{b:Nat}{m:Mrk}(hL:LtS m.s)(w0:World)(hF:Mem w0 F)(hm:MkM F b m):Cf 13 [(pt b)] (fun M v=>∃ p,v=.agg (m.s.cells p).toArray/\StaM M m.s p) w0:=by obtain⟨p,hb,hs⟩:=hm;refine eS func13 ntmps13 fun H=>?_;(repeat' first|refine yW ?_|(refine yB ?_;intro b w H)|(refine y11 sg H ?_;intro w H)|refine z13 (zF sg rfl rfl (H.memF hF) hb rfl rfl) ?_|(refine f0 zMc ?_;refine⟨_,zJf m.s p hL _ (H.memF hF) hs,?_⟩;clear H;intro v M w hR H;(try simp only[zca,zcb] at H);obtain⟨p2,rfl,hs2⟩:=hR.sta hL)|fail);exact zc (vs:=[_]) (M:=M) ⟨zg sg rfl H.mem (zz2 _) rfl rfl,trivial⟩ (H.sub (zz7 _ _)) ⟨p2,rfl,hs2⟩
theorem zHK {F:zA}{b:Nat}{m:Mrk}(hL:LtS m.s)(w0:World)(hF:Mem w0 F)(hm:MkM F b m):Cf 20 [(pt b)] (MkR m) w0:=by obtain⟨p,hb,hs⟩:=hm;refine eS func20 ntmps20 fun H=>?_;(repeat' first|refine yX ?_|(refine yB ?_;intro b w H)|(refine CW.regionL mixed 12 (H.memF hF) [] ?_ ?_;exact rfl;refine wQ H ?_;clear H;intro w H;have qh:=H.memF hF;refine lT sg 0 qh ?_;refine lT sg 1 qh ?_;refine lT sg 2 qh ?_;refine' l1 3 qh ?_ ?_;rotate_left;(exact(fun w2 hM2=>zF sg rfl rfl hM2 hb rfl rfl));refine lT sg 5 qh ?_;refine lT sg 6 qh ?_;refine lT sg 7 qh ?_;refine' l1 8 qh ?_ ?_;rotate_left;(exact(fun w2 hM2=>zF sg rfl rfl hM2 hb rfl rfl)))|refine lN ?_|(refine lT sg 9 (H.memF hF) ?_)|(refine lT sg 11 (H.memF hF) ?_)|refine l2 4 ?_|refine l2 10 ?_|(refine l5 (H.memF hF) ?_)|(refine f0 zMc ?_;refine⟨_,zJf m.s p hL _ (H.memF hF) hs,?_⟩;clear H;intro v M w hR H;(try simp only[zca,zcb] at H);obtain⟨p2,rfl,hs2⟩:=hR.sta hL)|fail);exact zL (M:=_::M) rfl H ⟨_,p2,M,rfl,rfl,hs2⟩
noncomputable def zIJ (a b:Mrk):Bool:=a.n==b.n&&zHJ a.s b.s
theorem zC9 {a b:Mrk}:zIJ a b=true↔a=b:=by{
unfold zIJ;rw[yy3,zEM,beq_iff_eq];constructor
.rintro⟨h1,h2⟩;cases a;cases b;cases h1;cases h2;rfl
.rintro rfl;exact⟨rfl,rfl⟩}
theorem zF9 {F:zA}{b1 b2:Nat}{m1 m2:Mrk}(w0:World)(hF:Mem w0 F)(h1:MkM F b1 m1)(h2:MkM F b2 m2):Cr 21 [(pt b1),(pt b2)] (.bool (zIJ m1 m2)) w0:=by{
obtain⟨p1,hb1,hs1⟩:=h1;obtain⟨p2,hb2,hs2⟩:=h2;have hsm:=fun w (hG:Mem w F)=>zNk m1.s m2.s p1 p2 w hG hs1 hs2;unfold zIJ;cases hn:m1.n==m2.n with
| true =>
  refine eS func21 ntmps21 fun H=>?_;(repeat' first|refine yW ?_|refine zq (zF sg rfl rfl (H.memF hF) hb1 rfl rfl) ?_|refine zq (zF sg rfl rfl (H.memF hF) hb2 rfl rfl) ?_|(refine q0 ent23 ?_;refine⟨_,fun _ hcl=>hsm _ ((H.ext hcl).memF hF),?_⟩)|(refine qN H ?_;clear H;intro w H)|refine y20 mixed ?_|fail);exact zG rfl H.cl rfl
| false =>
  refine eS func21 ntmps21 fun H=>?_;(repeat' first|refine yW ?_|refine zq (zF sg rfl rfl (H.memF hF) hb1 rfl rfl) ?_|refine zq (zF sg rfl rfl (H.memF hF) hb2 rfl rfl) ?_|(refine qN H ?_;clear H;intro w H)|refine y20 mixed ?_|fail);exact zG rfl H.cl rfl}
def ofE (s:Sta)(n:Int):Int:=if zCP s=false then 4 else if n<0\/1048576<n then 1 else 0
theorem zGg {F:zA}(s:Sta)(p:SPt)(n:Int)(hW:StaW s)(h:ofE s n≠0)(w0:World)(hF:Mem w0 F)(hs:StaM F s p):Cr 19 [.agg (s.cells p).toArray,.int .i64 n] (.tuple #[.pointer none,.int .i64 (ofE s n)]) w0:=by{
have hmay:=fun w (hG:Mem w F)=>zCm s p hW w hG hs;unfold ofE at h ⊢;cases h0:zCP s with
| false =>
  rw[h0] at hmay;rw[if_pos rfl];refine eS func19 ntmps19 fun H=>?_;(repeat' first|refine yW ?_|(refine yB ?_;intro b w H)|(refine c0 zCz ?_;refine⟨_,hmay _ (H.memF hF),?_⟩;clear H;intro w H)|fail);exact zAv (vs:=[_,_]) ⟨zP rfl,zP rfl,trivial⟩ H.cl rfl
| true =>
  rw[h0] at hmay h;rw[if_neg (by decide)] at h ⊢;by_cases hn:n<0\/1048576<n;rotate_left
  .rw[if_neg hn] at h;exact absurd rfl h
  rw[if_pos hn];by_cases h1:n<0
  .have d1:decide (n<0)=true:=yyb h1;refine eS func19 ntmps19 fun H=>?_;(repeat' first|refine yW ?_|(refine yB ?_;intro b w H)|(refine c0 zCz ?_;refine⟨_,hmay _ (H.memF hF),?_⟩;clear H;intro w H)|fail);exact zAv (vs:=[_,_]) ⟨zP rfl,zP rfl,trivial⟩ H.cl rfl
  .have d1:decide (n<0)=false:=yyc h1;have d2:decide (n>1048576)=true:=yyb (hn.resolve_left h1);refine eS func19 ntmps19 fun H=>?_;(repeat' first|refine yW ?_|(refine yB ?_;intro b w H)|(refine c0 zCz ?_;refine⟨_,hmay _ (H.memF hF),?_⟩;clear H;intro w H)|fail);exact zAv (vs:=[_,_]) ⟨zP rfl,zP rfl,trivial⟩ H.cl rfl}
structure MkOk (m:Mrk):Prop where
 good:Good m.s
 n:0<=m.n/\m.n<=1048576
theorem zJu {s:Sta}{n:Int}(h:ofE s n=0):MkOk ⟨s,n⟩:=by{
unfold ofE at h;by_cases h0:zCP s=false
.rw[if_pos h0] at h;exact absurd h (by decide)
rw[if_neg h0] at h;by_cases hn:n<0\/1048576<n
.rw[if_pos hn] at h;exact absurd h (by decide)
exact⟨zAl.1 (by simpa using h0),by simp only;omega⟩}
theorem zHw {F:zA}(s:Sta)(p:SPt)(n:Int)(hW:StaW s)(hL:LtS s)(h:ofE s n=0)(w0:World)(hF:Mem w0 F)(hs:StaM F s p):Cf 19 [.agg (s.cells p).toArray,.int .i64 n] (fun M v=>∃ q,v=.tuple #[q,.int .i64 0]/\MkR ⟨s,n⟩ M q) w0:=by have hmay:=fun w (hG:Mem w F)=>zCm s p hW w hG hs;obtain⟨g,hn⟩:=zJu h;simp only at hn;rw[zAl.2 g] at hmay;have d1:decide (n<0)=false:=yyc qO;have d2:decide (n>1048576)=false:=yyc qO;refine eS func19 ntmps19 fun H=>?_;(repeat' first|refine yW ?_|(refine yB ?_;intro b w H)|(refine c0 zCz ?_;refine⟨_,hmay _ (H.memF hF),?_⟩;clear H;intro w H)|(refine f0 zMc ?_;refine⟨_,zJf s p hL _ (H.memF hF) hs,?_⟩;clear H;intro v M w hR H;(try simp only[zca,zcb] at H);obtain⟨p2,rfl,hs2⟩:=hR.sta hL)|fail);exact zc (vs:=[_,_]) (M:=_::M) ⟨zP rfl,zP rfl,trivial⟩ (H.sub (yy5 _ (zz7 _ _))) ⟨_,rfl,_,p2,M,rfl,rfl,hs2⟩
def ActR (bm:Nat)(m:Mrk)(p:SPt)(X:Sta->SPt->Int->zA->Prop)(M:zA)(v:Value):Prop:=∃ t q e N',v=.tuple #[.agg (t.cells q).toArray,.int .i64 e]/\M=cb bm (mrk m p) 74::N'/\X t q e N'
def ChgR (bm:Nat)(m:Mrk)(p:SPt)(X:Sta->SPt->Int->zA->Prop)(M:zA)(v:Value):Prop:=∃ t q e N',v=.int .i64 e/\X t q e N'/\M=cb bm (if e=0 then mrk ⟨t,m.n+1⟩ q else mrk m p) 74::N'
theorem zKw {N:zA}{m:Mrk}{p:SPt}{bm:Nat}{f:FuncId}{caps:List Value}{w0 w:World}{X:Sta->SPt->Int->zA->Prop}(H:St w0 (cb bm (mrk m p) 74::N) w)(hn:0<=m.n/\m.n<1048576)(hf:Ent prog f)
  (hact:∀ w,St w0 (cb bm (mrk m p) 74::N) w->Calls prog f ([Value.agg (m.s.cells p).toArray]++caps).toArray w (zZ (ActR bm m p X) w0)) :
  Calls prog 36 [(pt bm),.func (.func f) #[] caps.toArray].toArray w (zZ (ChgR bm m p X) w0):=by{
have d1:decide (m.n >= 1048576)=false:=yyc qO;refine eN func36 ntmps36 ?_;(repeat' first|refine yX ?_|fail);refine CW.condF (congrArg Value.bool d1) ?_;(repeat' first|refine yX ?_|(refine yB ?_;intro b w H)|(refine y11 sg H ?_;intro w H)|(refine zW rfl rfl (zAq hf rfl rfl rfl) (hact _ H) ?_;rintro v M w ⟨t,q,e,N',rfl,rfl,hX⟩ H2;clear H;have H:=H2;clear H2)|fail);by_cases h0:e=0
.subst h0;(repeat' first|refine yW ?_|(refine y11 sg H ?_;intro w H)|fail);have e1:IntKind.i64.wrap (m.n+1)=m.n+1:=w64 qO qO;rw[e1] at H;exact zL (M:=_::N') rfl (H.sub (zz7 _ _)) ⟨t,q,0,N',rfl,hX,rfl⟩
.have d2:(e != 0)=true:=by simpa using h0
 (repeat' first|refine yW ?_|fail);exact zL (M:=_::N') rfl (H.sub (zz7 _ _)) ⟨t,q,e,N',rfl,hX,by rw[if_neg h0]⟩}
theorem zJv {F:zA}{m:Mrk}{bm:Nat}{f:Value}(hn:1048576<=m.n)(w0:World)(hF:Mem w0 F)(hm:MkM F bm m) :
  Cr 36 [(pt bm),f] (.int .i64 40) w0:=by obtain⟨p,hb,_⟩:=hm;have d1:decide (m.n >= 1048576)=true:=yyb qO;refine eS func36 ntmps36 fun H=>?_;(repeat' first|refine yW ?_|refine z13 (zF sg rfl rfl (H.memF hF) hb rfl rfl) ?_|fail);exact zG rfl H.cl rfl
end
section
open Go Go.Sk Go.RowKit Go.Proofs.Tryz
attribute [local irreducible] Go.Calls
def zE0 (s:Sta)(id:Int):Option Evt :=
 let o:=(zO s.orders id).1
 let u:=(zBM s.orders o.inst (3 - o.side)).1
 if (zO s.orders id).2=true/\(zBM s.orders o.inst (3 - o.side)).2=true/\zw o u=true then
  some (evF 13 [id,u.id,u.price,min o.left u.left,(zBq (u.price*min o.left u.left) s.fee).1])
 else none
def zCa (s:Sta)(id:Int):Evt:=if (zAy s id).2.2=true then evF 18 [id,(zAy s id).1.acct,(zAy s id).1.amount,(zAy s id).2.1] else evF 19 [id]
end
end Go.Proofs.YtejhijhnlogikaaGreatDoor
