/- The statement ApplyBackSaid, proved, and its tied card. -/
import Derived.ChangeKeysEq
import Derived.Deep.LoopGhost
import Derived.Deep.QuietTactic
import Derived.Deep.Slices
import Derived.KernelRfl
import Derived.LaidMore
import Derived.Laws.Bits64b
import Derived.Laws.IdiomStrings
import Derived.Laws.MakeOwn
import Derived.Laws.RangeString
import Derived.Laws.StructEq
import Derived.Lib.Mul64
import Derived.Maps.RangeRun
import Derived.OpenShut
import Derived.OrdersHeld
import Derived.ProofKit
import Derived.RangeFuncLeaves
import Derived.RangeFuncNested
import Derived.Shelf.SlLaysE
import Derived.Shelf.SlLaysF0
import Derived.Shelf.SlLaysM
import Derived.Shelf.SlSortCmp.NoneTotal
import Derived.Shelf.SlicesE.Compact
import Derived.Shelf.SortM.Plain
import Derived.Shelf.SortM.SortNone
import Derived.SizedLaws
import Derived.Sort.LoopGhostIn
import Derived.Stop.Joined
import Derived.TacticsIn
import Derived.Test.YtibmaifoaajllaaGreatDoorChecked
import Derived.Test.YtibmaifoaajllaaGreatDoorProg
import Derived.Test.YtibmaifoaajllaaGreatDoorRows
import Derived.WalkKit
import Derived.WalkSpells
import Derived.Test.YtibmaifoaajllaaGreatDoorQa48
set_option linter.unusedSimpArgs false
set_option linter.unusedVariables false
set_option maxHeartbeats 16000000
namespace Go.Proofs.YtibmaifoaajllaaGreatDoor
section
open Go Go.Sk Go.RowKit
attribute [local irreducible] Go.Calls
theorem odd_no {e:Evt}(h:zGn e=false):e.nums.length+e.texts.length≤300:=by
 have h0:oddN e≤300:=by unfold zGn at h;have:=zzB h;omega
 exact Nat.le_trans (zGG 300 (odz e) _ e.texts.length h0).1 h0
end
section
open Go Go.Sk Go.RowKit
theorem zLo {α β:Type}{f g:α→Option β}:∀ {l:List α},(∀ x∈l,f x=g x)→l.filterMap f=l.filterMap g
 | [],_=>rfl
 | a::l,h=>by
   simp only[List.filterMap_cons,h a (List.Mem.head _),zLo fun x hx=>h x (List.Mem.tail _ hx)]
theorem zPv {E E':Pl→Int × Int}(h:∀ x∈zBb,E x=E' x):mkR E=mkR E':=by
 unfold mkR
 exact zLo fun x hx=>by rw[h x hx]
theorem zPw {a b s n:Int}(ha:zLR a s)(hb:zLR b s)(hn:0≤n∧n≤zBR):zAd [⟨a,s,-n,0⟩,⟨b,s,n,0⟩]=0:=by
 refine zGy.2 ⟨by simp,?_,fun k _=>?_⟩
 ·unfold zBR at hn
  rw[List.any_cons,List.any_cons,List.any_nil,zFJ.2 ⟨ha,⟨by unfold zBR;simp only;omega,by unfold zBR;simp only;omega⟩,⟨by unfold zBR;simp,by unfold zBR;simp⟩,fun _=>rfl⟩,zFJ.2 ⟨hb,⟨by unfold zBR;simp only;omega,by unfold zBR;simp only;omega⟩,⟨by unfold zBR;simp,by unfold zBR;simp⟩,fun _=>rfl⟩]
  rfl
 ·rw[zBh,zBh]
  simp only[zBU,List.foldl_nil]
  split<;>omega
theorem zPx {a s f:Int}(ha:zLR a s)(h0:0<a)(hn:-zBR≤f∧f≤zBR):zAd [⟨a,s,f,-f⟩]=0:=by
 refine zGy.2 ⟨by simp,?_,fun k _=>?_⟩
 ·unfold zBR at hn
  rw[List.any_cons,List.any_nil,zFJ.2 ⟨ha,⟨by unfold zBR;simp only;omega,by unfold zBR;simp only;omega⟩,⟨by unfold zBR;simp only;omega,by unfold zBR;simp only;omega⟩,fun e=>by simp only at e;omega⟩]
  rfl
 ·rw[zBh]
  simp only[zBU,List.foldl_nil]
  split<;>omega
theorem zOd {a s f g:Int}(x:Pl):dlF [⟨a,s,f,g⟩] x=if x=(a,s) then(f,g) else(0,0):=by
 obtain⟨x1,x2⟩:=x
 rw[zAW]
 simp only[Prod.mk.injEq]
 by_cases h1:a=x1∧s=x2
 ·obtain⟨rfl,rfl⟩:=h1
  simp[dlF]
 ·rw[if_neg h1,if_neg (fun e=>h1 ⟨e.1.symm,e.2.symm⟩)];rfl
theorem zPy {l m:List Row4}{p q:List Pst}(h:zAn l p=(m,0))(hq:zAd q=0)(hd:∀ x,(dlF q x).1=-(dlF p x).1∧(dlF q x).2=-(dlF p x).2):zAn m q=(l,0):=by
 obtain⟨h1,h2,h3,h4,h5,h6⟩:=zHZ h
 have hE:∀ x∈zBb,zm m q x=atR l x:=fun x hx=>by
  obtain⟨d1,d2⟩:=hd x
  unfold zm
  rw[h6 x hx,d1,d2]
  unfold zm
  ext<;>simp only<;>omega
 have hw:zAt (zm m q)=0:=zGx.1.2 fun x hx=>by
  rw[hE x hx]
  have:=zRs (p:=[]) h1 (x:=x) rfl
  have e:zm l [] x=atR l x:=by unfold zm;simp[dlF]
  rw[e] at this;exact this
 rw[zHb h5 hq,if_pos hw,zPv hE,zHX h1]
theorem zSs {s t:Sta}{p q:List Pst}(h:zj s p=(t,0))(hq:zAd q=0)(hd:∀ x,(dlF q x).1=-(dlF p x).1∧(dlF q x).2=-(dlF p x).2):zj t q=(s,0):=by
 obtain⟨h1,h2⟩:=zBF h
 have h3:=zPy h1 hq hd
 unfold zj
 rw[h3,if_pos rfl,h2]
theorem zUR (a b s n:Int)(x:Pl):(dlF [⟨b,s,-n,0⟩,⟨a,s,n,0⟩] x).1=-(dlF [⟨a,s,-n,0⟩,⟨b,s,n,0⟩] x).1∧(dlF [⟨b,s,-n,0⟩,⟨a,s,n,0⟩] x).2=-(dlF [⟨a,s,-n,0⟩,⟨b,s,n,0⟩] x).2:=by
 have en:dlF [] x=(0,0):=rfl
 simp only[zAW,en]
 by_cases c1:a=x.1<;>by_cases c2:b=x.1<;>by_cases c3:s=x.2<;>simp only[c1,c2,c3,and_self,and_true,true_and,and_false,false_and,if_true,if_false]<;>omega
theorem zIe {s t:Sta}{a b q n:Int}(h:zBu s a b q n=(t,0))(ha:zLR a q)(hb:zLR b q)(hn:0≤n∧n≤zBR):zBu t b a q n=(s,0) :=
 zSs h (zPw hb ha hn) (zUR a b q n)
def zB4 (e:Evt):Option Evt :=
 if e.kind=6∨e.kind=8∨e.kind=4 then some { e with kind:=e.kind+1 }
 else if e.kind=7∨e.kind=9∨e.kind=5 then some { e with kind:=e.kind - 1 }
 else if e.kind=21 then some { e with nums:=[nF e.nums 1,nF e.nums 0,nF e.nums 2] }
 else if e.kind=11 then some (evF 12 [nF e.nums 0])
 else none
def zFc (s:Sta)(e:Evt):Sta:=if e.kind=11 then{ s with nextO:=s.nextO+1 } else s
theorem zJR {s:Sta}(h:Good s){a:Int}(g:zt s a=true):1≤a∧a≤64:=by
 have:=zBi.1 g
 have:=zCo h
 omega
theorem has16 {s:Sta}(h:Good s){a:Int}(g:zAq s a=true):1≤a∧a≤16:=by
 have:=zAT.1 g
 have:=zEz h
 omega
theorem zDh {s t:Sta}{a b q n:Int}(h:zBu s a b q n=(t,0)):(∀ x,zt t x=zt s x)∧∀ x,zAq t x=zAq s x:=by
 obtain⟨_,h2⟩:=zBF h
 constructor<;>intro x
 ·unfold zt;rw[h2]
 ·unfold zAq;rw[h2]
theorem zJS {s t:Sta}{n:List Int}{is:Bool}(h:zDG s n is=(t,0)):zDG t n (!is)=(s,0):=by
 unfold zDG at h
 by_cases h1:zAq s (nF n 0)=true
 ·rw[if_pos h1] at h
  simp only at h
  by_cases h2:(in_ s.insts (nF n 0 - 1).toNat).halted=is
  ·rw[if_pos h2] at h;exact absurd (Prod.mk.inj h).2 (by decide)
  rw[if_neg h2] at h
  obtain rfl:=(Prod.mk.inj h).1
  obtain⟨j1,j2⟩:=zAT.1 h1
  have hk:(nF n 0 - 1).toNat<s.insts.length:=by omega
  have h3:zAq { s with insts:=s.insts.set (nF n 0 - 1).toNat ⟨(in_ s.insts (nF n 0 - 1).toNat).name,(in_ s.insts (nF n 0 - 1).toNat).tick,is⟩ } (nF n 0)=true:=zAT.2 ⟨j1,by simp only[List.length_set];exact j2⟩
  unfold zDG
  rw[if_pos h3]
  simp only
  rw[zMf hk,if_pos rfl,if_neg (by cases is<;>simp)]
  have e:(!is)=(in_ s.insts (nF n 0 - 1).toNat).halted:=by
   cases is<;>cases hh:(in_ s.insts (nF n 0 - 1).toNat).halted<;>first|rfl|exact absurd hh h2
  rw[List.set_set,e]
  have e2:s.insts.set (nF n 0 - 1).toNat (in_ s.insts (nF n 0 - 1).toNat)=s.insts:=by
   refine List.ext_getElem (List.length_set) fun i h1 h2=>?_
   rw[List.getElem_set]
   split
   ·rename_i e
    have:in_ s.insts (nF n 0 - 1).toNat=s.insts[(nF n 0 - 1).toNat]:=by
     unfold in_;rw[List.getD_eq_getElem?_getD,List.getElem?_eq_getElem hk];rfl
    rw[this]
    subst e;rfl
   ·rfl
  have e3:(⟨(in_ s.insts (nF n 0 - 1).toNat).name,(in_ s.insts (nF n 0 - 1).toNat).tick,(in_ s.insts (nF n 0 - 1).toNat).halted⟩:Ins)=in_ s.insts (nF n 0 - 1).toNat:=rfl
  rw[e3,e2]
 ·rw[if_neg h1] at h;exact absurd (Prod.mk.inj h).2 (by decide)
theorem zC6 {e:Evt}{k:Int}(h:zBa e=true)(hf:zH4 e.v e.kind=zH4 e.v k):zBa { e with kind:=k }=true:=by
 have:zBa { e with kind:=k }=zBa e:=by
  unfold zBa zFD
  simp only[hf]
 rw[this];exact h
theorem zCA {s t:Sta}{e:Evt}(h:Good s)(hv:e.v=3)(hm:zBa e=true)(hd:zBE s e.kind e.nums (e.texts.getD 0 ByteArray.empty)=(t,0)):zk s e=(t,0):=by
 unfold zk zy
 rw[if_pos (zAl.2 h),if_pos ⟨hv,hm⟩,hd,if_pos rfl]
theorem zPz {i:Int}(h:1≤i∧i≤1099511627776):zBa (evF 12 [i])=true:=by
 have e:zBa (evF 12 [i])=((true&&(List.range 1).all fun k=>zBk 3 (([111]:List Nat).getD k 0) (([i]:List Int).getD k 0))&&true):=rfl
 rw[e,show List.range 1=[0] from rfl]
 simp only[List.all_cons,List.all_nil,Bool.true_and,Bool.and_true]
 have e1:zBk 3 (([111]:List Nat).getD 0 0) (([i]:List Int).getD 0 0)=(decide (1≤i)&&decide (i≤1099511627776)):=rfl
 rw[e1]
 simp only[Bool.and_eq_true,decide_eq_true_eq]
 exact h
theorem zNH {a b c:Int}{l:List ByteArray}(hl:l.length=0)(ha:1≤a∧a≤64)(hb:1≤b∧b≤64)(hc:1≤c∧c≤1125899906842624):zBa ⟨3,21,[a,b,c],l⟩=true:=by
 have e:zBa ⟨3,21,[a,b,c],l⟩=((true&&(List.range 3).all fun k=>zBk 3 (([97,97,109]:List Nat).getD k 0) (([a,b,c]:List Int).getD k 0))&&(l.length==0)):=rfl
 rw[e,show List.range 3=[0,1,2] from rfl,hl]
 simp only[List.all_cons,List.all_nil,Bool.true_and,Bool.and_true]
 have e1:zBk 3 (([97,97,109]:List Nat).getD 0 0) (([a,b,c]:List Int).getD 0 0)=(decide (1≤a)&&decide (a≤64)):=rfl
 have e2:zBk 3 (([97,97,109]:List Nat).getD 1 0) (([a,b,c]:List Int).getD 1 0)=(decide (1≤b)&&decide (b≤64)):=rfl
 have e3:zBk 3 (([97,97,109]:List Nat).getD 2 0) (([a,b,c]:List Int).getD 2 0)=(decide (1≤c)&&decide (c≤1125899906842624)):=rfl
 rw[e1,e2,e3]
 simp only[Bool.and_eq_true,decide_eq_true_eq]
 exact⟨⟨ha,hb,hc⟩,rfl⟩
theorem zLp {s t:Sta}{n:List Int}(h:Good s)(hg:Good t)(hm:zu (zAw n)=true)(he:zCJ s n=(t,0)):zAv t [nF n 0]=({ s with nextO:=s.nextO+1 },0):=by
 unfold zCJ at he
 simp only at he
 rw[show(⟨nF n 0,nF n 1,nF n 2,nF n 3,nF n 4,nF n 5⟩:Odr)=zAw n from rfl] at he
 have hM:=(zAi _).1 hm
 by_cases h1:nF n 0≠s.nextO
 ·rw[if_pos h1] at he;exact absurd (Prod.mk.inj he).2 (by decide)
 rw[if_neg h1] at he
 by_cases h2:zAF s (nF n 1) (nF n 2) (nF n 4) (decide (128≤s.orders.length))≠0
 ·rw[if_pos h2] at he;exact absurd (Prod.mk.inj he).2 h2
 rw[if_neg h2] at he
 obtain⟨q1,q2,_,q4,q5⟩:=zCc (Decidable.of_not_not h2)
 by_cases h3:(zAO s (nF n 1) (zT (zAw n)).1 (zT (zAw n)).2).2≠0
 ·rw[if_pos h3] at he;rw[he] at h3;exact absurd rfl h3
 rw[if_neg h3] at he
 have hid:(zAw n).id=s.nextO:=Decidable.of_not_not h1
 have hlt:∀ x∈s.orders,x.id<(zAw n).id:=fun x hx=>by
  have:=(zAC.1 (h.ordsIn x hx)).1
  rw[hid];exact this
 have h128:s.orders.length<128:=by have:=zzB q5;omega
 rw[zLO h.ords hm hlt h128] at he
 have hP:zj s [⟨nF n 1,(zT (zAw n)).1,-(zT (zAw n)).2,(zT (zAw n)).2⟩]=((zAO s (nF n 1) (zT (zAw n)).1 (zT (zAw n)).2).1,0):=Prod.ext rfl (Decidable.of_not_not h3)
 obtain⟨p1,p2⟩:=zBF hP
 generalize (zAO s (nF n 1) (zT (zAw n)).1 (zT (zAw n)).2).1=w at he hP p1 p2
 obtain rfl:=(Prod.mk.inj he).1
 have hords:zd (s.orders++[zAw n])=true:=hg.ords
 have hf:zV (s.orders++[zAw n]) (nF n 0)=(zAw n,true):=zBd hords (zz3 _ (zz2 _))
 have hl:=hM.2.2.2.2.2
 have hdrop:zCy (s.orders++[zAw n]) (nF n 0)=(s.orders,0):=by
  unfold zCy
  rw[hf]
  have e:=zDz hords (o:=zAw n) (zz3 _ (zz2 _)) (q:=(zAw n).left) (by omega) (Int.le_refl _)
  rw[show(zAw n).id=nF n 0 from rfl] at e
  rw[e]
  have e2:=zFt (a:=s.orders) (b:=[]) (o:=zAw n) (q:=(zAw n).left) (fun x hx=>by have:=hlt x hx;omega) (fun x hx=>nomatch hx) (fun x hx=>by have:=((zAP.1 h.ords).2.1 x hx).2.2.2.2.2;omega) (fun x hx=>nomatch hx)
  rw[show zBs (s.orders++[zAw n]) (nF n 0) (zAw n).left=s.orders from ?_]
  refine Eq.trans e2 ?_
  rw[if_pos (by omega)];simp
 unfold zAv
 simp only[nF,List.getD_cons_zero]
 rw[show n.getD 0 0=nF n 0 from rfl,hf]
 simp only[if_true]
 rw[show(zAw n).id=nF n 0 from rfl,hdrop]
 simp only
 have hb:=(zC2 hM)
 have ha:zLR (zAw n).acct (zT (zAw n)).1:=by
  refine⟨by have:=hM.2.1;omega,?_⟩
  rw[hb.1]
  have:=hM.2.2.1
  split
  ·exact⟨Int.le_refl 0,by show(0:Int)≤16;decide⟩
  ·exact⟨by show 0≤(zAw n).inst;omega,this.2⟩
 have hbd:(zT (zAw n)).2≤zBR:=by
  have hp:=hM.2.2.2.2.1
  rw[hb.1]
  unfold zBR
  split
  ·have:=zFl hp.1 hp.2 hl.1 hl.2
   show(zAw n).price*(zAw n).left≤_;omega
  ·show(zAw n).left≤_;omega
 have hu:=zSs hP (q:=[⟨nF n 1,(zT (zAw n)).1,-(-(zT (zAw n)).2),-(zT (zAw n)).2⟩]) (by
  have:=zPx (a:=(zAw n).acct) (s:=(zT (zAw n)).1) (f:=(zT (zAw n)).2) ha (by have:=hM.2.1;omega) (by have:=hb.2;unfold zBR at *;omega)
  rw[Int.neg_neg];exact this) (fun x=>by
   rw[zOd,zOd]
   by_cases c:x=(nF n 1,(zT (zAw n)).1)
   ·rw[if_pos c,if_pos c];exact⟨rfl,rfl⟩
   ·rw[if_neg c,if_neg c];exact⟨rfl,rfl⟩)
 unfold zAO
 have hU:zAn w.rows [⟨(zAw n).acct,(zT (zAw n)).1,-(-(zT (zAw n)).2),-(zT (zAw n)).2⟩]=(s.rows,0):=(zBF hu).1
 unfold zj
 simp only
 rw[hU,if_pos rfl]
 simp only
 rw[p2]
theorem zNI {s t:Sta}{e x:Evt}(hd:zk s e=(t,0))(hx:zB4 e=some x):zk t x=(zFc s e,0):=by
 obtain⟨g1,g2,ev,hv,hm,hd2⟩:=zBI hd
 clear hd
 have hd:=hd2
 clear hd2
 have hat:=fun(i c:Nat) (hc:(zII e.kind)[i]?=some c)=>ev.at i hc
 unfold zB4 at hx
 unfold zFc
 obtain⟨v,k,n,tx⟩:=e
 simp only at hv hx hd hat ⊢
 subst hv
 unfold zBE at hd
 rcases kinds ev.kind with rfl|rfl|rfl|rfl|rfl|rfl|rfl|rfl|rfl|rfl|rfl|rfl|rfl|rfl|rfl|rfl|rfl|rfl|rfl|rfl|rfl|rfl|rfl<;>simp only[Int.reduceEq,if_false,if_true,or_false,false_or,or_true,true_or,Int.reduceAdd,Int.reduceSub] at hx hd ⊢<;>first|(cases hx;done)|(obtain rfl:=Option.some.inj hx)
 ·-- halted
  exact zCA g2 rfl (zC6 hm rfl) (zJS hd)
 ·exact zCA g2 rfl (zC6 hm rfl) (zJS hd)
 ·split at hd
  ·rename_i g
   have b:=zDM (hat 1 109 rfl)
   have o:=zJR g1 g
   refine zCA g2 rfl (zC6 hm rfl) ?_
   show(if zt t (nF n 0)=true then zBu t (nF n 0) 0 0 (nF n 1) else(t,5))=_
   rw[(zDh hd).1,if_pos g]
   exact zIe hd ⟨by omega,by omega⟩ ⟨by omega,by omega⟩ (by unfold zBR;omega)
  ·exact absurd (Prod.mk.inj hd).2 (by decide)
 ·split at hd
  ·rename_i g
   have b:=zDM (hat 1 109 rfl)
   have o:=zJR g1 g
   refine zCA g2 rfl (zC6 hm rfl) ?_
   show(if zt t (nF n 0)=true then zBu t 0 (nF n 0) 0 (nF n 1) else(t,5))=_
   rw[(zDh hd).1,if_pos g]
   exact zIe hd ⟨by omega,by omega⟩ ⟨by omega,by omega⟩ (by unfold zBR;omega)
  ·exact absurd (Prod.mk.inj hd).2 (by decide)
 ·split at hd
  ·rename_i g
   have b:=zDc (hat 2 113 rfl)
   have o:=zJR g1 g.1
   have i:=has16 g1 g.2
   refine zCA g2 rfl (zC6 hm rfl) ?_
   show(if zt t (nF n 0)=true∧zAq t (nF n 1)=true then zBu t (nF n 0) 0 (nF n 1) (nF n 2) else(t,5))=_
   rw[(zDh hd).1,(zDh hd).2,if_pos g]
   exact zIe hd ⟨by omega,by omega⟩ ⟨by omega,by omega⟩ (by unfold zBR;omega)
  ·exact absurd (Prod.mk.inj hd).2 (by decide)
 ·split at hd
  ·rename_i g
   have b:=zDc (hat 2 113 rfl)
   have o:=zJR g1 g.1
   have i:=has16 g1 g.2
   refine zCA g2 rfl (zC6 hm rfl) ?_
   show(if zt t (nF n 0)=true∧zAq t (nF n 1)=true then zBu t 0 (nF n 0) (nF n 1) (nF n 2) else(t,5))=_
   rw[(zDh hd).1,(zDh hd).2,if_pos g]
   exact zIe hd ⟨by omega,by omega⟩ ⟨by omega,by omega⟩ (by unfold zBR;omega)
  ·exact absurd (Prod.mk.inj hd).2 (by decide)
 ·have hmo:zu (zAw n)=true:=(zAi _).2 ⟨zRj (hat 0 111 rfl),zHI (hat 1 97 rfl),zDL (hat 2 105 rfl),by have:=zRk (hat 3 115 rfl);show nF n 3=1∨nF n 3=2;omega,zNy (hat 4 112 rfl),zDc (hat 5 113 rfl)⟩
  exact zCA g2 rfl (zPz (zRj (hat 0 111 rfl))) (zLp g1 g2 hmo hd)
 ·unfold zAe at hd
  split at hd
  ·rename_i g
   split at hd
   ·exact absurd (Prod.mk.inj hd).2 (by decide)
   rename_i hne
   have b:=zDM (hat 2 109 rfl)
   have o1:=zJR g1 g.1
   have o2:=zJR g1 g.2
   have hl:tx.length=0:=by
    have e:zBa ⟨3,21,n,tx⟩=(zCg 3 [97,97,109] n&&(tx.length==0)):=rfl
    rw[e,Bool.and_eq_true] at hm
    simpa using hm.2
   refine zCA g2 rfl (zNH hl o2 o1 b) ?_
   show zAe t [nF n 1,nF n 0,nF n 2]=_
   unfold zAe
   simp only[nF,List.getD_cons_zero,List.getD_cons_succ]
   simp only[nF] at hd g hne
   rw[(zDh hd).1,(zDh hd).1,if_pos ⟨g.2,g.1⟩,if_neg (Ne.symm hne)]
   exact zIe hd ⟨by simp only[nF] at o1;omega,by omega⟩ ⟨by simp only[nF] at o2;omega,by omega⟩ (by unfold zBR;simp only[nF] at b;omega)
  ·exact absurd (Prod.mk.inj hd).2 (by decide)
end
section
open Go Go.Sk Go.RowKit
attribute [local irreducible] Go.Calls
theorem zLq {e:Evt}{x:Evt}(hx:zB4 e=some x):e.kind=6∨e.kind=8∨e.kind=4∨e.kind=7∨e.kind=9∨e.kind=5∨e.kind=21∨e.kind=11:=by
 unfold zB4 at hx
 split at hx
 ·omega
 split at hx
 ·omega
 split at hx
 ·omega
 split at hx
 ·omega
 cases hx
theorem zNJ {e:Evt}(hx:zB4 e=none):e.kind≠6∧e.kind≠8∧e.kind≠4∧e.kind≠7∧e.kind≠9∧e.kind≠5∧e.kind≠21∧e.kind≠11:=by
 unfold zB4 at hx
 split at hx
 ·cases hx
 split at hx
 ·cases hx
 split at hx
 ·cases hx
 split at hx
 ·cases hx
 omega
theorem zUS {F:zH}(s:Sta)(p:SPt)(e:Evt)(q:EPt)(hac:∀ k,k<s.accts.length→(ac_ s.accts k).name.size≤140737488355328)(hin:∀ k,k<s.insts.length→(in_ s.insts k).name.size≤140737488355328)(hr:∀ j,j<s.rows.length→(rw_ s.rows j).wf)(hT:zFq e)(w0:World)(hF:Mem w0 F)(hP:PriM F)(hK:KinM F)(hs:StaM F s p)(hM:EvtM F e q) :
  Calls Tryz.prog 7 [.agg (s.cells p).toArray,.agg (e.cells q).toArray].toArray w0 (Ret (.bool true) w0):=by
 have hlg:=fun w (hG:Mem w F)=>zFE s p hac hin w hG hs
 have hod:=fun w (hG:Mem w F)=>zK4 e q w hG hM
 have haw:=fun w (hG:Mem w F)=>zFO w hG hP hK
 by_cases hg:zCu s=false∧zGn e=false
 rotate_left
 ·cases h1:zCu s with
  | true =>
    rw[h1] at hlg
    refine enter [.tmp 4] Tryz.func7 rfl Tryz.ntmps7 rfl rfl ?_
    have H:=zB w0
    repeat' (first|refine yT ?_|refine y7 sg H ?_|refine y8 sg H ?_|(refine y9 H ?_;intro b w H)|(refine y10 sg H ?_;intro b w H)|(refine y11 sg H ?_;intro w H)|refine y12 ?_|(refine' y30 zAa ?_ ?_;rotate_left;exact hlg _ (H.memF hF);intro w hcl;replace H:=H.ext hcl;clear hcl)|(refine' y31 zAa ?_ ?_;rotate_left;exact(fun _ hcl=>hlg _ ((H.ext hcl).memF hF)))|(refine' y30 zAr ?_ ?_;rotate_left;exact hod _ (H.memF hF);intro w hcl;replace H:=H.ext hcl;clear hcl)|(refine' y31 zAr ?_ ?_;rotate_left;exact(fun _ hcl=>hod _ ((H.ext hcl).memF hF)))|(refine' y30 zAb ?_ ?_;rotate_left;exact haw _ (H.memF hF);intro w hcl;replace H:=H.ext hcl;clear hcl)|(refine' y31 zAb ?_ ?_;rotate_left;exact(fun _ hcl=>haw _ ((H.ext hcl).memF hF)))|refine yU ?_|(refine y17 ?_ ?_;all_goals(intro h;try (exfalso;first|((exact absurd h (by decide));done))))|(refine y18 ?_ ?_;all_goals(intro h;try (exfalso;first|((exact absurd h (by decide));done))))|(with_reducible apply zL;intro w hcl;replace H:=H.ext hcl;clear hcl)|refine y20 mixed ?_|with_reducible apply zA|(refine y23 ?_ ?_;all_goals(intro h;try (exfalso;first|((exact absurd h (by decide));done))))|fail)
    all_goals exact zQ rfl H.cl rfl
  | false =>
    have h2:zGn e=true:=by
     cases h2:zGn e with
     | true=>rfl
     | false=>exact absurd ⟨h1,h2⟩ hg
    rw[h1] at hlg
    rw[h2] at hod
    refine enter [.tmp 4] Tryz.func7 rfl Tryz.ntmps7 rfl rfl ?_
    have H:=zB w0
    repeat' (first|refine yT ?_|refine y7 sg H ?_|refine y8 sg H ?_|(refine y9 H ?_;intro b w H)|(refine y10 sg H ?_;intro b w H)|(refine y11 sg H ?_;intro w H)|refine y12 ?_|(refine' y30 zAa ?_ ?_;rotate_left;exact hlg _ (H.memF hF);intro w hcl;replace H:=H.ext hcl;clear hcl)|(refine' y31 zAa ?_ ?_;rotate_left;exact(fun _ hcl=>hlg _ ((H.ext hcl).memF hF)))|(refine' y30 zAr ?_ ?_;rotate_left;exact hod _ (H.memF hF);intro w hcl;replace H:=H.ext hcl;clear hcl)|(refine' y31 zAr ?_ ?_;rotate_left;exact(fun _ hcl=>hod _ ((H.ext hcl).memF hF)))|(refine' y30 zAb ?_ ?_;rotate_left;exact haw _ (H.memF hF);intro w hcl;replace H:=H.ext hcl;clear hcl)|(refine' y31 zAb ?_ ?_;rotate_left;exact(fun _ hcl=>haw _ ((H.ext hcl).memF hF)))|refine yU ?_|(refine y17 ?_ ?_;all_goals(intro h;try (exfalso;first|((exact absurd h (by decide));done))))|(refine y18 ?_ ?_;all_goals(intro h;try (exfalso;first|((exact absurd h (by decide));done))))|(with_reducible apply zL;intro w hcl;replace H:=H.ext hcl;clear hcl)|refine y20 mixed ?_|with_reducible apply zA|(refine y23 ?_ ?_;all_goals(intro h;try (exfalso;first|((exact absurd h (by decide));done))))|fail)
    all_goals exact zQ rfl H.cl rfl
 obtain⟨h1,h2⟩:=hg
 have sm:=zDv h1
 have hW:=zFP sm hr
 have hl300:=odd_no h2
 rw[h1] at hlg
 rw[h2] at hod
 have cA:=fun w (G:zH) (hG:Mem w (G++F))=>zDS (s:=s) (p:=p) hW e q hT w hG (hP.mono (zz8 _ _)) (hK.mono (zz8 _ _)) (hs.mono (zz8 _ _)) (hM.mono (zz8 _ _))
 obtain⟨⟨t,r⟩,hE⟩:∃ r,zk s e=r:=⟨_,rfl⟩
 have ltA:=zE7 hE
 rw[hE] at cA
 by_cases hr0:r=0
 rotate_left
 ·have ez:=zD3 (s:=s) (e:=e) (by rw[hE];exact hr0)
  rw[hE] at ez
  simp only at ez
  subst ez
  have d1:(r != 0)=true:=by simpa using hr0
  refine enter [.tmp 4] Tryz.func7 rfl Tryz.ntmps7 rfl rfl ?_
  have H:=zB w0
  repeat' (first|refine yT ?_|refine y7 sg H ?_|refine y8 sg H ?_|(refine y9 H ?_;intro b w H)|(refine y10 sg H ?_;intro b w H)|(refine y11 sg H ?_;intro w H)|refine y12 ?_|(refine' y30 zAa ?_ ?_;rotate_left;exact hlg _ (H.memF hF);intro w hcl;replace H:=H.ext hcl;clear hcl)|(refine' y31 zAa ?_ ?_;rotate_left;exact(fun _ hcl=>hlg _ ((H.ext hcl).memF hF)))|(refine' y30 zAr ?_ ?_;rotate_left;exact hod _ (H.memF hF);intro w hcl;replace H:=H.ext hcl;clear hcl)|(refine' y31 zAr ?_ ?_;rotate_left;exact(fun _ hcl=>hod _ ((H.ext hcl).memF hF)))|(refine' y30 zAb ?_ ?_;rotate_left;exact haw _ (H.memF hF);intro w hcl;replace H:=H.ext hcl;clear hcl)|(refine' y31 zAb ?_ ?_;rotate_left;exact(fun _ hcl=>haw _ ((H.ext hcl).memF hF)))|(refine' y32 zBr ?_ ?_;rotate_left;exact cA _ _ (H.all hF);intro v M w hR hS;replace H:=H.addR hS;clear hS;(try simp only[List.cons_append,List.nil_append] at H);obtain⟨pA,rfl,hsA⟩:=StC.sta hR ltA)|refine yU ?_|(refine y17 ?_ ?_;all_goals(intro h;try (exfalso;first|((exact absurd h (by decide));done)|((cases d1.symm.trans h);done))))|(refine y18 ?_ ?_;all_goals(intro h;try (exfalso;first|((exact absurd h (by decide));done)|((cases d1.symm.trans h);done))))|(with_reducible apply zL;intro w hcl;replace H:=H.ext hcl;clear hcl)|refine y20 mixed ?_|with_reducible apply zA|(refine y23 ?_ ?_;all_goals(intro h;try (exfalso;first|((exact absurd h (by decide));done)|((cases d1.symm.trans h);done))))|fail)
  exact zQ rfl H.cl rfl
 subst hr0
 have d1:((0:Int) != 0)=false:=rfl
 obtain⟨gs,gt,ev,hv3,hmay,hdo⟩:=zBI hE
 cases hx:zB4 e with
 | none =>
   obtain⟨k6,k8,k4,k7,k9,k5,k21,k11⟩:=zNJ hx
   have e6:(e.kind==6)=false:=by simpa using k6
   have e8:(e.kind==8)=false:=by simpa using k8
   have e4:(e.kind==4)=false:=by simpa using k4
   have e7:(e.kind==7)=false:=by simpa using k7
   have e9:(e.kind==9)=false:=by simpa using k9
   have e5:(e.kind==5)=false:=by simpa using k5
   have e21:(e.kind==21)=false:=by simpa using k21
   have e11:(e.kind==11)=false:=by simpa using k11
   refine enter [.tmp 4] Tryz.func7 rfl Tryz.ntmps7 rfl rfl ?_
   have H:=zB w0
   repeat' (first|refine yT ?_|refine y7 sg H ?_|refine y8 sg H ?_|(refine y9 H ?_;intro b w H)|(refine y10 sg H ?_;intro b w H)|(refine y11 sg H ?_;intro w H)|refine y12 ?_|(refine' y30 zAa ?_ ?_;rotate_left;exact hlg _ (H.memF hF);intro w hcl;replace H:=H.ext hcl;clear hcl)|(refine' y31 zAa ?_ ?_;rotate_left;exact(fun _ hcl=>hlg _ ((H.ext hcl).memF hF)))|(refine' y30 zAr ?_ ?_;rotate_left;exact hod _ (H.memF hF);intro w hcl;replace H:=H.ext hcl;clear hcl)|(refine' y31 zAr ?_ ?_;rotate_left;exact(fun _ hcl=>hod _ ((H.ext hcl).memF hF)))|(refine' y30 zAb ?_ ?_;rotate_left;exact haw _ (H.memF hF);intro w hcl;replace H:=H.ext hcl;clear hcl)|(refine' y31 zAb ?_ ?_;rotate_left;exact(fun _ hcl=>haw _ ((H.ext hcl).memF hF)))|(refine' y32 zBr ?_ ?_;rotate_left;exact cA _ _ (H.all hF);intro v M w hR hS;replace H:=H.addR hS;clear hS;(try simp only[List.cons_append,List.nil_append] at H);obtain⟨pA,rfl,hsA⟩:=StC.sta hR ltA)|refine yU ?_|(refine y17 ?_ ?_;all_goals(intro h;try (exfalso;first|((exact absurd h (by decide));done)|((cases e6.symm.trans h);done)|((cases e8.symm.trans h);done)|((cases e4.symm.trans h);done)|((cases e7.symm.trans h);done)|((cases e9.symm.trans h);done)|((cases e5.symm.trans h);done)|((cases e21.symm.trans h);done)|((cases e11.symm.trans h);done))))|(refine y18 ?_ ?_;all_goals(intro h;try (exfalso;first|((exact absurd h (by decide));done)|((cases e6.symm.trans h);done)|((cases e8.symm.trans h);done)|((cases e4.symm.trans h);done)|((cases e7.symm.trans h);done)|((cases e9.symm.trans h);done)|((cases e5.symm.trans h);done)|((cases e21.symm.trans h);done)|((cases e11.symm.trans h);done))))|(with_reducible apply zL;intro w hcl;replace H:=H.ext hcl;clear hcl)|refine y20 mixed ?_|with_reducible apply zA|(refine y23 ?_ ?_;all_goals(intro h;try (exfalso;first|((exact absurd h (by decide));done)|((cases e6.symm.trans h);done)|((cases e8.symm.trans h);done)|((cases e4.symm.trans h);done)|((cases e7.symm.trans h);done)|((cases e9.symm.trans h);done)|((cases e5.symm.trans h);done)|((cases e21.symm.trans h);done)|((cases e11.symm.trans h);done))))|fail)
   all_goals exact zQ rfl H.cl rfl
 | some x =>
   have hb:=zNI hE hx
   have hk:=zLq hx
   obtain⟨ev',ek,en,et⟩:=e
   obtain⟨na,nc,ta,tc⟩:=q
   refine enter [.tmp 4] Tryz.func7 rfl Tryz.ntmps7 rfl rfl ?_
   have H:=zB w0
   repeat' (first|refine yT ?_|refine y7 sg H ?_|refine y8 sg H ?_|(refine y9 H ?_;intro b w H)|(refine y10 sg H ?_;intro b w H)|(refine y11 sg H ?_;intro w H)|refine y12 ?_|(refine' y30 zAa ?_ ?_;rotate_left;exact hlg _ (H.memF hF);intro w hcl;replace H:=H.ext hcl;clear hcl)|(refine' y31 zAa ?_ ?_;rotate_left;exact(fun _ hcl=>hlg _ ((H.ext hcl).memF hF)))|(refine' y30 zAr ?_ ?_;rotate_left;exact hod _ (H.memF hF);intro w hcl;replace H:=H.ext hcl;clear hcl)|(refine' y31 zAr ?_ ?_;rotate_left;exact(fun _ hcl=>hod _ ((H.ext hcl).memF hF)))|(refine' y30 zAb ?_ ?_;rotate_left;exact haw _ (H.memF hF);intro w hcl;replace H:=H.ext hcl;clear hcl)|(refine' y31 zAb ?_ ?_;rotate_left;exact(fun _ hcl=>haw _ ((H.ext hcl).memF hF)))|(refine' y32 zBr ?_ ?_;rotate_left;exact cA _ _ (H.all hF);intro v M w hR hS;replace H:=H.addR hS;clear hS;(try simp only[List.cons_append,List.nil_append] at H);obtain⟨pA,rfl,hsA⟩:=StC.sta hR ltA)|refine yU ?_|(refine y17 ?_ ?_;all_goals(intro h;try (exfalso;first|((exact absurd h (by decide));done))))|(refine y18 ?_ ?_;all_goals(intro h;try (exfalso;first|((exact absurd h (by decide));done))))|(with_reducible apply zL;intro w hcl;replace H:=H.ext hcl;clear hcl)|refine y20 mixed ?_|fail)
   simp only at hk h2 hl300 hv3
   rename_i bs _ _ be _ _ _ _ _ _ b5 _ _ _ _ b7 _ _ _ _ _ _
   have ltB:=zE7 hb
   have hlen:=ev.len
   simp only at hlen
   (try with_reducible apply zBW)
   refine CW.cutT (fun en1 w=>∃ qx N' en',en1=ovl [(5,.pointer (some ⟨b5,0,none⟩)),(7,.pointer (some ⟨b7,0,none⟩)),(8,.pointer (some ⟨b,0,none⟩))] en'∧St w0 N' w∧cb b7 (x.cells qx) 32∈N'∧cb b ((zFc s ⟨ev',ek,en,et⟩).cells p) 28∈N'∧cb b5 (t.cells pA) 28∈N'∧StaM N' t pA∧EvtM (N'++F) x qx∧zFq x) ?_ ?_
   ·rcases hk with rfl|rfl|rfl|rfl|rfl|rfl|rfl|rfl
    ·have hx':x=⟨ev',7,en,et⟩:=by
      unfold zB4 at hx
      simp at hx
      exact hx.symm
     subst hx'
     repeat' (first|refine yT ?_|refine y7 sg H ?_|refine y8 sg H ?_|(refine y9 H ?_;intro b w H)|(refine y10 sg H ?_;intro b w H)|(refine y11 sg H ?_;intro w H)|refine y12 ?_|refine yU ?_|(refine y17 ?_ ?_;all_goals(intro h;try (exfalso;first|((exact absurd h (by decide));done))))|(refine y18 ?_ ?_;all_goals(intro h;try (exfalso;first|((exact absurd h (by decide));done))))|(with_reducible apply zL;intro w hcl;replace H:=H.ext hcl;clear hcl)|refine y20 mixed ?_|with_reducible apply zA|fail)
     all_goals exact⟨⟨na,nc,ta,tc⟩,_,_,zAZ rfl rfl rfl,H,qC,qC,qC,hsA.mono qS,⟨(hM.mono (zz8 _ _)).nums,(hM.mono (zz8 _ _)).texts⟩,hT.1,⟨by simp only;omega,by simp only;omega⟩,hT.2.2⟩
    ·have hx':x=⟨ev',9,en,et⟩:=by
      unfold zB4 at hx
      simp at hx
      exact hx.symm
     subst hx'
     repeat' (first|refine yT ?_|refine y7 sg H ?_|refine y8 sg H ?_|(refine y9 H ?_;intro b w H)|(refine y10 sg H ?_;intro b w H)|(refine y11 sg H ?_;intro w H)|refine y12 ?_|refine yU ?_|(refine y17 ?_ ?_;all_goals(intro h;try (exfalso;first|((exact absurd h (by decide));done))))|(refine y18 ?_ ?_;all_goals(intro h;try (exfalso;first|((exact absurd h (by decide));done))))|(with_reducible apply zL;intro w hcl;replace H:=H.ext hcl;clear hcl)|refine y20 mixed ?_|with_reducible apply zA|fail)
     all_goals exact⟨⟨na,nc,ta,tc⟩,_,_,zAZ rfl rfl rfl,H,qC,qC,qC,hsA.mono qS,⟨(hM.mono (zz8 _ _)).nums,(hM.mono (zz8 _ _)).texts⟩,hT.1,⟨by simp only;omega,by simp only;omega⟩,hT.2.2⟩
    ·have hx':x=⟨ev',5,en,et⟩:=by
      unfold zB4 at hx
      simp at hx
      exact hx.symm
     subst hx'
     repeat' (first|refine yT ?_|refine y7 sg H ?_|refine y8 sg H ?_|(refine y9 H ?_;intro b w H)|(refine y10 sg H ?_;intro b w H)|(refine y11 sg H ?_;intro w H)|refine y12 ?_|refine yU ?_|(refine y17 ?_ ?_;all_goals(intro h;try (exfalso;first|((exact absurd h (by decide));done))))|(refine y18 ?_ ?_;all_goals(intro h;try (exfalso;first|((exact absurd h (by decide));done))))|(with_reducible apply zL;intro w hcl;replace H:=H.ext hcl;clear hcl)|refine y20 mixed ?_|with_reducible apply zA|fail)
     all_goals exact⟨⟨na,nc,ta,tc⟩,_,_,zAZ rfl rfl rfl,H,qC,qC,qC,hsA.mono qS,⟨(hM.mono (zz8 _ _)).nums,(hM.mono (zz8 _ _)).texts⟩,hT.1,⟨by simp only;omega,by simp only;omega⟩,hT.2.2⟩
    ·have hx':x=⟨ev',6,en,et⟩:=by
      unfold zB4 at hx
      simp at hx
      exact hx.symm
     subst hx'
     repeat' (first|refine yT ?_|refine y7 sg H ?_|refine y8 sg H ?_|(refine y9 H ?_;intro b w H)|(refine y10 sg H ?_;intro b w H)|(refine y11 sg H ?_;intro w H)|refine y12 ?_|refine yU ?_|(refine y17 ?_ ?_;all_goals(intro h;try (exfalso;first|((exact absurd h (by decide));done))))|(refine y18 ?_ ?_;all_goals(intro h;try (exfalso;first|((exact absurd h (by decide));done))))|(with_reducible apply zL;intro w hcl;replace H:=H.ext hcl;clear hcl)|refine y20 mixed ?_|with_reducible apply zA|fail)
     all_goals exact⟨⟨na,nc,ta,tc⟩,_,_,zAZ rfl rfl rfl,H,qC,qC,qC,hsA.mono qS,⟨(hM.mono (zz8 _ _)).nums,(hM.mono (zz8 _ _)).texts⟩,hT.1,⟨by simp only;omega,by simp only;omega⟩,hT.2.2⟩
    ·have hx':x=⟨ev',8,en,et⟩:=by
      unfold zB4 at hx
      simp at hx
      exact hx.symm
     subst hx'
     repeat' (first|refine yT ?_|refine y7 sg H ?_|refine y8 sg H ?_|(refine y9 H ?_;intro b w H)|(refine y10 sg H ?_;intro b w H)|(refine y11 sg H ?_;intro w H)|refine y12 ?_|refine yU ?_|(refine y17 ?_ ?_;all_goals(intro h;try (exfalso;first|((exact absurd h (by decide));done))))|(refine y18 ?_ ?_;all_goals(intro h;try (exfalso;first|((exact absurd h (by decide));done))))|(with_reducible apply zL;intro w hcl;replace H:=H.ext hcl;clear hcl)|refine y20 mixed ?_|with_reducible apply zA|fail)
     all_goals exact⟨⟨na,nc,ta,tc⟩,_,_,zAZ rfl rfl rfl,H,qC,qC,qC,hsA.mono qS,⟨(hM.mono (zz8 _ _)).nums,(hM.mono (zz8 _ _)).texts⟩,hT.1,⟨by simp only;omega,by simp only;omega⟩,hT.2.2⟩
    ·have hx':x=⟨ev',4,en,et⟩:=by
      unfold zB4 at hx
      simp at hx
      exact hx.symm
     subst hx'
     repeat' (first|refine yT ?_|refine y7 sg H ?_|refine y8 sg H ?_|(refine y9 H ?_;intro b w H)|(refine y10 sg H ?_;intro b w H)|(refine y11 sg H ?_;intro w H)|refine y12 ?_|refine yU ?_|(refine y17 ?_ ?_;all_goals(intro h;try (exfalso;first|((exact absurd h (by decide));done))))|(refine y18 ?_ ?_;all_goals(intro h;try (exfalso;first|((exact absurd h (by decide));done))))|(with_reducible apply zL;intro w hcl;replace H:=H.ext hcl;clear hcl)|refine y20 mixed ?_|with_reducible apply zA|fail)
     all_goals exact⟨⟨na,nc,ta,tc⟩,_,_,zAZ rfl rfl rfl,H,qC,qC,qC,hsA.mono qS,⟨(hM.mono (zz8 _ _)).nums,(hM.mono (zz8 _ _)).texts⟩,hT.1,⟨by simp only;omega,by simp only;omega⟩,hT.2.2⟩
    ·have hx':x=⟨ev',21,[nF en 1,nF en 0,nF en 2],et⟩:=by
      unfold zB4 at hx
      simp at hx
      exact hx.symm
     subst hx'
     have hl3:en.length=3:=hlen
     have hN:Ints F na nc en:=hM.nums
     obtain⟨hn2,hc2,b2,off2,cs2,T2,fr2,hs2⟩:=id hN
     have hs2F:=hs2.mono (List.subset_cons_self (cb be [Value.int .u8 ev',Value.int .u8 21,Value.slice na en.length nc,Value.slice ta et.length tc] 32) F)
     repeat' (first|refine yT ?_|refine y7 sg H ?_|refine y8 sg H ?_|(refine y9 H ?_;intro b w H)|(refine y10 sg H ?_;intro b w H)|(refine y11 sg H ?_;intro w H)|refine y12 ?_|refine yU ?_|(refine y17 ?_ ?_;all_goals(intro h;try (exfalso;first|((exact absurd h (by decide));done))))|(refine y18 ?_ ?_;all_goals(intro h;try (exfalso;first|((exact absurd h (by decide));done))))|(with_reducible apply zL;intro w hcl;replace H:=H.ext hcl;clear hcl)|with_reducible apply zA|fail)
     show CW _ _ (Code.region _ _ _) _ _ _
     repeat' (first|refine yT ?_|refine y7 sg H ?_|refine y8 sg H ?_|(refine y9 H ?_;intro b w H)|(refine y10 sg H ?_;intro b w H)|(refine y11 sg H ?_;intro w H)|refine y12 ?_|(refine z14 sg H ?_;intro b w H)|(refine CW.regionL mixed 15 (z6s (x:=(cb be [Value.int .u8 ev',Value.int .u8 21,Value.slice na en.length nc,Value.slice ta et.length tc] 32)) H hF) [] ?_ ?_;exact rfl;intro w hcl;replace H:=H.ext hcl;clear hcl;have qh:=z6s (x:=(cb be [Value.int .u8 ev',Value.int .u8 21,Value.slice na en.length nc,Value.slice ta et.length tc] 32)) H hF;refine' l1 0 qh ?_ ?_;rotate_left;(first|exact z4 sg|exact z3 sg|exact(fun w2 _=>zF sg hs2 rfl rfl rfl rfl rfl rfl rfl (by first|with_reducible exact zz1 _|exact zD (by omega) (by omega)|with_reducible exact zI|exact zC _) (by omega) (by omega))|exact(fun w2 hM2=>Yq.loadB1 sg hs2F hM2 rfl rfl rfl rfl (show 1<en.length by omega) rfl)|exact(fun w2 hM2=>Yq.loadB1 sg hs2F hM2 rfl rfl rfl rfl (show 0<en.length by omega) rfl)|exact(fun w2 hM2=>Yq.loadB1 sg hs2F hM2 rfl rfl rfl rfl (show 2<en.length by omega) rfl));refine' l1 1 qh ?_ ?_;rotate_left;(first|exact z4 sg|exact z3 sg|exact(fun w2 _=>zF sg hs2 rfl rfl rfl rfl rfl rfl rfl (by first|with_reducible exact zz1 _|exact zD (by omega) (by omega)|with_reducible exact zI|exact zC _) (by omega) (by omega))|exact(fun w2 hM2=>Yq.loadB1 sg hs2F hM2 rfl rfl rfl rfl (show 1<en.length by omega) rfl)|exact(fun w2 hM2=>Yq.loadB1 sg hs2F hM2 rfl rfl rfl rfl (show 0<en.length by omega) rfl)|exact(fun w2 hM2=>Yq.loadB1 sg hs2F hM2 rfl rfl rfl rfl (show 2<en.length by omega) rfl));refine' l1 2 qh ?_ ?_;rotate_left;(first|exact z4 sg|exact z3 sg|exact(fun w2 _=>zF sg hs2 rfl rfl rfl rfl rfl rfl rfl (by first|with_reducible exact zz1 _|exact zD (by omega) (by omega)|with_reducible exact zI|exact zC _) (by omega) (by omega))|exact(fun w2 hM2=>Yq.loadB1 sg hs2F hM2 rfl rfl rfl rfl (show 1<en.length by omega) rfl)|exact(fun w2 hM2=>Yq.loadB1 sg hs2F hM2 rfl rfl rfl rfl (show 0<en.length by omega) rfl)|exact(fun w2 hM2=>Yq.loadB1 sg hs2F hM2 rfl rfl rfl rfl (show 2<en.length by omega) rfl));refine' l1 3 qh ?_ ?_;rotate_left;(first|exact z4 sg|exact z3 sg|exact(fun w2 _=>zF sg hs2 rfl rfl rfl rfl rfl rfl rfl (by first|with_reducible exact zz1 _|exact zD (by omega) (by omega)|with_reducible exact zI|exact zC _) (by omega) (by omega))|exact(fun w2 hM2=>Yq.loadB1 sg hs2F hM2 rfl rfl rfl rfl (show 1<en.length by omega) rfl)|exact(fun w2 hM2=>Yq.loadB1 sg hs2F hM2 rfl rfl rfl rfl (show 0<en.length by omega) rfl)|exact(fun w2 hM2=>Yq.loadB1 sg hs2F hM2 rfl rfl rfl rfl (show 2<en.length by omega) rfl));refine' l1 4 qh ?_ ?_;rotate_left;(first|exact z4 sg|exact z3 sg|exact(fun w2 _=>zF sg hs2 rfl rfl rfl rfl rfl rfl rfl (by first|with_reducible exact zz1 _|exact zD (by omega) (by omega)|with_reducible exact zI|exact zC _) (by omega) (by omega))|exact(fun w2 hM2=>Yq.loadB1 sg hs2F hM2 rfl rfl rfl rfl (show 1<en.length by omega) rfl)|exact(fun w2 hM2=>Yq.loadB1 sg hs2F hM2 rfl rfl rfl rfl (show 0<en.length by omega) rfl)|exact(fun w2 hM2=>Yq.loadB1 sg hs2F hM2 rfl rfl rfl rfl (show 2<en.length by omega) rfl));refine' l1 5 qh ?_ ?_;rotate_left;(first|exact z4 sg|exact z3 sg|exact(fun w2 _=>zF sg hs2 rfl rfl rfl rfl rfl rfl rfl (by first|with_reducible exact zz1 _|exact zD (by omega) (by omega)|with_reducible exact zI|exact zC _) (by omega) (by omega))|exact(fun w2 hM2=>Yq.loadB1 sg hs2F hM2 rfl rfl rfl rfl (show 1<en.length by omega) rfl)|exact(fun w2 hM2=>Yq.loadB1 sg hs2F hM2 rfl rfl rfl rfl (show 0<en.length by omega) rfl)|exact(fun w2 hM2=>Yq.loadB1 sg hs2F hM2 rfl rfl rfl rfl (show 2<en.length by omega) rfl));refine' l1 6 qh ?_ ?_;rotate_left;(first|exact z4 sg|exact z3 sg|exact(fun w2 _=>zF sg hs2 rfl rfl rfl rfl rfl rfl rfl (by first|with_reducible exact zz1 _|exact zD (by omega) (by omega)|with_reducible exact zI|exact zC _) (by omega) (by omega))|exact(fun w2 hM2=>Yq.loadB1 sg hs2F hM2 rfl rfl rfl rfl (show 1<en.length by omega) rfl)|exact(fun w2 hM2=>Yq.loadB1 sg hs2F hM2 rfl rfl rfl rfl (show 0<en.length by omega) rfl)|exact(fun w2 hM2=>Yq.loadB1 sg hs2F hM2 rfl rfl rfl rfl (show 2<en.length by omega) rfl));refine' l1 7 qh ?_ ?_;rotate_left;(first|exact z4 sg|exact z3 sg|exact(fun w2 _=>zF sg hs2 rfl rfl rfl rfl rfl rfl rfl (by first|with_reducible exact zz1 _|exact zD (by omega) (by omega)|with_reducible exact zI|exact zC _) (by omega) (by omega))|exact(fun w2 hM2=>Yq.loadB1 sg hs2F hM2 rfl rfl rfl rfl (show 1<en.length by omega) rfl)|exact(fun w2 hM2=>Yq.loadB1 sg hs2F hM2 rfl rfl rfl rfl (show 0<en.length by omega) rfl)|exact(fun w2 hM2=>Yq.loadB1 sg hs2F hM2 rfl rfl rfl rfl (show 2<en.length by omega) rfl));refine' l1 8 qh ?_ ?_;rotate_left;(first|exact z4 sg|exact z3 sg|exact(fun w2 _=>zF sg hs2 rfl rfl rfl rfl rfl rfl rfl (by first|with_reducible exact zz1 _|exact zD (by omega) (by omega)|with_reducible exact zI|exact zC _) (by omega) (by omega))|exact(fun w2 hM2=>Yq.loadB1 sg hs2F hM2 rfl rfl rfl rfl (show 1<en.length by omega) rfl)|exact(fun w2 hM2=>Yq.loadB1 sg hs2F hM2 rfl rfl rfl rfl (show 0<en.length by omega) rfl)|exact(fun w2 hM2=>Yq.loadB1 sg hs2F hM2 rfl rfl rfl rfl (show 2<en.length by omega) rfl));refine' l1 9 qh ?_ ?_;rotate_left;(first|exact z4 sg|exact z3 sg|exact(fun w2 _=>zF sg hs2 rfl rfl rfl rfl rfl rfl rfl (by first|with_reducible exact zz1 _|exact zD (by omega) (by omega)|with_reducible exact zI|exact zC _) (by omega) (by omega))|exact(fun w2 hM2=>Yq.loadB1 sg hs2F hM2 rfl rfl rfl rfl (show 1<en.length by omega) rfl)|exact(fun w2 hM2=>Yq.loadB1 sg hs2F hM2 rfl rfl rfl rfl (show 0<en.length by omega) rfl)|exact(fun w2 hM2=>Yq.loadB1 sg hs2F hM2 rfl rfl rfl rfl (show 2<en.length by omega) rfl));refine' l1 10 qh ?_ ?_;rotate_left;(first|exact z4 sg|exact z3 sg|exact(fun w2 _=>zF sg hs2 rfl rfl rfl rfl rfl rfl rfl (by first|with_reducible exact zz1 _|exact zD (by omega) (by omega)|with_reducible exact zI|exact zC _) (by omega) (by omega))|exact(fun w2 hM2=>Yq.loadB1 sg hs2F hM2 rfl rfl rfl rfl (show 1<en.length by omega) rfl)|exact(fun w2 hM2=>Yq.loadB1 sg hs2F hM2 rfl rfl rfl rfl (show 0<en.length by omega) rfl)|exact(fun w2 hM2=>Yq.loadB1 sg hs2F hM2 rfl rfl rfl rfl (show 2<en.length by omega) rfl));refine' l1 11 qh ?_ ?_;rotate_left;(first|exact z4 sg|exact z3 sg|exact(fun w2 _=>zF sg hs2 rfl rfl rfl rfl rfl rfl rfl (by first|with_reducible exact zz1 _|exact zD (by omega) (by omega)|with_reducible exact zI|exact zC _) (by omega) (by omega))|exact(fun w2 hM2=>Yq.loadB1 sg hs2F hM2 rfl rfl rfl rfl (show 1<en.length by omega) rfl)|exact(fun w2 hM2=>Yq.loadB1 sg hs2F hM2 rfl rfl rfl rfl (show 0<en.length by omega) rfl)|exact(fun w2 hM2=>Yq.loadB1 sg hs2F hM2 rfl rfl rfl rfl (show 2<en.length by omega) rfl)))|((with_reducible apply RL.nil);decide +kernel)|refine l2 12 ?_|refine l2 13 ?_|refine l2 14 ?_|(refine l5 (z6s (x:=(cb be [Value.int .u8 ev',Value.int .u8 21,Value.slice na en.length nc,Value.slice ta et.length tc] 32)) H hF) ?_)|refine yU ?_|(refine y17 ?_ ?_;all_goals(intro h;try (exfalso;first|((exact absurd h (by decide));done))))|(refine y18 ?_ ?_;all_goals(intro h;try (exfalso;first|((exact absurd h (by decide));done))))|(with_reducible apply zL;intro w hcl;replace H:=H.ext hcl;clear hcl)|with_reducible apply zA|fail)
     all_goals exact⟨⟨some ⟨_,0,none⟩,3,ta,tc⟩,_,_,zAZ rfl rfl rfl,H,qC,qC,qC,hsA.mono qS,⟨zIP (T:=2) [nF en 1,nF en 0,nF en 2] (by simp) (zz6 _ qC),(hM.mono (zz8 _ _)).texts⟩,hT.1,⟨by simp only;omega,by simp only;omega⟩,hT.2.2⟩
    ·have hx':x=evF 12 [nF en 0]:=by
      unfold zB4 at hx
      simp at hx
      exact hx.symm
     subst hx'
     have hl6:en.length=6:=hlen
     have hno:=(zx.1 gs.nums).2.2.1
     have hwn:IntKind.i64.wrap (s.nextO+1)=s.nextO+1:=w64 (by omega) (by omega)
     have hN:Ints F na nc en:=hM.nums
     obtain⟨hn2,hc2,b2,off2,cs2,T2,fr2,hs2⟩:=id hN
     repeat' (first|refine yT ?_|refine y7 sg H ?_|refine y8 sg H ?_|(refine y9 H ?_;intro b w H)|(refine y10 sg H ?_;intro b w H)|(refine y11 sg H ?_;intro w H)|refine y12 ?_|(refine z14 sg H ?_;intro b w H)|(refine y40 sg (hs2) ?_ ?_ ?_;(omega);(omega))|(refine y41 sg (hs2) ?_ ?_ ?_;(omega);(omega))|refine z13 (Yq.loadB1 sg hs2 (H.memF hF) rfl rfl rfl rfl (show 0<en.length by omega) rfl) ?_|((with_reducible apply zP);exact rfl;exact rfl;exact Yq.loadB1 sg hs2 (H.memF hF) rfl rfl rfl rfl (show 0<en.length by omega) rfl)|(refine' y30 zBJ ?_ ?_;rotate_left;exact zAA _;intro w hcl;replace H:=H.ext hcl;clear hcl)|(refine' y31 zBJ ?_ ?_;rotate_left;exact(fun _ hcl=>zAA _))|refine yU ?_|(refine y17 ?_ ?_;all_goals(intro h;try (exfalso;first|((exact absurd h (by decide));done))))|(refine y18 ?_ ?_;all_goals(intro h;try (exfalso;first|((exact absurd h (by decide));done))))|(with_reducible apply zL;intro w hcl;replace H:=H.ext hcl;clear hcl)|refine y20 mixed ?_|with_reducible apply zA|fail)
     all_goals rw[hwn] at H
     all_goals exact⟨_,_,_,zAZ rfl rfl rfl,H,qC,qC,qC,hsA.mono qS,zEV (T:=2) 12 [nF en 0] (by simp) (zz6 _ qC),zOY _ _ (by decide)⟩
   clear H
   rintro _ w ⟨qx,N,_,rfl,H,hb7,hb8,hb5,hsA2,hMx,hTx⟩
   have cB:=fun w (hG:Mem w (N++F))=>zDS (s:=t) (p:=pA) (zG4 gt) x qx hTx w hG (hP.mono (zz8 _ _)) (hK.mono (zz8 _ _)) (hsA2.mono (List.subset_append_left _ _)) hMx
   rw[hb] at cB
   have d5:zFy (zFc s ⟨ev',ek,en,et⟩) (zFc s ⟨ev',ek,en,et⟩)=true:=zD1.2 rfl
   have hw:StaM F (zFc s ⟨ev',ek,en,et⟩) p:=by
    unfold zFc
    split
    ·exact⟨hs.ac,hs.ins,hs.rw,hs.od,hs.au⟩
    ·exact hs
   have cS:=fun w (G:zH) pB (hG:Mem w G) (h1:StaM G (zFc s ⟨ev',ek,en,et⟩) pB) (h2:StaM G (zFc s ⟨ev',ek,en,et⟩) p)=>zId _ _ pB p w hG h1 h2
   rw[d5] at cS
   generalize zFc s ⟨ev',ek,en,et⟩=W at *
   repeat' (first|refine yT ?_|refine y7 sg H ?_|refine y8 sg H ?_|(refine y9 H ?_;intro b w H)|(refine y10 sg H ?_;intro b w H)|(refine y11 sg H ?_;intro w H)|refine y12 ?_|refine z13 (zG sg rfl rfl H.mem hb5 rfl rfl) ?_|((with_reducible apply zP);exact rfl;exact rfl;exact zG sg rfl rfl H.mem hb5 rfl rfl)|refine z13 (zG sg rfl rfl H.mem hb7 rfl rfl) ?_|((with_reducible apply zP);exact rfl;exact rfl;exact zG sg rfl rfl H.mem hb7 rfl rfl)|refine z13 (zG sg rfl rfl H.mem (zz4 _ (zz6 _ hb8)) rfl rfl) ?_|((with_reducible apply zP);exact rfl;exact rfl;exact zG sg rfl rfl H.mem (zz4 _ (zz6 _ hb8)) rfl rfl)|(refine' y32 zBr ?_ ?_;rotate_left;exact cB _ (H.all hF);intro v M w hR hS;replace H:=H.addR hS;clear hS;(try simp only[List.cons_append,List.nil_append] at H);obtain⟨pB,rfl,hsB⟩:=StC.sta hR ltB)|(refine' y30 zKl ?_ ?_;rotate_left;exact cS _ _ pB (H.all hF) (hsB.mono qS) (hw.mono qS);intro w hcl;replace H:=H.ext hcl;clear hcl)|(refine' y31 zKl ?_ ?_;rotate_left;exact(fun _ hcl=>cS _ _ pB ((H.ext hcl).all hF) (hsB.mono qS) (hw.mono qS)))|refine yU ?_|(refine y17 ?_ ?_;all_goals(intro h;try (exfalso;first|((exact absurd h (by decide));done))))|(refine y18 ?_ ?_;all_goals(intro h;try (exfalso;first|((exact absurd h (by decide));done))))|(with_reducible apply zL;intro w hcl;replace H:=H.ext hcl;clear hcl)|refine y20 mixed ?_|with_reducible apply zA|(refine y23 ?_ ?_;all_goals(intro h;try (exfalso;first|((exact absurd h (by decide));done))))|fail)
   all_goals exact zQ rfl H.cl rfl
end
section
open Go Go.Sk Go.RowKit Go.ChangeShapes Go.WideShapes
set_option maxRecDepth 100000 in
theorem applyBack_calls {H:Type}{enc:TypeId × Value→H}{W:World}{args:Array Value}{ds:List (DataW H)}{p:List MemPlace}
  (hA:DataW.TrodAll enc Tryz.prog W 0 (fun _=>true) true [28,32] args.toList ds p) (hz:∀ (j:Nat) t d,([28,32]:List TypeId)[j]?=some t→ds[j]?=some d→∀ n∈d.weights Tryz.prog t,n≤reachBytes) (hv:∀ (j:Nat) t v,([28,32]:List TypeId)[j]?=some t→args[j]?=some v→Value.okWide Tryz.prog W .any 0 t v) (hL:laidMetH Tryz.prog zA4 W) :
  Calls Tryz.prog 7 args W (Ret (.bool true) W):=by
 obtain⟨v0,v1,d0,d1,r0,r1,rfl,rfl,rfl,h0,h1⟩:=zDg hA
 obtain⟨s0,p0,rfl,hM0,hA0⟩:=zFK h0 (hz 0 _ _ rfl rfl) (hv 0 _ _ rfl rfl)
 obtain⟨e1,q1,rfl,hE1,hT1⟩:=zHc h1 (hz 1 _ _ rfl rfl) (hv 1 _ _ rfl rfl)
 exact zUS s0 p0 e1 q1 hA0.acN hA0.insN hA0.rw hT1 W (zDq W) (zG6 hL) (zG5 hL) hM0 hE1
set_option maxRecDepth 100000 in
theorem applyBack_lifted (os:Os)(started:os.Started)(H:Type)(enc:TypeId × Value→H) :
  ReturnsInHanded {} Tryz.checked os 7 .any (fun w args=>(Rows.applyBackSpec.pre enc Tryz.prog Tryz.f7 [] false w args∧laidMetH Tryz.prog zA4 w)∧sizedMet enc Tryz.prog Tryz.f7 (OpenSpec.ofChange Rows.applyBackSpec) false w args)
   (Rows.applyBackSpec.post enc Tryz.prog Tryz.f7 false true false false):=by
 refine returnsInHanded_of_change_and (C:=Tryz.checked) (X:=fun w _=>laidMetH Tryz.prog zA4 w) (fun _ _ _ hh h=>h.of_heap hh) (by kernel_rfl) started (by kernel_rfl) Tryz.func7
  (ChangeSpec.witness_shaped (enc:=enc) (C:=Tryz.checked) (os:=os) (X:=fun w _=>laidMetH Tryz.prog zA4 w) false (World.doorLaid Tryz.prog 600 os) #[.agg #[.int .i64 0,.int .i64 0,.int .i64 0,.int .i64 0,.slice none 0 0,.slice none 0 0,.slice none 0 0,.slice none 0 0,.slice none 0 0],.agg #[.int .u8 0,.int .u8 0,.slice none 0 0,.slice none 0 0]] 8 rfl (World.shaped_of_RefB (by kernel_rfl) (by kernel_rfl)) (by kernel_rfl) (by kernel_rfl) (by kernel_rfl) (zD2 os _)) ?_
 intro W base args ds gs before hval hW _ hsz hL _
 have hA:DataW.TrodAll enc Tryz.prog W 0 (fun _=>true) true [28,32] args.toList ds hW.choose:=hW.choose_spec.choose_spec.1
 refine(applyBack_calls hA (fun j t d h1 h2=>zDr hsz (Eq.trans ?_ h1) h2) (fun j t v h1 h2=>?_) hL).mono fun e W' ⟨he,hc⟩=>?_
 ·exact congrArg (fun l:List TypeId=>l[j]?) (by kernel_rfl)
 ·refine hval j t v (Eq.trans ?_ h1) h2
  rw[← Array.getElem?_toList]
  exact congrArg (fun l:List TypeId=>l[j]?) (by kernel_rfl)
 ·have hds:∃ q,hW.choose=q:=⟨_,rfl⟩
  obtain⟨q,hq⟩:=hds
  rw[hq] at hA
  refine⟨_,he,zDp (tb:=4) (by kernel_rfl) rfl (by kernel_rfl) rfl (sg.desc rfl rfl) ?_ hW hc⟩
  clear hq
  obtain⟨v0,v1,d0,d1,r0,r1,_,rfl,_⟩:=zDg hA
  rfl
end
end Go.Proofs.YtibmaifoaajllaaGreatDoor
