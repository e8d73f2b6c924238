/- Texts of ours, joined: the steps of the proof, or the claim's theorem. -/
import Derived.Test.YthbflajpdhgfiaaGreatDoorQd30
set_option linter.all false
set_option maxHeartbeats 16000000
namespace Go.Proofs.YthbflajpdhgfiaaGreatDoor
open Go Go.Sk Go.RowKit
inductive Beh (nx:WS→Option Evt):WS→WS→Prop
 | here {x:WS}:Beh nx x x
 | on {x y:WS} {e:Evt} (h:nx x=some e) (he:(zN x.s e).2=0) (k:Beh nx (x.go e) y):Beh nx x y
theorem zNN {nx:WS→Option Evt}{cap:Bool}:∀ (n:Nat) (x:WS) (l:List Evt),zFn nx cap n x=(l,0)→∃ y,Beh nx x y∧nx y=none∧y.l=l∧(cap=true→y.l.length≤max x.l.length 32)
 | 0,_,_,h=>absurd (Prod.mk.inj h).2 (by decide)
 | n+1,x,l,h=>by
   unfold zFn at h
   split at h
   ·rename_i h1
    exact⟨x,.here,h1,(Prod.mk.inj h).1,fun _=>by omega⟩
   ·rename_i e h1
    split at h
    ·exact absurd (Prod.mk.inj h).2 (by decide)
    ·rename_i h2
     split at h
     ·rename_i h3;exact absurd (Prod.mk.inj h).2 h3
     ·rename_i h3
      obtain⟨y,k1,k2,k3,k4⟩:=zNN n _ l h
      refine⟨y,.on h1 (Decidable.of_not_not h3) k1,k2,k3,fun hc=>?_⟩
      have:=k4 hc
      have h5:x.l.length≤31:=by
       have:¬ 31<x.l.length:=fun g=>h2 ⟨hc,g⟩
       omega
      have e:(x.go e).l.length=x.l.length+1:=by show(x.l++[e]).length=_;simp
      omega
theorem zGN {s:Sta}(g:Good s)(e:Evt):zN s e=zAN s e:=by unfold zN;rw[if_pos (zBB.2 g)]
theorem Beh.all {nx:WS→Option Evt}{x y:WS}(h:Beh nx x y)(g:Good x.s):∃ es,y.l=x.l++es∧zBA x.s es 0=(y.s,(es.length:Int),0)∧Good y.s∧∀ e∈es,e.v=3∧zCE e=true:=by
 induction h with
 | here=>exact⟨[],by simp,rfl,g,fun e he=>nomatch he⟩
 | @on x y e h1 he k ih =>
   have e1:zN x.s e=((zN x.s e).1,0):=Prod.ext rfl he
   obtain⟨_,g2,_,v,m,_⟩:=zBf e1
   obtain⟨es,k1,k2,k3,k4⟩:=ih g2
   refine⟨e::es,by rw[k1];show(x.l++[e])++es=_;simp,?_,k3,fun z hz=>?_⟩
   ·rw[all_cons,← zGN g,if_pos he,zHQ]
    show((zBA (zN x.s e).1 es 0).1,0+1+(zBA (zN x.s e).1 es 0).2.1,(zBA (zN x.s e).1 es 0).2.2)=_
    have k2':zBA (zN x.s e).1 es 0=(y.s,(es.length:Int),0):=k2
    rw[k2']
    simp only[List.length_cons]
    congr 2
    omega
   ·rcases List.mem_cons.1 hz with rfl|hz
    ·exact⟨v,m⟩
    ·exact k4 z hz
theorem Beh.pre {nx:WS→Option Evt}{x y:WS}(h:Beh nx x y):∃ es,y.l=x.l++es:=by
 induction h with
 | here=>exact⟨[],by simp⟩
 | @on x y e h1 he k ih =>
   obtain⟨es,k1⟩:=ih
   exact⟨e::es,by rw[k1];show(x.l++[e])++es=_;simp⟩
theorem Beh.keeps {nx:WS→Option Evt}{I:WS→Prop}(hs:∀ x e,I x→nx x=some e→(zN x.s e).2=0→I (x.go e)){x y:WS}(h:Beh nx x y)(h0:I x):I y:=by
 induction h with
 | here=>exact h0
 | @on x y e h1 he k ih=>exact ih (hs _ _ h0 h1 he)
theorem zCa (s:Sta)(c:Cmd):((zc s c).2≠0∧(zc s c).1.nums=[]∧(zc s c).1=evZ)∨((zc s c).2=0∧Good s∧zEx c=true∧(zc s c).1.v=3∧(zc s c).1.kind=(zAr c.kind).1∧(zc s c).1.nums=(zAr c.kind).2.map (fun o=>match o with|some i=>nF c.nums i|none=>(zDP s (zAr c.kind).1).1)∧(zc s c).1.texts=if c.text.size=0 then[] else[c.text]):=by
 unfold zc
 split
 ·exact .inl ⟨(by decide),rfl,rfl⟩
 ·rename_i h1
  split
  ·exact .inl ⟨(by decide),rfl,rfl⟩
  ·rename_i h2
   split
   ·exact .inl ⟨(by decide),rfl,rfl⟩
   ·split
    ·exact .inl ⟨(by decide),rfl,rfl⟩
    ·split
     ·exact .inl ⟨(by decide),rfl,rfl⟩
     ·exact .inr ⟨rfl,zBB.1 (by simpa using h1),by simpa using h2,rfl,rfl,rfl,rfl⟩
theorem zIV {k:Int}(h:1≤k∧k≤20):(zAr k).1=11↔k=11:=by
 rcases zFJ h with rfl|rfl|rfl|rfl|rfl|rfl|rfl|rfl|rfl|rfl|rfl|rfl|rfl|rfl|rfl|rfl|rfl|rfl|rfl|rfl<;>decide
theorem zNO {k:Int}(h:1≤k∧k≤20):(zAr k).1=20↔k=17:=by
 rcases zFJ h with rfl|rfl|rfl|rfl|rfl|rfl|rfl|rfl|rfl|rfl|rfl|rfl|rfl|rfl|rfl|rfl|rfl|rfl|rfl|rfl<;>decide
structure CmdOk (s:Sta)(c:Cmd)(l:List Evt)(f:Evt)(t y:Sta):Prop where
 first:zc s c=(f,0)
 good:Good s
 may:zEx c=true
 kind:f.kind=(zAr c.kind).1
 ev:zN s f=(t,0)
 beh:(c.kind=11∧∃ z,Beh (trN (nF f.nums 0)) ⟨[],t,[f]⟩ z∧trN (nF f.nums 0) z=none∧z.l=l∧z.s=y∧l.length≤32)∨(c.kind=17∧∃ z,Beh saN ⟨(zEO t.aucs t.clock).map (·.id),t,[f]⟩ z∧saN z=none∧z.l=l∧z.s=y)∨(c.kind≠11∧c.kind≠17∧l=[f]∧y=t)
theorem zKW {s:Sta}{c:Cmd}{l:List Evt}(h:zBC s c=(l,0)):∃ f t y,CmdOk s c l f t y:=by
 unfold zBC at h
 simp only at h
 split at h
 ·rename_i h1;exact absurd (Prod.mk.inj h).2 h1
 rename_i h1
 split at h
 ·rename_i h2;exact absurd (Prod.mk.inj h).2 h2
 rename_i h2
 have h1:=Decidable.of_not_not h1
 have h2:=Decidable.of_not_not h2
 rcases zCa s c with ⟨g,_⟩|⟨_,g1,g2,g3,g4,g5,g6⟩
 ·exact absurd h1 g
 have hk:=zEy g2
 have e1:zc s c=((zc s c).1,0):=Prod.ext rfl h1
 have e2:zN s (zc s c).1=((zN s (zc s c).1).1,0):=Prod.ext rfl h2
 split at h
 ·rename_i h3
  obtain⟨z,k1,k2,k3,k4⟩:=zNN _ _ _ h
  refine⟨_,_,z.s,e1,g1,g2,g4,e2,.inl ⟨(zIV hk).1 (g4 ▸ h3),z,k1,k2,k3,rfl,?_⟩⟩
  have:=k4 rfl
  rw[k3] at this
  have h2:l.length≤max 1 32:=this
  omega
 ·rename_i h3
  split at h
  ·rename_i h4
   obtain⟨z,k1,k2,k3,_⟩:=zNN _ _ _ h
   exact⟨_,_,z.s,e1,g1,g2,g4,e2,.inr (.inl ⟨(zNO hk).1 (g4 ▸ h4),z,k1,k2,k3,rfl⟩)⟩
  ·rename_i h4
   exact⟨_,_,_,e1,g1,g2,g4,e2,.inr (.inr ⟨fun e=>h3 (g4 ▸ (zIV hk).2 e),fun e=>h4 (g4 ▸ (zNO hk).2 e),(Prod.mk.inj h).1.symm,rfl⟩)⟩
theorem CmdOk.all {s:Sta}{c:Cmd}{l:List Evt}{f:Evt}{t y:Sta}(h:CmdOk s c l f t y):zDi s l=(y,(l.length:Int),0)∧Good y∧Good t∧(∃ es,l=f::es)∧∀ e∈l,e.v=3∧zCE e=true:=by
 obtain⟨_,g2,_,v,m,_⟩:=zBf h.ev
 have key:∀ (nx:WS→Option Evt) (ids:List Int) (z:WS),Beh nx ⟨ids,t,[f]⟩ z→zDi s z.l=(z.s,(z.l.length:Int),0)∧Good z.s∧(∃ es,z.l=f::es)∧∀ e∈z.l,e.v=3∧zCE e=true:=fun nx ids z hb=>by
  obtain⟨es,k1,k2,k3,k4⟩:=hb.all g2
  have k1:z.l=f::es:=k1
  have k2:zBA t es 0=(z.s,(es.length:Int),0):=k2
  refine⟨?_,k3,⟨es,k1⟩,fun e he=>?_⟩
  ·unfold zDi
   rw[if_pos (zBB.2 h.good),k1,all_cons,← zGN h.good,h.ev,if_pos rfl,zHQ,k2]
   simp only[List.length_cons]
   congr 2
   omega
  ·rw[k1] at he
   rcases List.mem_cons.1 he with rfl|he
   ·exact⟨v,m⟩
   ·exact k4 e he
 rcases h.beh with ⟨_,z,k1,_,rfl,rfl,_⟩|⟨_,z,k1,_,rfl,rfl⟩|⟨_,_,rfl,rfl⟩
 ·obtain⟨a,b,c,d⟩:=key _ _ _ k1;exact⟨a,b,g2,c,d⟩
 ·obtain⟨a,b,c,d⟩:=key _ _ _ k1;exact⟨a,b,g2,c,d⟩
 ·obtain⟨a,b,c,d⟩:=key _ [] ⟨[],y,[f]⟩ (Beh.here (nx:=saN));exact⟨a,b,g2,c,d⟩
def zL2 (x y:Odr):Prop:=x.inst=y.inst∧x.side=y.side∧x.price=y.price
theorem zDt {s:Sta}{p:List Pst}:(zm s p).1.orders=s.orders∧(zm s p).1.aucs=s.aucs∧(zm s p).1.clock=s.clock∧(zm s p).1.nextO=s.nextO∧(zm s p).1.fee=s.fee:=by
 unfold zm
 split<;>exact⟨rfl,rfl,rfl,rfl,rfl⟩
structure TrI (s0:Sta)(o0:Odr)(x:WS):Prop where
 good:Good x.s
 like:∀ y∈x.s.orders,(y.id=o0.id→zL2 y o0)∧(y.id≠o0.id→∃ z∈s0.orders,zL2 y z∧zAX z)
theorem zQF (a b q:Int)(x:Odr):zL2 (zDA a b q x) x∧(zDA a b q x).id=x.id:=by
 unfold zDA
 split<;>exact⟨⟨rfl,rfl,rfl⟩,rfl⟩
theorem zNP {s:Sta}{id:Int}{e:Evt}(h:zE5 s id=some e):e.kind=13:=by
 unfold zE5 at h
 simp only at h
 split at h
 ·cases h;rfl
 ·cases h
theorem TrI.go {s0:Sta}{o0:Odr}{x:WS}{e:Evt}(h:TrI s0 o0 x)(he:trN o0.id x=some e)(hk:(zN x.s e).2=0):TrI s0 o0 (x.go e):=by
 have e1:zN x.s e=((zN x.s e).1,0):=Prod.ext rfl hk
 obtain⟨o,u,T⟩:=zKV e1 (zNP he)
 refine⟨(zCm e1).2,fun y hy=>?_⟩
 have hy:y∈(zN x.s e).1.orders:=hy
 rw[T.ords] at hy
 obtain⟨z,hz,rfl⟩:=List.mem_map.1 (List.mem_filter.1 hy).1
 obtain⟨⟨l1,l2,l3⟩,l4⟩:=zQF o.id u.id (nF e.nums 3) z
 obtain⟨h1,h2⟩:=h.like z hz
 rw[l4]
 unfold zL2 at *
 rw[l1,l2,l3]
 exact⟨h1,h2⟩
theorem zJK {s t:Sta}{i:Nat}{p:List Pst}(h:zAz s i p=(t,0)):t.aucs=s.aucs.eraseIdx i∧t.clock=s.clock∧t.orders=s.orders:=by
 unfold zAz at h
 simp only at h
 split at h
 ·rename_i g;rw[h] at g;exact absurd rfl g
 ·obtain rfl:=(Prod.mk.inj h).1
  exact⟨rfl,zDt.2.2.1,zDt.1⟩
theorem zKX {l:List Auc}(h:l.Pairwise fun a b=>a.id<b.id){i:Nat}(hi:i<l.length):l.eraseIdx i=l.filter fun a=>decide (a.id≠(au_ l i).id):=by
 have e:au_ l i=l[i]:=by unfold au_;rw[List.getD_eq_getElem?_getD,List.getElem?_eq_getElem hi];rfl
 have hs:l=l.take i++l[i]::l.drop (i+1):=by rw[List.getElem_cons_drop,List.take_append_drop]
 rw[e]
 generalize hx:l[i]=x at hs ⊢
 rw[List.eraseIdx_eq_take_drop_succ]
 conv=>rhs;rw[hs]
 rw[hs,List.pairwise_append,List.pairwise_cons] at h
 obtain⟨_,⟨h2,_⟩,h3⟩:=h
 rw[List.filter_append,List.filter_cons_of_neg (by simp),List.filter_eq_self.2 (fun a ha=>decide_eq_true (by have:=h3 a ha x (List.Mem.head _);omega)),List.filter_eq_self.2 (fun a ha=>decide_eq_true (by have:=h2 a ha;omega))]
structure SaleF (a:Auc)(e:Evt):Prop where
 id:nF e.nums 0=a.id
 kind:e.kind=18∨e.kind=19
 len:e.kind=18→e.nums.length=4∧(zL a).2=true∧nF e.nums 1=(zL a).1.acct∧nF e.nums 2=(zL a).1.amount
 ne:e.nums≠[]
theorem zUh {s:Sta}(g:Good s){i:Nat}(hi:i<s.aucs.length)(hd:zAA (au_ s.aucs i) s.clock=true):∃ t,zN s (zB5 s (au_ s.aucs i).id)=(t,0)∧t.aucs=(s.aucs.filter fun a=>decide (a.id≠(au_ s.aucs i).id))∧t.clock=s.clock∧t.orders=s.orders∧SaleF (au_ s.aucs i) (zB5 s (au_ s.aucs i).id):=by
 have ew:zAq s (au_ s.aucs i).id=zM s (au_ s.aucs i):=by
  unfold zAq;rw[zQC g hi,if_pos ⟨rfl,zBB.2 g⟩]
 have hfl:=zKX (zp.1 g.aucs).2.2 hi
 unfold zB5
 rw[ew]
 by_cases hw:(zM s (au_ s.aucs i)).2.2=true
 ·rw[if_pos hw]
  have h0:=(zQB g hi (zM s (au_ s.aucs i)).1.acct (zM s (au_ s.aucs i)).1.amount (zM s (au_ s.aucs i)).2.1).2 ⟨hd,hw,rfl,rfl,rfl⟩
  have e1:zN s (evF 18 [(au_ s.aucs i).id,(zM s (au_ s.aucs i)).1.acct,(zM s (au_ s.aucs i)).1.amount,(zM s (au_ s.aucs i)).2.1])=((zN s (evF 18 [(au_ s.aucs i).id,(zM s (au_ s.aucs i)).1.acct,(zM s (au_ s.aucs i)).1.amount,(zM s (au_ s.aucs i)).2.1])).1,0):=Prod.ext rfl h0
  obtain⟨_,_,_,_,_,hz⟩:=zBf e1
  have hz2:=(zOk g hi (zM s (au_ s.aucs i)).1.acct (zM s (au_ s.aucs i)).1.amount (zM s (au_ s.aucs i)).2.1).symm.trans hz
  rw[if_pos ⟨hd,hw,rfl,rfl,rfl⟩] at hz2
  obtain⟨f1,f2,f3⟩:=zJK hz2
  obtain⟨w1,w2,_⟩:=zDq hw
  exact⟨_,e1,f1.trans hfl,f2,f3,⟨rfl,.inl rfl,fun _=>⟨rfl,w1,congrArg Bid.acct w2,congrArg Bid.amount w2⟩,fun h=>nomatch h⟩⟩
 ·rw[if_neg hw]
  have h0:=zL0 g hi
  rw[if_neg (by rintro(g1|g1);exact hw g1;rw[hd] at g1;cases g1)] at h0
  have e1:zN s (evF 19 [(au_ s.aucs i).id])=((zN s (evF 19 [(au_ s.aucs i).id])).1,0):=Prod.ext rfl h0
  obtain⟨_,_,_,_,_,hz⟩:=zBf e1
  have hz2:=(zJJ g hi).symm.trans hz
  rw[if_neg (by rintro(g1|g1);exact hw g1;rw[hd] at g1;cases g1)] at hz2
  obtain⟨f1,f2,f3⟩:=zJK hz2
  exact⟨_,e1,f1.trans hfl,f2,f3,⟨rfl,.inr rfl,fun h=>absurd h (show(19:Int)≠18 by decide),fun h=>nomatch h⟩⟩
structure SaI (t:Sta)(n0:Nat)(x:WS):Prop where
 good:Good x.s
 clock:x.s.clock=t.clock
 au:x.s.aucs=t.aucs.filter fun a=>!zAA a t.clock||decide (a.id∈x.ids)
 ids:∀ id∈x.ids,∃ a∈t.aucs,a.id=id∧zAA a t.clock=true
 nd:x.ids.Nodup
 done:∀ a∈t.aucs,zAA a t.clock=true→a.id ∉ x.ids→∃ n,n0≤n∧n<x.l.length∧SaleF a (x.l.getD n evZ)
 told:∀ n,n0≤n→n<x.l.length→∃ a∈t.aucs,zAA a t.clock=true∧SaleF a (x.l.getD n evZ)
 cnt:x.l.length+x.ids.length=n0+((zEO t.aucs t.clock).map (·.id)).length
theorem zL3 {l:List Evt}{e:Evt}{n:Nat}(h:n<l.length):(l++[e]).getD n evZ=l.getD n evZ:=by
 rw[List.getD_eq_getElem?_getD,List.getD_eq_getElem?_getD,List.getElem?_append_left h]
theorem zOl {l:List Evt}{e:Evt}:(l++[e]).getD l.length evZ=e:=by
 rw[List.getD_eq_getElem?_getD,List.getElem?_append_right (Nat.le_refl _)];simp
theorem zEQ {l:List Auc}(h:l.Pairwise fun a b=>a.id<b.id){a c:Auc}(ha:a∈l)(hc:c∈l)(e:a.id=c.id):a=c:=by
 obtain⟨i,hi,rfl⟩:=List.getElem_of_mem ha
 obtain⟨j,hj,rfl⟩:=List.getElem_of_mem hc
 rw[List.pairwise_iff_getElem] at h
 rcases Nat.lt_trichotomy i j with g|rfl|g
 ·have:=h i j hi hj g;omega
 ·rfl
 ·have:=h j i hj hi g;omega
theorem SaI.next {t:Sta}{n0:Nat}{x:WS}(gt:Good t)(h:SaI t n0 x){id:Int}{r:List Int}(hx:x.ids=id::r):(zN x.s (zB5 x.s id)).2=0∧(n0≤x.l.length→SaI t n0 (x.go (zB5 x.s id))):=by
 obtain⟨a,ha,rfl,hd⟩:=h.ids id (by rw[hx];exact zz2 _)
 have hax:a∈x.s.aucs:=by
  rw[h.au,List.mem_filter]
  refine⟨ha,?_⟩
  rw[hx];simp
 obtain⟨i,hi,e⟩:=List.getElem_of_mem hax
 have e2:au_ x.s.aucs i=a:=by unfold au_;rw[List.getD_eq_getElem?_getD,List.getElem?_eq_getElem hi];exact e
 have hs:=zUh h.good hi (by rw[e2,h.clock];exact hd)
 rw[e2] at hs
 obtain⟨u,h1,h2,h3,h4,h5⟩:=hs
 refine⟨by rw[h1],fun hn0=>?_⟩
 have hnd:=h.nd
 rw[hx,List.nodup_cons] at hnd
 have hgo:x.go (zB5 x.s a.id)=⟨r,u,x.l++[zB5 x.s a.id]⟩:=by unfold WS.go;rw[hx,h1];rfl
 rw[hgo]
 have hlen:(x.l++[zB5 x.s a.id]).length=x.l.length+1:=by simp
 refine⟨(zCm h1).2,h3.trans h.clock,?_,fun id hid=>h.ids id (by rw[hx];exact zz4 _ hid),hnd.2,fun b hb hbd hbn=>?_,fun n hn1 hn2=>?_,?_⟩
 ·show u.aucs=_
  rw[h2,h.au,List.filter_filter]
  refine List.filter_congr fun b hb=>?_
  by_cases hbd:zAA b t.clock=true
  ·rw[hbd,hx]
   simp only[Bool.not_true,Bool.false_or,List.mem_cons]
   by_cases hba:b.id=a.id
   ·have:a.id ∉ r:=hnd.1
    rw[hba];simp[this]
   ·simp[hba]
  ·have hbd:zAA b t.clock=false:=by simpa using hbd
   rw[hbd]
   have hba:b.id≠a.id:=fun e=>by
    rw[zEQ (zp.1 gt.aucs).2.2 hb ha e,hd] at hbd;cases hbd
   simp[hba]
 ·by_cases hba:b.id=a.id
  ·obtain rfl:=zEQ (zp.1 gt.aucs).2.2 hb ha hba
   exact⟨x.l.length,hn0,by rw[hlen];omega,by rw[zOl];exact h5⟩
  ·obtain⟨n,g1,g2,g3⟩:=h.done b hb hbd (by rw[hx,List.mem_cons];rintro(g|g);exact hba g;exact hbn g)
   exact⟨n,g1,by rw[hlen];omega,by rw[zL3 g2];exact g3⟩
 ·have hn2:n<(x.l++[zB5 x.s a.id]).length:=hn2
  rw[hlen] at hn2
  by_cases hn3:n<x.l.length
  ·rw[zL3 hn3];exact h.told n hn1 hn3
  ·obtain rfl:n=x.l.length:=by omega
   exact⟨a,ha,hd,by rw[zOl];exact h5⟩
 ·have:=h.cnt
  rw[hx,List.length_cons] at this
  show(x.l++[zB5 x.s a.id]).length+r.length=_
  rw[hlen];omega
theorem zJL {t:Sta}(g:Good t)(f:Evt):SaI t 1 ⟨(zEO t.aucs t.clock).map (·.id),t,[f]⟩:=by
 have hr:=zEP t.aucs t.clock
 have hm:=g.aucs
 have hmem:∀ a,a∈zEO t.aucs t.clock↔a∈t.aucs∧zAA a t.clock=true:=fun a=>by
  rcases hr with ⟨_,_,h3⟩|⟨h1,_⟩
  ·rw[h3.mem_iff,List.mem_filter]
  ·rw[hm] at h1;cases h1
 have hpw:=(zp.1 hm).2.2
 refine⟨g,rfl,?_,fun id hid=>?_,?_,fun a ha hd hn=>?_,fun n h1 h2=>?_,?_⟩
 ·symm
  refine List.filter_eq_self.2 fun a ha=>?_
  by_cases hd:zAA a t.clock=true
  ·have:a.id∈(zEO t.aucs t.clock).map (·.id):=List.mem_map.2 ⟨a,(hmem a).2 ⟨ha,hd⟩,rfl⟩
   rw[decide_eq_true this,Bool.or_true]
  ·have hd:zAA a t.clock=false:=by simpa using hd
   rw[hd];rfl
 ·obtain⟨a,ha,rfl⟩:=List.mem_map.1 hid
  exact⟨a,((hmem a).1 ha).1,rfl,((hmem a).1 ha).2⟩
 ·rcases hr with ⟨_,_,h3⟩|⟨h1,_⟩
  ·have hnd:((t.aucs.filter fun x=>zAA x t.clock).map (·.id)).Nodup:=by
    rw[List.nodup_iff_pairwise_ne,List.pairwise_map]
    exact(hpw.sublist List.filter_sublist).imp fun h=>Int.ne_of_lt h
   exact(h3.map _).nodup_iff.2 hnd
  ·rw[hm] at h1;cases h1
 ·exact absurd (List.mem_map.2 ⟨a,(hmem a).2 ⟨ha,hd⟩,rfl⟩) hn
 ·simp at h2;omega
 ·show 1+_=_;rfl
theorem Beh.len {nx:WS→Option Evt}{x y:WS}(h:Beh nx x y):x.l.length≤y.l.length:=by
 obtain⟨es,e⟩:=h.pre
 rw[e,List.length_append];omega
theorem zUi {x:WS}{e:Evt}(h:saN x=some e):∃ id r,x.ids=id::r∧e=zB5 x.s id:=by
 unfold saN at h
 cases hx:x.ids with
 | nil=>rw[hx] at h;cases h
 | cons id r=>rw[hx] at h;exact⟨id,r,rfl,(Option.some.inj h).symm⟩
theorem zGr {t:Sta}(g:Good t)(f:Evt){z:WS}(hb:Beh saN ⟨(zEO t.aucs t.clock).map (·.id),t,[f]⟩ z)(hn:saN z=none):SaI t 1 z∧z.ids=[]∧zEO z.s.aucs z.s.clock=[]:=by
 have key:=hb.keeps (I:=fun x=>SaI t 1 x∧1≤x.l.length) (fun x e hi he hk=>by
  obtain⟨id,r,hx,rfl⟩:=zUi he
  refine⟨(SaI.next g hi.1 hx).2 hi.2,?_⟩
  show 1≤(x.l++[_]).length;simp) ⟨zJL g f,zzC _⟩
 obtain⟨hI,_⟩:=key
 have hids:z.ids=[]:=by
  cases hx:z.ids with
  | nil=>rfl
  | cons id r=>unfold saN at hn;rw[hx] at hn;cases hn
 refine⟨hI,hids,?_⟩
 unfold zEO
 have hnone:(z.s.aucs.filter fun x=>zAA x z.s.clock)=[]:=by
  rw[List.filter_eq_nil_iff]
  intro a ha
  rw[hI.au,hids,List.mem_filter] at ha
  rw[hI.clock]
  simpa using ha.2
 rw[hnone]
 split<;>rfl
structure ToldF (a:Auc)(e:Evt):Prop where
 id:nF e.nums 0=a.id
 ne:0<e.nums.length
 sold:e.kind=18→e.nums.length=4∧(zAD a).2=true∧(zAD a).1.acct=nF e.nums 1∧nF e.nums 2≤(zAD a).1.amount∧a.reserve≤nF e.nums 2
structure SoldP (s t:Sta)(clk:Int)(l:List Evt):Prop where
 get:∀ a∈s.aucs,(zAy t.aucs a.id).2=!zAA a clk
 told:∀ n,1≤n→n<l.length→∃ a∈s.aucs,zAA a clk=true∧ToldF a (ev_ l n)
 done:∀ a∈s.aucs,zAA a clk=true→∃ n,1≤n∧n<l.length∧ToldF a (ev_ l n)
 cnt:l.length=1+(s.aucs.filter fun a=>zAA a clk).length
 id:∀ a∈s.aucs,∀ b∈s.aucs,a.id=b.id→a=b
end Go.Proofs.YthbflajpdhgfiaaGreatDoor
set_option linter.unusedSectionVars false
namespace Go.Sk
open Go Go.RowKit
attribute [local semireducible] CW OW OX QW QX RW
section
variable {P:Program}{n:Nw}{e:Env}{L:List (Nat × Value)}{b:Env}{w:World}{σ:Type}
def Yok1 (P:Program)(w0:World)(l:Nat)(Pre:σ→Value→zC→Prop)(nx:σ→σ)(K:σ→zC→Prop)(Kd:zC→Prop):Prop :=
 ∀ (s:σ) (v:Value) (M N G':zC) (w:World),K s M→Pre s v N→St w0 (M++(N++G')) w →
   Yld P l [v] w (fun e w'=>∃ u,e=.returned u∧((u=.bool true∧∃ M',K (nx s) M'∧St w0 (M'++G') w')∨(u=.bool false∧∃ M',Kd M'∧St w0 (M'++G') w')))
def zL4 (P:Program)(w0:World)(gf:FuncId)(lb:List Value)(Ex:σ→zC→Prop)(Pre:σ→Value→zC→Prop)(nx:σ→σ)(fin:σ→Prop)(s0:σ):Prop :=
 ∀ (l:Nat) (K:σ→zC→Prop) (Kd:zC→Prop),(∀ s M,K s M→Ex s M)→Yok1 P w0 l Pre nx K Kd→∀ (M G':zC) (w:World),K s0 M→St w0 (M++G') w →
   Calls P gf (Value.func (.yield l) #[] #[]::lb).toArray w (zi (fun N' _=>(∃ s M2,fin s∧K s M2∧N'=M2++G')∨∃ M2,Kd M2∧N'=M2++G') w0)
def rnd (A B:World→Prop):zAQ
 | .normal,_,w=>A w
 | .ret,_,w=>B w
 | _,_,_=>False
theorem up_in {b:Nat}{o o':Obj}(G:zC):∀ M:zC,Up b o o' (M++((b,o)::G)) (M++((b,o')::G))
 | []=>Up.here
 | _::M=>Up.there (up_in G M)
theorem CM.rangeFunc1 {w0:World}{Q:List Deferred→zAQ}{g:Operand}{p1:Tmp}{assign body:Code}{gf:FuncId}{lb:List Value}{M0 G:zC}{Ex:σ→zC→Prop}{Pre:σ→Value→zC→Prop}{nx:σ→σ}{fin:σ→Prop}{s0:σ}
  (J:σ→zC→Prop) (Jd:zC→Prop) (hro:n.ro=none) (hg:ev (ovl L b) g=.func (.func gf) #[] lb.toArray) (hent:Ent P gf) (h1:Nat.blt p1 n.n=true)
  (hit:zL4 P w0 gf lb Ex Pre nx fin s0) (H:St w0 (M0++G) w) (h0:J s0 M0) (hEx:∀ s M,J s M→Ex s M) (hExm:∀ s x M,Ex s M→Ex s (x::M))
  (hround:∀ l s v,∀ (M N G':zC) (w:World),J s M→Pre s v N→St w0 (M++(N++G')) w→CW P ⟨n.n,[],some l⟩ assign
   (thn (fun e1 w1=>∃ M2,St w0 (M2++G') w1∧∀ (G2:zC) (w2:World),St w0 (M2++G2) w2→CW P ⟨n.n,[],some l⟩ body (rnd (fun w3=>∃ M3,J (nx s) M3∧St w0 (M3++G2) w3) (fun w3=>∃ M3,Jd M3∧St w0 (M3++G2) w3)) e1 w2) (fun _ _ _=>False))
   (ovl ((p1,v)::L) b) w)
  (hend:∀ (D:Nat) (lo:Nat × Obj) (s:σ) (M:zC) (w':World),fin s→J s M→St w0 (lo::(D,.deferred (some []))::(M++G)) w'→Q (zJr D::n.ds) .normal (ovl L b) w')
  (hendr:∀ (D:Nat) (lo:Nat × Obj) (M:zC) (w':World),Jd M→St w0 (lo::(D,.deferred (some []))::(M++G)) w'→Q (zJr D::n.ds) .ret (ovl L b) w') :
  CM P n (.rangeFunc g #[p1] assign body) Q (ovl L b) w:=by
 intro a ha
 refine wpIn_rangeFunc ?_
 intro fn hfn
 rw[show(fen n.ro).round=none from hro]
 obtain⟨rec,hrec⟩:∃ rec:LoopState→Loop,rec=fun st=>{ state:=st,pending:=none,fn,tmps:=a.tmps,params:=#[p1],assign,body,defers:=w.heap.size }:=⟨_,rfl⟩
 have HD:=H.alloc (.deferred (some []))
 have HL:=HD.alloc (.loop (rec .ready))
 rw[World.size_alloc] at HL
 refine⟨w.heap.size+1,[zJr w.heap.size],(w.alloc (.deferred (some []))).alloc (.loop (rec .ready)),{ target:=.fn (.func gf) lb.toArray,args:=#[.func (.yield (w.heap.size+1)) #[] #[]] },(w.alloc (.deferred (some []))).alloc (.loop (rec .ready)),gf,
  (Value.func (.yield (w.heap.size+1)) #[] #[]::lb).toArray,(w.alloc (.deferred (some []))).alloc (.loop (rec .ready)),?_,?_,fun _ _=>trivial,?_,fun h=>(by cases h),?_⟩
 ·rw[hrec];exact run_enterLoop_outer _ _ _ _ _
 ·have hg':a.eval g=.func (.func gf) #[] lb.toArray:=by rw[ha.eval];exact hg
  simp only[resolve,hg']
  simp[go_sem]
 ·have:=hent (#[.func (.yield (w.heap.size+1)) #[] #[]]++lb.toArray)
  simp[invoke,go_sem]
  simpa using this _
 obtain⟨l,hl⟩:∃ l,w.heap.size+1=l:=⟨_,rfl⟩
 obtain⟨D,hD⟩:∃ D,w.heap.size=D:=⟨_,rfl⟩
 rw[hl,hD] at HL
 rw[hD] at hrec
 rw[hl,hD]
 have hrounds:Yok1 P w0 l Pre nx (fun s M=>∃ M1,M=(l,.loop (rec .ready))::(D,.deferred (some []))::M1∧J s M1) (fun M=>∃ M1,M=(l,.loop { rec .ready with state:=.done,pending:=some .ret })::(D,.deferred (some []))::M1∧Jd M1):=by
  rintro s v M N G' w1 ⟨M1,rfl,hJ⟩ hpre H1
  have hget:w1.heap[l]?=some (.loop (rec .ready)):=H1.mem _ (zz2 _)
  have hy:=run_yield (P:=P) (args:=#[v]) hget (by rw[hrec];rfl)
  refine⟨_,_,_,_,hy,roundIn_of_wpIn (F:=Fence.wide) trivial ?_⟩
  have hfit:Fits ⟨n.n,[],some l⟩ { tmps:=(((rec .ready).params.zip #[v]).foldl (fun tmps (t,a)=>tmps.setIfInBounds t a) (rec .ready).tmps),defers:=[] } (ovl ((p1,v)::L) b):=by
   have hf0:Fits ⟨n.n,[],some l⟩ { tmps:=a.tmps,defers:=[] } (ovl L b):=⟨ha.size,rfl,ha.get⟩
   have:=hf0.put (d:=p1) h1 v
   have hz:((rec .ready).params.zip #[v]).foldl (fun tmps (t,a)=>tmps.setIfInBounds t a) (rec .ready).tmps=a.tmps.setIfInBounds p1 v:=by rw[hrec];simp
   rw[hz]
   exact this
  have HA:St w0 (M1++(N++((l,.loop (rec .ready))::(D,.deferred (some []))::G'))) w1:=H1.perm (by
   have h1:=List.perm_append_comm_assoc [(l,Obj.loop (rec .ready)),(D,Obj.deferred (some []))] M1 (N++G')
   have h2:=(List.perm_append_comm_assoc [(l,Obj.loop (rec .ready)),(D,Obj.deferred (some []))] N G').append_left M1
   exact h1.trans h2)
  have hA:=hround l s v M1 N _ w1 hJ hpre HA _ hfit
  have hra:(rec .ready).assign=assign:=by rw[hrec]
  have hrb:(rec .ready).body=body:=by rw[hrec]
  rw[hra,hrb]
  refine wpIn_mono hA fun x a1 w2 q=>?_
  obtain⟨_,e1,hf1,q⟩:=q
  cases x with
  | normal =>
    obtain⟨M2,H2,hbody⟩:=q
    have hget2:w2.heap[l]?=some (.loop (rec .ready)):=H2.mem _ (zz3 _ (zz2 _))
    refine⟨_,run_beginRound hget2 (by rw[hrec]),?_⟩
    have H3:St w0 (M2++((l,.loop { rec .ready with state:=.busy })::(D,.deferred (some []))::G')) (w2.putObj l (.loop { rec .ready with state:=.busy })):=H2.putObj (o:=.loop (rec .ready)) (up_in _ _)
    refine wpIn_mono (hbody _ _ H3 a1 hf1) fun x a2 w4 q=>?_
    obtain⟨_,e2,_,q⟩:=q
    cases x with
    | normal =>
      obtain⟨M3,hJ3,H4⟩:=q
      have hget4:w4.heap[l]?=some (.loop { rec .ready with state:=.busy }):=H4.mem _ (zz3 _ (zz2 _))
      refine⟨_,_,run_endRound none hget4,_,rfl,.inl ⟨rfl,(l,.loop (rec .ready))::(D,.deferred (some []))::M3,⟨M3,rfl,hJ3⟩,?_⟩⟩
      have e:({ ({ rec .ready with state:=.busy }:Loop) with state:=if (none:Option Code).isNone=true then LoopState.ready else LoopState.done,pending:=none }:Loop)=rec .ready:=by rw[hrec];rfl
      rw[e]
      have H5:=H4.perm (List.perm_append_comm_assoc M3 [(l,Obj.loop { rec .ready with state:=.busy }),(D,Obj.deferred (some []))] G')
      exact St.putObj H5 Up.here
    | ret =>
      obtain⟨M3,hJ3,H4⟩:=q
      have hget4:w4.heap[l]?=some (.loop { rec .ready with state:=.busy }):=H4.mem _ (zz3 _ (zz2 _))
      refine⟨_,_,run_endRound (some .ret) hget4,_,rfl,.inr ⟨rfl,(l,.loop { rec .ready with state:=.done,pending:=some .ret })::(D,.deferred (some []))::M3,⟨M3,rfl,hJ3⟩,?_⟩⟩
      have H5:=H4.perm (List.perm_append_comm_assoc M3 [(l,Obj.loop { rec .ready with state:=.busy }),(D,Obj.deferred (some []))] G')
      exact St.putObj H5 Up.here
    | _=>exact q.elim
  | _=>exact q.elim
 have HL':St w0 (((l,.loop (rec .ready))::(D,.deferred (some []))::M0)++G) ((w.alloc (.deferred (some []))).alloc (.loop (rec .ready))):=HL
 have hcall:=hit l _ _ (fun s M ⟨M1,hM,hJ⟩=>hM ▸ hExm _ _ _ (hExm _ _ _ (hEx _ _ hJ))) hrounds _ G _ ⟨M0,rfl,h0⟩ HL'
 refine zBX.2 (Calls.mono hcall fun e' w3 q=>?_)
 obtain⟨v,N',rfl,⟨s,_,hs,⟨M1,rfl,hJ⟩,rfl⟩|⟨_,⟨M1,rfl,hJ⟩,rfl⟩,H3⟩:=q
 ·have hget:w3.heap[l]?=some (.loop (rec .ready)):=H3.mem _ (zz2 _)
  have hel:(Instr.endLoop l).run P w3=.ok none (w3.putObj l (.loop { rec .ready with state:=.exhausted })):=by
   have:=run_endLoop (P:=P) hget (by rw[hrec];simp)
   exact this.trans (congrArg (fun z=>Result.ok z _) (show(rec .ready).pending=none by rw[hrec]))
  refine⟨none,_,hel,?_⟩
  have H4:St w0 ((l,.loop { rec .ready with state:=.exhausted })::(D,.deferred (some []))::(M1++G)) (w3.putObj l (.loop { rec .ready with state:=.exhausted })):=St.putObj H3 Up.here
  exact⟨nofun,zJr D::n.ds,ovl L b,⟨ha.size,by show _++a.defers=_;rw[ha.defs];rfl,ha.get⟩,hend D _ s M1 _ hs hJ H4⟩
 ·have hget:w3.heap[l]?=some (.loop { rec .ready with state:=.done,pending:=some .ret }):=H3.mem _ (zz2 _)
  have hel:(Instr.endLoop l).run P w3=.ok (some .ret) (w3.putObj l (.loop { rec .ready with state:=.exhausted,pending:=some .ret })):=run_endLoop (P:=P) hget (by simp)
  refine⟨some .ret,_,hel,?_⟩
  have H4:St w0 ((l,.loop { rec .ready with state:=.exhausted,pending:=some .ret })::(D,.deferred (some []))::(M1++G)) (w3.putObj l (.loop { rec .ready with state:=.exhausted,pending:=some .ret })):=St.putObj H3 Up.here
  exact wpIn_ret ⟨nofun,zJr D::n.ds,ovl L b,⟨ha.size,by show _++a.defers=_;rw[ha.defs];rfl,ha.get⟩,hendr D _ M1 _ hJ H4⟩
end
section
variable {P:Program}{n:Nw}{ops:Array Oper}{Q:zAQ}{e:Env}{w:World}{l:List Oper}
theorem zHV {ro:Option Nat}(hnd:zCV ops.toList=true)(r:List Nat):∀ (s:List Nat) (a:Act) (w:World),wpOps P ops (Exit.then (fun a' w'=>wpOpsIn (fen ro) 0 P ops (zAc n Q) r a' w') (zAc n Q)) s a w→wpOpsIn (fen ro) 0 P ops (zAc n Q) (s++r) a w
 | [],a,w,h=>h
 | i::s,a,w,h=>by
   unfold wpOps at h
   show wpOpsIn _ _ _ _ _ (i::(s++r)) a w
   unfold wpOpsIn
   cases ho:ops[i]? with
   | none=>rw[ho] at h;exact zHV hnd r s a w h
   | some o =>
     rw[ho] at h
     simp only at h ⊢
     split
     ·rename_i hw
      rw[if_pos hw] at h
      have hm:o∈ops.toList:=Array.mem_toList_iff.2 (Array.mem_of_getElem? ho)
      refine⟨fun _ _=>trivial,?_⟩
      rw[Oper.semAt_eq _ _ _ (zHX hnd hm)]
      have h1:=h.resolve_right fun hh=>zDC (n:=n) (Q:=Q) (by obtain⟨a,w,hq⟩:=hh.2;exact⟨a,w,hq⟩)
      have h2:=zJP (ro:=ro) (K':=wpOpsIn (fen ro) 0 P ops (zAc n Q) (s++r)) (fun a w hk=>zHV hnd r s a w hk) _ h1
      generalize (execOp a.eval o).run P w=z at h2 ⊢
      unfold Oper.uponIn at h2 ⊢
      split at h2
      ·exact h2
      ·exact h2
      ·exact h2
      ·refine⟨h2.1,?_⟩
       refine zBX.2 (Calls.mono (zBX.1 h2.2) fun e w' q=>?_)
       cases e with
       | returned v=>exact q
       | panicked c=>exact q
       | outgrown=>obtain⟨a,w,hq⟩:=q;exact⟨a,w,hq⟩
      ·exact h2
      ·refine⟨h2.1,RoundIn.mono h2.2 fun e w' q=>?_⟩
       cases e with
       | returned v=>exact q
       | panicked c=>exact q
       | outgrown=>obtain⟨a,w,hq⟩:=q;exact⟨a,w,hq⟩
      ·exact h2
      ·exact h2
     ·rename_i hw
      rw[if_neg hw] at h
      exact⟨fun _ _=>trivial,zHV hnd r s _ w h⟩
theorem zB6 {Q Q':Exit→Act→World→Prop}(hno:¬ LetsOut Q)(hq:∀ x a w,Q x a w→Q' x a w):∀ (s:List Nat) (a:Act) (w:World),wpOps P ops Q s a w→wpOps P ops Q' s a w
 | [],a,w,h=>hq _ _ _ h
 | i::s,a,w,h=>by
   unfold wpOps at h ⊢
   cases ho:ops[i]? with
   | none=>rw[ho] at h;exact zB6 hno hq s a w h
   | some o =>
     rw[ho] at h
     simp only at h ⊢
     split
     ·rename_i hw
      rw[if_pos hw] at h
      have h2:=h.resolve_right fun hh=>hno hh.2
      refine .inl ?_
      unfold Oper.wp at h2 ⊢
      generalize (execOp a.eval o).run P w=r at h2 ⊢
      unfold Oper.upon at h2 ⊢
      split at h2
      ·exact zB6 hno hq s _ _ h2
      ·exact zB6 hno hq s _ _ h2
      ·exact zB6 hno hq s _ _ h2
      ·refine Calls.mono h2 fun e w' q=>?_
       cases e with
       | returned v=>exact zB6 hno hq s _ _ q
       | panicked c=>exact hq _ _ _ q
       | outgrown=>exact absurd q hno
      ·exact Rows.mono h2 fun v w' q=>zB6 hno hq s _ _ q
      ·exact hq _ _ _ h2
      ·exact h2.elim
     ·rename_i hw
      rw[if_neg hw] at h
      exact zB6 hno hq s _ w h
theorem zOm {ops:Array Oper}:∀ (m k t:Nat),k+m=ops.size→((List.range ops.size).all fun j=>decide (j<k)||(zDT ops j j&&zDT ops j (j+1)))=true→Region.linearise.go .any ops m t (zA1 ops.size k) []=List.range' k m
 | 0,_,_,_,_=>rfl
 | m+1,k,t,hk,hB=>by
   have hs:k<ops.size:=by omega
   have hBk:=List.all_eq_true.1 hB k (List.mem_range.2 hs)
   simp only[Nat.lt_irrefl,decide_false,Bool.false_or,Bool.and_eq_true] at hBk
   have hr:(List.range ops.size).filter (rdy ops (zA1 ops.size k))=[k]:=by
    obtain⟨o',ho',he'⟩:=zCo hBk.2 (show k<k+1 by omega)
    have hkr:rdy ops (zA1 ops.size k) k=true:=by
     simp only[rdy,ho',Option.map_some,Option.getD_some,zAZ _ _ _ hs,Nat.lt_irrefl,decide_false,Bool.not_false,Bool.true_and]
     rw[Array.all_eq_true']
     intro e he
     cases hb:Region.binds .any e with
     | false=>rfl
     | true =>
       have:=he' e he hb
       rw[zAZ _ _ _ (by omega)];simp[this]
    have hno:∀ i,i<ops.size→i≠k→rdy ops (zA1 ops.size k) i=false:=by
     intro i hi hik
     by_cases h1:i<k
     ·simp only[rdy,zAZ _ _ _ hi];simp[h1]
     ·cases hr:rdy ops (zA1 ops.size k) i with
      | false=>rfl
      | true =>
        exfalso
        have hc:=hBk.1
        simp only[zDT,Bool.and_eq_true,decide_eq_true_eq,List.all_eq_true,List.mem_range] at hc
        have h2:=hc.2.2 i hi
        simp only[Bool.or_eq_true,decide_eq_true_eq] at h2
        have h2:=h2.resolve_left (by omega)
        obtain⟨j,hj,hj2⟩:=List.any_eq_true.1 h2
        simp only[Bool.and_eq_true,decide_eq_true_eq] at hj2
        obtain⟨o2,ho2,e,he,hb,hon⟩:=zDy hj2.2
        have hji:=List.mem_range.1 hj
        simp only[rdy,ho2,Option.map_some,Option.getD_some,Bool.and_eq_true] at hr
        have hr2:=hr.2
        rw[Array.all_eq_true'] at hr2
        have:=hr2 e he
        rw[hb,hon,zAZ _ _ _ (by omega)] at this
        have hnk:¬ j<k:=by omega
        simp[hnk] at this
    have:∀ m,m≤ops.size→(List.range m).filter (rdy ops (zA1 ops.size k))=if k<m then[k] else[]:=by
     intro m
     induction m with
     | zero=>intro _;simp
     | succ m ih =>
       intro hm
       rw[List.range_succ,List.filter_append,ih (by omega)]
       by_cases h1:k<m
       ·have hx:=hno m (by omega) (by omega)
        rw[if_pos h1,if_pos (by omega)];simp only[List.filter_cons,hx,List.filter_nil,Bool.false_eq_true,if_false,List.append_nil]
       ·rw[if_neg h1]
        by_cases h2:k=m
        ·subst h2;rw[if_pos (by omega)];simp only[List.filter_cons,hkr,List.filter_nil,if_true,List.nil_append]
        ·have hx:=hno m (by omega) (Ne.symm h2)
         rw[if_neg (by omega)];simp only[List.filter_cons,hx,List.filter_nil,Bool.false_eq_true,if_false,List.append_nil]
    rw[this _ (Nat.le_refl _),if_pos hs]
   have hput:(zA1 ops.size k).setIfInBounds k true=zA1 ops.size (k+1):=by
    refine zJT (by simp[zCM]) (fun i hi=>?_) (fun i hi hi2=>?_)
    ·rw[zBL,zCM]
     split
     ·rfl
     ·rename_i hne
      rw[zAZ _ _ _ (by omega)]
      have:i<k:=by
       rcases Nat.lt_or_ge i k with h|h
       ·exact h
       ·exact absurd ⟨by omega,by omega⟩ hne
      simp[this]
    ·rw[zBL,if_neg (fun h=>by omega),zAZ _ _ _ hi2];simp;omega
   rw[zDE,hr]
   simp only[List.length_singleton,Nat.mod_one,List.getElem?_cons_zero,Nat.div_one,hput]
   rw[zOm m (k+1) t (by omega) (by
    rw[List.all_eq_true] at hB ⊢
    intro j hj
    have:=hB j hj
    simp only[Bool.or_eq_true,decide_eq_true_eq] at this ⊢
    rcases this with h|h
    ·exact .inl (by omega)
    ·exact .inr h)]
   rfl
end
section
open Go.ChangeMaps (setBlock)
variable {P:Program}(S:Sig P){kt:TypeId}{ι ν:Type}[DecidableEq ι]{n:Nw}{ops:Array Oper}{Q:zAQ}{o:Oper}{rest:List Oper}{L:List (Nat × Value)}{b0:Env}{w:World}
theorem m3i {w0:World}{G G':zC}{b clock:Nat}(K:KeyT P kt ι)(val:ν→Value){es:List (ME ι ν)}{x:ι}{v:ν}{t et:TypeId}{X Y V:Operand}{ti:TI}(H:St w0 G w)
  (ho:o.op=.insert t X Y V) (hd:o.dst=none) (hx:ev (ovl L b0) X=.map (some b)) (ht:lk S.tab t=some ti) (htd:ti.d=.map kt et) (hy:ev (ovl L b0) Y=K.v x) (hv:ev (ovl L b0) V=val v)
  (hu:Up b (mo K val es clock) (mo K val (zEk es clock x v) (zEl es clock x)) G G') (k:∀ w',St w0 G' w'→OW P n ops Q rest (ovl L b0) w'):OX P n ops Q o rest (ovl L b0) w:=by
 intro a ha
 unfold Oper.wp
 rw[ha.eval]
 have hun:=S.und ht
 rw[htd] at hun
 simp only[execOp,ho,hx,hy,hv,Sem.run_bind,zFS K val hun (H.mem _ hu.mem) x v,Result.andThen_ok,Sem.run_pure,Oper.upon_skip,hd]
 exact k _ (H.setO hu) _ ha
end
end Go.Sk
namespace Go.Proofs.YthbflajpdhgfiaaGreatDoor
open Go Go.Sk Go.RowKit
attribute [local irreducible] Go.Calls
def KU:KeyT Tryz.prog 5 Int where
 v:=.int .u8
 eq x y w:=by
  show(Op.equalIn 10000 5 (.int .u8 x) (.int .u8 y)).run Tryz.prog w=_
  exact zMQ sg (t:=5) rfl (by rfl) (by rfl) rfl 9999 w
 chk b x w:=by
  show(Instr.checkKey b (9999+1) 5 _).run Tryz.prog w=_
  rw[Instr.checkKey]
  simp only[Sem.run_bind,run_underlying (show Tryz.prog.underlying 5=some (.int .u8) from sg.und (t:=5) rfl),Result.andThen_ok]
  rfl
 same x:=by
  show Instr.sameBits (9999+1) _ _=true
  simp[Instr.sameBits]
 d:=_
 und:=sg.und (t:=5) rfl
 now x y:=.inr rfl
def frI (o:Option Nat):Int:=match o with|some i=>(i:Int)|none=>-1
def frL (k:Int):List Int:=(zAr k).2.map frI
def TabR (M:zC)(v:Value):Prop:=∃ bm es clock,v=.map (some bm)∧(bm,mo KU (fun x:Value=>x) es clock)∈M∧∀ k:Int,1≤k→k≤20→∃ a,atM es k=some (.agg #[.int .u8 (zAr k).1,.slice (some ⟨a,0,none⟩) (frL k).length (frL k).length])∧cb a ((frL k).map (Value.int .i64)) 3∈M
theorem zUj (w0:World):Calls Tryz.prog 51 [].toArray w0 (zi TabR w0):=by
 refine enter [.tmp 0] Tryz.func51 rfl Tryz.ntmps51 rfl rfl ?_
 have H:=zA w0
 repeat' (first|refine yT ?_|(refine z14 sg H ?_;intro b w H)|(refine m1 H ?_;intro bm w H;replace H:St w0 ((bm,mo KU (fun x:Value=>x) [] 0)::_) w:=H)|(refine' m3i sg KU (fun x:Value=>x) H rfl rfl rfl rfl rfl rfl rfl ?_ ?_;rotate_left 3;(repeat (first|exact Up.here|apply Up.there));clear H;intro w H)|refine yU ?_|fail)
 refine zq (vs:=[_]) ⟨zb rfl,trivial⟩ H ⟨bm,_,_,rfl,by repeat (first|exact zz2 _|refine zz5 _ ?_),fun k h1 h2=>?_⟩
 rcases zFJ ⟨h1,h2⟩ with rfl|rfl|rfl|rfl|rfl|rfl|rfl|rfl|rfl|rfl|rfl|rfl|rfl|rfl|rfl|rfl|rfl|rfl|rfl|rfl
 all_goals
  apply Exists.intro
  apply And.intro
  ·simp only[zHJ];rfl
  ·repeat (first|exact zz2 _|refine zz5 _ ?_)
theorem zS5 {F:zC}(s:Sta)(p:SPt)(hW:StaW s)(k:Int)(w0:World)(hF:Mem w0 F)(hs:StaM F s p) :
  Calls Tryz.prog 52 [.agg (s.cells p).toArray,.int .u8 k].toArray w0 (Ret (.tuple #[.int .i64 (zDP s k).1,.int .i64 (zDP s k).2]) w0):=by
 have ha:=hW.ac
 have hi:=hW.ins
 refine enter [.tmp 4,.tmp 5] Tryz.func52 rfl Tryz.ntmps52 rfl rfl ?_
 have H:=zA w0
 repeat' (first|refine yT ?_|refine y7 sg H ?_|(refine y9 H ?_;intro b w H)|refine yU ?_|with_reducible apply zB|(refine y23 ?_ ?_;all_goals intro h)|fail)
 all_goals first
  | (refine zA5 (vs:=[_,_]) ⟨zb rfl,zb rfl,trivial⟩ H.cl ?_
     simp only[beq_iff_eq,beq_eq_false_iff_ne,ne_eq] at *
     unfold zDP
     first
      | (rw[if_pos (by assumption),w64 qO qO];rfl)
      | (rw[if_neg qO,if_pos (by assumption),w64 qO qO];rfl)
      | (rw[if_neg qO,if_neg qO,if_pos (by assumption)];rfl)
      | (rw[if_neg qO,if_neg qO,if_neg qO];rfl))
end Go.Proofs.YthbflajpdhgfiaaGreatDoor
