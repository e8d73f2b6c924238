/- Steps of the proof. -/
import Derived.Test.YtejhijhnlogikaaGreatDoorMe27
set_option linter.all false
set_option maxHeartbeats 16000000
namespace Go.Proofs.YtejhijhnlogikaaGreatDoor
open Go Go.Sk Go.RowKit Go.Proofs.Tryz
attribute [local irreducible] Go.Calls
def zDe (a b q:Int)(x:Odr):Odr:=if x.id=a\/x.id=b then zBr x q else x
theorem zNt (a b q:Int)(hab:a≠b):∀ l:List Odr,(∀ x∈l,x.left≠0)->zBi (zBi l a q) b q=(l.map (zDe a b q)).filter fun o=>decide (o.left≠0)
 | [],_=>rfl
 | x::l,h=>by
   have ih:=zNt a b q hab l fun y hy=>h y (zz5 _ hy)
   have hx:=h x (zz2 _)
   unfold zBi at ih ⊢
   rw[List.map_cons,List.map_cons,List.filter_cons,List.filter_cons]
   by_cases h1:x.id=a
   .have e1:(if x.id=a then{ x with left:=x.left - q } else x)=zBr x q:=by rw[if_pos h1];rfl
    have e2:zDe a b q x=zBr x q:=by unfold zDe;rw[if_pos (.inl h1)]
    rw[e1,e2]
    by_cases h0:(zBr x q).left≠0
    .rw[if_pos (yyb h0),if_pos (yyb h0),List.map_cons,List.filter_cons]
     have e3:(if (zBr x q).id=b then{ zBr x q with left:=(zBr x q).left - q } else zBr x q)=zBr x q:=if_neg (by show x.id≠b;rw[h1];exact hab)
     rw[e3,if_pos (yyb h0),ih]
    .rw[if_neg (by simpa using h0),if_neg (by simpa using h0),ih]
   .have e1:(if x.id=a then{ x with left:=x.left - q } else x)=x:=if_neg h1
    rw[e1,if_pos (yyb hx),List.map_cons,List.filter_cons]
    by_cases h2:x.id=b
    .have e2:zDe a b q x=zBr x q:=by unfold zDe;rw[if_pos (.inr h2)]
     have e3:(if x.id=b then{ x with left:=x.left - q } else x)=zBr x q:=by rw[if_pos h2];rfl
     rw[e2,e3,ih]
    .have e2:zDe a b q x=x:=by unfold zDe;rw[if_neg (fun e=>e.elim h1 h2)]
     have e3:(if x.id=b then{ x with left:=x.left - q } else x)=x:=if_neg h2
     rw[e2,e3,ih]
theorem zVg {l:List Odr}(h:zb l=true){u:Odr}(hu:u∈l){i s:Int}(he:(zBM l i s).1.id=u.id):zBM l i s=(u,true):=by{
have hu1:=((zAK.1 h).2.1 u hu).1;rw[zEw] at he ⊢;cases hh:(zCL l i s).head? with
| none=>rw[hh] at he;exact absurd he (by show(0:Int)≠u.id;omega)
| some o =>
  rw[hh] at he;have hm:o∈l:=(List.mem_filter.1 ((zCM (i:=i) (s:=s) h).mem_iff.1 (List.mem_of_mem_head? hh))).1;have e1:=zBc h hm;have e2:=zBc h hu;have he:o.id=u.id:=he;rw[he,e2] at e1;rw[(Prod.mk.inj e1).1]}
structure TradeFx (s t:Sta)(n:List Int)(o u:Odr):Prop where
 fo:zO s.orders (nF n 0)=(o,true)
 fu:zO s.orders (nF n 1)=(u,true)
 fst:zBM s.orders u.inst u.side=(u,true)
 last:o.id=s.nextO - 1
 side:o.side≠u.side
 inst:o.inst=u.inst
 acct:o.acct≠u.acct
 cross:zw o u=true
 price:nF n 2=u.price
 prod:0<=nF n 2*nF n 3/\nF n 2*nF n 3<=1125899906842624
 fee:nF n 4=(zBq (nF n 2*nF n 3) s.fee).1
 qty:1<=nF n 3/\nF n 3<=o.left/\nF n 3<=u.left/\(nF n 3=o.left\/nF n 3=u.left)
 ords:t.orders=(s.orders.map (zDe o.id u.id (nF n 3))).filter fun o=>decide (o.left≠0)
 nn:∀ x∈s.orders,0<=(zDe o.id u.id (nF n 3) x).left
 gone:∃ x∈s.orders,(zDe o.id u.id (nF n 3) x).left=0
theorem zSX {s t:Sta}{n:List Int}(h:Good s)(he:zDn s n=(t,0)):∃ o u,TradeFx s t n o u:=by{
unfold zDn at he;simp only at he;by_cases h1:(zO s.orders (nF n 0)).2=true/\(zO s.orders (nF n 1)).2=true
.rw[if_pos h1] at he;obtain⟨_,f1,f2⟩:=zC5 h1.1;obtain⟨_,g1,g2⟩:=zC5 h1.2;have fo:zO s.orders (nF n 0)=((zO s.orders (nF n 0)).1,true):=Prod.ext rfl h1.1;have fu:zO s.orders (nF n 1)=((zO s.orders (nF n 1)).1,true):=Prod.ext rfl h1.2;generalize (zO s.orders (nF n 0)).1=o at he f1 f2 fo;generalize (zO s.orders (nF n 1)).1=u at he g1 g2 fu;by_cases h2:zDR s n o u=true
 .rw[if_pos h2] at he;unfold zDR at h2;simp only[yy3,beq_iff_eq] at h2;obtain⟨⟨⟨⟨⟨hl,hf⟩,hc⟩,hp⟩,hq⟩,hfee⟩:=h2;obtain⟨mo,mu,hin,hsd,hpr⟩:=zBs hc;by_cases h3:o.acct=u.acct
  .rw[if_pos h3] at he;exact absurd (Prod.mk.inj he).2 (by decide)
  rw[if_neg h3] at he;by_cases h4:(zf s (if o.side=2 then zBX u o o.inst (nF n 2) (nF n 3) (nF n 4) else zBX o u o.inst (nF n 2) (nF n 3) (nF n 4))).2≠0
  .rw[if_pos h4] at he;rw[he] at h4;exact absurd rfl h4
  rw[if_neg h4] at he;obtain rfl:=(Prod.mk.inj he).1;have lo:=mo.2.2.2.2.2;have lu:=mu.2.2.2.2.2;have pu:=mu.2.2.2.2.1;have q1:1<=nF n 3:=by{omega};have q2:nF n 3<=o.left:=by omega
  have q3:nF n 3<=u.left:=by{omega};have fx:=zG9 h.ords f1 q1 q2
  have hne:u.id≠o.id:=fun e=>by have:=zBc h.ords f1;rw[<- e,zBc h.ords g1] at this;have:=(Prod.mk.inj this).1;rw[this] at hsd;exact hsd rfl
  have hl0:∀ x∈s.orders,x.left≠0:=fun x hx=>by have:=((zAK.1 h.ords).2.1 x hx).2.2.2.2.2;omega
  have e1:(zA1 (zA1 s.orders o.id (nF n 3)).1 u.id (nF n 3)).1=zBi (zBi s.orders o.id (nF n 3)) u.id (nF n 3):=by{rw[zEH h.ords f1 q1 q2,zEH fx.ok (fx.keep u g1 hne) q1 q3]};have hmul:=zGX (p:=nF n 2) (q:=nF n 3) qO qO qO qO
  have hprod:0<=nF n 2*nF n 3/\nF n 2*nF n 3<=1125899906842624:=by{omega};have hm:(zIR (nF n 2) (nF n 3)).1=nF n 2*nF n 3:=by unfold zIR;rw[if_neg qO,if_neg qO]
  have uniq:∀ x∈s.orders,∀ y∈s.orders,x.id=y.id->x=y:=fun x hx y hy e=>by have:=zBc h.ords hx;rw[e,zBc h.ords hy] at this;exact(Prod.mk.inj this).1.symm
  have hval:∀ x∈s.orders,(zDe o.id u.id (nF n 3) x).left=if x=o\/x=u then x.left - nF n 3 else x.left:=fun x hx=>by
   unfold zDe;by_cases c:x.id=o.id\/x.id=u.id
   .rw[if_pos c,if_pos (c.imp (uniq x hx o f1) (uniq x hx u g1))];rfl
   .rw[if_neg c,if_neg (fun e=>c (e.imp (congrArg Odr.id) (congrArg Odr.id)))]
  refine⟨o,u,fo,fu,zVg h.ords g1 hf,hl,hsd,hin,h3,hc,hp,hprod,by rw[hfee,hm],⟨q1,q2,q3,by omega⟩,?_,fun x hx=>?_,?_⟩
  .show(zA1 (zA1 s.orders o.id (nF n 3)).1 u.id (nF n 3)).1=_;rw[e1,zNt _ _ _ (Ne.symm hne) _ hl0]
  .rw[hval x hx];have:=((zAK.1 h.ords).2.1 x hx).2.2.2.2.2;split
   .rename_i c;rcases c with rfl|rfl<;>omega
   .omega
  .rcases(show nF n 3=o.left\/nF n 3=u.left by omega) with e|e
   .exact⟨o,f1,by rw[hval o f1,if_pos (.inl rfl)];omega⟩
   .exact⟨u,g1,by rw[hval u g1,if_pos (.inr rfl)];omega⟩
 .rw[if_neg h2] at he;exact absurd (Prod.mk.inj he).2 (by decide)
.rw[if_neg h1] at he;exact absurd (Prod.mk.inj he).2 (by decide)}
theorem zMH {s t:Sta}{e:Evt}(hd:zM s e=(t,0))(hk:e.kind=13):∃ o u,TradeFx s t e.nums o u:=by obtain⟨g1,_,_,_,_,hd⟩:=zBt hd;rw[hk] at hd;exact zSX g1 hd
inductive Beh (nx:WS->Option Evt):WS->WS->Prop
 | here {x:WS}:Beh nx x x
 | on {x y:WS} {e:Evt} (h:nx x=some e) (he:(zM x.s e).2=0) (k:Beh nx (x.go e) y):Beh nx x y
theorem zPY {nx:WS->Option Evt}{cap:Bool}:∀ (n:Nat) (x:WS) (l:List Evt),zKG nx cap n x=(l,0)->∃ y,Beh nx x y/\nx y=none/\y.l=l/\(cap=true->y.l.length<=max x.l.length 32)
 | 0,_,_,h=>absurd (Prod.mk.inj h).2 (by decide)
 | n+1,x,l,h=>by
   unfold zKG at h
   split at h
   .rename_i h1
    exact⟨x,.here,h1,(Prod.mk.inj h).1,fun _=>by omega⟩
   .rename_i e h1
    split at h
    .exact absurd (Prod.mk.inj h).2 (by decide)
    .rename_i h2
     split at h
     .rename_i h3;exact absurd (Prod.mk.inj h).2 h3
     .rename_i h3
      obtain⟨y,k1,k2,k3,k4⟩:=zPY n _ l h
      refine⟨y,.on h1 (Decidable.of_not_not h3) k1,k2,k3,fun hc=>?_⟩
      have:=k4 hc
      have h5:x.l.length<=31:=by
       have:¬ 31<x.l.length:=fun g=>h2 ⟨hc,g⟩
       omega
      have e:(x.go e).l.length=x.l.length+1:=by show(x.l++[e]).length=_;simp
      omega
theorem zHP {s:Sta}(g:Good s)(e:Evt):zM s e=zAG s e:=by unfold zM;rw[if_pos (zAl.2 g)]
theorem Beh.all {nx:WS->Option Evt}{x y:WS}(h:Beh nx x y)(g:Good x.s):∃ es,y.l=x.l++es/\zAx x.s es 0=(y.s,(es.length:Int),0)/\Good y.s/\∀ e∈es,e.v=3/\zk e=true:=by{
induction h with
| here=>exact⟨[],by simp,rfl,g,fun e he=>nomatch he⟩
| @on x y e h1 he k ih =>
  have e1:zM x.s e=((zM x.s e).1,0):=Prod.ext rfl he;obtain⟨_,g2,_,v,m,_⟩:=zBt e1;obtain⟨es,k1,k2,k3,k4⟩:=ih g2;refine⟨e::es,by rw[k1];show(x.l++[e])++es=_;simp,?_,k3,fun z hz=>?_⟩
  .rw[all_cons,<- zHP g,if_pos he,zIh];show((zAx (zM x.s e).1 es 0).1,0+1+(zAx (zM x.s e).1 es 0).2.1,(zAx (zM x.s e).1 es 0).2.2)=_;have k2':zAx (zM x.s e).1 es 0=(y.s,(es.length:Int),0):=k2;rw[k2'];simp only[List.length_cons]
   congr 2
   omega
  .rcases List.mem_cons.1 hz with rfl|hz
   .exact⟨v,m⟩
   .exact k4 z hz}
theorem Beh.pre {nx:WS->Option Evt}{x y:WS}(h:Beh nx x y):∃ es,y.l=x.l++es:=by{
induction h with
| here=>exact⟨[],by simp⟩
| @on x y e h1 he k ih =>
  obtain⟨es,k1⟩:=ih;exact⟨e::es,by rw[k1];show(x.l++[e])++es=_;simp⟩}
theorem Beh.keeps {nx:WS->Option Evt}{I:WS->Prop}(hs:∀ x e,I x->nx x=some e->(zM x.s e).2=0->I (x.go e)){x y:WS}(h:Beh nx x y)(h0:I x):I y:=by{
induction h with
| here=>exact h0
| @on x y e h1 he k ih=>exact ih (hs _ _ h0 h1 he)}
theorem zIK (s:Sta)(c:Cmd):((zj s c).2≠0/\(zj s c).1.nums=[]/\(zj s c).1=evZ)\/((zj s c).2=0/\Good s/\zGF c=true/\(zj s c).1.v=3/\(zj s c).1.kind=(zA0 c.kind).1/\(zj s c).1.nums=(zA0 c.kind).2.map (fun o=>match o with|some i=>nF c.nums i|none=>(zDs s (zA0 c.kind).1).1)/\(zj s c).1.texts=if c.text.size=0 then[] else[c.text]):=by{
unfold zj;split
.exact .inl ⟨(by decide),rfl,rfl⟩
.rename_i h1;split
 .exact .inl ⟨(by decide),rfl,rfl⟩
 .rename_i h2;split
  .exact .inl ⟨(by decide),rfl,rfl⟩
  .split
   .exact .inl ⟨(by decide),rfl,rfl⟩
   .split
    .exact .inl ⟨(by decide),rfl,rfl⟩
    .exact .inr ⟨rfl,zAl.1 (by simpa using h1),by simpa using h2,rfl,rfl,rfl,rfl⟩}
theorem zMI {k:Int}(h:1<=k/\k<=20):(zA0 k).1=11↔k=11:=by rcases zEK h with rfl|rfl|rfl|rfl|rfl|rfl|rfl|rfl|rfl|rfl|rfl|rfl|rfl|rfl|rfl|rfl|rfl|rfl|rfl|rfl<;>decide
theorem zPZ {k:Int}(h:1<=k/\k<=20):(zA0 k).1=20↔k=17:=by rcases zEK h with rfl|rfl|rfl|rfl|rfl|rfl|rfl|rfl|rfl|rfl|rfl|rfl|rfl|rfl|rfl|rfl|rfl|rfl|rfl|rfl<;>decide
theorem zVh {k:Int}(h:1<=k/\k<=20):(zA0 k).1≠13:=by rcases zEK h with rfl|rfl|rfl|rfl|rfl|rfl|rfl|rfl|rfl|rfl|rfl|rfl|rfl|rfl|rfl|rfl|rfl|rfl|rfl|rfl<;>decide
structure CmdOk (s:Sta)(c:Cmd)(l:List Evt)(f:Evt)(t y:Sta):Prop where
 first:zj s c=(f,0)
 good:Good s
 may:zGF c=true
 kind:f.kind=(zA0 c.kind).1
 ev:zM s f=(t,0)
 beh:(c.kind=11/\∃ z,Beh (trN (nF f.nums 0)) ⟨[],t,[f]⟩ z/\trN (nF f.nums 0) z=none/\z.l=l/\z.s=y/\l.length<=32)\/(c.kind=17/\∃ z,Beh saN ⟨(zFH t.aucs t.clock).map (·.id),t,[f]⟩ z/\saN z=none/\z.l=l/\z.s=y)\/(c.kind≠11/\c.kind≠17/\l=[f]/\y=t)
theorem zPa {s:Sta}{c:Cmd}{l:List Evt}(h:zCb s c=(l,0)):∃ f t y,CmdOk s c l f t y:=by{
unfold zCb at h;simp only at h;split at h
.rename_i h1;exact absurd (Prod.mk.inj h).2 h1
rename_i h1;split at h
.rename_i h2;exact absurd (Prod.mk.inj h).2 h2
rename_i h2;have h1:=Decidable.of_not_not h1;have h2:=Decidable.of_not_not h2;rcases zIK s c with ⟨g,_⟩|⟨_,g1,g2,g3,g4,g5,g6⟩
.exact absurd h1 g
have hk:=zFe g2;have e1:zj s c=((zj s c).1,0):=Prod.ext rfl h1;have e2:zM s (zj s c).1=((zM s (zj s c).1).1,0):=Prod.ext rfl h2;split at h
.rename_i h3;obtain⟨z,k1,k2,k3,k4⟩:=zPY _ _ _ h;refine⟨_,_,z.s,e1,g1,g2,g4,e2,.inl ⟨(zMI hk).1 (g4 ▸ h3),z,k1,k2,k3,rfl,?_⟩⟩;have:=k4 rfl;rw[k3] at this;have h2:l.length<=max 1 32:=this;omega
.rename_i h3;split at h
 .rename_i h4;obtain⟨z,k1,k2,k3,_⟩:=zPY _ _ _ h;exact⟨_,_,z.s,e1,g1,g2,g4,e2,.inr (.inl ⟨(zPZ hk).1 (g4 ▸ h4),z,k1,k2,k3,rfl⟩)⟩
 .rename_i h4;exact⟨_,_,_,e1,g1,g2,g4,e2,.inr (.inr ⟨fun e=>h3 (g4 ▸ (zMI hk).2 e),fun e=>h4 (g4 ▸ (zPZ hk).2 e),(Prod.mk.inj h).1.symm,rfl⟩)⟩}
theorem CmdOk.all {s:Sta}{c:Cmd}{l:List Evt}{f:Evt}{t y:Sta}(h:CmdOk s c l f t y):zCs s l=(y,(l.length:Int),0)/\Good y/\Good t/\(∃ es,l=f::es)/\∀ e∈l,e.v=3/\zk e=true:=by{
obtain⟨_,g2,_,v,m,_⟩:=zBt h.ev;have key:∀ (nx:WS->Option Evt) (ids:List Int) (z:WS),Beh nx ⟨ids,t,[f]⟩ z->zCs s z.l=(z.s,(z.l.length:Int),0)/\Good z.s/\(∃ es,z.l=f::es)/\∀ e∈z.l,e.v=3/\zk e=true:=fun nx ids z hb=>by
 obtain⟨es,k1,k2,k3,k4⟩:=hb.all g2;have k1:z.l=f::es:=k1;have k2:zAx t es 0=(z.s,(es.length:Int),0):=k2;refine⟨?_,k3,⟨es,k1⟩,fun e he=>?_⟩
 .unfold zCs;rw[if_pos (zAl.2 h.good),k1,all_cons,<- zHP h.good,h.ev,if_pos rfl,zIh,k2];simp only[List.length_cons]
  congr 2
  omega
 .rw[k1] at he;rcases List.mem_cons.1 he with rfl|he
  .exact⟨v,m⟩
  .exact k4 e he
rcases h.beh with ⟨_,z,k1,_,rfl,rfl,_⟩|⟨_,z,k1,_,rfl,rfl⟩|⟨_,_,rfl,rfl⟩
.obtain⟨a,b,c,d⟩:=key _ _ _ k1;exact⟨a,b,g2,c,d⟩
.obtain⟨a,b,c,d⟩:=key _ _ _ k1;exact⟨a,b,g2,c,d⟩
.obtain⟨a,b,c,d⟩:=key _ [] ⟨[],y,[f]⟩ (Beh.here (nx:=saN));exact⟨a,b,g2,c,d⟩}
theorem CM.named {P:Program}{nw:Nw}{c:Code}{Q:List Deferred->zAM}{e:Env}{w:World}(R:Env->World->Prop)(h:R e w)(k:∀ e w,R e w->CM P nw c Q e w):CM P nw c Q e w:=k e w h
theorem zVi {bw:Nat}{id:Int}(w0:World):Cf 116 [(pt bw),.int .i64 id] (fun M v=>∃ c1 c2,M=[cb c2 [.int .i64 id] 2,cb c1 [(pt bw)] 123]/\v=.func (.func 147) #[] #[(pt c1),(pt c2)]) w0:=by refine eS func116 ntmps116 fun H=>?_;(repeat' first|refine yW ?_|(refine yB ?_;intro b w H)|fail);exact zL (M:=_) rfl H ⟨_,_,rfl,rfl⟩
theorem zXW {bw:Nat}(w0:World):Cf 117 [(pt bw)] (fun M v=>∃ c1,M=[cb c1 [(pt bw)] 123]/\v=.func (.func 149) #[] #[(pt c1)]) w0:=by refine eS func117 ntmps117 fun H=>?_;(repeat' first|refine yW ?_|(refine yB ?_;intro b w H)|fail);exact zL (M:=_) rfl H ⟨_,rfl,rfl⟩
theorem zVj (w0:World):Cf 118 [.slice none 0 0] (fun M v=>∃ c1,M=[cb c1 [.slice none 0 0] 30]/\v=.func (.func 151) #[] #[(pt c1)]) w0:=by refine eS func118 ntmps118 fun H=>?_;(repeat' first|refine yW ?_|(refine yB ?_;intro b w H)|fail);exact zL (M:=_) rfl H ⟨_,rfl,rfl⟩
def zFo (f:Evt):WS->Option Evt:=if f.kind=11 then trN (nF f.nums 0) else if f.kind=20 then saN else fun _=>none
def zH0 (f:Evt)(t:Sta):List Int:=if f.kind=20 then(zFH t.aucs t.clock).map (·.id) else[]
theorem zXX (s:Sta)(c:Cmd)(h1:(zj s c).2=0)(h2:(zM s (zj s c).1).2=0):zCb s c=zKG (zFo (zj s c).1) (decide ((zj s c).1.kind=11)) (if (zj s c).1.kind=11 then 40 else(zH0 (zj s c).1 (zM s (zj s c).1).1).length+1) ⟨zH0 (zj s c).1 (zM s (zj s c).1).1,(zM s (zj s c).1).1,[(zj s c).1]⟩:=by{
unfold zCb zFo zH0;simp only;rw[if_neg (by rw[h1];exact fun h=>h rfl),if_neg (by rw[h2];exact fun h=>h rfl)];by_cases h3:(zj s c).1.kind=11
.rw[if_pos h3,if_pos h3,if_pos h3,if_neg qO,yyb h3]
.rw[if_neg h3,if_neg h3,if_neg h3];by_cases h4:(zj s c).1.kind=20
 .rw[if_pos h4,if_pos h4,if_pos h4,yyc h3,yyp]
 .rw[if_neg h4,if_neg h4,if_neg h4];rfl}
theorem permJ {X A G S R:zA}:(X++(A++(G++(S++R)))).Perm (S++(X++(A++(R++G)))):=by{
have h1:(G++(S++R)).Perm (S++(R++G)):=by
 have:=yyg (l₁:=G) (l₂:=S++R)
 rwa [yyh] at this
exact(((h1.append_left A).trans (yyf A S (R++G))).append_left X).trans (yyf X S (A++(R++G)))}
theorem permK {S X Z:zA}:(S++(X++Z)).Perm (X++(Z++S)):=by
 have:=yyg (l₁:=S) (l₂:=X++Z)
 rwa [yyh] at this
def BehR (bw:Nat)(e:Evt)(M:zA)(v:Value):Prop :=
 (e.kind=11/\∃ c1 c2,M=[cb c2 [.int .i64 (nF e.nums 0)] 2,cb c1 [(pt bw)] 123]/\v=.func (.func 147) #[] #[(pt c1),(pt c2)]) \/
 (e.kind=20/\∃ c1,M=[cb c1 [(pt bw)] 123]/\v=.func (.func 149) #[] #[(pt c1)]) \/
 (e.kind≠11/\e.kind≠20/\∃ c1,M=[cb c1 [.slice none 0 0] 30]/\v=.func (.func 151) #[] #[(pt c1)])
theorem zVk {F:zA}{bw:Nat}(e:Evt)(q:EPt)(w0:World)(hF:Mem w0 F)(hE:EvtM F e q)(h1:e.kind=11->0<e.nums.length) :
  Cf 79 [(pt bw),.agg (e.cells q).toArray] (BehR bw e) w0:=by{
obtain⟨⟨hn1,hc1,k1,off1,cs1,T1,fr1,hs1⟩,_⟩:=hE;by_cases k11:e.kind=11
.have d1:(e.kind==11)=true:=by simpa using k11
 have hl:=h1 k11;refine eS func79 ntmps79 fun H=>?_;(repeat' first|refine yW ?_|(refine yB ?_;intro b w H)|refine x40 sg hs1 ?_|refine z13 (zLB sg hs1 (H.memF hF) hl) ?_|(refine f0 ent116 ?_;refine⟨_,zVi _,?_⟩;clear H;intro v M w hR H;(try simp only[zca,zcb] at H);obtain⟨c1,c2,rfl,rfl⟩:=hR)|fail);exact zL (M:=[_,_]) rfl (H.sub (zz7 _ _)) (.inl ⟨k11,c1,c2,rfl,rfl⟩)
have d1:(e.kind==11)=false:=by simpa using k11
by_cases k20:e.kind=20
.have d2:(e.kind==20)=true:=by simpa using k20
 refine eS func79 ntmps79 fun H=>?_;(repeat' first|refine yW ?_|(refine yB ?_;intro b w H)|(refine f0 ent117 ?_;refine⟨_,zXW _,?_⟩;clear H;intro v M w hR H;(try simp only[zca,zcb] at H);obtain⟨c1,rfl,rfl⟩:=hR)|fail);exact zL (M:=[_]) rfl (H.sub (zz7 _ _)) (.inr (.inl ⟨k20,c1,rfl,rfl⟩))
have d2:(e.kind==20)=false:=by simpa using k20
refine eS func79 ntmps79 fun H=>?_;(repeat' first|refine yW ?_|(refine yB ?_;intro b w H)|(refine f0 ent118 ?_;refine⟨_,zVj _,?_⟩;clear H;intro v M w hR H;(try simp only[zca,zcb] at H);obtain⟨c1,rfl,rfl⟩:=hR)|fail);exact zL (M:=[_]) rfl (H.sub (zz7 _ _)) (.inr (.inr ⟨k11,k20,c1,rfl,rfl⟩))}
structure BehOk (F:zA)(w0:World)(bw:Nat)(f:Evt)(x0:WS)(gf:FuncId)(lb:List Value)(M:zA)(Ex:WS->zA->Prop):Prop where
 ent:Ent prog gf
 it:zNm prog w0 gf lb Ex (PreE (zFo f)) (nxE (zFo f)) (fun x=>zFo f x=none) x0
 ex:∀ x M',ExW F bw x M'->M⊆M'->Ex x M'
 mono:∀ x y M',Ex x M'->Ex x (y::M')
theorem zXY {F M:zA}{w0:World}{bw:Nat}{f:Evt}{x0:WS}{v:Value}(hF:Mem w0 F)(hP:PriM F)(hx:x0.ids=zH0 f x0.s)(h:BehR bw f M v):∃ gf lb Ex,v=.func (.func gf) #[] lb.toArray/\BehOk F w0 bw f x0 gf lb M Ex:=by{
rcases h with ⟨k,c1,c2,rfl,rfl⟩|⟨k,c1,rfl,rfl⟩|⟨k,k2,c1,rfl,rfl⟩
.have e:zFo f=trN (nF f.nums 0):=by unfold zFo;rw[if_pos k]
 refine⟨_,[_,_],ExT F bw c1 c2 (nF f.nums 0),rfl,ent147,?_,fun x M' h1 h2=>⟨h1,h2 (zz5 _ (zz2 _)),h2 (zz2 _)⟩,fun x y M' h=>⟨h.1.cons,zz4 _ h.2.1,zz4 _ h.2.2⟩⟩;rw[e];exact zSQ hF hP _ bw c1 c2 x0
.have e:zFo f=saN:=by unfold zFo;rw[if_neg qO,if_pos k]
 refine⟨_,[_],ExS F bw c1,rfl,ent149,?_,fun x M' h1 h2=>⟨h1,h2 (zz2 _)⟩,fun x y M' h=>⟨h.1.cons,zz4 _ h.2⟩⟩;rw[e];unfold zH0 at hx;rw[if_pos k] at hx;exact zVf hF bw c1 x0 hx
.have e:zFo f=fun _=>none:=by unfold zFo;rw[if_neg k,if_neg k2]
 refine⟨_,[_],ExV c1,rfl,ent151,?_,fun x M' h1 h2=>h2 (zz2 _),fun x y M' h=>zz4 _ h⟩;rw[e];intro l K Kd hEx hY M G' w hK H;exact(zXV c1 x0 l K Kd hEx hY M G' w hK H).mono fun e w' ⟨v,N',h1,h2,h3⟩=>⟨v,N',h1,h2.imp (fun⟨s,M2,_,k⟩=>⟨s,M2,rfl,k⟩) id,h3⟩}
theorem zVl {s:Sta}{c:Cmd}{f:Evt}(hc:zGG c)(h:zj s c=(f,0)):Good s/\zAr f/\(f.kind=11->0<f.nums.length):=by{
rcases zIK s c with ⟨g,_⟩|⟨_,g1,g2,g3,g4,g5,g6⟩
.rw[h] at g;exact absurd rfl g
rw[h] at g3 g4 g5 g6;have hk:=zFe g2;have key:∀ j∈List.range 20,0<=(zNQ.getD j (0,[])).1/\(zNQ.getD j (0,[])).1<=23/\((zNQ.getD j (0,[])).1=11->0<(zNQ.getD j (0,[])).2.length):=by decide
have:=key (c.kind - 1).toNat (List.mem_range.2 qO);refine⟨g1,⟨by simp only at g3;omega,by simp only at g4;unfold zA0 at g4;omega,fun t ht=>?_⟩,fun h11=>?_⟩
.simp only at g6;rw[g6] at ht;split at ht
 .cases ht
 .rw[List.mem_singleton.1 ht];exact hc.2
.simp only at g4 g5;rw[g5,yyp];unfold zA0 at g4 ⊢;exact this.2.2 (g4 ▸ h11)}
def Fuel (cap:Bool)(n:Nat)(x:WS):Prop:=(cap=true->n+x.l.length=41/\x.l.length<=32/\x.ids=[])/\(cap=false->n=x.ids.length+1/\x.l.length+x.ids.length<=40)
structure JW (F:zA)(nx:WS->Option Evt)(cap:Bool)(res:List Evt × Int)(cl:zA)(b4 b5 b6 b8 bw:Nat)(f:Evt)(qf:EPt)(n:Nat)(p:SPt)(a:OA)(cp:Nat)(q:Nat->EPt)(O N:zA)(x:WS)(M:zA):Prop where
 mem:M=cb b8 [(pt bw)] 123::cb b6 (f.cells qf) 61::cb b5 [.int .i64 0] 31::cb b4 [.slice none 0 0] 30::cb bw (wkc x.s p a x.l.length cp 0) 125::(O++N)
 own:Go.Sk.Own O 61 4 a x.l.length cp (evX x.l q)
 sta:StaM (N++F) x.s p
 evs:∀ j,j<x.l.length->EvtM N (ev_ x.l j) (q j)
 good:Good x.s
 cls:cl⊆N
 fuel:Fuel cap n x
 res:zKG nx cap n x=res
def JX (F:zA)(nx:WS->Option Evt)(cap:Bool)(res:List Evt × Int)(cl:zA)(b4 b5 b6 b8 bw:Nat)(f:Evt)(qf:EPt)(x:WS)(M:zA):Prop:=∃ n p a cp q O N,JW F nx cap res cl b4 b5 b6 b8 bw f qf n p a cp q O N x M
def JD (res:List Evt × Int)(b4 b5:Nat)(M:zA):Prop:=∃ e x y R,res=([],e)/\M=x::y::cb b5 [.int .i64 e] 31::cb b4 [.slice none 0 0] 30::R
def CmdR (r:List Evt × Int)(M:zA)(v:Value):Prop:=∃ a cap q,v=.tuple #[.slice a r.1.length cap,.int .i64 r.2]/\EvsM M a cap r.1 q
theorem zJy (e:Int):CmdR ([],e) [] (.tuple #[.slice none 0 0,.int .i64 e]):=⟨none,0,fun _=>zEN,rfl,⟨zzD _,zzD _,0,0,[],0,(0,0),fun h=>absurd h (yyz 0)⟩,fun j hj=>absurd hj (zzE _)⟩
theorem zSY {F:zA}{s:Sta}{p:SPt}{c:Cmd}{na:OA}{nc:Nat}(hW:StaW s)(hc:zGG c)(w0:World)(hF:Mem w0 F)(hP:PriM F)(hK:KinM F)(hC:ComM F)(hs:StaM F s p)(hN:Ints F na nc c.nums) :
  Cf 38 [.agg (s.cells p).toArray,.agg (c.cells na nc).toArray] (CmdR (zCb s c)) w0:=by{
have hfst:=fun w (hG:Mem w F)=>zVZ hW hc w hG hC hs hN;obtain⟨f,k,hf⟩:∃ f k,zj s c=(f,k):=⟨_,_,rfl⟩;rw[hf] at hfst;refine zTt [.cell 4 30,.cell 5 31] func38 rfl ntmps38 rfl rfl ?_;have H:=zBm w0;refine CM.seq ?_;(repeat' first|refine yW ?_|(refine yB ?_;intro b w H)|fail);refine CM.seq ?_;(repeat' first|refine yW ?_|(refine yB ?_;intro b w H)|(refine y11 sg H ?_;intro w H)|(refine f0 ent77 ?_;refine⟨_,hfst _ (H.memF hF),?_⟩;clear H;intro v M w hR H;(try simp only[zca,zcb] at H);obtain⟨qf,rfl,hE⟩:=hR)|fail);refine CM.named (fun en1 w=>∃ bs bc b4 b5 b6 en',en1=ovl [(2,(pt bs)),(3,(pt bc)),(4,(pt b4)),(5,(pt b5)),(6,(pt b6)),(7,.int .i64 k)] en'/\St w0 (cb b6 (f.cells qf) 61::cb b5 [.int .i64 0] 31::cb b4 [.slice none 0 0] 30::cb bc (c.cells na nc) 29::cb bs (s.cells p) 40::M) w) ⟨_,_,_,_,_,_,zz rfl (zz rfl (zz rfl (zA2 rfl rfl rfl))),H⟩ ?_;clear H;rintro _ w ⟨bs,bc,b4,b5,b6,en',rfl,H⟩;by_cases hk:k=0;rotate_left
.have dk:(k != 0)=true:=by simpa using hk
 have eP:zCb s c=([],k):=by unfold zCb;rw[hf,if_pos hk]
 rw[eP];refine CM.seq ?_;(repeat' first|refine yW ?_|(refine y11 sg H ?_;intro w H)|fail);exact⟨[_,_],⟨zg sg rfl H.mem qB rfl rfl,zg sg rfl H.mem qB rfl rfl,trivial⟩,_,[],rfl,zJy k,H.sub (zz9 _)⟩
subst hk;refine CM.seq ?_;(repeat' first|refine yW ?_|fail);refine CM.seq ?_;(repeat' first|refine yW ?_|(refine yB ?_;intro b w H)|(refine y11 sg H ?_;intro w H)|fail);obtain⟨gS,hEt,h11⟩:=zVl hc hf;refine CM.named (fun en1 w=>∃ b8 bw en',en1=ovl [(4,(pt b4)),(5,(pt b5)),(6,(pt b6)),(8,(pt b8))] en'/\St w0 (cb b8 [(pt bw)] 123::cb bw (wkc s p none 0 0 0) 125::cb b6 (f.cells qf) 61::cb b5 [.int .i64 0] 31::cb b4 [.slice none 0 0] 30::(cb bc (c.cells na nc) 29::cb bs (s.cells p) 40::M)) w) ⟨_,_,_,zz rfl (zA2 rfl rfl rfl),H⟩ ?_;clear H;rintro _ w ⟨b8,bw,en',rfl,H⟩;obtain⟨N0,hN0⟩:∃ N0,cb bc (c.cells na nc) 29::cb bs (s.cells p) 40::M=N0:=⟨_,rfl⟩;have hMN:M⊆N0:=by rw[<- hN0];exact fun x hx=>zz4 _ (zz4 _ hx)
rw[hN0] at H;have hE0:=hE.mono hMN;have cdo:=fun w (H:St w0 (cb b8 [(pt bw)] 123::cb bw (wkc s p none 0 0 0) 125::cb b6 (f.cells qf) 61::cb b5 [.int .i64 0] 31::cb b4 [.slice none 0 0] 30::N0) w)=>c_do (s:=s) (l:=[]) (p:=p) (a:=none) (cap:=0) (q:=fun _=>zEN) (O:=[]) (N:=cb b8 [(pt bw)] 123::cb b6 (f.cells qf) 61::cb b5 [.int .i64 0] 31::cb b4 [.slice none 0 0] 30::N0) f qf (H.perm (List.Perm.swap _ _ _)) hF hP hK (zWD _ _ _) (hs.mono (zz8 _ _)) gS hEt (hE0.mono (fun x hx=>zz4 _ (zz4 _ (zz4 _ (zz4 _ hx))))) (by decide);by_cases he:(zM s f).2=0;rotate_left
.have eP:zCb s c=([],(zM s f).2):=by unfold zCb;rw[hf];simp only[ne_eq,not_true_eq_false,if_false];rw[if_pos he]
 rw[eP];refine CM.seq ?_;(repeat' first|refine yW ?_|(refine y11 sg H ?_;intro w H)|(refine zW rfl rfl (En.fn zPx rfl rfl) (cdo _ H) ?_;rintro v M2 w hR H2;clear H;obtain⟨_,rfl,rfl⟩:=hR.resolve_left (fun h=>he h.1);have H:=H2;clear H2;simp only[List.nil_append] at H)|(refine CW.regionL mixed 6 (z6 (x:=cb b8 [(pt bw)] 123) (y:=cb bw (wkc s p none 0 0 (zM s f).2) 125) H hF) [] ?_ ?_;exact rfl;refine wQ H ?_;clear H;intro w H;have qh:=z6 (x:=cb b8 [(pt bw)] 123) (y:=cb bw (wkc s p none 0 0 (zM s f).2) 125) H hF;refine' l1 0 qh ?_ ?_;rotate_left;(exact z3 sg);refine lT sg 1 qh ?_;refine lT sg 2 qh ?_;refine' l1 3 qh ?_ ?_;rotate_left;(exact z3 sg))|refine lN ?_|refine l2 4 ?_|refine l2 5 ?_|(refine l5 (z6 H hF) ?_)|fail);exact⟨[_,_],⟨zg sg rfl H.mem qB rfl rfl,zg sg rfl H.mem qB rfl rfl,trivial⟩,_,[],rfl,zJy _,H.sub (zz9 _)⟩
obtain⟨t,ht⟩:∃ t,(zM s f).1=t:=⟨_,rfl⟩;refine CM.seq ?_;(repeat' first|refine yW ?_|(refine zW rfl rfl (En.fn zPx rfl rfl) (cdo _ H) ?_;rintro v M2 w hR H2;clear H;obtain⟨_,rfl,p',a',cp',O',R,rfl,hO,hT,gT⟩:=hR.resolve_right (fun h=>h.1 he);have H:=H2;clear H2)|fail);rw[ht] at H hT gT;replace H:=H.perm (yyf (cb bw (wkc t p' a' 1 cp' 0) 125::O') [_,_,_,_] (N0++R));simp only[zca,zcb] at H;refine CM.seqM ?_;refine CM.seq ?_;(repeat' first|refine yW ?_|(refine f0 ent79 ?_;refine⟨_,zVk f qf _ (H.mem.sub (show N0⊆_ from fun x hx=>by simp[hx])) hE0 h11,?_⟩;clear H;intro v Mc w hR H;(try simp only[zca,zcb] at H);have hB:=hR)|fail);refine CM.block ?_;obtain⟨gf,lb,Ex,rfl,hBe⟩:=zXY (x0:=⟨zH0 f t,t,[f]⟩) hF hP rfl hB;have hres:zKG (zFo f) (decide (f.kind=11)) (if f.kind=11 then 40 else(zH0 f t).length+1) ⟨zH0 f t,t,[f]⟩=zCb s c:=by rw[zXX s c (by rw[hf]) (by rw[hf];exact he),hf];simp only;rw[ht]
obtain⟨res,hr⟩:∃ res,zCb s c=res:=⟨_,rfl⟩;rw[hr] at hres ⊢;have hlen32:(zH0 f t).length<=32:=by
 unfold zH0;split
 .rw[yyp];rcases zGA t.aucs t.clock with ⟨_,_,h3⟩|⟨_,h3⟩
  .have:=h3.length_eq;have:=List.length_filter_le (fun x=>zAW x t.clock) t.aucs;have:=(zs.1 gT.aucs).1;omega
  .rw[h3];exact zzD _
 .exact zzD _
have J0:JX F (zFo f) (decide (f.kind=11)) res Mc b4 b5 b6 b8 bw f qf ⟨zH0 f t,t,[f]⟩ (cb b8 [(pt bw)] 123::cb b6 (f.cells qf) 61::cb b5 [.int .i64 0] 31::cb b4 [.slice none 0 0] 30::cb bw (wkc t p' a' 1 cp' 0) 125::(O'++((N0++R)++Mc))):=by
 refine⟨_,p',a',cp',_,O',(N0++R)++Mc,rfl,hO,hT.mono (fun x hx=>by simp[hx]),fun j hj=>?_,gT,zz8 _ _,⟨fun hc=>?_,fun hc=>?_⟩,hres⟩
 .obtain rfl:j=0:=by have:j<1:=hj;omega
  exact hE0.mono (fun x hx=>by simp[hx])
 .have h:=zzA hc;rw[if_pos h];exact⟨rfl,show(1:Nat)<=32 by decide,by unfold zH0;rw[if_neg qO]⟩
 .have h:=zzB hc;rw[if_neg h];exact⟨rfl,show 1+(zH0 f t).length<=40 by omega⟩
refine CM.rangeFunc1 (G:=[]) (JX F (zFo f) (decide (f.kind=11)) res Mc b4 b5 b6 b8 bw f qf) (JD res b4 b5) rfl rfl hBe.ent rfl hBe.it (by rw[List.append_nil];rw[yyh] at H;exact H) J0 ?_ hBe.mono ?_ ?_ ?_
.rintro x M ⟨n,p,a,cp,q,O,N,J⟩;refine hBe.ex x M ⟨p,a,cp,0,?_,J.sta.mono (fun z hz=>?_),J.good,?_⟩ (J.cls.trans ?_)
 .rw[J.mem];simp
 .rw[J.mem];rcases List.mem_append.1 hz with h|h<;>simp[h]
 .by_cases h:f.kind=11
  .have:=(J.fuel.1 (yyb h)).2.1;omega
  .have:=(J.fuel.2 (yyc h)).2;omega
 .rw[J.mem];intro z hz;simp[hz]
.rintro l x v M N' G' w ⟨n,p,a,cp,q,O,N,J⟩ ⟨e,qe,hn,rfl,hEe,hEte⟩ H;rw[J.mem] at H;simp only[List.cons_append,yyh] at H;(repeat' first|refine yW ?_|(refine yB ?_;intro b w H)|(refine y11 sg H ?_;intro w H)|fail);refine⟨cb _ (e.cells qe) 61::cb b8 [(pt bw)] 123::cb b6 (f.cells qf) 61::cb b5 [.int .i64 0] 31::cb b4 [.slice none 0 0] 30::cb bw (wkc x.s p a x.l.length cp 0) 125::(O++(N++N')),by simp only[List.cons_append,yyh];exact H,fun G2 w H=>?_⟩;simp only[List.cons_append,yyh] at H;obtain⟨n,rfl⟩:∃ n',n=n'+1:=by
  refine⟨n - 1,?_⟩;by_cases h:f.kind=11
  .have:=J.fuel.1 (yyb h);omega
  .have:=(J.fuel.2 (yyc h)).1;omega
 have hj:=J.res;unfold zKG at hj;rw[hn] at hj;simp only at hj;by_cases hcap:f.kind=11/\31<x.l.length
 .rw[if_pos ⟨yyb hcap.1,hcap.2⟩] at hj;have d1:(f.kind==11)=true:=by{simpa using hcap.1};have d2:decide ((x.l.length:Int)>31)=true:=yyb qO
  (repeat' first|refine yW ?_|(refine y11 sg H ?_;intro w H)|fail);exact⟨cb b8 [(pt bw)] 123::cb b6 (f.cells qf) 61::cb b5 [.int .i64 40] 31::cb b4 [.slice none 0 0] 30::cb bw (wkc x.s p a x.l.length cp 0) 125::(O++(N++N')),⟨40,_,_,_,hj.symm,rfl⟩,by have H2:=H.sub (zz7 _ _);simpa only[List.cons_append,yyh] using H2⟩
 rw[if_neg (fun h=>hcap ⟨of_decide_eq_true h.1,h.2⟩)] at hj
 with_reducible apply zAT
 with_reducible apply zCQ
 refine CW.cutT (fun en1 w=>∃ en',en1=ovl [(4,(pt b4)),(5,(pt b5)),(8,(pt b8)),(9,(pt b))] en'/\St w0 (cb b (e.cells qe) 61::cb b8 [(pt bw)] 123::cb b6 (f.cells qf) 61::cb b5 [.int .i64 0] 31::cb b4 [.slice none 0 0] 30::cb bw (wkc x.s p a x.l.length cp 0) 125::(O++(N++(N'++G2)))) w) ?_ ?_
 .by_cases k11:f.kind=11
  .have d1:(f.kind==11)=true:=by{simpa using k11};have d2:decide ((x.l.length:Int)>31)=false:=yyc (by have:=fun h=>hcap ⟨k11,h⟩;omega)
   (repeat' first|refine yW ?_|fail);exact⟨_,zz rfl (zA2 rfl rfl rfl),H⟩
  .have d1:(f.kind==11)=false:=by{simpa using k11};(repeat' first|refine yW ?_|fail)
   exact⟨_,zz rfl (zA2 rfl rfl rfl),H⟩
 clear H;rintro _ w ⟨en',rfl,H⟩;have hl100:x.l.length<100:=by
  by_cases h:f.kind=11
  .have:=(J.fuel.1 (yyb h)).2.1;omega
  .have:=(J.fuel.2 (yyc h)).2;omega
 have cdo2:=fun w (H:St w0 (cb b (e.cells qe) 61::cb b8 [(pt bw)] 123::cb b6 (f.cells qf) 61::cb b5 [.int .i64 0] 31::cb b4 [.slice none 0 0] 30::cb bw (wkc x.s p a x.l.length cp 0) 125::(O++(N++(N'++G2)))) w)=>c_do (N:=(N++(N'++G2))++[cb b (e.cells qe) 61,cb b8 [(pt bw)] 123,cb b6 (f.cells qf) 61,cb b5 [.int .i64 0] 31,cb b4 [.slice none 0 0] 30]) e qe (H.perm (permK (S:=[_,_,_,_,_]) (X:=cb bw (wkc x.s p a x.l.length cp 0) 125::O) (Z:=N++(N'++G2)))) hF hP hK J.own (J.sta.mono (fun z hz=>(List.mem_append.1 hz).elim (fun h=>zz6 _ (zz6 _ (zz6 _ h))) (zz3 _))) J.good hEte (hEe.mono (fun z hz=>zz6 _ (zz3 _ (zz6 _ hz)))) hl100;by_cases he2:(zM x.s e).2=0
 .rw[if_neg (fun h=>h he2)] at hj;(repeat' first|refine yW ?_|(refine zW rfl rfl (En.fn zPx rfl rfl) (cdo2 _ H) ?_;rintro v M2 w hR H2;clear H;obtain⟨_,rfl,p2,a2,cp2,O2,R2,rfl,hO2,hT2,gT2⟩:=hR.resolve_right (fun h=>h.1 he2);have H:=H2;clear H2)|fail);obtain⟨t2,ht2⟩:∃ t2,(zM x.s e).1=t2:=⟨_,rfl⟩;rw[ht2] at H hT2 gT2;have H3:St w0 ([cb b (e.cells qe) 61,cb b8 [(pt bw)] 123,cb b6 (f.cells qf) 61,cb b5 [.int .i64 0] 31,cb b4 [.slice none 0 0] 30]++((cb bw (wkc t2 p2 a2 (x.l++[e]).length cp2 0) 125::O2)++((N++N')++(R2++G2)))) w:=(show St w0 ((cb bw (wkc t2 p2 a2 (x.l++[e]).length cp2 0) 125::O2)++((N++N')++(G2++([cb b (e.cells qe) 61,cb b8 [(pt bw)] 123,cb b6 (f.cells qf) 61,cb b5 [.int .i64 0] 31,cb b4 [.slice none 0 0] 30]++R2)))) w by simpa only[yyh,List.cons_append,List.nil_append] using H).perm permJ;have hnx:nxE (zFo f) x=x.go e:=by unfold nxE;rw[hn]
  have hll:(x.l++[e]).length=x.l.length+1:=by{simp};rw[hnx]
  refine⟨cb b8 [(pt bw)] 123::cb b6 (f.cells qf) 61::cb b5 [.int .i64 0] 31::cb b4 [.slice none 0 0] 30::cb bw (wkc t2 p2 a2 (x.l++[e]).length cp2 0) 125::(O2++((N++N')++R2)),⟨n,p2,a2,cp2,_,O2,(N++N')++R2,by unfold WS.go;rw[ht2],hO2,?_,fun j hjl=>?_,?_,J.cls.trans (fun z hz=>by simp[hz]),⟨fun hc=>?_,fun hc=>?_⟩,hj⟩,?_⟩
  .show StaM _ (zM x.s e).1 p2;rw[ht2];exact hT2.mono (fun z hz=>by simp[hz])
  .have hjl:j<(x.l++[e]).length:=hjl;show EvtM _ (ev_ (x.l++[e]) j) (zHL x.l.length q qe j);rw[hll] at hjl;unfold zHL;by_cases h:j<x.l.length
   .rw[zHM h,if_pos h];exact(J.evs j h).mono (fun z hz=>by simp[hz])
   .obtain rfl:j=x.l.length:=by{omega};rw[zHN,if_neg h];exact hEe.mono (fun z hz=>by simp[hz])
  .show Good (zM x.s e).1;rw[ht2];exact gT2
  .have h:=J.fuel.1 hc;have h31:¬ 31<x.l.length:=fun g=>hcap ⟨zzA hc,g⟩;exact⟨by show n+(x.l++[e]).length=41;rw[hll];omega,by show(x.l++[e]).length<=32;rw[hll];omega,by show x.ids.tail=[];rw[h.2.2];rfl⟩
  .have h:=J.fuel.2 hc;have hne:0<x.ids.length:=by
    unfold zFo at hn;rw[if_neg (of_decide_eq_false hc)] at hn;split at hn
    .unfold saN at hn;cases hx:x.ids with
     | nil=>rw[hx] at hn;cases hn
     | cons _ _=>simp
    .cases hn
   have htl:x.ids.tail.length=x.ids.length - 1:=List.length_tail;exact⟨by show n=x.ids.tail.length+1;omega,by show(x.l++[e]).length+x.ids.tail.length<=40;rw[hll];omega⟩
  .have H4:=H3.sub (zz7 _ _);simpa only[List.cons_append,yyh,List.nil_append,List.append_eq] using H4
 .rw[if_pos he2] at hj;(repeat' first|refine yW ?_|(refine y11 sg H ?_;intro w H)|(refine zW rfl rfl (En.fn zPx rfl rfl) (cdo2 _ H) ?_;rintro v M2 w hR H2;clear H;obtain⟨_,rfl,rfl⟩:=hR.resolve_left (fun h=>he2 h.1);have H:=H2.perm (permK (S:=[_,_,_,_,_]) (X:=_::O) (Z:=N++(N'++G2))).symm;clear H2;simp only[zca,zcb] at H)|(refine CW.regionL mixed 6 (z6 (x:=cb b8 [(pt bw)] 123) (y:=cb bw (wkc x.s p a x.l.length cp (zM x.s e).2) 125) H hF) [] ?_ ?_;exact rfl;refine wQ H ?_;clear H;intro w H;have qh:=z6 (x:=cb b8 [(pt bw)] 123) (y:=cb bw (wkc x.s p a x.l.length cp (zM x.s e).2) 125) H hF;refine' l1 0 qh ?_ ?_;rotate_left;(exact z3 sg);refine lT sg 1 qh ?_;refine lT sg 2 qh ?_;refine' l1 3 qh ?_ ?_;rotate_left;(exact z3 sg))|refine lN ?_|refine l2 4 ?_|refine l2 5 ?_|(refine l5 (z6 H hF) ?_)|fail);exact⟨cb b8 [(pt bw)] 123::cb b6 (f.cells qf) 61::cb b5 [.int .i64 (zM x.s e).2] 31::cb b4 [.slice none 0 0] 30::cb bw (wkc x.s p a x.l.length cp (zM x.s e).2) 125::(O++(N++N')),⟨_,_,_,_,hj.symm,rfl⟩,by have H2:=H.sub (zz7 _ _);simpa only[List.cons_append,yyh] using H2⟩
.rintro D lo x M w hfin ⟨n,p,a,cp,q,O,N,J⟩ H;rw[J.mem] at H;simp only[List.cons_append,List.append_nil] at H;have hfin:zFo f x=none:=hfin;have hl40:x.l.length<=40:=by
  by_cases h:f.kind=11
  .have:=(J.fuel.1 (yyb h)).2.1;omega
  .have:=(J.fuel.2 (yyc h)).2;omega
 have hrx:res=(x.l,0):=by
  have hj:=J.res;cases n with
  | zero =>
    by_cases h:f.kind=11
    .have:=J.fuel.1 (yyb h);omega
    .have:=(J.fuel.2 (yyc h)).1;omega
  | succ n =>
    unfold zKG at hj;rw[hfin] at hj;exact hj.symm
 rw[hrx];refine zH6 (zH5 (CM.of ?_));(repeat' first|refine yW ?_|(refine y11 sg H ?_;intro w H)|fail);exact zLd H (Up.there Up.here) (fun w' H'=>⟨[_,_],⟨zg sg rfl H'.mem qB rfl rfl,zg sg rfl H'.mem qB rfl rfl,trivial⟩,_,O++N,rfl,⟨a,cp,q,rfl,J.own.sl (yyi _ _) (fun _ _=>rfl) qO,fun j hj=>(J.evs j hj).mono (zz8 _ _)⟩,H'.sub (yy6 _ (yy6 _ (yy6 _ (yy6 _ (yy6 _ (yy6 _ (yy6 _ (yy7 _)))))))) ⟩)
.rintro D lo M w ⟨e,x,y,R,rfl,rfl⟩ H;simp only[List.cons_append,List.append_nil] at H;show zMm _ _ _ _ _ _;exact zLd H (Up.there Up.here) (fun w' H'=>⟨[_,_],⟨zg sg rfl H'.mem qB rfl rfl,zg sg rfl H'.mem qB rfl rfl,trivial⟩,_,[],rfl,zJy e,H'.sub (zz9 _)⟩)}
def zE1 (l:List Odr):Prop:=∃ a∈l,∃ b∈l,zw a b=true
def zFp (l:List Odr):Bool:=(List.range l.length).any fun i=>(List.range i).any fun k=>zw (od_ l i) (od_ l k)
theorem zE2 {a b:Odr}(h1:zAV a)(h2:zAV b)(h3:a.inst=b.inst)(h4:a.side≠b.side)(h5:if a.side=1 then b.price<=a.price else a.price<=b.price):zw a b=true:=by{
unfold zw;simp only[yy3,zAi,beq_iff_eq,bne_iff_ne];refine⟨⟨⟨⟨h1,h2⟩,h3⟩,h4⟩,?_⟩;split at h5
.rename_i e;rw[if_pos e];exact yyb h5
.rename_i e;rw[if_neg e];exact yyb h5}
theorem zIL {a b:Odr}(h:zw a b=true):zw b a=true:=by{
obtain⟨h1,h2,h3,h4,h5⟩:=zBs h;refine zE2 h2 h1 h3.symm (Ne.symm h4) ?_;have s1:=h1.2.2.2.1;have s2:=h2.2.2.2.1;split at h5
.rw[if_neg qO];exact h5
.rw[if_pos qO];exact h5}
theorem zVm {l:List Odr}{k:Nat}(h:k<l.length):od_ l k∈l:=by unfold od_;rw[yy2,yy1 h];exact List.getElem_mem h
theorem zVn {l:List Odr}{o:Odr}(h:o∈l):∃ k,k<l.length/\o=od_ l k:=by obtain⟨k,hk,rfl⟩:=List.getElem_of_mem h;exact⟨k,hk,by unfold od_;rw[yy2,yy1 hk];rfl⟩
theorem zIM {l:List Odr}:zFp l=true↔zE1 l:=by{
unfold zFp;simp only[List.any_eq_true,yy8];constructor
.rintro⟨i,hi,k,hk,h⟩;exact⟨_,zVm hi,_,zVm qO,h⟩
.rintro⟨a,ha,b,hb,h⟩;obtain⟨i,hi,rfl⟩:=zVn ha;obtain⟨k,hk,rfl⟩:=zVn hb;rcases Nat.lt_trichotomy k i with g|rfl|g
 .exact⟨i,hi,k,g,h⟩
 .exact absurd rfl (zBs h).2.2.2.1
 .exact⟨k,hk,i,g,zIL h⟩}
def zNu (x y:Odr):Prop:=x.inst=y.inst/\x.side=y.side/\x.price=y.price
theorem zPb {l m:List Odr}(hm:∀ x∈m,∃ y∈l,zNu x y/\zAV y)(h:zE1 m):zE1 l:=by obtain⟨a,ha,b,hb,h⟩:=h;obtain⟨a',ha',⟨i1,s1,p1⟩,m1⟩:=hm a ha;obtain⟨b',hb',⟨i2,s2,p2⟩,m2⟩:=hm b hb;obtain⟨_,_,h3,h4,h5⟩:=zBs h;exact⟨a',ha',b',hb',zE2 m1 m2 (by rw[<- i1,<- i2];exact h3) (by rw[<- s1,<- s2];exact h4) (by rw[<- s1,<- p1,<- p2];exact h5)⟩
theorem zEO {s:Sta}{p:List Pst}:(zf s p).1.orders=s.orders/\(zf s p).1.aucs=s.aucs/\(zf s p).1.clock=s.clock/\(zf s p).1.nextO=s.nextO/\(zf s p).1.fee=s.fee:=by unfold zf;split<;>exact⟨rfl,rfl,rfl,rfl,rfl⟩
theorem zSZ {s t:Sta}{k:Int}{n:List Int}{tx:ByteArray}(hk:1<=k/\k<=23)(h1:k≠11)(h2:k≠12)(h3:k≠13)(he:zB6 s k n tx=(t,0)):t.orders=s.orders:=by{
have e1:∀ p,(zf s p).1.orders=s.orders:=fun p=>zEO.1;have hps:∀ {p u},zf s p=(u,0)->u.orders=s.orders:=fun{p u} g=>by have:=e1 p;rw[g] at this;exact this
unfold zB6 at he;rcases kinds hk with rfl|rfl|rfl|rfl|rfl|rfl|rfl|rfl|rfl|rfl|rfl|rfl|rfl|rfl|rfl|rfl|rfl|rfl|rfl|rfl|rfl|rfl|rfl<;>first|exact absurd rfl h1|exact absurd rfl h2|exact absurd rfl h3|simp only[Int.reduceEq,if_false,if_true] at he
all_goals(try unfold zEj at he)
all_goals(try unfold zEk at he)
all_goals(try unfold zEl at he)
all_goals(try unfold zGL at he)
all_goals(try unfold zDS at he)
all_goals(try unfold zJE at he)
all_goals(try unfold zGM at he)
all_goals(try unfold zCn at he)
all_goals(try unfold zHi at he)
all_goals(try unfold zBy at he)
all_goals(try unfold zDT at he)
all_goals(try unfold zEm at he)
all_goals(try unfold zAz at he)
all_goals(try unfold zDQ at he)
all_goals(try unfold zAX at he)
all_goals(try simp only at he)
all_goals(repeat' split at he)
all_goals first
 | exact absurd (Prod.mk.inj he).2 (by decide)
 | exact absurd (Prod.mk.inj he).2 (by assumption)
 | exact hps he
 | (rename_i g;rw[he] at g;exact absurd rfl g)
 | (obtain rfl:=(Prod.mk.inj he).1
    first|rfl|exact e1 _)}
theorem zSa {s t:Sta}{n:List Int}(h:Good s)(hm:zt (zL1 n)=true)(he:zC4 s n=(t,0)):t.orders=s.orders++[zL1 n]/\nF n 0=s.nextO/\t.nextO=s.nextO+1/\t.fee=s.fee:=by{
unfold zC4 at he;simp only at he;split at he
.exact absurd (Prod.mk.inj he).2 (by decide)
rename_i h1;have h1:nF n 0=s.nextO:=Decidable.of_not_not h1;split at he
.rename_i h2;exact absurd (Prod.mk.inj he).2 h2
rename_i h2;split at he
.rename_i h3;rw[he] at h3;exact absurd rfl h3
obtain rfl:=(Prod.mk.inj he).1;have hlen:s.orders.length<128:=by
 have h2:=Decidable.of_not_not h2;unfold zAQ at h2;split at h2
 .simp only at h2;split at h2
  .exact absurd h2 (by decide)
  .split at h2
   .exact absurd h2 (by decide)
   .split at h2
    .exact absurd h2 (by decide)
    .rename_i g;simpa using g
 .exact absurd h2 (by decide)
have hlt:∀ x∈s.orders,x.id<(zL1 n).id:=fun x hx=>by have:=(zy.1 (h.ordsIn x hx)).1;show x.id<nF n 0;omega
refine⟨?_,h1,rfl,?_⟩
.show(zFY s.orders (zL1 n)).1=_;rw[zNH h.ords hm hlt hlen]
.show(zAX s _ _ _).1.fee=s.fee;exact zEO.2.2.2.2}
theorem zMJ {s t:Sta}{n:List Int}(h:Good s)(he:zBW s n=(t,0)):∀ x∈t.orders,x∈s.orders:=by{
unfold zBW at he;simp only at he;by_cases h1:(zO s.orders (nF n 0)).2=true
.rw[if_pos h1] at he;obtain⟨_,f1,f2⟩:=zC5 h1;generalize (zO s.orders (nF n 0)).1=o at he f1 f2;have hm:=(zAK.1 h.ords).2.1 o f1;have hl:=hm.2.2.2.2.2;have hd:(zDP s.orders o.id).1=zBi s.orders o.id o.left:=by unfold zDP;rw[zBc h.ords f1,zEH h.ords f1 hl.1 (Int.le_refl _)]
 rw[hd] at he;have fx:=zG9 h.ords f1 hl.1 (Int.le_refl o.left);have e:t.orders=zBi s.orders o.id o.left:=by have:=(zEO (s:={ s with orders:=zBi s.orders o.id o.left }) (p:=[⟨o.acct,(zV o).1,-(-(zV o).2),-(zV o).2⟩])).1;have e2:(zf { s with orders:=zBi s.orders o.id o.left } [⟨o.acct,(zV o).1,-(-(zV o).2),-(zV o).2⟩])=(t,0):=he;rw[e2] at this;exact this
 intro x hx;rw[e] at hx;rcases fx.mem x hx with g|g
 .exact g.1
 .omega
.rw[if_neg h1] at he;exact absurd (Prod.mk.inj he).2 (by decide)}
theorem zPc {l:List Odr}{i s:Int}{u:Odr}(h:zb l=true)(hf:zBM l i s=(u,true))(hs:s=1\/s=2):u∈l/\u.inst=i/\u.side=s/\∀ v∈l,v.inst=i->v.side=s->if s=1 then v.price<=u.price else u.price<=v.price:=by{
have hp:=zCM (i:=i) (s:=s) h;have hr:=zNO (i:=i) (s:=s) h;rw[zEw] at hf;cases hl:zCL l i s with
| nil=>rw[hl] at hf;exact absurd (Prod.mk.inj hf).2 (by decide)
| cons o m =>
  rw[hl] at hf hp hr;obtain rfl:o=u:=(Prod.mk.inj hf).1;have hu:o∈l.filter (ofS i s):=hp.mem_iff.1 (zz2 _);have hof:∀ x,x∈l.filter (ofS i s)↔x∈l/\x.inst=i/\x.side=s:=fun x=>by rw[yyw];unfold ofS;simp
  obtain⟨u1,u2,u3⟩:=(hof o).1 hu;refine⟨u1,u2,u3,fun v hv v2 v3=>?_⟩;have hv':=hp.mem_iff.2 ((hof v).2 ⟨hv,v2,v3⟩);rcases List.mem_cons.1 hv' with rfl|hv'
  .split<;>exact Int.le_refl _
  .have:=((List.pairwise_cons.1 hr).1 v hv').1;unfold zAB at this;rw[u3] at this;split at this
   .rename_i e;rw[e];split<;>exact Int.le_refl _
   .rcases hs with rfl|rfl
    .rw[if_pos rfl] at this ⊢;have:=zzA this;omega
    .rw[if_neg (by decide)] at this ⊢;have:=zzA this;omega}
theorem zVo {l:List Odr}{i s:Int}(h:zb l=true)(hf:(zBM l i s).2=false):∀ v∈l,v.inst=i->v.side=s->False:=by{
have hp:=zCM (i:=i) (s:=s) h;rw[zEw] at hf;cases hl:zCL l i s with
| nil =>
  rw[hl] at hp;intro v hv v1 v2;have:v∈l.filter (ofS i s):=List.mem_filter.2 ⟨hv,by unfold ofS;simp[v1,v2]⟩;exact absurd (hp.mem_iff.2 this) (by simp)
| cons o m=>rw[hl] at hf;exact absurd (show true=false from hf) (by decide)}
structure TrI (s0:Sta)(o0:Odr)(x:WS):Prop where
 good:Good x.s
 like:∀ y∈x.s.orders,(y.id=o0.id->zNu y o0)/\(y.id≠o0.id->∃ z∈s0.orders,zNu y z/\zAV z)
theorem zSb (a b q:Int)(x:Odr):zNu (zDe a b q x) x/\(zDe a b q x).id=x.id:=by unfold zDe;split<;>exact⟨⟨rfl,rfl,rfl⟩,rfl⟩
theorem zPd {s:Sta}{id:Int}{e:Evt}(h:zE0 s id=some e):e.kind=13:=by{
unfold zE0 at h;simp only at h;split at h
.cases h;rfl
.cases h}
theorem TrI.go {s0:Sta}{o0:Odr}{x:WS}{e:Evt}(h:TrI s0 o0 x)(he:trN o0.id x=some e)(hk:(zM x.s e).2=0):TrI s0 o0 (x.go e):=by have e1:zM x.s e=((zM x.s e).1,0):=Prod.ext rfl hk;obtain⟨o,u,T⟩:=zMH e1 (zPd he);refine⟨(zEJ e1).2,fun y hy=>?_⟩;have hy:y∈(zM x.s e).1.orders:=hy;rw[T.ords] at hy;obtain⟨z,hz,rfl⟩:=List.mem_map.1 (List.mem_filter.1 hy).1;obtain⟨⟨l1,l2,l3⟩,l4⟩:=zSb o.id u.id (nF e.nums 3) z;obtain⟨h1,h2⟩:=h.like z hz;rw[l4];unfold zNu at *;rw[l1,l2,l3];exact⟨h1,h2⟩
theorem zPe {s0:Sta}{o0:Odr}{x:WS}(h:TrI s0 o0 x)(hn:trN o0.id x=none)(hc:¬ zE1 s0.orders):¬ zE1 x.s.orders:=by{
have hord:=h.good.ords;have hmay:=(zAK.1 hord).2.1;have hoth:∀ a∈x.s.orders,∀ c∈x.s.orders,a.id≠o0.id->c.id≠o0.id->zw a c=true->False:=fun a ha c hc' h1 h2 hx=>by obtain⟨a',ha',⟨i1,s1,p1⟩,m1⟩:=(h.like a ha).2 h1;obtain⟨c',hc',⟨i2,s2,p2⟩,m2⟩:=(h.like c hc').2 h2;obtain⟨_,_,h3,h4,h5⟩:=zBs hx;exact hc ⟨a',ha',c',hc',zE2 m1 m2 (by rw[<- i1,<- i2];exact h3) (by rw[<- s1,<- s2];exact h4) (by rw[<- s1,<- p1,<- p2];exact h5)⟩
have hself:∀ a∈x.s.orders,∀ c∈x.s.orders,a.id=o0.id->zw a c=true->False:=fun a ha c hc' h1 hx=>by
 have hf:=zBc hord ha;rw[h1] at hf;obtain⟨ma,mc,h3,h4,h5⟩:=zBs hx;have hside:3 - a.side=1\/3 - a.side=2:=by have:=ma.2.2.2.1;omega
 have hcs:c.side=3 - a.side:=by have:=ma.2.2.2.1;have:=mc.2.2.2.1;omega
 unfold trN zE0 at hn;simp only at hn;rw[hf] at hn;simp only at hn;cases hfs:(zBM x.s.orders a.inst (3 - a.side)).2 with
 | false=>exact zVo hord hfs c hc' h3.symm hcs
 | true =>
   have hfe:zBM x.s.orders a.inst (3 - a.side)=((zBM x.s.orders a.inst (3 - a.side)).1,true):=Prod.ext rfl hfs;obtain⟨u1,u2,u3,u4⟩:=zPc hord hfe hside;have h6:=u4 c hc' h3.symm hcs;generalize (zBM x.s.orders a.inst (3 - a.side)).1=u at hn u1 u2 u3 h6;have hcr:zw a u=true:=by
    refine zE2 ma (hmay u u1) u2.symm (by rw[u3];have:=ma.2.2.2.1;omega) ?_;rcases ma.2.2.2.1 with g|g
    .rw[g] at h5 h6 ⊢;rw[if_pos rfl] at h5 ⊢;rw[if_neg (by decide)] at h6;omega
    .rw[g] at h5 h6 ⊢;rw[if_neg (by decide)] at h5 ⊢;rw[if_pos (by decide)] at h6;omega
   rw[hfs,hcr] at hn;simp at hn
rintro⟨a,ha,c,hc',hx⟩;by_cases h1:a.id=o0.id
.exact hself a ha c hc' h1 hx
.by_cases h2:c.id=o0.id
 .exact hself c hc' a ha h2 (zIL hx)
 .exact hoth a ha c hc' h1 h2 hx}
theorem zSc (s:Sta)(id:Int):(zCa s id).kind=18\/(zCa s id).kind=19:=by{
unfold zCa;split
.exact .inl rfl
.exact .inr rfl}
theorem zJz {s t:Sta}{e:Evt}(hd:zM s e=(t,0))(h1:e.kind≠11)(h2:e.kind≠12)(h3:e.kind≠13):t.orders=s.orders:=by obtain⟨_,_,ev,_,_,hd⟩:=zBt hd;exact zSZ ev.kind h1 h2 h3 hd
theorem zXZ {n:List Int}{e:Evt}(ev:EvOk e)(hk:e.kind=11)(hn:n=e.nums):zt (zL1 n)=true:=by subst hn;have k0:=ev.at (i:=0) (c:=111) (by rw[hk];rfl);have k1:=ev.at (i:=1) (c:=97) (by rw[hk];rfl);have k2:=ev.at (i:=2) (c:=105) (by rw[hk];rfl);have k3:=ev.at (i:=3) (c:=115) (by rw[hk];rfl);have k4:=ev.at (i:=4) (c:=112) (by rw[hk];rfl);have k5:=ev.at (i:=5) (c:=113) (by rw[hk];rfl);have:=bnd_o k0;have:=zJQ k1;have:=zEF k2;have:=zUT k3;have:=zQK k4;have:=zG8 k5;rw[zAi];unfold zAV zL1;simp only;exact⟨by omega,by omega,by omega,by omega,by omega,by omega⟩
theorem CmdOk.cross {s:Sta}{c:Cmd}{l:List Evt}{f:Evt}{t y:Sta}(h:CmdOk s c l f t y)(hc:¬ zE1 s.orders):¬ zE1 y.orders:=by{
have hk:=zFe h.may;obtain⟨_,gt,ev,_,_,hd⟩:=zBt h.ev;have hmay:=(zAK.1 h.good.ords).2.1;have hsub:f.kind≠11->¬ zE1 t.orders:=fun h1=>by
 by_cases h2:f.kind=12
 .rw[h2] at hd;have hx:=zMJ h.good (show zBW s f.nums=(t,0) from hd);exact fun g=>hc (zPb (fun x hx'=>⟨x,hx x hx',⟨rfl,rfl,rfl⟩,hmay x (hx x hx')⟩) g)
 .rw[zJz h.ev h1 h2 (by rw[h.kind];exact zVh hk)];exact hc
rcases h.beh with ⟨k1,z,b1,b2,_,rfl,_⟩|⟨k1,z,b1,b2,_,rfl⟩|⟨k1,k2,_,rfl⟩
.have f11:f.kind=11:=by rw[h.kind];exact(zMI hk).2 k1
 rw[f11] at hd;have hp:=zSa h.good (zXZ ev f11 rfl) (show zC4 s f.nums=(t,0) from hd)
 have I0:TrI s (zL1 f.nums) ⟨[],t,[f]⟩:=⟨gt,fun w hw=>by
  have hw:w∈t.orders:=hw;rw[hp.1] at hw;rcases List.mem_append.1 hw with g|g
  .have hlt:=(zy.1 (h.good.ordsIn w g)).1;have hne:w.id≠(zL1 f.nums).id:=by show w.id≠nF f.nums 0;omega
   exact⟨fun e=>absurd e hne,fun _=>⟨w,g,⟨rfl,rfl,rfl⟩,hmay w g⟩⟩
  .rw[yyd] at g;subst g
   exact⟨fun _=>⟨rfl,rfl,rfl⟩,fun e=>absurd rfl e⟩⟩
 have I:=b1.keeps (I:=TrI s (zL1 f.nums)) (fun x e hi he hk=>TrI.go hi he hk) I0;exact zPe I b2 hc
.have f20:f.kind=20:=by rw[h.kind];exact(zPZ hk).2 k1
 have I:=b1.keeps (I:=fun x=>x.s.orders=t.orders) (fun x e hi he hk=>by
  have e1:zM x.s e=((zM x.s e).1,0):=Prod.ext rfl hk;obtain⟨id,_,rfl⟩:∃ id,x.ids.head?=some id/\zCa x.s id=e:=by unfold saN at he;obtain⟨id,h1,h2⟩:=Option.map_eq_some_iff.1 he;exact⟨id,h1,h2⟩
  have hk2:=zSc x.s id;show(zM x.s (zCa x.s id)).1.orders=_
  rw[zJz e1 qO qO qO];exact hi) rfl
 rw[I];exact hsub qO
.exact hsub fun e=>k1 ((zMI hk).1 (h.kind ▸ e))}
theorem zH1 {s t:Sta}{i:Nat}{p:List Pst}(h:zAz s i p=(t,0)):t.aucs=s.aucs.eraseIdx i/\t.clock=s.clock/\t.orders=s.orders:=by{
unfold zAz at h;simp only at h;split at h
.rename_i g;rw[h] at g;exact absurd rfl g
.obtain rfl:=(Prod.mk.inj h).1;exact⟨rfl,zEO.2.2.1,zEO.1⟩}
theorem zMK {l:List Auc}(h:l.Pairwise fun a b=>a.id<b.id){i:Nat}(hi:i<l.length):l.eraseIdx i=l.filter fun a=>decide (a.id≠(au_ l i).id):=by{
have e:au_ l i=l[i]:=by unfold au_;rw[yy2,yy1 hi];rfl
have hs:l=l.take i++l[i]::l.drop (i+1):=by rw[List.getElem_cons_drop,List.take_append_drop]
rw[e];generalize hx:l[i]=x at hs ⊢;rw[List.eraseIdx_eq_take_drop_succ];conv=>rhs;rw[hs]
rw[hs,List.pairwise_append,List.pairwise_cons] at h;obtain⟨_,⟨h2,_⟩,h3⟩:=h;rw[List.filter_append,List.filter_cons_of_neg (by simp),List.filter_eq_self.2 (fun a ha=>yyb (by have:=h3 a ha x (List.Mem.head _);omega)),List.filter_eq_self.2 (fun a ha=>yyb (by have:=h2 a ha;omega))]}
structure SaleF (a:Auc)(e:Evt):Prop where
 id:nF e.nums 0=a.id
 kind:e.kind=18\/e.kind=19
 len:e.kind=18->e.nums.length=4/\(zH a).2=true/\nF e.nums 1=(zH a).1.acct/\nF e.nums 2=(zH a).1.amount
 ne:e.nums≠[]
theorem zXa {s:Sta}(g:Good s){i:Nat}(hi:i<s.aucs.length)(hd:zAW (au_ s.aucs i) s.clock=true):∃ t,zM s (zCa s (au_ s.aucs i).id)=(t,0)/\t.aucs=(s.aucs.filter fun a=>decide (a.id≠(au_ s.aucs i).id))/\t.clock=s.clock/\t.orders=s.orders/\SaleF (au_ s.aucs i) (zCa s (au_ s.aucs i).id):=by{
have ew:zAy s (au_ s.aucs i).id=zI s (au_ s.aucs i):=by unfold zAy;rw[zSW g hi,if_pos ⟨rfl,zAl.2 g⟩]
have hfl:=zMK (zs.1 g.aucs).2.2 hi;unfold zCa;rw[ew];by_cases hw:(zI s (au_ s.aucs i)).2.2=true
.rw[if_pos hw];have h0:=(zSV g hi (zI s (au_ s.aucs i)).1.acct (zI s (au_ s.aucs i)).1.amount (zI s (au_ s.aucs i)).2.1).2 ⟨hd,hw,rfl,rfl,rfl⟩;have e1:zM s (evF 18 [(au_ s.aucs i).id,(zI s (au_ s.aucs i)).1.acct,(zI s (au_ s.aucs i)).1.amount,(zI s (au_ s.aucs i)).2.1])=((zM s (evF 18 [(au_ s.aucs i).id,(zI s (au_ s.aucs i)).1.acct,(zI s (au_ s.aucs i)).1.amount,(zI s (au_ s.aucs i)).2.1])).1,0):=Prod.ext rfl h0;obtain⟨_,_,_,_,_,hz⟩:=zBt e1;have hz2:=(zQ2 g hi (zI s (au_ s.aucs i)).1.acct (zI s (au_ s.aucs i)).1.amount (zI s (au_ s.aucs i)).2.1).symm.trans hz;rw[if_pos ⟨hd,hw,rfl,rfl,rfl⟩] at hz2;obtain⟨f1,f2,f3⟩:=zH1 hz2;obtain⟨w1,w2,_⟩:=zEI hw;exact⟨_,e1,f1.trans hfl,f2,f3,⟨rfl,.inl rfl,fun _=>⟨rfl,w1,congrArg Bid.acct w2,congrArg Bid.amount w2⟩,fun h=>nomatch h⟩⟩
.rw[if_neg hw];have h0:=zNs g hi;rw[if_neg (by rintro(g1|g1);exact hw g1;rw[hd] at g1;cases g1)] at h0;have e1:zM s (evF 19 [(au_ s.aucs i).id])=((zM s (evF 19 [(au_ s.aucs i).id])).1,0):=Prod.ext rfl h0;obtain⟨_,_,_,_,_,hz⟩:=zBt e1;have hz2:=(zKx g hi).symm.trans hz;rw[if_neg (by rintro(g1|g1);exact hw g1;rw[hd] at g1;cases g1)] at hz2;obtain⟨f1,f2,f3⟩:=zH1 hz2;exact⟨_,e1,f1.trans hfl,f2,f3,⟨rfl,.inr rfl,fun h=>absurd h (show(19:Int)≠18 by decide),fun h=>nomatch h⟩⟩}
structure SaI (t:Sta)(n0:Nat)(x:WS):Prop where
 good:Good x.s
 clock:x.s.clock=t.clock
 au:x.s.aucs=t.aucs.filter fun a=>!zAW a t.clock||decide (a.id∈x.ids)
 ids:∀ id∈x.ids,∃ a∈t.aucs,a.id=id/\zAW a t.clock=true
 nd:x.ids.Nodup
 done:∀ a∈t.aucs,zAW a t.clock=true->a.id ∉ x.ids->∃ n,n0<=n/\n<x.l.length/\SaleF a (x.l.getD n evZ)
 told:∀ n,n0<=n->n<x.l.length->∃ a∈t.aucs,zAW a t.clock=true/\SaleF a (x.l.getD n evZ)
 cnt:x.l.length+x.ids.length=n0+((zFH t.aucs t.clock).map (·.id)).length
theorem zNv {l:List Evt}{e:Evt}{n:Nat}(h:n<l.length):(l++[e]).getD n evZ=l.getD n evZ:=by rw[yy2,yy2,yyl h]
theorem zQ3 {l:List Evt}{e:Evt}:(l++[e]).getD l.length evZ=e:=by rw[yy2,yym (Nat.le_refl _)];simp
theorem zJ0 {l:List Auc}(h:l.Pairwise fun a b=>a.id<b.id){a c:Auc}(ha:a∈l)(hc:c∈l)(e:a.id=c.id):a=c:=by{
obtain⟨i,hi,rfl⟩:=List.getElem_of_mem ha;obtain⟨j,hj,rfl⟩:=List.getElem_of_mem hc;rw[List.pairwise_iff_getElem] at h;rcases Nat.lt_trichotomy i j with g|rfl|g
.have:=h i j hi hj g;omega
.rfl
.have:=h j i hj hi g;omega}
theorem SaI.next {t:Sta}{n0:Nat}{x:WS}(gt:Good t)(h:SaI t n0 x){id:Int}{r:List Int}(hx:x.ids=id::r):(zM x.s (zCa x.s id)).2=0/\(n0<=x.l.length->SaI t n0 (x.go (zCa x.s id))):=by{
obtain⟨a,ha,rfl,hd⟩:=h.ids id (by rw[hx];exact zz2 _);have hax:a∈x.s.aucs:=by rw[h.au,yyw];refine⟨ha,?_⟩;rw[hx];simp
obtain⟨i,hi,e⟩:=List.getElem_of_mem hax;have e2:au_ x.s.aucs i=a:=by unfold au_;rw[yy2,yy1 hi];exact e
have hs:=zXa h.good hi (by rw[e2,h.clock];exact hd);rw[e2] at hs;obtain⟨u,h1,h2,h3,h4,h5⟩:=hs;refine⟨by rw[h1],fun hn0=>?_⟩;have hnd:=h.nd;rw[hx,List.nodup_cons] at hnd;have hgo:x.go (zCa x.s a.id)=⟨r,u,x.l++[zCa x.s a.id]⟩:=by unfold WS.go;rw[hx,h1];rfl
rw[hgo];have hlen:(x.l++[zCa x.s a.id]).length=x.l.length+1:=by simp
refine⟨(zEJ h1).2,h3.trans h.clock,?_,fun id hid=>h.ids id (by rw[hx];exact zz4 _ hid),hnd.2,fun b hb hbd hbn=>?_,fun n hn1 hn2=>?_,?_⟩
.show u.aucs=_;rw[h2,h.au,List.filter_filter];refine List.filter_congr fun b hb=>?_;by_cases hbd:zAW b t.clock=true
 .rw[hbd,hx];simp only[Bool.not_true,Bool.false_or,List.mem_cons];by_cases hba:b.id=a.id
  .have:a.id ∉ r:=hnd.1;rw[hba];simp[this]
  .simp[hba]
 .have hbd:zAW b t.clock=false:=by{simpa using hbd};rw[hbd]
  have hba:b.id≠a.id:=fun e=>by rw[zJ0 (zs.1 gt.aucs).2.2 hb ha e,hd] at hbd;cases hbd
  simp[hba]
.by_cases hba:b.id=a.id
 .obtain rfl:=zJ0 (zs.1 gt.aucs).2.2 hb ha hba;exact⟨x.l.length,hn0,by rw[hlen];omega,by rw[zQ3];exact h5⟩
 .obtain⟨n,g1,g2,g3⟩:=h.done b hb hbd (by rw[hx,List.mem_cons];rintro(g|g);exact hba g;exact hbn g);exact⟨n,g1,by rw[hlen];omega,by rw[zNv g2];exact g3⟩
.have hn2:n<(x.l++[zCa x.s a.id]).length:=hn2;rw[hlen] at hn2;by_cases hn3:n<x.l.length
 .rw[zNv hn3];exact h.told n hn1 hn3
 .obtain rfl:n=x.l.length:=by{omega};exact⟨a,ha,hd,by rw[zQ3];exact h5⟩
.have:=h.cnt;rw[hx,List.length_cons] at this;show(x.l++[zCa x.s a.id]).length+r.length=_;rw[hlen];omega}
theorem zSd {t:Sta}(g:Good t)(f:Evt):SaI t 1 ⟨(zFH t.aucs t.clock).map (·.id),t,[f]⟩:=by{
have hr:=zGA t.aucs t.clock;have hm:=g.aucs;have hmem:∀ a,a∈zFH t.aucs t.clock↔a∈t.aucs/\zAW a t.clock=true:=fun a=>by
 rcases hr with ⟨_,_,h3⟩|⟨h1,_⟩
 .rw[h3.mem_iff,yyw]
 .rw[hm] at h1;cases h1
have hpw:=(zs.1 hm).2.2;refine⟨g,rfl,?_,fun id hid=>?_,?_,fun a ha hd hn=>?_,fun n h1 h2=>?_,?_⟩
.symm;refine List.filter_eq_self.2 fun a ha=>?_;by_cases hd:zAW a t.clock=true
 .have:a.id∈(zFH t.aucs t.clock).map (·.id):=List.mem_map.2 ⟨a,(hmem a).2 ⟨ha,hd⟩,rfl⟩;rw[yyb this,Bool.or_true]
 .have hd:zAW a t.clock=false:=by{simpa using hd};rw[hd];rfl
.obtain⟨a,ha,rfl⟩:=List.mem_map.1 hid;exact⟨a,((hmem a).1 ha).1,rfl,((hmem a).1 ha).2⟩
.rcases hr with ⟨_,_,h3⟩|⟨h1,_⟩
 .have hnd:((t.aucs.filter fun x=>zAW x t.clock).map (·.id)).Nodup:=by rw[List.nodup_iff_pairwise_ne,List.pairwise_map];exact(hpw.sublist List.filter_sublist).imp fun h=>Int.ne_of_lt h
  exact(h3.map _).nodup_iff.2 hnd
 .rw[hm] at h1;cases h1
.exact absurd (List.mem_map.2 ⟨a,(hmem a).2 ⟨ha,hd⟩,rfl⟩) hn
.simp at h2;omega
.show 1+_=_;rfl}
theorem Beh.len {nx:WS->Option Evt}{x y:WS}(h:Beh nx x y):x.l.length<=y.l.length:=by obtain⟨es,e⟩:=h.pre;rw[e,yy4];omega
theorem zXb {x:WS}{e:Evt}(h:saN x=some e):∃ id r,x.ids=id::r/\e=zCa x.s id:=by{
unfold saN at h;cases hx:x.ids with
| nil=>rw[hx] at h;cases h
| cons id r=>rw[hx] at h;exact⟨id,r,rfl,(Option.some.inj h).symm⟩}
theorem zKy {t:Sta}(g:Good t)(f:Evt){z:WS}(hb:Beh saN ⟨(zFH t.aucs t.clock).map (·.id),t,[f]⟩ z)(hn:saN z=none):SaI t 1 z/\z.ids=[]/\zFH z.s.aucs z.s.clock=[]:=by{
have key:=hb.keeps (I:=fun x=>SaI t 1 x/\1<=x.l.length) (fun x e hi he hk=>by
 obtain⟨id,r,hx,rfl⟩:=zXb he;refine⟨(SaI.next g hi.1 hx).2 hi.2,?_⟩
 show 1<=(x.l++[_]).length;simp) ⟨zSd g f,zzC _⟩
obtain⟨hI,_⟩:=key;have hids:z.ids=[]:=by
 cases hx:z.ids with
 | nil=>rfl
 | cons id r=>unfold saN at hn;rw[hx] at hn;cases hn
refine⟨hI,hids,?_⟩;unfold zFH;have hnone:(z.s.aucs.filter fun x=>zAW x z.s.clock)=[]:=by rw[List.filter_eq_nil_iff];intro a ha;rw[hI.au,hids,yyw] at ha;rw[hI.clock];simpa using ha.2
rw[hnone];split<;>rfl}
structure HapP (s t:Sta)(c:Cmd)(l:List Evt):Prop where
 all:zCs s l=(t,(l.length:Int),0)
 goodS:Good s
 good:Good t
 fst:∃ f es,zj s c=(f,0)/\l=f::es
 len:l.length<=40
 evs:∀ e∈l,e.v=3/\zk e=true
 row:c.kind=17->zFH t.aucs t.clock=[]
 cross:zFp s.orders=false->zFp t.orders=false
theorem row_le {l:List Auc}{clk:Int}(h:zAF l=true):(zFH l clk).length<=32:=by{
rcases zGA l clk with ⟨_,_,h3⟩|⟨h1,_⟩
.rw[h3.length_eq];have:=List.length_filter_le (fun x=>zAW x clk) l;have:=(zs.1 h).1;omega
.rw[h] at h1;cases h1}
theorem zPf {s:Sta}{c:Cmd}{l:List Evt}(h:zCb s c=(l,0)):∃ t,HapP s t c l:=by{
obtain⟨f,t,y,h⟩:=zPa h;have ha:=h.all;obtain⟨_,gt,_⟩:=ha.2;refine⟨y,ha.1,h.good,ha.2.1,?_,?_,ha.2.2.2.2,fun hk=>?_,fun hc=>?_⟩
.obtain⟨es,e⟩:=ha.2.2.2.1;exact⟨f,es,h.first,e⟩
.rcases h.beh with ⟨_,_,_,_,_,_,h32⟩|⟨_,z,k1,k2,rfl,rfl⟩|⟨_,_,rfl,_⟩
 .omega
 .obtain⟨hI,hids,_⟩:=zKy gt f k1 k2;have:=hI.cnt;rw[hids,yyp] at this;have h32:=row_le (clk:=t.clock) gt.aucs;simp only[List.length_nil] at this;omega
 .simp
.rcases h.beh with ⟨k1,_⟩|⟨_,z,k1,k2,rfl,rfl⟩|⟨_,k2,_⟩
 .omega
 .exact(zKy gt f k1 k2).2.2
 .exact absurd hk k2
.have hn:¬ zE1 s.orders:=fun g=>by rw[zIM.2 g] at hc;cases hc
 exact Bool.eq_false_iff.2 fun g=>h.cross hn (zIM.1 g)}
theorem zHQ {e:Evt}(hv:e.v=3)(hm:zk e=true):zAr e:=by{
have ev:=zQJ hv hm;refine⟨by omega,by have:=ev.kind;omega,fun t ht=>?_⟩;unfold zk at hm;split at hm
.cases hm
.rename_i l tx _;simp only[yy3] at hm;have h2:=hm.2;cases tx with
 | false =>
   simp only[Bool.false_eq_true,if_false,beq_iff_eq] at h2;rw[List.eq_nil_of_length_eq_zero h2] at ht;cases ht
 | true =>
   simp only[if_true,yy3,beq_iff_eq] at h2;obtain⟨t0,h3⟩:=List.length_eq_one_iff.1 h2.1;rw[h3] at h2 ht;rw[List.mem_singleton.1 ht];have h4:=h2.2;simp only[List.getD_cons_zero] at h4;unfold zAE at h4;simp only[yy3,decide_eq_true_eq] at h4;have:=h4.1.2;omega}
theorem zXc {s:Sta}{c:Cmd}{l:List Evt}(h:zCb s c=(l,0)):Good s/\Good (zCs s l).1/\∀ e∈l,zAr e:=by obtain⟨f,t,y,h⟩:=zPa h;exact⟨h.good,by rw[(h.all).1];exact(h.all).2.1,fun e he=>zHQ ((h.all).2.2.2.2 e he).1 ((h.all).2.2.2.2 e he).2⟩
theorem zPg {l:List Cmd}{k:Nat}(hk:k<l.length):cm_ l k∈l:=by unfold cm_;rw[yy2,yy1 hk];exact List.getElem_mem hk
structure RI where
 k:Nat
 s:Sta
 p:SPt
 e:Int
 N:zA
end Go.Proofs.YtejhijhnlogikaaGreatDoor
