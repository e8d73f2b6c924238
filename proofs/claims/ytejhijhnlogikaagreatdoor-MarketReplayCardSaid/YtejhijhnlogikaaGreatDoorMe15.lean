/- Steps of the proof. -/
import Derived.Test.YtejhijhnlogikaaGreatDoorMe14
set_option linter.all false
set_option maxHeartbeats 16000000
namespace Go.Proofs.YtejhijhnlogikaaGreatDoor
section
open Go Go.Sk Go.RowKit Tryz
attribute [local irreducible] Go.Calls
theorem zHq (p:List Pst)(x:Pl):(dlF p x).2=(p.map fun q=>if ((q.acct,q.asset):Pl)=x then q.held else 0).sum:=by{
induction p with
| nil=>rfl
| cons q p ih =>
  rw[zBb,List.map_cons,List.sum_cons,<- ih];by_cases h:q.acct=x.1/\q.asset=x.2
  .rw[if_pos h,if_pos (Prod.ext h.1 h.2)];simp only;omega
  .rw[if_neg h,if_neg fun e=>h ⟨congrArg Prod.fst e,congrArg Prod.snd e⟩];omega}
def bP3 (b:Bid):P3:=(b.acct,0,b.amount)
theorem zDZ {a:Auc}(h:zAS a=true)(x:Pl):zm (zS a) x=(if ((a.seller,a.inst):Pl)=x then a.qty else 0)+zm (a.bids.map bP3) x:=by unfold zS;rw[if_pos h,zDW];rfl
theorem zQM (a:Auc)(x:Pl):(dlF (zAj a) x).2=-(if ((a.seller,a.inst):Pl)=x then a.qty else 0) - zm (a.bids.map bP3) x:=by{
rw[zHq];unfold zAj zm;rw[List.map_append,List.sum_append,List.map_map,List.map_map];have:(a.bids.map ((fun q:Pst=>if ((q.acct,q.asset):Pl)=x then q.held else 0) ∘ fun b=>(⟨b.acct,0,b.amount,-b.amount⟩:Pst))).sum=-(a.bids.map ((fun y:P3=>if zA9 y=x then y.2.2 else 0) ∘ bP3)).sum:=by
 induction a.bids with
 | nil=>rfl
 | cons b l ih =>
   rw[List.map_cons,List.map_cons,List.sum_cons,List.sum_cons,ih];simp only[Function.comp];show(if ((b.acct,0):Pl)=x then -b.amount else 0)+_=-((if ((b.acct,0):Pl)=x then b.amount else 0)+_);split<;>omega
rw[this];simp only[List.map_cons,List.map_nil,List.sum_cons,List.sum_nil];split<;>omega}
theorem dl_app (p q:List Pst)(x:Pl):(dlF (p++q) x).2=(dlF p x).2+(dlF q x).2:=by rw[zHq,zHq,zHq,List.map_append,List.sum_append]
theorem zQN {p:List Pst}(h:∀ q∈p,q.held=0)(x:Pl):(dlF p x).2=0:=by rw[zHq];exact zG2 fun q hq=>by rw[h q hq];split<;>rfl
theorem zUZ {s:Sta}{id:Int}(h:¬ zAI s id<0):(zAI s id).toNat<s.aucs.length/\(au_ s.aucs (zAI s id).toNat).id=id:=by{
unfold zAI at h ⊢;rcases zX (fun j=>(au_ s.aucs j).id==id) s.aucs.length with ⟨k,hk,_,hp,hx⟩|⟨_,hx⟩
.rw[hx,Int.toNat_natCast];exact⟨hk,by simpa using hp⟩
.rw[hx] at h;exact absurd (by decide) h}
theorem zJV {l:List Auc}{i:Nat}(hi:i<l.length):l=l.take i++au_ l i::l.drop (i+1):=by
 conv=>lhs;rw[<- List.take_append_drop i l,List.drop_eq_getElem_cons hi]
 simp[au_,yy2,yy1 hi]
theorem zKj {s t:Sta}{a:Auc}(h:Good s)(hm:zAS a=true)(hb:a.bids=[])(he:zDS s a=(t,0)):Good t:=by{
unfold zDS at he;by_cases h1:a.id≠s.nextA\/a.fin<=s.clock
.rw[if_pos h1] at he;exact absurd (Prod.mk.inj he).2 (by decide)
rw[if_neg h1] at he;by_cases h2:zAQ s a.seller a.inst 0 (decide (32<=s.aucs.length))≠0
.rw[if_pos h2] at he;exact absurd (Prod.mk.inj he).2 h2
rw[if_neg h2] at he;obtain⟨q1,q2,_,_,q5⟩:=zJR (Decidable.of_not_not h2);simp only at he;by_cases h3:(zAX s a.seller a.inst a.qty).2≠0
.rw[if_pos h3] at he;rw[he] at h3;exact absurd rfl h3
rw[if_neg h3] at he;obtain rfl:=(Prod.mk.inj he).1;obtain⟨r1,r2⟩:=zDX (s:=s) (p:=[⟨a.seller,a.inst,-a.qty,a.qty⟩]) (t:=(zAX s a.seller a.inst a.qty).1) (Prod.ext rfl (Decidable.of_not_not h3));generalize (zAX s a.seller a.inst a.qty).1=u at r1 r2 ⊢;have u1:u.accts=s.accts:=by rw[r2]
have u2:u.insts=s.insts:=by rw[r2]
have u3:u.orders=s.orders:=by rw[r2]
have u4:u.clock=s.clock/\u.fee=s.fee/\u.nextO=s.nextO:=by rw[r2];exact⟨rfl,rfl,rfl⟩
obtain⟨l1,l2,l3⟩:=zs.1 h.aucs;have hn:=zAL.1 h.nums;have hid:=zOq hm;have hlen:s.aucs.length<32:=by have:=zzB q5;omega
have hlt:∀ x∈s.aucs,x.id<a.id:=fun x hx=>by have:=(zAU.1 (h.aucsIn x hx)).1;omega
refine h.upd (t:={ u with aucs:=s.aucs++[a],nextA:=s.nextA+1 }) r1 ?_ u1 u2 (zAL.2 ?_) (by simp only;rw[u3];exact h.ords) ?_ (zs.2 ⟨?_,?_,?_⟩) ?_ ?_
.intro q hq;rw[yyd] at hq;subst hq;exact⟨.inr q1,(zAh.1 q2).2⟩
.simp only;rw[u4.1,u4.2.1,u4.2.2];exact⟨hn.1,hn.2.1,hn.2.2.1,by omega⟩
.simp only;rw[u3];exact zHA (s:=s) h u1 u2 u4.2.2 fun x hx=>⟨x,hx,rfl,rfl,rfl,rfl⟩
.simp only[yy4,yyo];omega
.intro x hx;rcases List.mem_append.1 hx with e|e
 .exact l2 x e
 .rw[yyd] at e;subst e;exact hm
.simp only;rw[List.pairwise_append];exact⟨l3,by simp,fun x hx y hy=>by rw[yyd] at hy;subst hy;exact hlt x hx⟩
.intro x hx;refine zAU.2 ?_;unfold zAC zBO at *;simp only;rw[u1,u2];rcases List.mem_append.1 hx with e|e
 .have:=zAU.1 (h.aucsIn x e);unfold zAC zBO at this;exact⟨by omega,this.2⟩
 .rw[yyd] at e;subst e;exact⟨by omega,q1,q2,fun b hb'=>by rw[hb] at hb';cases hb'⟩
.intro x _;unfold zT;simp only;rw[u3,yy9,yya,zd,zd,zd,zDZ hm,hb,zJS,List.map_nil,zHo];omega}
theorem zW1 {a:Auc}(hm:zAS a=true)(hs:a.sealed=false):(a.bids=[]/\(zAN a).2=false)\/∃ b,a.bids=[b]/\zAN a=(b,true):=by{
have hl:=(zF1 hm hs).1;have ht:=zUN hm;match hb:a.bids with
| []=>left;refine⟨rfl,?_⟩;rw[ht,hb];decide
| [b] =>
  right;refine⟨b,rfl,?_⟩;have h2:(zAN a).2=true:=by rw[ht,hb];simp
  have h1:(zAN a).1=b:=by unfold zAN;rw[hb];have:hi [b]=0:=by{simp[hi,zCg]};rw[this,hm];rfl
  exact Prod.ext h1 h2
| b::c::r=>rw[hb] at hl;simp at hl}
theorem zQO {s t:Sta}{n:List Int}{sl:Bool}(h:Good s)(he:zJE s n sl=(t,0)):Good t:=by{
unfold zJE at he;simp only at he;by_cases h1:zAI s (nF n 0)<0\/(au_ s.aucs (zAI s (nF n 0)).toNat).sealed≠sl
.rw[if_pos h1] at he;exact absurd (Prod.mk.inj he).2 (by decide)
rw[if_neg h1] at he;obtain⟨hi,hid⟩:=zUZ (fun e=>h1 (.inl e));generalize (zAI s (nF n 0)).toNat=i at *;generalize ha:au_ s.aucs i=a at *;have hsl:a.sealed=sl:=Decidable.of_not_not fun e=>h1 (.inr e);have hmem:a∈s.aucs:=ha ▸ zi hi;by_cases h2:zAC s (nF n 1)=true
.rw[if_pos h2] at he;by_cases h3:zAW a s.clock=true
 .rw[if_pos h3] at he;exact absurd (Prod.mk.inj he).2 (by decide)
 rw[if_neg h3] at he;generalize hb:(⟨nF n 1,nF n 2⟩:Bid)=b at he;have hbo:zAC s b.acct=true:=by rw[<- hb];exact h2
 by_cases h4:(zN a b).2≠0
 .rw[if_pos h4] at he;exact absurd (Prod.mk.inj he).2 h4
 rw[if_neg h4] at he;have tk:Taken a b (zN a b).1:=taken (Prod.ext rfl (Decidable.of_not_not h4));generalize (zN a b).1=c at tk he;generalize hP:(⟨nF n 1,0,-nF n 2,nF n 2⟩::(if (zAN a).2=true/\sl=false then[⟨(zAN a).1.acct,0,(zAN a).1.amount,-(zAN a).1.amount⟩] else[]):List Pst)=P at he;rw[show nF n 1=b.acct by rw[<- hb],show nF n 2=b.amount by rw[<- hb]] at hP;by_cases h5:(zf s P).2≠0
 .rw[if_pos h5] at he;rw[he] at h5;exact absurd rfl h5
 rw[if_neg h5] at he;obtain rfl:=(Prod.mk.inj he).1;obtain⟨r1,r2⟩:=zDX (s:=s) (p:=P) (t:=(zf s P).1) (Prod.ext rfl (Decidable.of_not_not h5));generalize (zf s P).1=u at r1 r2 ⊢;have u1:u.accts=s.accts:=by rw[r2]
 have u2:u.insts=s.insts:=by rw[r2]
 have u3:u.orders=s.orders:=by rw[r2]
 have u4:u.clock=s.clock/\u.fee=s.fee/\u.nextO=s.nextO/\u.nextA=s.nextA:=by rw[r2];exact⟨rfl,rfl,rfl,rfl⟩
 have hma:=tk.may;have hmc:=zRj tk;have cid:c.id=a.id/\c.seller=a.seller/\c.inst=a.inst/\c.qty=a.qty:=by rw[tk.put];exact⟨rfl,rfl,rfl,rfl⟩
 obtain⟨l1,l2,l3⟩:=zs.1 h.aucs;have hA:=zAU.1 (h.aucsIn a hmem);have z:(0:Int)<=s.insts.length:=by omega
 have hbid:(∀ x,zm (c.bids.map bP3) x=zm (a.bids.map bP3) x+(dlF P x).2)/\InP s P/\∀ y∈c.bids,zAC s y.acct=true:=by
  cases hsl':sl with
  | true =>
    have e:=(zG5 tk (hsl.trans hsl')).1;have ec:c.bids=a.bids++[b]:=by rw[e];rfl
    rw[hsl',if_neg (fun g=>by cases g.2)] at hP;refine⟨fun x=>?_,fun q hq=>?_,fun y hy=>?_⟩
    .rw[ec,List.map_append,zd,<- hP,zJS,List.map_cons,List.map_nil,bP3,zDY]
    .rw[<- hP,yyd] at hq;subst hq;exact⟨.inr hbo,z⟩
    .rw[ec] at hy;rcases List.mem_append.1 hy with g|g
     .exact hA.2.2.2 y g
     .rw[yyd] at g;subst g;exact hbo
  | false =>
    have e:=(zKe tk (hsl.trans hsl')).1;have ec:c.bids=[b]:=by rw[e];rfl
    rcases zW1 hma (hsl.trans hsl') with ⟨g1,g2⟩|⟨d,g1,g2⟩
    .rw[hsl',if_neg (fun g=>by rw[g2] at g;cases g.1)] at hP;refine⟨fun x=>?_,fun q hq=>?_,fun y hy=>?_⟩
     .rw[ec,g1,<- hP,zJS,List.map_cons,List.map_nil,bP3,zDY,zHo];omega
     .rw[<- hP,yyd] at hq;subst hq;exact⟨.inr hbo,z⟩
     .rw[ec,yyd] at hy;subst hy;exact hbo
    .rw[hsl',g2,if_pos ⟨rfl,rfl⟩] at hP;have hd:zAC s d.acct=true:=hA.2.2.2 d (by rw[g1];exact zz2 _);refine⟨fun x=>?_,fun q hq=>?_,fun y hy=>?_⟩
     .rw[ec,g1,<- hP,zHq];simp only[List.map_cons,List.map_nil,bP3,zDY,List.sum_cons,List.sum_nil];split<;>split<;>omega
     .rw[<- hP] at hq;simp only[List.mem_cons,List.not_mem_nil,or_false] at hq;rcases hq with rfl|rfl
      .exact⟨.inr hbo,z⟩
      .exact⟨.inr hd,z⟩
     .rw[ec,yyd] at hy;subst hy;exact hbo
 obtain⟨b1,b2,b3⟩:=hbid;have hsp:=zJV hi;rw[ha] at hsp;have hset:s.aucs.set i c=s.aucs.take i++c::s.aucs.drop (i+1):=List.set_eq_take_append_cons_drop .. |>.trans (if_pos hi);refine h.upd (t:={ u with aucs:=s.aucs.set i c }) r1 b2 u1 u2 (zAL.2 (by simp only;rw[u4.1,u4.2.1,u4.2.2.1,u4.2.2.2];exact zAL.1 h.nums)) (by simp only;rw[u3];exact h.ords) ?_ (zs.2 ⟨by rw[List.length_set];exact l1,?_,?_⟩) ?_ ?_
 .simp only;rw[u3];exact zHA (s:=s) h u1 u2 u4.2.2.1 fun x hx=>⟨x,hx,rfl,rfl,rfl,rfl⟩
 .intro x hx;rcases List.mem_or_eq_of_mem_set hx with e|e
  .exact l2 x e
  .rw[e];exact hmc
 .simp only;rw[hset];rw[hsp] at l3;rw[List.pairwise_append,List.pairwise_cons] at l3 ⊢;refine⟨l3.1,⟨fun y hy=>by rw[cid.1];exact l3.2.1.1 y hy,l3.2.1.2⟩,fun x hx y hy=>?_⟩;rcases List.mem_cons.1 hy with e|e
  .subst e;rw[cid.1];exact l3.2.2 x hx a (zz2 _)
  .exact l3.2.2 x hx y (zz5 _ e)
 .intro x hx;refine zAU.2 ?_;unfold zAC zBO at *;simp only;rw[u1,u2,u4.2.2.2];rcases List.mem_or_eq_of_mem_set hx with e|e
  .exact zAU.1 (h.aucsIn x e)
  .subst e;rw[cid.1,cid.2.1,cid.2.2.1];exact⟨hA.1,hA.2.1,hA.2.2.1,b3⟩
 .intro x _;unfold zT;simp only;rw[u3,hset];have e:zm (s.aucs.flatMap zS) x=zm ((s.aucs.take i).flatMap zS) x+(zm (zS a) x+zm ((s.aucs.drop (i+1)).flatMap zS) x):=by
   conv=>lhs;rw[hsp]
   rw[yy9,List.flatMap_cons,zd,zd]
  rw[zd,zd,e,yy9,List.flatMap_cons,zd,zd,zDZ hmc,zDZ hma,cid.2.1,cid.2.2.1,cid.2.2.2,b1 x];omega
.rw[if_neg h2] at he;exact absurd (Prod.mk.inj he).2 (by decide)}
theorem zJW {s t:Sta}{i:Nat}{p:List Pst}(h:Good s)(hi:i<s.aucs.length)(hp:InP s p)(h0:∀ q∈p,q.held=0)(he:zAz s i p=(t,0)):Good t:=by{
unfold zAz at he;simp only at he;generalize ha:au_ s.aucs i=a at he;have hmem:a∈s.aucs:=ha ▸ zi hi;have hA:=zAU.1 (h.aucsIn a hmem);obtain⟨l1,l2,l3⟩:=zs.1 h.aucs;by_cases h5:(zf s (p++zAj a)).2≠0
.rw[if_pos h5] at he;rw[he] at h5;exact absurd rfl h5
rw[if_neg h5] at he;obtain rfl:=(Prod.mk.inj he).1;obtain⟨r1,r2⟩:=zDX (s:=s) (p:=p++zAj a) (t:=(zf s (p++zAj a)).1) (Prod.ext rfl (Decidable.of_not_not h5));generalize (zf s (p++zAj a)).1=u at r1 r2 ⊢;have u1:u.accts=s.accts:=by rw[r2]
have u2:u.insts=s.insts:=by rw[r2]
have u3:u.orders=s.orders:=by rw[r2]
have u4:u.clock=s.clock/\u.fee=s.fee/\u.nextO=s.nextO/\u.nextA=s.nextA:=by rw[r2];exact⟨rfl,rfl,rfl,rfl⟩
have hsp:=zJV hi;rw[ha] at hsp;have her:s.aucs.eraseIdx i=s.aucs.take i++s.aucs.drop (i+1):=List.eraseIdx_eq_take_drop_succ ..;have hsub:∀ x,x∈s.aucs.eraseIdx i->x∈s.aucs:=fun x hx=>List.mem_of_mem_eraseIdx hx;have hin:InP s (p++zAj a):=fun q hq=>by
 rcases List.mem_append.1 hq with e|e
 .exact hp q e
 .unfold zAj at e;rcases List.mem_append.1 e with g|g
  .obtain⟨b,hb,rfl⟩:=List.mem_map.1 g;exact⟨.inr (hA.2.2.2 b hb),by show(0:Int)<=_;omega⟩
  .rw[yyd] at g;subst g;exact⟨.inr hA.2.1,(zAh.1 hA.2.2.1).2⟩
refine h.upd (t:={ u with aucs:=s.aucs.eraseIdx i }) r1 hin u1 u2 (zAL.2 (by simp only;rw[u4.1,u4.2.1,u4.2.2.1,u4.2.2.2];exact zAL.1 h.nums)) (by simp only;rw[u3];exact h.ords) ?_ (zs.2 ⟨?_,fun x hx=>l2 x (hsub x hx),?_⟩) ?_ ?_
.simp only;rw[u3];exact zHA (s:=s) h u1 u2 u4.2.2.1 fun x hx=>⟨x,hx,rfl,rfl,rfl,rfl⟩
.have:=List.length_eraseIdx_le s.aucs i;simp only;omega
.exact l3.sublist (List.eraseIdx_sublist ..)
.intro x hx;have:=zLy (s:=s) (u:={ u with aucs:=s.aucs.eraseIdx i }) h u1 u2 u4.2.2.2 x (hsub x hx);exact this
.intro x _;unfold zT;simp only;have e:zm (s.aucs.flatMap zS) x=zm ((s.aucs.take i).flatMap zS) x+(zm (zS a) x+zm ((s.aucs.drop (i+1)).flatMap zS) x):=by
  conv=>lhs;rw[hsp]
  rw[yy9,List.flatMap_cons,zd,zd]
 rw[u3,zd,zd,e,her,yy9,zd,dl_app,zQN h0,zQM,zDZ (l2 a hmem)];omega}
theorem zW2 {a:Auc}(hm:zAS a=true)(hw:(zH a).2=true):∃ b∈a.bids,(zH a).1.acct=b.acct:=by obtain⟨m,h1,h2,_⟩:=zF2 hm hw;exact⟨_,zi h1,h2⟩
theorem zEI {s:Sta}{a:Auc}(h:(zI s a).2.2=true):(zH a).2=true/\(zI s a).1=(zH a).1/\(zI s a).2.1=(zBq (zH a).1.amount s.fee).1/\zAf s.rows a.seller 0+(zH a).1.amount - (zBq (zH a).1.amount s.fee).1<=1125899906842624/\zAf s.rows (zH a).1.acct a.inst+a.qty<=1125899906842624:=by{
unfold zI at h ⊢;by_cases h1:(zH a).2=true
.rw[if_pos h1] at h ⊢;simp only at h ⊢;by_cases h2:zAf s.rows a.seller 0+(zH a).1.amount - (zBq (zH a).1.amount s.fee).1>1125899906842624\/zAf s.rows (zH a).1.acct a.inst+a.qty>1125899906842624
 .rw[if_pos h2] at h;cases h
 .rw[if_neg h2];exact⟨h1,rfl,rfl,by omega,by omega⟩
.rw[if_neg h1] at h;cases h}
theorem zUa {s t:Sta}{n:List Int}(h:Good s)(he:zGM s n=(t,0)):Good t:=by{
unfold zGM at he;simp only at he;by_cases h1:zAI s (nF n 0)<0
.rw[if_pos h1] at he;exact absurd (Prod.mk.inj he).2 (by decide)
rw[if_neg h1] at he;obtain⟨hi,hid⟩:=zUZ h1;generalize (zAI s (nF n 0)).toNat=i at *;generalize ha:au_ s.aucs i=a at *;have hmem:a∈s.aucs:=ha ▸ zi hi;have hA:=zAU.1 (h.aucsIn a hmem);have hm:=(zs.1 h.aucs).2.1 a hmem;split at he
.rename_i h2;obtain⟨w1,w2,w3,_,_⟩:=zEI h2.2.1;obtain⟨b,hb,e⟩:=zW2 hm w1;have hw:zAC s (zI s a).1.acct=true:=by rw[w2,e];exact hA.2.2.2 b hb
 have z:(0:Int)<=s.insts.length:=by omega
 have hh:=(zAh.1 hA.2.2.1).2;refine zJW h hi (fun q hq=>?_) (fun q hq=>?_) he
 .unfold zEA at hq;simp only[List.mem_cons,List.not_mem_nil,or_false] at hq;rcases hq with rfl|rfl|rfl|rfl|rfl
  .exact⟨.inr hw,z⟩
  .exact⟨.inr hA.2.1,z⟩
  .exact⟨.inl (Int.le_refl _),z⟩
  .exact⟨.inr hA.2.1,hh⟩
  .exact⟨.inr hw,hh⟩
 .unfold zEA at hq;simp only[List.mem_cons,List.not_mem_nil,or_false] at hq;rcases hq with rfl|rfl|rfl|rfl|rfl<;>rfl
.exact absurd (Prod.mk.inj he).2 (by decide)}
theorem zOz {s t:Sta}{n:List Int}(h:Good s)(he:zCn s n=(t,0)):Good t:=by{
unfold zCn at he;simp only at he;by_cases h1:zAI s (nF n 0)<0
.rw[if_pos h1] at he;exact absurd (Prod.mk.inj he).2 (by decide)
rw[if_neg h1] at he;obtain⟨hi,_⟩:=zUZ h1;split at he
.exact absurd (Prod.mk.inj he).2 (by decide)
.exact zJW h hi (fun q hq=>by cases hq) (fun q hq=>by cases hq) he}
theorem wi {n m:Int}(h:1<=n/\n<=m):zp n m=true:=by simp[zp,h]
theorem zQP {a:Auc}(hb:a.bids=[])(h1:1<=a.id/\a.id<=1099511627776)(h2:1<=a.seller/\a.seller<=64)(h3:1<=a.inst/\a.inst<=16)(h4:1<=a.qty/\a.qty<=1048576)(h5:1<=a.reserve/\a.reserve<=1125899906842624)(h6:1<=a.fin/\a.fin<=1099511627776)(h7:a.sealed=true->a.step=0)(h8:a.sealed=false->1<=a.step/\a.step<=1125899906842624):zAS a=true :=
 mayP.2 ⟨wi h1,wi h2,wi h3,wi h4,wi h5,wi h6,h7,fun e=>wi (h8 e),by rw[hb];decide,fun _=>by rw[hb];decide,fun _ j hj=>by rw[hb] at hj;exact absurd hj (zzE _),fun j hj=>by rw[hb] at hj;exact absurd hj (zzE _)⟩
theorem kinds {k:Int}(h:1<=k/\k<=23):k=1\/k=2\/k=3\/k=4\/k=5\/k=6\/k=7\/k=8\/k=9\/k=10\/k=11\/k=12\/k=13\/k=14\/k=15\/k=16\/k=17\/k=18\/k=19\/k=20\/k=21\/k=22\/k=23:=by omega
theorem zUb {s t:Sta}{e:Evt}(h:Good s)(he:EvOk e)(hd:zB6 s e.kind e.nums (e.texts.getD 0 ByteArray.empty)=(t,0)):Good t:=by{
have hat:=fun(i c:Nat) (hc:(zOr e.kind)[i]?=some c)=>he.at i hc;have htx:=he.text;obtain⟨k,hk⟩:∃ k,e.kind=k:=⟨_,rfl⟩;have hkk:=he.kind;rw[hk] at hd hat htx hkk;clear he hk;generalize e.nums=n at *;generalize e.texts.getD 0 ByteArray.empty=nm at *;have z:(0:Int)<=s.insts.length:=by omega
unfold zB6 at hd;rcases kinds hkk with rfl|rfl|rfl|rfl|rfl|rfl|rfl|rfl|rfl|rfl|rfl|rfl|rfl|rfl|rfl|rfl|rfl|rfl|rfl|rfl|rfl|rfl|rfl<;>simp only[Int.reduceEq,if_false,if_true] at hd
.exact zOs h (zJQ (hat 0 97 rfl)).2 (htx rfl) hd
.exact zOw h hd
.exact zOu h (zEF (hat 0 105 rfl)).2 (bnd_k (hat 1 107 rfl)) (htx rfl) hd
.exact zNF h hd
.exact zNF h hd
.split at hd
 .rename_i g;exact zFc h hd (.inl (Int.le_refl _)) (.inr g) z
 .exact absurd (Prod.mk.inj hd).2 (by decide)
.split at hd
 .rename_i g;exact zFc h hd (.inr g) (.inl (Int.le_refl _)) z
 .exact absurd (Prod.mk.inj hd).2 (by decide)
.split at hd
 .rename_i g;exact zFc h hd (.inl (Int.le_refl _)) (.inr g.1) (zAh.1 g.2).2
 .exact absurd (Prod.mk.inj hd).2 (by decide)
.split at hd
 .rename_i g;exact zFc h hd (.inr g.1) (.inl (Int.le_refl _)) (zAh.1 g.2).2
 .exact absurd (Prod.mk.inj hd).2 (by decide)
.obtain rfl:=(Prod.mk.inj hd).1;exact zW0 h (bnd_b (hat 0 98 rfl))
.exact zOx h ((zAi _).2 ⟨bnd_o (hat 0 111 rfl),zJQ (hat 1 97 rfl),zEF (hat 2 105 rfl),by have:=zUT (hat 3 115 rfl);show nF n 3=1\/nF n 3=2;omega,zQK (hat 4 112 rfl),zG8 (hat 5 113 rfl)⟩) hd
.exact zKD h hd
.exact zOy h hd
.exact zKj h (zQP rfl (bnd_c (hat 0 99 rfl)) (zJQ (hat 1 97 rfl)) (zEF (hat 2 105 rfl)) (zG8 (hat 3 113 rfl)) (zIH (hat 4 109 rfl)) (zUU (hat 6 116 rfl)) (fun e=>by cases e) (fun _=>zIH (hat 5 109 rfl))) rfl hd
.exact zQO h hd
.exact zKj h (zQP rfl (bnd_c (hat 0 99 rfl)) (zJQ (hat 1 97 rfl)) (zEF (hat 2 105 rfl)) (zG8 (hat 3 113 rfl)) (zIH (hat 4 109 rfl)) (zUU (hat 5 116 rfl)) (fun _=>rfl) (fun e=>by cases e)) rfl hd
.exact zQO h hd
.exact zUa h hd
.exact zOz h hd
.exact zRn h (zUU (hat 0 116 rfl)).2 hd
.unfold zBy at hd;split at hd
 .rename_i g;split at hd
  .exact absurd (Prod.mk.inj hd).2 (by decide)
  .exact zFc h hd (.inr g.1) (.inr g.2) z
 .exact absurd (Prod.mk.inj hd).2 (by decide)
.exact zND h (htx rfl) hd
.exact zOv h (bnd_k (hat 1 107 rfl)) hd}
theorem zEu {s t:Sta}{e:Evt}(h:Good s)(hd:zAG s e=(t,0)):Good t:=by{
unfold zAG at hd;by_cases h1:e.v=3/\zk e=true
.rw[if_pos h1] at hd;split at hd
 .exact zUb h (zQJ h1.1 h1.2) hd
 .rename_i g;exact absurd (Prod.mk.inj hd).2 g
.rw[if_neg h1] at hd;exact absurd (Prod.mk.inj hd).2 (by decide)}
theorem zEJ {s t:Sta}{e:Evt}(hd:zM s e=(t,0)):Good s/\Good t:=by{
unfold zM at hd;by_cases h1:zCP s=true
.rw[if_pos h1] at hd;exact⟨zAl.1 h1,zEu (zAl.1 h1) hd⟩
.rw[if_neg h1] at hd;exact absurd (Prod.mk.inj hd).2 (by decide)}
theorem zQQ:∀ {l:List Evt} {s t:Sta} {i j:Int},Good s->zAx s l i=(t,j,0)->Good t
 | [],s,t,i,j,h,he=>by
   obtain rfl:=(Prod.mk.inj he).1;exact h
 | e::l,s,t,i,j,h,he=>by
   unfold zAx at he
   by_cases h1:(zAG s e).2=0
   .rw[if_pos h1] at he
    exact zQQ (zEu h (Prod.ext rfl h1)) he
   .rw[if_neg h1] at he;exact absurd (Prod.mk.inj (Prod.mk.inj he).2).2 h1
theorem all_cons (e:Evt)(l:List Evt)(s:Sta)(i:Int):zAx s (e::l) i=if (zAG s e).2=0 then zAx (zAG s e).1 l (i+1) else(zBg,i,(zAG s e).2):=rfl
theorem zLz:∀ {l m:List Evt} {s:Sta} {i:Int},zAx s (l++m) i=if (zAx s l i).2.2=0 then zAx (zAx s l i).1 m (zAx s l i).2.1 else zAx s l i
 | [],m,s,i=>by rw[List.nil_append];rfl
 | e::l,m,s,i=>by
   rw[List.cons_append,all_cons,all_cons]
   by_cases h1:(zAG s e).2=0
   .rw[if_pos h1,if_pos h1];exact zLz
   .rw[if_neg h1,if_neg h1];simp only;rw[if_neg h1]
theorem zIh:∀ {l:List Evt} {s:Sta} {i:Int},zAx s l i=((zAx s l 0).1,i+(zAx s l 0).2.1,(zAx s l 0).2.2)
 | [],s,i=>by simp[zAx]
 | e::l,s,i=>by
   unfold zAx
   by_cases h1:(zAG s e).2=0
   .rw[if_pos h1,if_pos h1,zIh (i:=i+1),zIh (i:=0+1)]
    simp only;congr 2;omega
   .rw[if_neg h1,if_neg h1];simp
def zJX:Int:=1125899906842624
theorem zRp {E:Pl->Int × Int}:(zBV E=0↔∀ x∈zB5,zAR x.1 (E x).1 (E x).2=0)/\((∃ x∈zB5,zAR x.1 (E x).1 (E x).2=47)->zBV E=47)/\((∀ x∈zB5,zAR x.1 (E x).1 (E x).2≠47)->(∃ x∈zB5,zAR x.1 (E x).1 (E x).2=41)->zBV E=41):=by{
refine⟨zJK,fun⟨x,hx,e⟩=>?_,fun h ⟨x,hx,e⟩=>?_⟩
.unfold zBV;rw[if_pos (List.any_eq_true.2 ⟨x,hx,by simp[e]⟩)]
.unfold zBV;rw[if_neg,if_pos (List.any_eq_true.2 ⟨x,hx,by simp[e]⟩)];rw[List.any_eq_true];rintro⟨y,hy,g⟩;exact h y hy (by simpa using g)}
theorem zQR {l:List Row4}{p:List Pst}(h:zAZ l=true)(hp:zA5 p=0):zBR l p=if zBV (zAH l p)=0 then(mkR (zAH l p),0) else([],zBV (zAH l p)):=by unfold zBR;rw[if_pos h,if_pos hp]
theorem zRq {p:List Pst}:zA5 p=0↔p.length<=64/\p.any zCw=false/\∀ s:Nat,s<17->zBx p s=0:=by refine⟨zJJ,fun⟨h1,h2,h3⟩=>?_⟩;unfold zA5;rw[if_neg qO,h2,if_neg (by simp),if_neg];rw[List.any_eq_true];rintro⟨s,hs,e⟩;rw[h3 s (List.mem_range.1 hs)] at e;simp at e
def PlOk (a s:Int):Prop:=(0<=a/\a<=64)/\0<=s/\s<=16
theorem zL0 {q:Pst}:zCw q=false↔PlOk q.acct q.asset/\(-zJX<=q.free/\q.free<=zJX)/\(-zJX<=q.held/\q.held<=zJX)/\(q.acct=0->q.held=0):=by{
unfold zCw zCf zKB PlOk zJX;simp only[Bool.or_eq_false_iff,Bool.not_eq_false',yy3,decide_eq_true_eq,yyy,Bool.and_eq_false_iff,yyq,bne_eq_false_iff_eq];constructor
.rintro⟨⟨⟨⟨⟨⟨a,b⟩,c⟩,d⟩,e,f⟩,g,h⟩,i⟩;exact⟨⟨⟨a,b⟩,c,d⟩,⟨by omega,by omega⟩,⟨by omega,by omega⟩,fun h0=>i.resolve_left fun n=>n h0⟩
.rintro⟨⟨⟨a,b⟩,c,d⟩,⟨e,f⟩,⟨g,h⟩,i⟩;refine⟨⟨⟨⟨⟨⟨a,b⟩,c⟩,d⟩,by omega,by omega⟩,by omega,by omega⟩,?_⟩;by_cases h0:q.acct=0
 .exact .inr (i h0)
 .exact .inl h0}
theorem zNK {l:List Row4}(h:zAZ l=true){a s:Int}(ha:a≠0):zAf l a s=(atR l (a,s)).1+(atR l (a,s)).2:=by have g:=(zED h (a,s)).2 ha;unfold zAf zOX zCH;rw[if_neg qO]
def SameW (r t:Sta × Int):Prop:=r.2=t.2/\(t.2=0->r.1=t.1)
theorem SameW.refl (r:Sta × Int):SameW r r:=⟨rfl,fun _=>rfl⟩
theorem zRr (p r:List Pst)(x:Pl):dlF (p++r) x=((dlF p x).1+(dlF r x).1,(dlF p x).2+(dlF r x).2):=by{
induction p with
| nil=>simp[dlF]
| cons q p ih =>
  rw[List.cons_append,zBb,zBb,ih];split
  .ext<;>simp only<;>omega
  .rfl}
theorem zUc {p:List Pst}(h:∀ q∈p,q.free+q.held=0)(x:Pl):(dlF p x).1+(dlF p x).2=0:=by{
induction p with
| nil=>rfl
| cons q p ih =>
  have h1:=ih fun y hy=>h y (zz5 _ hy);have h2:=h q (zz2 _);rw[zBb];split
  .simp only;omega
  .exact h1}
def zL1 (n:List Int):Odr:=⟨nF n 0,nF n 1,nF n 2,nF n 3,nF n 4,nF n 5⟩
theorem zNL {s:Sta}(h:Good s):s.accts.length<=64:=(zCJ.1 h.accts).1
theorem zNM {s:Sta}(h:Good s):s.insts.length<=16:=(zCK.1 h.insts).1
def ev_ (l:List Evt)(j:Nat):Evt:=l.getD j ⟨0,0,[],[]⟩
def EvsM (F:zA)(a:OA)(cap:Nat)(l:List Evt)(q:Nat->EPt):Prop:=SlA F 4 a l.length cap (fun j=>(ev_ l j).cells (q j))/\∀ j,j<l.length->EvtM F (ev_ l j) (q j)
theorem EvsM.mono {F G:zA}{a:OA}{cap:Nat}{l:List Evt}{q:Nat->EPt}(h:EvsM F a cap l q)(hs:F⊆G):EvsM G a cap l q:=⟨SlA.mono h.1 hs,fun j hj=>(h.2 j hj).mono hs⟩
theorem zHB {F:zA}{b:Nat}{T:TypeId}(n:List Int)(hl:n.length<=1000)(h:cb b (n.map (Value.int .i64)) T∈F):Ints F (some ⟨b,0,none⟩) n.length n:=by refine⟨zzC _,by omega,b,0,_,T,(0,0),fun _=>⟨rfl,h,fun j hj=>?_⟩⟩;refine⟨by simp;omega,?_⟩;simp only[yyv,Nat.mul_one];rw[List.drop_eq_getElem_cons (by simpa using hj)];simp[iel,yy1 hj]
theorem zQS {F:zA}{b:Nat}{T:TypeId}(t:ByteArray)(h:cb b [.string t] T∈F):SlA F 1 (some ⟨b,0,none⟩) 1 1 fun j=>[Value.string (([t]:List ByteArray).getD j ByteArray.empty)] :=
 ⟨Nat.le_refl 1,(show 1<=140737488355328 by decide),b,0,_,T,(0,0),fun _=>⟨rfl,h,fun j hj=>by
  have:j=0:=by have:j<1:=hj;omega
  subst this
  exact⟨Nat.le_refl 1,rfl⟩⟩⟩
theorem zL2 {F:zA}{b:Nat}{T:TypeId}(k:Int)(n:List Int)(hl:n.length<=1000)(h:cb b (n.map (Value.int .i64)) T∈F):EvtM F (evF k n) ⟨some ⟨b,0,none⟩,n.length,none,0⟩:=⟨zHB n hl h,⟨zzD _,zzD _,0,0,[],0,(0,0),fun h=>absurd h (yyz 0)⟩⟩
theorem zW3 {F:zA}{b bt:Nat}{T T2:TypeId}(k:Int)(t:ByteArray)(n:List Int)(hl:n.length<=1000)(h:cb b (n.map (Value.int .i64)) T∈F)(ht:cb bt [.string t] T2∈F):EvtM F (evN k t n) ⟨some ⟨b,0,none⟩,n.length,some ⟨bt,0,none⟩,1⟩:=⟨zHB n hl h,zQS t ht⟩
end
section
open Go Go.Sk Go.RowKit Go.ChangeShapes Tryz
attribute [local irreducible] Go.Calls
structure StaA (s:Sta):Prop where
 acN:∀ k,k<s.accts.length->(ac_ s.accts k).name.size<=140737488355328
 insN:∀ k,k<s.insts.length->(in_ s.insts k).name.size<=140737488355328
 rw:∀ j,j<s.rows.length->(rw_ s.rows j).wf
 od:∀ k,k<s.orders.length->0<=(od_ s.orders k).side/\(od_ s.orders k).side<256
theorem zO0 {i:Int}(h:(Lit.int .i64 i).wf=true):-9223372036854775808<=i/\i<=9223372036854775807:=by simpa [Lit.wf,IntKind.min,IntKind.max,IntKind.signed,IntKind.bits] using h
theorem zNN {i:Int}(h:(Lit.int .u8 i).wf=true):0<=i/\i<256:=by
 have:0<=i/\i<=255:=by simpa [Lit.wf,IntKind.min,IntKind.max,IntKind.signed,IntKind.bits] using h
 omega
section
variable {H:Type}{enc:TypeId × Value->H}{w:World}
set_option maxRecDepth 20000 in
theorem rz_ac {cs:List Value}(h:Rz enc prog w 97 cs):∃ x:Ac,cs=x.cells/\x.name.size<=140737488355328:=by have h:=h.struct (sg.desc rfl rfl) (by kernel_rfl);obtain⟨x0,cs,rfl,b0,h⟩:=h.string (sg.desc rfl rfl) (sg.ncells rfl rfl);obtain⟨x1,cs,rfl,_,h⟩:=h.bool (sg.desc rfl rfl) (sg.ncells rfl rfl);obtain rfl:=h.nil;exact⟨⟨x0,x1⟩,rfl,b0⟩
set_option maxRecDepth 20000 in
theorem rz_ins {cs:List Value}(h:Rz enc prog w 99 cs):∃ x:Ins,cs=x.cells/\x.name.size<=140737488355328:=by have h:=h.struct (sg.desc rfl rfl) (by kernel_rfl);obtain⟨x0,cs,rfl,b0,h⟩:=h.string (sg.desc rfl rfl) (sg.ncells rfl rfl);obtain⟨x1,cs,rfl,_,h⟩:=h.int (sg.desc rfl rfl) (sg.ncells rfl rfl);obtain⟨x2,cs,rfl,_,h⟩:=h.bool (sg.desc rfl rfl) (sg.ncells rfl rfl);obtain rfl:=h.nil;exact⟨⟨x0,x1,x2⟩,rfl,b0⟩
set_option maxRecDepth 20000 in
theorem rz_row {cs:List Value}(h:Rz enc prog w 104 cs):∃ x:Row4,cs=x.cells/\x.wf:=by have h:=h.struct (sg.desc rfl rfl) (by kernel_rfl);obtain⟨x0,cs,rfl,_,h⟩:=h.int (sg.desc rfl rfl) (sg.ncells rfl rfl);obtain⟨x1,cs,rfl,_,h⟩:=h.int (sg.desc rfl rfl) (sg.ncells rfl rfl);obtain⟨x2,cs,rfl,b2,h⟩:=h.int (sg.desc rfl rfl) (sg.ncells rfl rfl);obtain⟨x3,cs,rfl,b3,h⟩:=h.int (sg.desc rfl rfl) (sg.ncells rfl rfl);obtain rfl:=h.nil;exact⟨⟨x0,x1,x2,x3⟩,rfl,zO0 b2,zO0 b3⟩
set_option maxRecDepth 20000 in
theorem rz_odr {cs:List Value}(h:Rz enc prog w 45 cs):∃ x:Odr,cs=x.cells/\(0<=x.side/\x.side<256):=by have h:=h.struct (sg.desc rfl rfl) (by kernel_rfl);obtain⟨x0,cs,rfl,_,h⟩:=h.int (sg.desc rfl rfl) (sg.ncells rfl rfl);obtain⟨x1,cs,rfl,_,h⟩:=h.int (sg.desc rfl rfl) (sg.ncells rfl rfl);obtain⟨x2,cs,rfl,_,h⟩:=h.int (sg.desc rfl rfl) (sg.ncells rfl rfl);obtain⟨x3,cs,rfl,b3,h⟩:=h.int (sg.desc rfl rfl) (sg.ncells rfl rfl);obtain⟨x4,cs,rfl,_,h⟩:=h.int (sg.desc rfl rfl) (sg.ncells rfl rfl);obtain⟨x5,cs,rfl,_,h⟩:=h.int (sg.desc rfl rfl) (sg.ncells rfl rfl);obtain rfl:=h.nil;exact⟨⟨x0,x1,x2,x3,x4,x5⟩,rfl,zNN b3⟩
set_option maxRecDepth 20000 in
theorem rz_bid {cs:List Value}(h:Rz enc prog w 136 cs):∃ x:Bid,cs=x.cells/\True:=by have h:=h.struct (sg.desc rfl rfl) (by kernel_rfl);obtain⟨x0,cs,rfl,_,h⟩:=h.int (sg.desc rfl rfl) (sg.ncells rfl rfl);obtain⟨x1,cs,rfl,_,h⟩:=h.int (sg.desc rfl rfl) (sg.ncells rfl rfl);obtain rfl:=h.nil;exact⟨⟨x0,x1⟩,rfl,trivial⟩
set_option maxRecDepth 20000 in
theorem rz_auc {cs:List Value}(h:Rz enc prog w 86 cs):∃ x:Auc × (OA × Nat),cs=x.1.cells x.2.1 x.2.2/\Bids (zDD w) x.2.1 x.2.2 x.1.bids:=by have h:=h.struct (sg.desc rfl rfl) (by kernel_rfl);obtain⟨x0,cs,rfl,_,h⟩:=h.int (sg.desc rfl rfl) (sg.ncells rfl rfl);obtain⟨x1,cs,rfl,_,h⟩:=h.int (sg.desc rfl rfl) (sg.ncells rfl rfl);obtain⟨x2,cs,rfl,_,h⟩:=h.int (sg.desc rfl rfl) (sg.ncells rfl rfl);obtain⟨x3,cs,rfl,_,h⟩:=h.bool (sg.desc rfl rfl) (sg.ncells rfl rfl);obtain⟨x4,cs,rfl,_,h⟩:=h.int (sg.desc rfl rfl) (sg.ncells rfl rfl);obtain⟨x5,cs,rfl,_,h⟩:=h.int (sg.desc rfl rfl) (sg.ncells rfl rfl);obtain⟨x6,cs,rfl,_,h⟩:=h.int (sg.desc rfl rfl) (sg.ncells rfl rfl);obtain⟨x7,cs,rfl,_,h⟩:=h.int (sg.desc rfl rfl) (sg.ncells rfl rfl);obtain⟨a,len,cap,cs,rfl,hs,h⟩:=h.slice (sg.desc rfl rfl) (sg.ncells rfl rfl) (sg.ncells rfl rfl) (sg.nbytes rfl rfl);obtain rfl:=h.nil;obtain⟨l,rfl,hl,_⟩:=hs.named (el:=Bid.cells) (fun _=>rz_bid);exact⟨⟨⟨x0,x1,x2,x3,x4,x5,x6,x7,l⟩,a,cap⟩,rfl,hl⟩
set_option maxRecDepth 20000 in
theorem rz_sta {cs:List Value}(h:Rz enc prog w 40 cs):∃ (s:Sta) (p:SPt),cs=s.cells p/\StaM (zDD w) s p/\StaA s:=by{
have h:=h.struct (sg.desc rfl rfl) (by kernel_rfl);obtain⟨x0,cs,rfl,_,h⟩:=h.int (sg.desc rfl rfl) (sg.ncells rfl rfl);obtain⟨x1,cs,rfl,_,h⟩:=h.int (sg.desc rfl rfl) (sg.ncells rfl rfl);obtain⟨x2,cs,rfl,_,h⟩:=h.int (sg.desc rfl rfl) (sg.ncells rfl rfl);obtain⟨x3,cs,rfl,_,h⟩:=h.int (sg.desc rfl rfl) (sg.ncells rfl rfl);obtain⟨a4,n4,c4,cs,rfl,h4,h⟩:=h.slice (sg.desc rfl rfl) (sg.ncells rfl rfl) (sg.ncells rfl rfl) (sg.nbytes rfl rfl);obtain⟨a5,n5,c5,cs,rfl,h5,h⟩:=h.slice (sg.desc rfl rfl) (sg.ncells rfl rfl) (sg.ncells rfl rfl) (sg.nbytes rfl rfl);obtain⟨a6,n6,c6,cs,rfl,h6,h⟩:=h.slice (sg.desc rfl rfl) (sg.ncells rfl rfl) (sg.ncells rfl rfl) (sg.nbytes rfl rfl);obtain⟨a7,n7,c7,cs,rfl,h7,h⟩:=h.slice (sg.desc rfl rfl) (sg.ncells rfl rfl) (sg.ncells rfl rfl) (sg.nbytes rfl rfl);obtain⟨a8,n8,c8,cs,rfl,h8,h⟩:=h.slice (sg.desc rfl rfl) (sg.ncells rfl rfl) (sg.ncells rfl rfl) (sg.nbytes rfl rfl);obtain rfl:=h.nil;obtain⟨l4,rfl,m4,w4⟩:=h4.named (el:=Ac.cells) (fun _=>rz_ac);obtain⟨l5,rfl,m5,w5⟩:=h5.named (el:=Ins.cells) (fun _=>rz_ins);obtain⟨l6,rfl,m6,w6⟩:=h6.named (el:=Row4.cells) (fun _=>rz_row);obtain⟨l7,rfl,m7,w7⟩:=h7.named (el:=Odr.cells) (fun _=>rz_odr);obtain⟨l8,rfl,m8,w8⟩:=h8.named (α:=Auc × (OA × Nat)) (el:=fun x=>x.1.cells x.2.1 x.2.2) (fun _=>rz_auc);have hg:∀ j,(l8.map (·.1)).getD j default=(l8.getD j default).1:=fun j=>by simp only[yy2,List.getElem?_map];cases l8[j]?<;>rfl
refine⟨⟨x0,x1,x2,x3,l4,l5,l6,l7,l8.map (·.1)⟩,⟨a4,c4,a5,c5,a6,c6,a7,c7,a8,c8,fun j=>(l8.getD j default).2⟩,?_,⟨m4,m5,m6,m7,?_,?_⟩,w4,w5,w6,w7⟩
.simp[Sta.cells]
.simp only[yyp];have:ael (l8.map (·.1)) (fun j=>(l8.getD j default).2)=fun j=>(l8.getD j default).1.cells (l8.getD j default).2.1 (l8.getD j default).2.2:=by funext j;unfold ael;rw[hg]
 rw[this];exact m8
.intro j hj;simp only[yyp] at hj;simp only[hg];exact w8 j hj}
set_option maxRecDepth 20000 in
theorem zIi {v:Value}{d:DataW H}{p:List MemPlace}(h:DataW.Trod enc prog w 0 (fun _=>true) true 40 v d p)(hz:∀ n∈d.weights prog 40,n<=reachBytes)(hv:Value.okWide prog w .any 0 40 v) :
  ∃ (s:Sta) (p:SPt),v=.agg (s.cells p).toArray/\StaM (zDD w) s p/\StaA s:=by obtain⟨cs,rfl,_⟩:=Go.WideShapes.okWide_struct (sg.desc rfl rfl) hv;obtain⟨s,p,e,hM,hA⟩:=rz_sta (Rz.of h hz);refine⟨s,p,?_,hM,hA⟩;have:cs.toList=s.cells p:=e;rw[<- this]
set_option maxRecDepth 20000 in
theorem zIj {t:TypeId}{v:Value}{d:DataW H}{p:List MemPlace}(ht:prog.underlying t=some (.int .i64))(h:DataW.Trod enc prog w 0 (fun _=>true) true t v d p)(hv:Value.okWide prog w .any 0 t v) :
  ∃ i:Int,v=.int .i64 i/\-9223372036854775808<=i/\i<=9223372036854775807:=by obtain⟨i,rfl,_,_,hw⟩:=open_int ht hv h;exact⟨i,rfl,zO0 hw⟩
instance:Inhabited Evt:=⟨⟨0,0,[],[]⟩⟩
instance:Inhabited EPt:=⟨⟨none,0,none,0⟩⟩
theorem zUd {cs:List Value}(h:Rz enc prog w 2 cs):∃ x:Int,cs=[.int .i64 x]/\True:=by obtain⟨i,rfl,_⟩:=Rd.int (Rz.rd h) (sg.desc rfl rfl);exact⟨i,rfl,trivial⟩
theorem rz_str {cs:List Value}(h:Rz enc prog w 9 cs):∃ x:ByteArray,cs=[.string x]/\x.size<=140737488355328:=h.string (sg.desc rfl rfl)
set_option maxRecDepth 20000 in
theorem rz_evt {cs:List Value}(h:Rz enc prog w 61 cs):∃ x:Evt × EPt,cs=x.1.cells x.2/\EvtM (zDD w) x.1 x.2/\zAr x.1:=by have h:=h.struct (sg.desc rfl rfl) (by kernel_rfl);obtain⟨x0,cs,rfl,b0,h⟩:=h.int (sg.desc rfl rfl) (sg.ncells rfl rfl);obtain⟨x1,cs,rfl,b1,h⟩:=h.int (sg.desc rfl rfl) (sg.ncells rfl rfl);obtain⟨a2,n2,c2,cs,rfl,h2,h⟩:=h.slice (sg.desc rfl rfl) (sg.ncells rfl rfl) (sg.ncells rfl rfl) (sg.nbytes rfl rfl);obtain⟨a3,n3,c3,cs,rfl,h3,h⟩:=h.slice (sg.desc rfl rfl) (sg.ncells rfl rfl) (sg.ncells rfl rfl) (sg.nbytes rfl rfl);obtain rfl:=h.nil;obtain⟨l2,rfl,m2,_⟩:=h2.named (el:=fun x:Int=>[.int .i64 x]) (fun _=>zUd);obtain⟨l3,rfl,m3,w3⟩:=h3.named (el:=fun x:ByteArray=>[.string x]) (fun _=>rz_str);have b0:=zNN b0;have b1:=zNN b1;refine⟨⟨⟨x0,x1,l2,l3⟩,⟨a2,c2,a3,c3⟩⟩,rfl,⟨m2,m3⟩,by simp only;omega,by simp only;omega,fun t ht=>?_⟩;obtain⟨j,hj,rfl⟩:=List.getElem_of_mem (show t∈l3 from ht);have:=w3 j hj;rw[yy2,yy1 hj] at this;exact this
set_option maxRecDepth 20000 in
theorem zQT {v:Value}{d:DataW H}{p:List MemPlace}(h:DataW.Trod enc prog w 0 (fun _=>true) true 30 v d p)(hz:∀ n∈d.weights prog 30,n<=reachBytes)(hv:Value.okWide prog w .any 0 30 v) :
  ∃ (l:List Evt) (a:OA) (cap:Nat) (q:Nat->EPt),v=.slice a l.length cap/\EvsM (zDD w) a cap l q/\∀ e∈l,zAr e:=by{
obtain⟨a,len,cap,rfl⟩:=Go.WideShapes.okWide_slice (sg.desc rfl rfl) hv;have hR:Rz enc prog w 30 [.slice a len cap]:=Rz.of h hz;obtain⟨a,len,cap,e,hs⟩:=Rz.slice hR (sg.desc rfl rfl) (sg.ncells rfl rfl) (sg.nbytes rfl rfl);cases e;obtain⟨l0,rfl,hm,hp⟩:=hs.named (α:=Evt × EPt) (el:=fun x=>x.1.cells x.2) (fun _=>rz_evt);have hg:∀ j,(l0.map (·.1)).getD j default=(l0.getD j default).1:=fun j=>by simp only[yy2,List.getElem?_map];cases l0[j]?<;>rfl
refine⟨l0.map (·.1),a,cap,fun j=>(l0.getD j default).2,by simp,?_,?_⟩
.constructor
 .have:(fun j=>(ev_ (l0.map (·.1)) j).cells ((l0.getD j default).2))=fun j=>(l0.getD j default).1.cells (l0.getD j default).2:=by funext j;exact congrArg (fun x=>Evt.cells x _) (hg j)
  simp only[yyp];rw[this];exact hm
 .intro j hj;simp only[yyp] at hj;exact(congrArg (fun x=>EvtM (zDD w) x (l0.getD j default).2) (hg j)).mpr (hp j hj).1
.intro e he;obtain⟨x,hx,rfl⟩:=List.mem_map.1 he;obtain⟨j,hj,rfl⟩:=List.getElem_of_mem hx;have:=(hp j hj).2;rw[yy2,yy1 hj] at this;exact this}
end
end
end Go.Proofs.YtejhijhnlogikaaGreatDoor
