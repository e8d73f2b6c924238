/- Texts of ours, joined: the steps of the proof, or the claim's theorem. -/
import Derived.Test.YtejhijhnlogikaaGreatDoorMc14
set_option linter.all false
set_option maxHeartbeats 16000000
namespace Go.Proofs.YtejhijhnlogikaaGreatDoor
section
open Go Go.Sk Go.RowKit Tryz
theorem zGt (p:List Pst)(x:Pl):(dlF p x).2=(p.map fun q=>if ((q.acct,q.asset):Pl)=x then q.held else 0).sum:=by
 induction p with
 | nil=>rfl
 | cons q p ih =>
   rw[zBU,List.map_cons,List.sum_cons,← ih]
   by_cases h:q.acct=x.1∧q.asset=x.2
   ·rw[if_pos h,if_pos (Prod.ext h.1 h.2)];simp only;omega
   ·rw[if_neg h,if_neg fun e=>h ⟨congrArg Prod.fst e,congrArg Prod.snd e⟩];omega
def bP3 (b:Bid):P3:=(b.acct,0,b.amount)
theorem zDH {a:Auc}(h:zAU a=true)(x:Pl):zp (zU a) x=(if ((a.seller,a.inst):Pl)=x then a.qty else 0)+zp (a.bids.map bP3) x:=by
 unfold zU
 rw[if_pos h,zDE];rfl
theorem zOg (a:Auc)(x:Pl):(dlF (zAi a) x).2=-(if ((a.seller,a.inst):Pl)=x then a.qty else 0) - zp (a.bids.map bP3) x:=by
 rw[zGt]
 unfold zAi zp
 rw[List.map_append,List.sum_append,List.map_map,List.map_map]
 have:(a.bids.map ((fun q:Pst=>if ((q.acct,q.asset):Pl)=x then q.held else 0) ∘ fun b=>(⟨b.acct,0,b.amount,-b.amount⟩:Pst))).sum=-(a.bids.map ((fun y:P3=>if zA5 y=x then y.2.2 else 0) ∘ bP3)).sum:=by
  induction a.bids with
  | nil=>rfl
  | cons b l ih =>
    rw[List.map_cons,List.map_cons,List.sum_cons,List.sum_cons,ih]
    simp only[Function.comp]
    show(if ((b.acct,0):Pl)=x then -b.amount else 0)+_=-((if ((b.acct,0):Pl)=x then b.amount else 0)+_)
    split<;>omega
 rw[this]
 simp only[List.map_cons,List.map_nil,List.sum_cons,List.sum_nil]
 split<;>omega
theorem dl_app (p q:List Pst)(x:Pl):(dlF (p++q) x).2=(dlF p x).2+(dlF q x).2:=by rw[zGt,zGt,zGt,List.map_append,List.sum_append]
theorem zOh {p:List Pst}(h:∀ q∈p,q.held=0)(x:Pl):(dlF p x).2=0:=by
 rw[zGt]
 exact zGF fun q hq=>by rw[h q hq];split<;>rfl
theorem zSb {s:Sta}{id:Int}(h:¬ zAJ s id<0):(zAJ s id).toNat<s.aucs.length∧(au_ s.aucs (zAJ s id).toNat).id=id:=by
 unfold zAJ at h ⊢
 rcases zZ (fun j=>(au_ s.aucs j).id==id) s.aucs.length with ⟨k,hk,_,hp,hx⟩|⟨_,hx⟩
 ·rw[hx,Int.toNat_natCast]
  exact⟨hk,by simpa using hp⟩
 ·rw[hx] at h;exact absurd (by decide) h
theorem zIQ {l:List Auc}{i:Nat}(hi:i<l.length):l=l.take i++au_ l i::l.drop (i+1):=by
 conv=>lhs;rw[← List.take_append_drop i l,List.drop_eq_getElem_cons hi]
 simp[au_,List.getD_eq_getElem?_getD,List.getElem?_eq_getElem hi]
theorem zJR {s t:Sta}{a:Auc}(h:Good s)(hm:zAU a=true)(hb:a.bids=[])(he:zDA s a=(t,0)):Good t:=by
 unfold zDA at he
 by_cases h1:a.id≠s.nextA∨a.fin≤s.clock
 ·rw[if_pos h1] at he;exact absurd (Prod.mk.inj he).2 (by decide)
 rw[if_neg h1] at he
 by_cases h2:zAR s a.seller a.inst 0 (decide (32≤s.aucs.length))≠0
 ·rw[if_pos h2] at he;exact absurd (Prod.mk.inj he).2 h2
 rw[if_neg h2] at he
 obtain⟨q1,q2,_,_,q5⟩:=zIM (Decidable.of_not_not h2)
 simp only at he
 by_cases h3:(zAY s a.seller a.inst a.qty).2≠0
 ·rw[if_pos h3] at he;rw[he] at h3;exact absurd rfl h3
 rw[if_neg h3] at he
 obtain rfl:=(Prod.mk.inj he).1
 obtain⟨r1,r2⟩:=zDF (s:=s) (p:=[⟨a.seller,a.inst,-a.qty,a.qty⟩]) (t:=(zAY s a.seller a.inst a.qty).1) (Prod.ext rfl (Decidable.of_not_not h3))
 generalize (zAY s a.seller a.inst a.qty).1=u at r1 r2 ⊢
 have u1:u.accts=s.accts:=by rw[r2]
 have u2:u.insts=s.insts:=by rw[r2]
 have u3:u.orders=s.orders:=by rw[r2]
 have u4:u.clock=s.clock∧u.fee=s.fee∧u.nextO=s.nextO:=by rw[r2];exact⟨rfl,rfl,rfl⟩
 obtain⟨l1,l2,l3⟩:=zw.1 h.aucs
 have hn:=zAM.1 h.nums
 have hid:=zNE hm
 have hlen:s.aucs.length<32:=by have:=zzB q5;omega
 have hlt:∀ x∈s.aucs,x.id<a.id:=fun x hx=>by have:=(zAV.1 (h.aucsIn x hx)).1;omega
 refine h.upd (t:={ u with aucs:=s.aucs++[a],nextA:=s.nextA+1 }) r1 ?_ u1 u2 (zAM.2 ?_) (by simp only;rw[u3];exact h.ords) ?_ (zw.2 ⟨?_,?_,?_⟩) ?_ ?_
 ·intro q hq
  rw[List.mem_singleton] at hq;subst hq
  exact⟨.inr q1,(zAh.1 q2).2⟩
 ·simp only
  rw[u4.1,u4.2.1,u4.2.2]
  exact⟨hn.1,hn.2.1,hn.2.2.1,by omega⟩
 ·simp only
  rw[u3]
  exact zGN (s:=s) h u1 u2 u4.2.2 fun x hx=>⟨x,hx,rfl,rfl,rfl,rfl⟩
 ·simp only[List.length_append,List.length_singleton];omega
 ·intro x hx
  rcases List.mem_append.1 hx with e|e
  ·exact l2 x e
  ·rw[List.mem_singleton] at e;subst e;exact hm
 ·simp only
  rw[List.pairwise_append]
  exact⟨l3,by simp,fun x hx y hy=>by rw[List.mem_singleton] at hy;subst hy;exact hlt x hx⟩
 ·intro x hx
  refine zAV.2 ?_
  unfold zAD zBH at *
  simp only
  rw[u1,u2]
  rcases List.mem_append.1 hx with e|e
  ·have:=zAV.1 (h.aucsIn x e)
   unfold zAD zBH at this
   exact⟨by omega,this.2⟩
  ·rw[List.mem_singleton] at e;subst e
   exact⟨by omega,q1,q2,fun b hb'=>by rw[hb] at hb';cases hb'⟩
 ·intro x _
  unfold zV
  simp only
  rw[u3,List.flatMap_append,List.flatMap_singleton,ze,ze,ze,zDH hm,hb,zIN,List.map_nil,zGr]
  omega
theorem zUz {a:Auc}(hm:zAU a=true)(hs:a.sealed=false):(a.bids=[]∧(zAO a).2=false)∨∃ b,a.bids=[b]∧zAO a=(b,true):=by
 have hl:=(zFL hm hs).1
 have ht:=zSP hm
 match hb:a.bids with
 | []=>left;refine⟨rfl,?_⟩;rw[ht,hb];decide
 | [b] =>
   right
   refine⟨b,rfl,?_⟩
   have h2:(zAO a).2=true:=by rw[ht,hb];simp
   have h1:(zAO a).1=b:=by
    unfold zAO
    rw[hb]
    have:hi [b]=0:=by simp[hi,zCT]
    rw[this,hm];rfl
   exact Prod.ext h1 h2
 | b::c::r=>rw[hb] at hl;simp at hl
theorem zOi {s t:Sta}{n:List Int}{sl:Bool}(h:Good s)(he:zH9 s n sl=(t,0)):Good t:=by
 unfold zH9 at he
 simp only at he
 by_cases h1:zAJ s (nF n 0)<0∨(au_ s.aucs (zAJ s (nF n 0)).toNat).sealed≠sl
 ·rw[if_pos h1] at he;exact absurd (Prod.mk.inj he).2 (by decide)
 rw[if_neg h1] at he
 obtain⟨hi,hid⟩:=zSb (fun e=>h1 (.inl e))
 generalize (zAJ s (nF n 0)).toNat=i at *
 generalize ha:au_ s.aucs i=a at *
 have hsl:a.sealed=sl:=Decidable.of_not_not fun e=>h1 (.inr e)
 have hmem:a∈s.aucs:=ha ▸ zj hi
 by_cases h2:zAD s (nF n 1)=true
 ·rw[if_pos h2] at he
  by_cases h3:zAX a s.clock=true
  ·rw[if_pos h3] at he;exact absurd (Prod.mk.inj he).2 (by decide)
  rw[if_neg h3] at he
  generalize hb:(⟨nF n 1,nF n 2⟩:Bid)=b at he
  have hbo:zAD s b.acct=true:=by rw[← hb];exact h2
  by_cases h4:(zS a b).2≠0
  ·rw[if_pos h4] at he;exact absurd (Prod.mk.inj he).2 h4
  rw[if_neg h4] at he
  have tk:Taken a b (zS a b).1:=taken (Prod.ext rfl (Decidable.of_not_not h4))
  generalize (zS a b).1=c at tk he
  generalize hP:(⟨nF n 1,0,-nF n 2,nF n 2⟩::(if (zAO a).2=true∧sl=false then[⟨(zAO a).1.acct,0,(zAO a).1.amount,-(zAO a).1.amount⟩] else[]):List Pst)=P at he
  rw[show nF n 1=b.acct by rw[← hb],show nF n 2=b.amount by rw[← hb]] at hP
  by_cases h5:(zh s P).2≠0
  ·rw[if_pos h5] at he;rw[he] at h5;exact absurd rfl h5
  rw[if_neg h5] at he
  obtain rfl:=(Prod.mk.inj he).1
  obtain⟨r1,r2⟩:=zDF (s:=s) (p:=P) (t:=(zh s P).1) (Prod.ext rfl (Decidable.of_not_not h5))
  generalize (zh s P).1=u at r1 r2 ⊢
  have u1:u.accts=s.accts:=by rw[r2]
  have u2:u.insts=s.insts:=by rw[r2]
  have u3:u.orders=s.orders:=by rw[r2]
  have u4:u.clock=s.clock∧u.fee=s.fee∧u.nextO=s.nextO∧u.nextA=s.nextA:=by rw[r2];exact⟨rfl,rfl,rfl,rfl⟩
  have hma:=tk.may
  have hmc:=zPp tk
  have cid:c.id=a.id∧c.seller=a.seller∧c.inst=a.inst∧c.qty=a.qty:=by rw[tk.put];exact⟨rfl,rfl,rfl,rfl⟩
  obtain⟨l1,l2,l3⟩:=zw.1 h.aucs
  have hA:=zAV.1 (h.aucsIn a hmem)
  have z:(0:Int)≤s.insts.length:=by omega
  have hbid:(∀ x,zp (c.bids.map bP3) x=zp (a.bids.map bP3) x+(dlF P x).2)∧InP s P∧∀ y∈c.bids,zAD s y.acct=true:=by
   cases hsl':sl with
   | true =>
     have e:=(zGI tk (hsl.trans hsl')).1
     have ec:c.bids=a.bids++[b]:=by rw[e];rfl
     rw[hsl',if_neg (fun g=>by cases g.2)] at hP
     refine⟨fun x=>?_,fun q hq=>?_,fun y hy=>?_⟩
     ·rw[ec,List.map_append,ze,← hP,zIN,List.map_cons,List.map_nil,bP3,zDG]
     ·rw[← hP,List.mem_singleton] at hq;subst hq;exact⟨.inr hbo,z⟩
     ·rw[ec] at hy
      rcases List.mem_append.1 hy with g|g
      ·exact hA.2.2.2 y g
      ·rw[List.mem_singleton] at g;subst g;exact hbo
   | false =>
     have e:=(zJM tk (hsl.trans hsl')).1
     have ec:c.bids=[b]:=by rw[e];rfl
     rcases zUz hma (hsl.trans hsl') with ⟨g1,g2⟩|⟨d,g1,g2⟩
     ·rw[hsl',if_neg (fun g=>by rw[g2] at g;cases g.1)] at hP
      refine⟨fun x=>?_,fun q hq=>?_,fun y hy=>?_⟩
      ·rw[ec,g1,← hP,zIN,List.map_cons,List.map_nil,bP3,zDG,zGr];omega
      ·rw[← hP,List.mem_singleton] at hq;subst hq;exact⟨.inr hbo,z⟩
      ·rw[ec,List.mem_singleton] at hy;subst hy;exact hbo
     ·rw[hsl',g2,if_pos ⟨rfl,rfl⟩] at hP
      have hd:zAD s d.acct=true:=hA.2.2.2 d (by rw[g1];exact zz2 _)
      refine⟨fun x=>?_,fun q hq=>?_,fun y hy=>?_⟩
      ·rw[ec,g1,← hP,zGt]
       simp only[List.map_cons,List.map_nil,bP3,zDG,List.sum_cons,List.sum_nil]
       split<;>split<;>omega
      ·rw[← hP] at hq
       simp only[List.mem_cons,List.not_mem_nil,or_false] at hq
       rcases hq with rfl|rfl
       ·exact⟨.inr hbo,z⟩
       ·exact⟨.inr hd,z⟩
      ·rw[ec,List.mem_singleton] at hy;subst hy;exact hbo
  obtain⟨b1,b2,b3⟩:=hbid
  have hsp:=zIQ hi
  rw[ha] at hsp
  have hset:s.aucs.set i c=s.aucs.take i++c::s.aucs.drop (i+1):=List.set_eq_take_append_cons_drop .. |>.trans (if_pos hi)
  refine h.upd (t:={ u with aucs:=s.aucs.set i c }) r1 b2 u1 u2 (zAM.2 (by simp only;rw[u4.1,u4.2.1,u4.2.2.1,u4.2.2.2];exact zAM.1 h.nums)) (by simp only;rw[u3];exact h.ords) ?_ (zw.2 ⟨by rw[List.length_set];exact l1,?_,?_⟩) ?_ ?_
  ·simp only
   rw[u3]
   exact zGN (s:=s) h u1 u2 u4.2.2.1 fun x hx=>⟨x,hx,rfl,rfl,rfl,rfl⟩
  ·intro x hx
   rcases List.mem_or_eq_of_mem_set hx with e|e
   ·exact l2 x e
   ·rw[e];exact hmc
  ·simp only
   rw[hset]
   rw[hsp] at l3
   rw[List.pairwise_append,List.pairwise_cons] at l3 ⊢
   refine⟨l3.1,⟨fun y hy=>by rw[cid.1];exact l3.2.1.1 y hy,l3.2.1.2⟩,fun x hx y hy=>?_⟩
   rcases List.mem_cons.1 hy with e|e
   ·subst e;rw[cid.1];exact l3.2.2 x hx a (zz2 _)
   ·exact l3.2.2 x hx y (zz5 _ e)
  ·intro x hx
   refine zAV.2 ?_
   unfold zAD zBH at *
   simp only
   rw[u1,u2,u4.2.2.2]
   rcases List.mem_or_eq_of_mem_set hx with e|e
   ·exact zAV.1 (h.aucsIn x e)
   ·subst e
    rw[cid.1,cid.2.1,cid.2.2.1]
    exact⟨hA.1,hA.2.1,hA.2.2.1,b3⟩
  ·intro x _
   unfold zV
   simp only
   rw[u3,hset]
   have e:zp (s.aucs.flatMap zU) x=zp ((s.aucs.take i).flatMap zU) x+(zp (zU a) x+zp ((s.aucs.drop (i+1)).flatMap zU) x):=by
    conv=>lhs;rw[hsp]
    rw[List.flatMap_append,List.flatMap_cons,ze,ze]
   rw[ze,ze,e,List.flatMap_append,List.flatMap_cons,ze,ze,zDH hmc,zDH hma,cid.2.1,cid.2.2.1,cid.2.2.2,b1 x]
   omega
 ·rw[if_neg h2] at he;exact absurd (Prod.mk.inj he).2 (by decide)
theorem zIR {s t:Sta}{i:Nat}{p:List Pst}(h:Good s)(hi:i<s.aucs.length)(hp:InP s p)(h0:∀ q∈p,q.held=0)(he:zAv s i p=(t,0)):Good t:=by
 unfold zAv at he
 simp only at he
 generalize ha:au_ s.aucs i=a at he
 have hmem:a∈s.aucs:=ha ▸ zj hi
 have hA:=zAV.1 (h.aucsIn a hmem)
 obtain⟨l1,l2,l3⟩:=zw.1 h.aucs
 by_cases h5:(zh s (p++zAi a)).2≠0
 ·rw[if_pos h5] at he;rw[he] at h5;exact absurd rfl h5
 rw[if_neg h5] at he
 obtain rfl:=(Prod.mk.inj he).1
 obtain⟨r1,r2⟩:=zDF (s:=s) (p:=p++zAi a) (t:=(zh s (p++zAi a)).1) (Prod.ext rfl (Decidable.of_not_not h5))
 generalize (zh s (p++zAi a)).1=u at r1 r2 ⊢
 have u1:u.accts=s.accts:=by rw[r2]
 have u2:u.insts=s.insts:=by rw[r2]
 have u3:u.orders=s.orders:=by rw[r2]
 have u4:u.clock=s.clock∧u.fee=s.fee∧u.nextO=s.nextO∧u.nextA=s.nextA:=by rw[r2];exact⟨rfl,rfl,rfl,rfl⟩
 have hsp:=zIQ hi
 rw[ha] at hsp
 have her:s.aucs.eraseIdx i=s.aucs.take i++s.aucs.drop (i+1):=List.eraseIdx_eq_take_drop_succ ..
 have hsub:∀ x,x∈s.aucs.eraseIdx i→x∈s.aucs:=fun x hx=>List.mem_of_mem_eraseIdx hx
 have hin:InP s (p++zAi a):=fun q hq=>by
  rcases List.mem_append.1 hq with e|e
  ·exact hp q e
  ·unfold zAi at e
   rcases List.mem_append.1 e with g|g
   ·obtain⟨b,hb,rfl⟩:=List.mem_map.1 g
    exact⟨.inr (hA.2.2.2 b hb),by show(0:Int)≤_;omega⟩
   ·rw[List.mem_singleton] at g;subst g
    exact⟨.inr hA.2.1,(zAh.1 hA.2.2.1).2⟩
 refine h.upd (t:={ u with aucs:=s.aucs.eraseIdx i }) r1 hin u1 u2 (zAM.2 (by simp only;rw[u4.1,u4.2.1,u4.2.2.1,u4.2.2.2];exact zAM.1 h.nums)) (by simp only;rw[u3];exact h.ords) ?_ (zw.2 ⟨?_,fun x hx=>l2 x (hsub x hx),?_⟩) ?_ ?_
 ·simp only
  rw[u3]
  exact zGN (s:=s) h u1 u2 u4.2.2.1 fun x hx=>⟨x,hx,rfl,rfl,rfl,rfl⟩
 ·have:=List.length_eraseIdx_le s.aucs i
  simp only;omega
 ·exact l3.sublist (List.eraseIdx_sublist ..)
 ·intro x hx
  have:=zKT (s:=s) (u:={ u with aucs:=s.aucs.eraseIdx i }) h u1 u2 u4.2.2.2 x (hsub x hx)
  exact this
 ·intro x _
  unfold zV
  simp only
  have e:zp (s.aucs.flatMap zU) x=zp ((s.aucs.take i).flatMap zU) x+(zp (zU a) x+zp ((s.aucs.drop (i+1)).flatMap zU) x):=by
   conv=>lhs;rw[hsp]
   rw[List.flatMap_append,List.flatMap_cons,ze,ze]
  rw[u3,ze,ze,e,her,List.flatMap_append,ze,dl_app,zOh h0,zOg,zDH (l2 a hmem)]
  omega
theorem zU0 {a:Auc}(hm:zAU a=true)(hw:(zL a).2=true):∃ b∈a.bids,(zL a).1.acct=b.acct:=by
 obtain⟨m,h1,h2,_⟩:=zFM hm hw
 exact⟨_,zj h1,h2⟩
theorem zDv {s:Sta}{a:Auc}(h:(zM s a).2.2=true):(zL a).2=true∧(zM s a).1=(zL a).1∧(zM s a).2.1=(zBh (zL a).1.amount s.fee).1∧zAg s.rows a.seller 0+(zL a).1.amount - (zBh (zL a).1.amount s.fee).1≤1125899906842624∧zAg s.rows (zL a).1.acct a.inst+a.qty≤1125899906842624:=by
 unfold zM at h ⊢
 by_cases h1:(zL a).2=true
 ·rw[if_pos h1] at h ⊢
  simp only at h ⊢
  by_cases h2:zAg s.rows a.seller 0+(zL a).1.amount - (zBh (zL a).1.amount s.fee).1>1125899906842624∨zAg s.rows (zL a).1.acct a.inst+a.qty>1125899906842624
  ·rw[if_pos h2] at h;cases h
  ·rw[if_neg h2];exact⟨h1,rfl,rfl,by omega,by omega⟩
 ·rw[if_neg h1] at h;cases h
theorem zSc {s t:Sta}{n:List Int}(h:Good s)(he:zFY s n=(t,0)):Good t:=by
 unfold zFY at he
 simp only at he
 by_cases h1:zAJ s (nF n 0)<0
 ·rw[if_pos h1] at he;exact absurd (Prod.mk.inj he).2 (by decide)
 rw[if_neg h1] at he
 obtain⟨hi,hid⟩:=zSb h1
 generalize (zAJ s (nF n 0)).toNat=i at *
 generalize ha:au_ s.aucs i=a at *
 have hmem:a∈s.aucs:=ha ▸ zj hi
 have hA:=zAV.1 (h.aucsIn a hmem)
 have hm:=(zw.1 h.aucs).2.1 a hmem
 split at he
 ·rename_i h2
  obtain⟨w1,w2,w3,_,_⟩:=zDv h2.2.1
  obtain⟨b,hb,e⟩:=zU0 hm w1
  have hw:zAD s (zM s a).1.acct=true:=by rw[w2,e];exact hA.2.2.2 b hb
  have z:(0:Int)≤s.insts.length:=by omega
  have hh:=(zAh.1 hA.2.2.1).2
  refine zIR h hi (fun q hq=>?_) (fun q hq=>?_) he
  ·unfold zDn at hq
   simp only[List.mem_cons,List.not_mem_nil,or_false] at hq
   rcases hq with rfl|rfl|rfl|rfl|rfl
   ·exact⟨.inr hw,z⟩
   ·exact⟨.inr hA.2.1,z⟩
   ·exact⟨.inl (Int.le_refl _),z⟩
   ·exact⟨.inr hA.2.1,hh⟩
   ·exact⟨.inr hw,hh⟩
  ·unfold zDn at hq
   simp only[List.mem_cons,List.not_mem_nil,or_false] at hq
   rcases hq with rfl|rfl|rfl|rfl|rfl<;>rfl
 ·exact absurd (Prod.mk.inj he).2 (by decide)
theorem zNN {s t:Sta}{n:List Int}(h:Good s)(he:zCa s n=(t,0)):Good t:=by
 unfold zCa at he
 simp only at he
 by_cases h1:zAJ s (nF n 0)<0
 ·rw[if_pos h1] at he;exact absurd (Prod.mk.inj he).2 (by decide)
 rw[if_neg h1] at he
 obtain⟨hi,_⟩:=zSb h1
 split at he
 ·exact absurd (Prod.mk.inj he).2 (by decide)
 ·exact zIR h hi (fun q hq=>by cases hq) (fun q hq=>by cases hq) he
theorem wi {n m:Int}(h:1≤n∧n≤m):zu n m=true:=by simp[zu,h]
theorem zOj {a:Auc}(hb:a.bids=[])(h1:1≤a.id∧a.id≤1099511627776)(h2:1≤a.seller∧a.seller≤64)(h3:1≤a.inst∧a.inst≤16)(h4:1≤a.qty∧a.qty≤1048576)(h5:1≤a.reserve∧a.reserve≤1125899906842624)(h6:1≤a.fin∧a.fin≤1099511627776)(h7:a.sealed=true→a.step=0)(h8:a.sealed=false→1≤a.step∧a.step≤1125899906842624):zAU a=true :=
 mayP.2 ⟨wi h1,wi h2,wi h3,wi h4,wi h5,wi h6,h7,fun e=>wi (h8 e),by rw[hb];decide,fun _=>by rw[hb];decide,fun _ j hj=>by rw[hb] at hj;exact absurd hj (zzE _),fun j hj=>by rw[hb] at hj;exact absurd hj (zzE _)⟩
theorem kinds {k:Int}(h:1≤k∧k≤23):k=1∨k=2∨k=3∨k=4∨k=5∨k=6∨k=7∨k=8∨k=9∨k=10∨k=11∨k=12∨k=13∨k=14∨k=15∨k=16∨k=17∨k=18∨k=19∨k=20∨k=21∨k=22∨k=23:=by omega
theorem zSd {s t:Sta}{e:Evt}(h:Good s)(he:EvOk e)(hd:zBv s e.kind e.nums (e.texts.getD 0 ByteArray.empty)=(t,0)):Good t:=by
 have hat:=fun(i c:Nat) (hc:(zNF e.kind)[i]?=some c)=>he.at i hc
 have htx:=he.text
 obtain⟨k,hk⟩:∃ k,e.kind=k:=⟨_,rfl⟩
 have hkk:=he.kind
 rw[hk] at hd hat htx hkk
 clear he hk
 generalize e.nums=n at *
 generalize e.texts.getD 0 ByteArray.empty=nm at *
 have z:(0:Int)≤s.insts.length:=by omega
 unfold zBv at hd
 rcases kinds hkk with rfl|rfl|rfl|rfl|rfl|rfl|rfl|rfl|rfl|rfl|rfl|rfl|rfl|rfl|rfl|rfl|rfl|rfl|rfl|rfl|rfl|rfl|rfl<;>simp only[Int.reduceEq,if_false,if_true] at hd
 ·exact zNG h (zIL (hat 0 97 rfl)).2 (htx rfl) hd
 ·exact zNK h hd
 ·exact zNI h (zDs (hat 0 105 rfl)).2 (bnd_k (hat 1 107 rfl)) (htx rfl) hd
 ·exact zLn h hd
 ·exact zLn h hd
 ·split at hd
  ·rename_i g;exact zE0 h hd (.inl (Int.le_refl _)) (.inr g) z
  ·exact absurd (Prod.mk.inj hd).2 (by decide)
 ·split at hd
  ·rename_i g;exact zE0 h hd (.inr g) (.inl (Int.le_refl _)) z
  ·exact absurd (Prod.mk.inj hd).2 (by decide)
 ·split at hd
  ·rename_i g;exact zE0 h hd (.inl (Int.le_refl _)) (.inr g.1) (zAh.1 g.2).2
  ·exact absurd (Prod.mk.inj hd).2 (by decide)
 ·split at hd
  ·rename_i g;exact zE0 h hd (.inr g.1) (.inl (Int.le_refl _)) (zAh.1 g.2).2
  ·exact absurd (Prod.mk.inj hd).2 (by decide)
 ·obtain rfl:=(Prod.mk.inj hd).1
  exact zUy h (bnd_b (hat 0 98 rfl))
 ·exact zNL h ((zAS _).2 ⟨bnd_o (hat 0 111 rfl),zIL (hat 1 97 rfl),zDs (hat 2 105 rfl),by have:=zSV (hat 3 115 rfl);show nF n 3=1∨nF n 3=2;omega,zOe (hat 4 112 rfl),zGL (hat 5 113 rfl)⟩) hd
 ·exact zIx h hd
 ·exact zNM h hd
 ·exact zJR h (zOj rfl (bnd_c (hat 0 99 rfl)) (zIL (hat 1 97 rfl)) (zDs (hat 2 105 rfl)) (zGL (hat 3 113 rfl)) (zHH (hat 4 109 rfl)) (zSW (hat 6 116 rfl)) (fun e=>by cases e) (fun _=>zHH (hat 5 109 rfl))) rfl hd
 ·exact zOi h hd
 ·exact zJR h (zOj rfl (bnd_c (hat 0 99 rfl)) (zIL (hat 1 97 rfl)) (zDs (hat 2 105 rfl)) (zGL (hat 3 113 rfl)) (zHH (hat 4 109 rfl)) (zSW (hat 5 116 rfl)) (fun _=>rfl) (fun e=>by cases e)) rfl hd
 ·exact zOi h hd
 ·exact zSc h hd
 ·exact zNN h hd
 ·exact zPt h (zSW (hat 0 116 rfl)).2 hd
 ·unfold zBp at hd
  split at hd
  ·rename_i g
   split at hd
   ·exact absurd (Prod.mk.inj hd).2 (by decide)
   ·exact zE0 h hd (.inr g.1) (.inr g.2) z
  ·exact absurd (Prod.mk.inj hd).2 (by decide)
 ·exact zLl h (htx rfl) hd
 ·exact zNJ h (bnd_k (hat 1 107 rfl)) hd
theorem zET {s t:Sta}{e:Evt}(h:Good s)(hd:zAH s e=(t,0)):Good t:=by
 unfold zAH at hd
 by_cases h1:e.v=3∧zAm e=true
 ·rw[if_pos h1] at hd
  split at hd
  ·exact zSd h (zOd h1.1 h1.2) hd
  ·rename_i g;exact absurd (Prod.mk.inj hd).2 g
 ·rw[if_neg h1] at hd;exact absurd (Prod.mk.inj hd).2 (by decide)
theorem zDw {s t:Sta}{e:Evt}(hd:zN s e=(t,0)):Good s∧Good t:=by
 unfold zN at hd
 by_cases h1:zCU s=true
 ·rw[if_pos h1] at hd;exact⟨zAp.1 h1,zET (zAp.1 h1) hd⟩
 ·rw[if_neg h1] at hd;exact absurd (Prod.mk.inj hd).2 (by decide)
theorem zOk:∀ {l:List Evt} {s t:Sta} {i j:Int},Good s→zAt s l i=(t,j,0)→Good t
 | [],s,t,i,j,h,he=>by
   obtain rfl:=(Prod.mk.inj he).1;exact h
 | e::l,s,t,i,j,h,he=>by
   unfold zAt at he
   by_cases h1:(zAH s e).2=0
   ·rw[if_pos h1] at he
    exact zOk (zET h (Prod.ext rfl h1)) he
   ·rw[if_neg h1] at he;exact absurd (Prod.mk.inj (Prod.mk.inj he).2).2 h1
theorem all_cons (e:Evt)(l:List Evt)(s:Sta)(i:Int):zAt s (e::l) i=if (zAH s e).2=0 then zAt (zAH s e).1 l (i+1) else(zCp,i,(zAH s e).2):=rfl
theorem zKU:∀ {l m:List Evt} {s:Sta} {i:Int},zAt s (l++m) i=if (zAt s l i).2.2=0 then zAt (zAt s l i).1 m (zAt s l i).2.1 else zAt s l i
 | [],m,s,i=>by rw[List.nil_append];rfl
 | e::l,m,s,i=>by
   rw[List.cons_append,all_cons,all_cons]
   by_cases h1:(zAH s e).2=0
   ·rw[if_pos h1,if_pos h1];exact zKU
   ·rw[if_neg h1,if_neg h1];simp only;rw[if_neg h1]
theorem zHa:∀ {l:List Evt} {s:Sta} {i:Int},zAt s l i=((zAt s l 0).1,i+(zAt s l 0).2.1,(zAt s l 0).2.2)
 | [],s,i=>by simp[zAt]
 | e::l,s,i=>by
   unfold zAt
   by_cases h1:(zAH s e).2=0
   ·rw[if_pos h1,if_pos h1,zHa (i:=i+1),zHa (i:=0+1)]
    simp only;congr 2;omega
   ·rw[if_neg h1,if_neg h1];simp
def zIS:Int:=1125899906842624
theorem zPv {E:Pl→Int × Int}:(zBM E=0↔∀ x∈zBu,zAT x.1 (E x).1 (E x).2=0)∧((∃ x∈zBu,zAT x.1 (E x).1 (E x).2=47)→zBM E=47)∧((∀ x∈zBu,zAT x.1 (E x).1 (E x).2≠47)→(∃ x∈zBu,zAT x.1 (E x).1 (E x).2=41)→zBM E=41):=by
 refine⟨zIF,fun⟨x,hx,e⟩=>?_,fun h ⟨x,hx,e⟩=>?_⟩
 ·unfold zBM
  rw[if_pos (List.any_eq_true.2 ⟨x,hx,by simp[e]⟩)]
 ·unfold zBM
  rw[if_neg,if_pos (List.any_eq_true.2 ⟨x,hx,by simp[e]⟩)]
  rw[List.any_eq_true]
  rintro⟨y,hy,g⟩
  exact h y hy (by simpa using g)
theorem zOl {l:List Row4}{p:List Pst}(h:zAZ l=true)(hp:zA1 p=0):zBJ l p=if zBM (zAI l p)=0 then(mkR (zAI l p),0) else([],zBM (zAI l p)):=by
 unfold zBJ;rw[if_pos h,if_pos hp]
theorem zPw {p:List Pst}:zA1 p=0↔p.length≤64∧p.any zCj=false∧∀ s:Nat,s<17→zBo p s=0:=by
 refine⟨zIE,fun⟨h1,h2,h3⟩=>?_⟩
 unfold zA1
 rw[if_neg qO,h2,if_neg (by simp),if_neg]
 rw[List.any_eq_true]
 rintro⟨s,hs,e⟩
 rw[h3 s (List.mem_range.1 hs)] at e
 simp at e
def PlOk (a s:Int):Prop:=(0≤a∧a≤64)∧0≤s∧s≤16
theorem zKV {q:Pst}:zCj q=false↔PlOk q.acct q.asset∧(-zIS≤q.free∧q.free≤zIS)∧(-zIS≤q.held∧q.held≤zIS)∧(q.acct=0→q.held=0):=by
 unfold zCj zCS zIv PlOk zIS
 simp only[Bool.or_eq_false_iff,Bool.not_eq_false',Bool.and_eq_true,decide_eq_true_eq,decide_eq_false_iff_not,Bool.and_eq_false_iff,beq_eq_false_iff_ne,bne_eq_false_iff_eq]
 constructor
 ·rintro⟨⟨⟨⟨⟨⟨a,b⟩,c⟩,d⟩,e,f⟩,g,h⟩,i⟩
  exact⟨⟨⟨a,b⟩,c,d⟩,⟨by omega,by omega⟩,⟨by omega,by omega⟩,fun h0=>i.resolve_left fun n=>n h0⟩
 ·rintro⟨⟨⟨a,b⟩,c,d⟩,⟨e,f⟩,⟨g,h⟩,i⟩
  refine⟨⟨⟨⟨⟨⟨a,b⟩,c⟩,d⟩,by omega,by omega⟩,by omega,by omega⟩,?_⟩
  by_cases h0:q.acct=0
  ·exact .inr (i h0)
  ·exact .inl h0
theorem zLs {l:List Row4}(h:zAZ l=true){a s:Int}(ha:a≠0):zAg l a s=(atR l (a,s)).1+(atR l (a,s)).2:=by
 have g:=(zDq h (a,s)).2 ha
 unfold zAg zMw zB5
 rw[if_neg qO]
def SameW (r t:Sta × Int):Prop:=r.2=t.2∧(t.2=0→r.1=t.1)
theorem SameW.refl (r:Sta × Int):SameW r r:=⟨rfl,fun _=>rfl⟩
theorem zPx (p r:List Pst)(x:Pl):dlF (p++r) x=((dlF p x).1+(dlF r x).1,(dlF p x).2+(dlF r x).2):=by
 induction p with
 | nil=>simp[dlF]
 | cons q p ih =>
   rw[List.cons_append,zBU,zBU,ih]
   split
   ·ext<;>simp only<;>omega
   ·rfl
theorem zSe {p:List Pst}(h:∀ q∈p,q.free+q.held=0)(x:Pl):(dlF p x).1+(dlF p x).2=0:=by
 induction p with
 | nil=>rfl
 | cons q p ih =>
   have h1:=ih fun y hy=>h y (zz5 _ hy)
   have h2:=h q (zz2 _)
   rw[zBU]
   split
   ·simp only;omega
   ·exact h1
def zKW (n:List Int):Odr:=⟨nF n 0,nF n 1,nF n 2,nF n 3,nF n 4,nF n 5⟩
theorem zLt {s:Sta}(h:Good s):s.accts.length≤64:=(zB7.1 h.accts).1
theorem zIT {s:Sta}(h:Good s):s.insts.length≤16:=(zB8.1 h.insts).1
end
section
open Go Go.Sk Go.RowKit Tryz
attribute [local irreducible] Go.Calls
def ev_ (l:List Evt)(j:Nat):Evt:=l.getD j ⟨0,0,[],[]⟩
def EvsM (F:zB)(a:Option Addr)(cap:Nat)(l:List Evt)(q:Nat→EPt):Prop:=SlA F 4 a l.length cap (fun j=>(ev_ l j).cells (q j))∧∀ j,j<l.length→EvtM F (ev_ l j) (q j)
theorem EvsM.mono {F G:zB}{a:Option Addr}{cap:Nat}{l:List Evt}{q:Nat→EPt}(h:EvsM F a cap l q)(hs:F⊆G):EvsM G a cap l q:=⟨SlA.mono h.1 hs,fun j hj=>(h.2 j hj).mono hs⟩
theorem zGO {F:zB}{b:Nat}{T:TypeId}(n:List Int)(hl:n.length≤1000)(h:cb b (n.map (Value.int .i64)) T∈F):Ints F (some ⟨b,0,none⟩) n.length n:=by
 refine⟨zzC _,by omega,b,0,_,T,(0,0),fun _=>⟨rfl,h,fun j hj=>?_⟩⟩
 refine⟨by simp;omega,?_⟩
 simp only[Nat.zero_add,Nat.mul_one]
 rw[List.drop_eq_getElem_cons (by simpa using hj)]
 simp[iel,List.getElem?_eq_getElem hj]
theorem zOm {F:zB}{b:Nat}{T:TypeId}(t:ByteArray)(h:cb b [.string t] T∈F):SlA F 1 (some ⟨b,0,none⟩) 1 1 fun j=>[Value.string (([t]:List ByteArray).getD j ByteArray.empty)] :=
 ⟨Nat.le_refl 1,(show 1≤140737488355328 by decide),b,0,_,T,(0,0),fun _=>⟨rfl,h,fun j hj=>by
  have:j=0:=by have:j<1:=hj;omega
  subst this
  exact⟨Nat.le_refl 1,rfl⟩⟩⟩
theorem zKX {F:zB}{b:Nat}{T:TypeId}(k:Int)(n:List Int)(hl:n.length≤1000)(h:cb b (n.map (Value.int .i64)) T∈F):EvtM F (evF k n) ⟨some ⟨b,0,none⟩,n.length,none,0⟩:=⟨zGO n hl h,⟨zzD _,zzD _,0,0,[],0,(0,0),fun h=>absurd h (Nat.lt_irrefl 0)⟩⟩
theorem zU1 {F:zB}{b bt:Nat}{T T2:TypeId}(k:Int)(t:ByteArray)(n:List Int)(hl:n.length≤1000)(h:cb b (n.map (Value.int .i64)) T∈F)(ht:cb bt [.string t] T2∈F):EvtM F (evN k t n) ⟨some ⟨b,0,none⟩,n.length,some ⟨bt,0,none⟩,1⟩:=⟨zGO n hl h,zOm t ht⟩
end
section
open Go Go.Sk Go.RowKit Go.ChangeShapes Tryz
structure StaA (s:Sta):Prop where
 acN:∀ k,k<s.accts.length→(ac_ s.accts k).name.size≤140737488355328
 insN:∀ k,k<s.insts.length→(in_ s.insts k).name.size≤140737488355328
 rw:∀ j,j<s.rows.length→(rw_ s.rows j).wf
 od:∀ k,k<s.orders.length→0≤(od_ s.orders k).side∧(od_ s.orders k).side<256
theorem wf_u8 {i:Int}(h:(Lit.int .u8 i).wf=true):0≤i∧i<256:=by
 have:0≤i∧i≤255:=by simpa [Lit.wf,IntKind.min,IntKind.max,IntKind.signed,IntKind.bits] using h
 omega
section
variable {H:Type}{enc:TypeId × Value→H}{w:World}
instance:Inhabited Evt:=⟨⟨0,0,[],[]⟩⟩
instance:Inhabited EPt:=⟨⟨none,0,none,0⟩⟩
theorem rz_i64 {cs:List Value}(h:Rz enc prog w 2 cs):∃ x:Int,cs=[.int .i64 x]∧True:=by
 obtain⟨i,rfl,_⟩:=Rd.int (Rz.rd h) (sg.desc rfl rfl)
 exact⟨i,rfl,trivial⟩
end
end
end Go.Proofs.YtejhijhnlogikaaGreatDoor
