/- Steps of the proof. -/
import Derived.Test.YtejhijhnlogikaaGreatDoorMe13
set_option linter.all false
set_option maxHeartbeats 16000000
namespace Go.Proofs.YtejhijhnlogikaaGreatDoor
open Go Go.Sk Go.RowKit
def tw (l:List P3)(x:Int × Int)(z:Int):Int:=l.foldl (fun a y=>if zA9 y=x then IntKind.i64.wrap (a+y.2.2) else a) z
theorem zLu (l m:List P3)(x:Int × Int)(z:Int):tw (l++m) x z=tw m x (tw l x z):=by unfold tw;exact List.foldl_append
theorem zLv (y:P3)(a q:Int):zA9 y=(a,q)↔y.1=a/\y.2.1=q:=by unfold zA9;exact Prod.mk.injEq _ _ _ _ |>.to_iff
theorem zM5 (l:List Odr)(a q:Int)(h:∀ j,j<l.length->(zV (od_ l j)).2>0):∀ k,k<=l.length->zG6 l a q k=tw ((l.take k).flatMap zAJ) (a,q) 0
 | 0,_=>by simp[zG6,tw]
 | k+1,hk=>by
   have hp:=h k qO
   have hf:=zFy zAJ l default (i:=k) qO
   have hd:l.getD k default=od_ l k:=rfl
   rw[hf,zLu,<- zM5 l a q h k qO,hd]
   have:zAJ (od_ l k)=[((od_ l k).acct,(zV (od_ l k)).1,(zV (od_ l k)).2)]:=if_pos hp
   rw[this]
   have e:zG6 l a q (k+1)=if (od_ l k).acct=a/\(zV (od_ l k)).1=q then IntKind.i64.wrap (zG6 l a q k+(zV (od_ l k)).2) else zG6 l a q k:=rfl
   rw[e]
   generalize zG6 l a q k=z
   show _=if zA9 _=(a,q) then _ else _
   simp only[zLv]
theorem zM6 (l:List Bid)(a q z:Int):∀ k,k<=l.length->zG7 l a q z k=tw ((l.take k).map fun b=>(b.acct,0,b.amount)) (a,q) z
 | 0,_=>by simp[zG7,tw]
 | k+1,hk=>by
   have ht:l.take (k+1)=l.take k++[l.getD k default]:=by
    rw[List.take_add_one,yy2,yy1 qO];rfl
   rw[ht,List.map_append,zLu,<- zM6 l a q z k qO]
   have e:zG7 l a q z (k+1)=if (l.getD k default).acct=a/\q=0 then IntKind.i64.wrap (zG7 l a q z k+(l.getD k default).amount) else zG7 l a q z k:=rfl
   rw[e]
   generalize zG7 l a q z k=z
   show _=if zA9 _=(a,q) then _ else _
   simp only[zLv]
   by_cases h:(l.getD k default).acct=a/\q=0
   .rw[if_pos h,if_pos ⟨h.1,h.2.symm⟩]
   .rw[if_neg h,if_neg (fun g=>h ⟨g.1,g.2.symm⟩)]
theorem zM7 (l:List Auc)(a q z:Int):∀ k,k<=l.length->zJM l a q z k=tw ((l.take k).flatMap zS) (a,q) z
 | 0,_=>by simp[zJM,tw]
 | k+1,hk=>by
   have hf:=zFy zS l default (i:=k) qO
   rw[hf,zLu,<- zM7 l a q z k qO]
   generalize hu:zJM l a q z k=u
   show(if zAS (l.getD k default)=true then _ else _)=_
   rw[hu]
   unfold zS
   split
   .have hb:=zM6 (l.getD k default).bids a q (if (l.getD k default).seller=a/\(l.getD k default).inst=q then IntKind.i64.wrap (u+(l.getD k default).qty) else u) (l.getD k default).bids.length (zzC _)
    rw[List.take_length] at hb
    rw[hb]
    show _=tw _ _ (if zA9 _=(a,q) then _ else _)
    simp only[zLv]
   .rfl
theorem zM8 (s:Sta)(a q:Int)(h:∀ j,j<s.orders.length->(zV (od_ s.orders j)).2>0):zM4 s a q=zHd (zT s) (a,q):=by unfold zM4;rw[zM7 _ _ _ _ _ (Nat.le_refl _),zM5 _ _ _ h _ (Nat.le_refl _),List.take_length,List.take_length,<- zLu];rfl
theorem zOp (x:Int × Int):∀ (l:List P3) (z:Int),0<=z->z+(l.length:Int)*1125899906842624<9223372036854775808->(∀ y,y∈l->0<=y.2.2/\y.2.2<=1125899906842624)->z<=tw l x z/\∀ y,y∈l->zA9 y=x->y.2.2<=tw l x z
 | [],z,_,_,_=>⟨Int.le_refl _,fun y hy=>absurd hy (List.not_mem_nil)⟩
 | y::t,z,h0,h1,hb=>by
   obtain⟨b0,b1⟩:=hb y (List.mem_cons_self ..)
   rw[List.length_cons] at h1
   have hcast:((t.length+1:Nat):Int)=(t.length:Int)+1:=by omega
   rw[hcast,Int.add_mul] at h1
   have hstep:tw (y::t) x z=tw t x (if zA9 y=x then IntKind.i64.wrap (z+y.2.2) else z):=rfl
   by_cases hk:zA9 y=x
   .rw[if_pos hk] at hstep
    have hw:IntKind.i64.wrap (z+y.2.2)=z+y.2.2:=w64 qO qO
    rw[hw] at hstep
    obtain⟨i1,i2⟩:=zOp x t (z+y.2.2) qO qO (fun y hy=>hb y (zz4 _ hy))
    rw[hstep]
    refine⟨by omega,fun y' hy' hk'=>?_⟩
    rcases List.mem_cons.1 hy' with rfl|hy'
    .omega
    .exact i2 y' hy' hk'
   .rw[if_neg hk] at hstep
    obtain⟨i1,i2⟩:=zOp x t z h0 qO (fun y hy=>hb y (zz4 _ hy))
    rw[hstep]
    refine⟨i1,fun y' hy' hk'=>?_⟩
    rcases List.mem_cons.1 hy' with rfl|hy'
    .exact absurd hk' hk
    .exact i2 y' hy' hk'
theorem zJN {s:Sta}(h:zBL s=true):s.orders.length<=128/\∀ j,j<s.orders.length->((zV (od_ s.orders j)).2>0/\(zV (od_ s.orders j)).2<=1125899906842624)/\(0<=(od_ s.orders j).acct/\(od_ s.orders j).acct<=64)/\0<=(zV (od_ s.orders j)).1/\(zV (od_ s.orders j)).1<=16:=by{
obtain⟨h1,h2⟩:=zAk.1 (zCV.1 h).1;refine⟨h1,fun j hj=>?_⟩;obtain⟨hm,_⟩:=h2 j hj;have hm':=hm;obtain⟨_,g1,g2,_,g4,g5⟩:=hm;unfold zV;rw[if_pos ((zAi _).2 hm')];split
.have a1:1*1<=(od_ s.orders j).price*(od_ s.orders j).left:=Int.mul_le_mul g4.1 g5.1 qO qO;have a2:(od_ s.orders j).price*(od_ s.orders j).left<=1073741824*1048576:=Int.mul_le_mul g4.2 g5.2 qO qO;refine⟨⟨?_,?_⟩,by omega,?_,?_⟩<;>simp only<;>omega
.refine⟨⟨?_,?_⟩,by omega,?_,?_⟩<;>simp only<;>omega}
theorem zUR {x:Auc}(h:zAS x=true):x.bids.length<=16/\(1<=x.seller/\x.seller<=64)/\(1<=x.inst/\x.inst<=16)/\(1<=x.qty/\x.qty<=1048576)/\∀ j,j<x.bids.length->(1<=(x.bids.getD j default).acct/\(x.bids.getD j default).acct<=64)/\1<=(x.bids.getD j default).amount/\(x.bids.getD j default).amount<=1125899906842624:=by{
obtain⟨a1,a2,a3,a4,a5,a6,a7,a8⟩:=zC8 h;unfold zp at a1 a2 a3 a4;simp only[yy3,decide_eq_true_eq] at a1 a2 a3 a4;refine⟨?_,by omega,by omega,by omega,fun j hj=>?_⟩
.unfold zAb at a7;split at a7
 .unfold zGs at a7;simp only[yy3,decide_eq_true_eq] at a7;omega
 .unfold zFS at a7;simp only[yy3,decide_eq_true_eq] at a7;omega
.unfold zCT at a8;rcases zX (zBf x) x.bids.length with ⟨i,h1,h2,h3,h4⟩|⟨h1,h2⟩
 .rw[h4] at a8;simp only[decide_eq_true_eq] at a8;omega
 .have:=h1 j hj;unfold zBf zp at this;simp only[Bool.or_eq_false_iff,Bool.not_eq_false',yy3,decide_eq_true_eq] at this;omega}
theorem zWw {l:List Auc}(h:zAF l=true){k:Nat}(hk:k<l.length):zAS (l.getD k default)=true:=by{
unfold zAF at h;simp only[yy3,decide_eq_true_eq] at h;rcases zX (zBn l) l.length with ⟨j,h1,h2,h3,h4⟩|⟨h1,h2⟩
.omega
.have:=h1 k hk;unfold zBn at this;simp only[Bool.or_eq_false_iff,Bool.not_eq_false'] at this;exact this.2}
theorem zHn {α:Type}(f:α->List P3)(n:Nat):∀ (l:List α),(∀ x,x∈l->(f x).length<=n)->(l.flatMap f).length<=l.length*n
 | [],_=>by simp
 | x::t,h=>by
   rw[List.flatMap_cons,yy4,List.length_cons,Nat.add_mul]
   have:=zHn f n t (fun y hy=>h y (zz4 _ hy))
   have:=h x (List.mem_cons_self ..)
   omega
def zUS (y:P3):Prop:=(0<y.2.2/\y.2.2<=1125899906842624)/\(0<=y.1/\y.1<=64)/\0<=y.2.1/\y.2.1<=16
theorem zJO {α:Type}{l:List α}{x:α}(d:α)(h:x∈l):∃ k,k<l.length/\l.getD k d=x:=zBd h
theorem zJP {s:Sta}(h4:zBL s=true)(h5:zDM s=true):(zT s).length<=1024/\∀ y,y∈zT s->zUS y:=by{
obtain⟨o1,o2⟩:=zJN h4;have hma:=(zDV.1 h5).1;obtain⟨u1,u2⟩:=zRl hma;have hao:∀ x,x∈s.orders->(zAJ x).length<=1:=fun x _=>by unfold zAJ;split<;>simp
have hau:∀ x,x∈s.aucs->(zS x).length<=17:=fun x hx=>by
 obtain⟨k,hk,rfl⟩:=zJO default hx;have:=u2 k hk;unfold zS;split
 .rw[List.length_cons,yyp];omega
 .simp
refine⟨?_,fun y hy=>?_⟩
.unfold zT;rw[yy4];have:=zHn zAJ 1 s.orders hao;have:=zHn zS 17 s.aucs hau;omega
.unfold zT at hy;rcases List.mem_append.1 hy with hy|hy
 .obtain⟨x,hx,hy⟩:=List.mem_flatMap.1 hy;obtain⟨k,hk,rfl⟩:=zJO default hx;obtain⟨⟨g1,g2⟩,g3,g4⟩:=o2 k hk;have hd:s.orders.getD k default=od_ s.orders k:=rfl;rw[hd] at hy;unfold zAJ at hy;rw[if_pos g1,yyd] at hy;subst hy;exact⟨⟨g1,g2⟩,g3,g4⟩
 .obtain⟨x,hx,hy⟩:=List.mem_flatMap.1 hy;obtain⟨k,hk,rfl⟩:=zJO default hx;have hm:=zWw hma hk;obtain⟨_,b1,b2,b3,b4⟩:=zUR hm;unfold zS at hy;rw[if_pos hm] at hy;rcases List.mem_cons.1 hy with rfl|hy
  .refine⟨⟨?_,?_⟩,⟨?_,?_⟩,?_,?_⟩<;>simp only<;>omega
  .obtain⟨z,hz,rfl⟩:=List.mem_map.1 hy;obtain⟨j,hj,rfl⟩:=zJO default hz;obtain⟨c1,c2⟩:=b4 j hj;refine⟨⟨?_,?_⟩,⟨?_,?_⟩,?_,?_⟩<;>simp only<;>omega}
theorem zLw {l:List Row4}(h:RowsP l l.length):∀ k,k<l.length->∀ j,j<k->LtR (rw_ l j) (rw_ l k)
 | 0,_,j,hj=>absurd hj (zzE j)
 | k+1,hk,j,hj=>by
   have h1:=(h (k+1) hk).2
   rcases h1 with h1|h1
   .omega
   .rw[Nat.add_sub_cancel] at h1
    by_cases hjk:j=k
    .rw[hjk];exact h1
    .have h2:=zLw h k qO j qO
     unfold LtR at *
     omega
theorem zLx {l:List Row4}{k:Nat}{x:Int × Int}(hk:k<=l.length):x∈zCU l k↔∃ j,j<k/\zAD (rw_ l j)=x:=by{
unfold zCU;rw[yyk];constructor
.rintro⟨r,hr,rfl⟩;obtain⟨j,hj,rfl⟩:=zJO default hr;rw[List.length_take] at hj;refine⟨j,by omega,?_⟩;have:(l.take k).getD j default=rw_ l j:=by unfold rw_;rw[yy2,List.getElem?_take_of_lt qO,yy2,yy1 qO]
 rw[this]
.rintro⟨j,hj,rfl⟩;refine⟨rw_ l j,?_,rfl⟩;rw[List.mem_take_iff_getElem];refine⟨j,by omega,?_⟩;unfold rw_;rw[yy2,yy1 qO];rfl}
theorem zM9 {l:List Row4}(h:RowsP l l.length){k:Nat}(hk:k<l.length):zLt l (rw_ l k).acct (rw_ l k).asset=rw_ l k:=by{
unfold zLt
rw[zWv (p:=fun r=>r.acct==(rw_ l k).acct&&r.asset==(rw_ l k).asset) hk (fun j hj=>by
 have:=zLw h k hk j hj;unfold LtR at this;have hn:¬ ((rw_ l j).acct=(rw_ l k).acct/\(rw_ l j).asset=(rw_ l k).asset):=by omega
 simpa using fun a b=>hn ⟨a,b⟩) (by simp)]
rfl}
theorem zKg {l:List Row4}{a q:Int}(h:¬ (a,q)∈zCU l l.length):(zLt l a q).held=0:=by{
unfold zLt
rw[zRk (p:=fun r=>r.acct==a&&r.asset==q) (fun j hj=>by
 cases e:((rw_ l j).acct==a&&(rw_ l j).asset==q)
 .rfl
 .exfalso;simp only[yy3,beq_iff_eq] at e
  exact h ((zLx (zzC _)).2 ⟨j,hj,by unfold zAD;rw[e.1,e.2]⟩))]
rfl}
theorem zNA {s:Sta}(h3:zDL s=true)(h4:zBL s=true)(h5:zDM s=true):zGZ s=zUQ s:=by{
obtain⟨pl,po⟩:=zJP h4 h5;have hR:=(zBw.1 (zEf.1 h3).1).1;have hH:∀ a q,zM4 s a q=zHd (zT s) (a,q):=fun a q=>zM8 s a q fun j hj=>((zJN h4).2 j hj).1.1;have hat:∀ k,k<s.rows.length->(zDz s k=true↔zHd (zT s) (zAD (rw_ s.rows k))=(rw_ s.rows k).held):=fun k hk=>by unfold zDz;rw[if_neg,beq_iff_eq];rw[zLx qO];rintro⟨j,hj,he⟩;have:=zLw hR k hk j hj;unfold LtR at this;unfold zAD at he;have e1:=(Prod.mk.injEq _ _ _ _).mp he;omega
rw[Bool.eq_iff_iff,zKf];unfold zGZ zQI;simp only[yy3,yye,yy8,decide_eq_true_eq,beq_iff_eq];constructor
.rintro⟨q1,q2⟩ a ha q hq;rw[hH];by_cases hm:((a:Int),(q:Int))∈zCU s.rows s.rows.length
 .obtain⟨k,hk,he⟩:=(zLx (zzC _)).1 hm;have h1:=(hat k hk).1 (q1 k hk);have h2:=zM9 hR hk;rw[he] at h1;unfold zAD at he;have e1:=(Prod.mk.injEq _ _ _ _).mp he;rw[e1.1,e1.2] at h2;rw[h2,h1]
 .rw[zKg hm];refine(zKX ?_).symm;unfold zJA;rw[List.any_eq_false];intro y hy he;exact hm (zzA he ▸ q2 y hy)
.intro hg;refine⟨fun k hk=>(hat k hk).2 ?_,fun y hy=>?_⟩
 .obtain⟨⟨g1,g2,g3,g4⟩,_⟩:=(hR k hk).1;have h1:=hg (rw_ s.rows k).acct.toNat qO (rw_ s.rows k).asset.toNat qO;rw[Int.toNat_of_nonneg g1,Int.toNat_of_nonneg g3,zM9 hR hk,hH] at h1;exact h1.symm
 .obtain⟨⟨y1,_⟩,⟨y3,y4⟩,y5,y6⟩:=po y hy;refine Classical.byContradiction fun hm=>?_;have h1:=hg y.1.toNat qO y.2.1.toNat qO;rw[Int.toNat_of_nonneg y3,Int.toNat_of_nonneg y5,hH] at h1;have h2:(zLt s.rows y.1 y.2.1).held=0:=zKg (a:=y.1) (q:=y.2.1) hm;have h3:=(zOp (y.1,y.2.1) (zT s) 0 (Int.le_refl _) qO (fun z hz=>⟨by have:=(po z hz).1;omega,by have:=(po z hz).1;omega⟩)).2 y hy rfl;have h4:tw (zT s) (y.1,y.2.1) 0=zHd (zT s) (y.1,y.2.1):=rfl;omega}
def zm (l:List P3)(x:Pl):Int:=(l.map fun y=>if zA9 y=x then y.2.2 else 0).sum
theorem zd (l m:List P3)(x:Pl):zm (l++m) x=zm l x+zm m x:=by unfold zm;rw[List.map_append,List.sum_append]
theorem zDW (y:P3)(l:List P3)(x:Pl):zm (y::l) x=(if zA9 y=x then y.2.2 else 0)+zm l x:=rfl
theorem zHo (x:Pl):zm [] x=0:=rfl
theorem tw_E (x:Pl):∀ (l:List P3) (z:Int),0<=z->z+(l.length:Int)*1125899906842624<9223372036854775808->(∀ y∈l,0<=y.2.2/\y.2.2<=1125899906842624)->tw l x z=z+zm l x/\0<=zm l x/\zm l x<=(l.length:Int)*1125899906842624
 | [],z,_,_,_=>by simp[tw,zm]
 | y::l,z,h0,h1,h=>by
   have hy:=h y (zz2 _)
   have hl:((y::l).length:Int)=(l.length:Int)+1:=by simp
   rw[hl] at h1 ⊢
   have hs:tw (y::l) x z=tw l x (if zA9 y=x then IntKind.i64.wrap (z+y.2.2) else z):=rfl
   rw[hs,zDW]
   by_cases hk:zA9 y=x
   .rw[if_pos hk,if_pos hk,w64 qO qO]
    obtain⟨a,b,c⟩:=tw_E x l (z+y.2.2) qO qO fun q hq=>h q (zz5 _ hq)
    refine⟨by omega,by omega,by omega⟩
   .rw[if_neg hk,if_neg hk]
    obtain⟨a,b,c⟩:=tw_E x l z h0 qO fun q hq=>h q (zz5 _ hq)
    refine⟨by omega,by omega,by omega⟩
structure Good (s:Sta):Prop where
 nums:zID s=true
 accts:zFW s.accts=true
 insts:zDK s.insts=true
 rows:zAZ s.rows=true
 rowsIn:∀ r∈s.rows,(r.acct<=0\/zAC s r.acct=true)/\r.asset<=s.insts.length
 ords:zb s.orders=true
 ordsIn:∀ o∈s.orders,zCl s o=true
 aucs:zAF s.aucs=true
 aucsIn:∀ a∈s.aucs,zCW s a=false
 held:∀ x∈zB5,(atR s.rows x).2=zm (zT s) x
theorem zi {α:Type}[Inhabited α]{l:List α}{k:Nat}(h:k<l.length):l.getD k default∈l:=by rw[yy2,yy1 h];exact List.getElem_mem h
theorem zDp {α:Type}[Inhabited α]{l:List α}{p:α->Prop}:(∀ k,k<l.length->p (l.getD k default))↔∀ x∈l,p x :=
 ⟨fun h x hx=>by obtain⟨k,hk,rfl⟩:=zJO default hx;exact h k hk,fun h k hk=>h _ (zi hk)⟩
theorem zWx (l:List Row4)(a q:Int):(zLt l a q).free=(atR l (a,q)).1/\(zLt l a q).held=(atR l (a,q)).2:=by unfold zLt atR;simp only;cases l.find? (fun r=>r.acct==a&&r.asset==q)<;>exact⟨rfl,rfl⟩
theorem zKh {s:Sta}(h3:zDL s=true)(h4:zBL s=true)(h5:zDM s=true):zGZ s=true↔∀ x∈zB5,(atR s.rows x).2=zm (zT s) x:=by{
obtain⟨pl,po⟩:=zJP h4 h5;have hH:∀ a q,zM4 s a q=zm (zT s) (a,q):=fun a q=>by rw[zM8 s a q fun j hj=>((zJN h4).2 j hj).1.1];have:=(tw_E (a,q) (zT s) 0 (Int.le_refl _) qO fun y hy=>⟨Int.le_of_lt (po y hy).1.1,(po y hy).1.2⟩).1;rw[Int.zero_add] at this;exact this
rw[zNA h3 h4 h5,zKf];unfold zQI;simp only[beq_iff_eq,(zWx _ _ _).2,hH];constructor
.intro h x hx;obtain⟨⟨h1,h2⟩,h3,h4⟩:=zDU.1 hx;have:=h x.1.toNat qO x.2.toNat qO;rw[Int.toNat_of_nonneg h1,Int.toNat_of_nonneg h3] at this;exact this
.intro h a ha q hq;exact h _ (zDU.2 ⟨⟨by simp only;omega,by simp only;omega⟩,by simp only;omega,by simp only;omega⟩)}
theorem zAl {s:Sta}:zCP s=true↔Good s:=by{
constructor
.intro h;have h3:=zEt h 3 (by decide);have h4:=zEt h 4 (by decide);have h5:=zEt h 5 (by decide);have h6:=zEt h 6 (by decide);refine⟨zEt h 0 (by decide),zEt h 1 (by decide),zEt h 2 (by decide),(zEf.1 h3).1,?_,(zCV.1 h4).1,?_,(zDV.1 h5).1,?_,(zKh h3 h4 h5).1 h6⟩
 .exact zDp.1 fun k hk=>zIC.1 ((zEf.1 h3).2 k hk)
 .exact zDp.1 fun k hk=>(zCV.1 h4).2 k hk
 .exact zDp.1 fun k hk=>(zDV.1 h5).2 k hk
.intro h;have h3:zDL s=true:=zEf.2 ⟨h.rows,fun k hk=>zIC.2 (h.rowsIn _ (zi hk))⟩;have h4:zBL s=true:=zCV.2 ⟨h.ords,fun k hk=>h.ordsIn _ (zi hk)⟩;have h5:zDM s=true:=zDV.2 ⟨h.aucs,fun k hk=>h.aucsIn _ (zi hk)⟩;have h6:=(zKh h3 h4 h5).2 h.held;unfold zCP;rw[yye];intro k hk;match k,List.mem_range.1 hk with
 | 0,_=>exact h.nums
 | 1,_=>exact h.accts
 | 2,_=>exact h.insts
 | 3,_=>exact h3
 | 4,_=>exact h4
 | 5,_=>exact h5
 | 6,_=>exact h6}
theorem zNB {α:Type}[Inhabited α](f:α->Int){l:List α}:(∀ j,j<l.length->j=0\/f (l.getD (j - 1) default)<f (l.getD j default))↔l.Pairwise fun a b=>f a<f b:=by{
constructor
.intro h;rw[List.pairwise_iff_getElem];intro i j hi hj hij;have key:∀ d,i+d+1<l.length->f (l.getD i default)<f (l.getD (i+d+1) default):=by
  intro d;induction d with
  | zero =>
    intro hd;rcases h (i+1) hd with e|e
    .omega
    .simpa using e
  | succ d ih =>
    intro hd;rcases h (i+(d+1)+1) hd with e|e
    .omega
    .exact Int.lt_trans (ih qO) e
 have:=key (j - i - 1) qO;rw[show i+(j - i - 1)+1=j by omega] at this;simpa [yy2,yy1 hi,yy1 hj] using this
.intro h j hj;rcases yyn j with e|e
 .exact .inl e
 .right;have:=List.pairwise_iff_getElem.1 h (j - 1) j qO hj qO;simpa [yy2,yy1 hj,yy1 (show j - 1<l.length by omega)] using this}
theorem zAK {l:List Odr}:zb l=true↔l.length<=128/\(∀ o∈l,zAV o)/\l.Pairwise fun a b=>a.id<b.id:=by rw[zAk,<- zNB,<- zDp];unfold OrdP od_;exact and_congr_right fun _=>⟨fun h=>⟨fun k hk=>(h k hk).1,fun k hk=>(h k hk).2⟩,fun h k hk=>⟨h.1 k hk,h.2 k hk⟩⟩
theorem zOq {x:Auc}(h:zAS x=true):1<=x.id/\x.id<=1099511627776:=by have:=(zC8 h).1;simpa [zp] using this
theorem zs {l:List Auc}:zAF l=true↔l.length<=32/\(∀ a∈l,zAS a=true)/\l.Pairwise fun a b=>a.id<b.id:=by{
have hb:∀ j,zBn l j=false↔zOa l j<(l.getD j default).id/\zAS (l.getD j default)=true:=fun j=>by unfold zBn;simp
rw[<- zNB,<- zDp];unfold zAF;simp only[yy3,decide_eq_true_eq];constructor
.rintro⟨h1,h2⟩;rcases zX (zBn l) l.length with ⟨j,_,_,_,h4⟩|⟨h3,_⟩
 .omega
 .refine⟨by omega,fun k hk=>((hb k).1 (h3 k hk)).2,fun k hk=>?_⟩;have:=((hb k).1 (h3 k hk)).1;cases k with
  | zero=>exact .inl rfl
  | succ k=>exact .inr this
.rintro⟨h1,h2,h3⟩;refine⟨?_,by omega⟩;rw[zA8 fun j hj=>(hb j).2 ⟨?_,h2 j hj⟩]
 .decide
 .cases j with
  | zero=>have:=(zOq (h2 0 hj)).1;exact this
  | succ k => rcases h3 (k+1) hj with e|e
              .cases e
              .exact e}
def zOr (k:Int):List Nat:=(zBT 3 k).1
structure EvOk (e:Evt):Prop where
 kind:1<=e.kind/\e.kind<=23
 len:e.nums.length=(zOr e.kind).length
 fit:∀ i,i<(zOr e.kind).length->zBp 3 ((zOr e.kind).getD i 0) (nF e.nums i)=true
 text:(zBT 3 e.kind).2=true->zAE (e.texts.getD 0 ByteArray.empty)=true
theorem zQJ {e:Evt}(hv:e.v=3)(h:zk e=true):EvOk e:=by{
unfold zk zAg at h;rw[hv] at h;by_cases hk:1<=e.kind/\e.kind<=23
.by_cases hb:(1:Int)<=3/\(3:Int)<=3/\32 ∉ (zBT 3 e.kind).1
 .rw[if_pos hb] at h;simp only[yy3] at h;obtain⟨h1,h2⟩:=h;unfold zBU at h1;simp only[yy3,beq_iff_eq,yye,yy8] at h1;refine⟨hk,h1.1.symm,fun i hi=>h1.2 i hi,fun ht=>?_⟩;rw[if_pos ht] at h2;simp only[yy3] at h2;exact h2.2
 .rw[if_neg hb] at h;cases h
.have:¬ ((1:Int)<=3/\(3:Int)<=3/\32 ∉ (zBT 3 e.kind).1):=by unfold zBT;rw[if_neg hk];simp
 rw[if_neg this] at h;cases h}
def bnd (c:Nat)(n:Int):Prop :=
 match zDO 3 c with
 | some (l,h)=>l<=n/\n<=h
 | none=>False
theorem zWy {c:Nat}{n:Int}(h:zBp 3 c n=true):bnd c n:=by{
unfold zBp at h;unfold bnd;cases hb:zDO 3 c with
| none=>rw[hb] at h;cases h
| some p=>rw[hb] at h;simpa using h}
theorem EvOk.at {e:Evt}(h:EvOk e)(i:Nat){c:Nat}(hc:(zOr e.kind)[i]?=some c):bnd c (nF e.nums i):=by
 have hi:i<(zOr e.kind).length:=(List.getElem?_eq_some_iff.1 hc).1;have:=zWy (h.fit i hi)
 rwa [yy2,hc] at this
theorem zJQ {n:Int}(h:bnd 97 n):1<=n/\n<=64:=h
theorem zEF {n:Int}(h:bnd 105 n):1<=n/\n<=16:=h
theorem bnd_o {n:Int}(h:bnd 111 n):1<=n/\n<=1099511627776:=h
theorem bnd_c {n:Int}(h:bnd 99 n):1<=n/\n<=1099511627776:=h
theorem zIH {n:Int}(h:bnd 109 n):1<=n/\n<=1125899906842624:=h
theorem bnd_z {n:Int}(h:bnd 122 n):0<=n/\n<=1125899906842624:=h
theorem zQK {n:Int}(h:bnd 112 n):1<=n/\n<=1073741824:=h
theorem bnd_k {n:Int}(h:bnd 107 n):1<=n/\n<=1073741824:=h
theorem zG8 {n:Int}(h:bnd 113 n):1<=n/\n<=1048576:=h
theorem zUT {n:Int}(h:bnd 115 n):1<=n/\n<=2:=h
theorem bnd_b {n:Int}(h:bnd 98 n):0<=n/\n<=1000:=h
theorem zUU {n:Int}(h:bnd 116 n):1<=n/\n<=1099511627776:=h
theorem zCo {s:Sta}{a:Int}:zAC s a=true↔1<=a/\a<=s.accts.length/\(ac_ s.accts (a - 1).toNat).opn=true:=by{
unfold zAC zBQ;by_cases h:1<=a/\a<=s.accts.length/\(ac_ s.accts (a - 1).toNat).opn=true
.rw[if_pos h];exact⟨fun _=>h,fun _=>rfl⟩
.rw[if_neg h];exact⟨fun h'=>(by cases h'),fun h'=>absurd h' h⟩}
theorem zAh {s:Sta}{a:Int}:zBO s a=true↔1<=a/\a<=s.insts.length:=by{
unfold zBO zCI;by_cases h:1<=a/\a<=s.insts.length
.rw[if_pos h];exact⟨fun _=>h,fun _=>rfl⟩
.rw[if_neg h];exact⟨fun h'=>(by cases h'),fun h'=>absurd h' h⟩}
theorem zQL {s:Sta}{a:Int}(h:zBO s a=true):(zCI s.insts a).1=in_ s.insts (a - 1).toNat:=by unfold zCI;rw[if_pos (zAh.1 h)]
theorem zy {s:Sta}{o:Odr}:zCl s o=true↔o.id<s.nextO/\zAC s o.acct=true/\zBO s o.inst=true/\o.price.tmod (in_ s.insts (o.inst - 1).toNat).tick=0:=by{
unfold zCl;simp only[yy3,decide_eq_true_eq,beq_iff_eq];constructor
.rintro⟨⟨⟨a,b⟩,c⟩,d⟩;exact⟨a,b,c,by rw[zQL c] at d;exact d⟩
.rintro⟨a,b,c,d⟩;exact⟨⟨⟨a,b⟩,c⟩,by rw[zQL c];exact d⟩}
theorem zAU {s:Sta}{x:Auc}:zCW s x=false↔x.id<s.nextA/\zAC s x.seller=true/\zBO s x.inst=true/\∀ b∈x.bids,zAC s b.acct=true:=by{
have hb:zIb s x.bids=false↔∀ b∈x.bids,zAC s b.acct=true:=by
 rw[<- zDp];unfold zIb;simp only[yyy];rcases zX (zHg s x.bids) x.bids.length with ⟨k,hk,_,hp,hx⟩|⟨hx,h2⟩
 .refine⟨fun h=>absurd (by omega:idx (zHg s x.bids) x.bids.length >= 0) h,fun h=>?_⟩;have:=h k hk;unfold zHg at hp;unfold zAC at this;rw[this] at hp;cases hp
 .refine⟨fun _ k hk=>?_,fun _=>by omega⟩;have:=hx k hk;unfold zHg at this;simpa [zAC] using this
unfold zCW;simp only[Bool.or_eq_false_iff,yyy,Bool.not_eq_false',hb];unfold zAC zBO;constructor
.rintro⟨⟨⟨a,b⟩,c⟩,d⟩;exact⟨by omega,b,c,d⟩
.rintro⟨a,b,c,d⟩;exact⟨⟨⟨by omega,b⟩,c⟩,d⟩}
theorem zAL {s:Sta}:zID s=true↔(0<=s.clock/\s.clock<=1099511627776)/\(0<=s.fee/\s.fee<=1000)/\(1<=s.nextO/\s.nextO<=1099511627777)/\(1<=s.nextA/\s.nextA<=1099511627777):=by unfold zID;simp only[yy3,zEd,and_assoc]
theorem zUV {l:List Row4}{x:Pl}(h:atR l x≠(0,0)):∃ r∈l,zAD r=x:=by refine Classical.byContradiction fun hn=>h (zJI fun r hr he=>hn ⟨r,hr,he⟩)
theorem dl_ne {p:List Pst}{x:Pl}(h:dlF p x≠(0,0)):∃ q∈p,q.acct=x.1/\q.asset=x.2:=by{
induction p with
| nil=>exact absurd rfl h
| cons q p ih =>
  rw[zBb] at h;by_cases hq:q.acct=x.1/\q.asset=x.2
  .exact⟨q,zz2 _,hq⟩
  .rw[if_neg hq] at h;obtain⟨t,ht,e⟩:=ih h;exact⟨t,zz5 _ ht,e⟩}
def InP (s:Sta)(p:List Pst):Prop:=∀ q∈p,(q.acct<=0\/zAC s q.acct=true)/\q.asset<=s.insts.length
theorem zWz {s:Sta}{p:List Pst}{r:List Row4}(hs:Good s)(hp:zBR s.rows p=(r,0))(hin:InP s p):∀ t∈r,(t.acct<=0\/zAC s t.acct=true)/\t.asset<=s.insts.length:=by{
obtain⟨_,_,_,rfl,_,_⟩:=zQG hp;intro t ht;have hm:=zF0.1 ht;have hne:zAH s.rows p (zAD t)≠(0,0):=by rw[hm.2.1];exact fun h=>hm.2.2 (Prod.mk.inj h)
by_cases h1:atR s.rows (zAD t)=(0,0)
.have h2:dlF p (zAD t)≠(0,0):=fun h2=>hne (by unfold zAH;rw[h1,h2];rfl);obtain⟨q,hq,e1,e2⟩:=dl_ne h2;have:=hin q hq;rw[e1,e2] at this;exact this
.obtain⟨q,hq,e⟩:=zUV h1;have:=hs.rowsIn q hq;have e1:q.acct=t.acct:=congrArg Prod.fst e;have e2:q.asset=t.asset:=congrArg Prod.snd e;rw[e1,e2] at this;exact this}
theorem Good.upd {s t:Sta}{p:List Pst}(h:Good s)(hp:zBR s.rows p=(t.rows,0))(hin:InP s p)(hac:t.accts=s.accts)(hins:t.insts=s.insts)(hn:zID t=true)(ho:zb t.orders=true)(ho2:∀ o∈t.orders,zCl t o=true)(ha:zAF t.aucs=true)(ha2:∀ a∈t.aucs,zCW t a=false)
  (hh:∀ x∈zB5,zm (zT t) x=zm (zT s) x+(dlF p x).2):Good t:=by{
obtain⟨_,_,_,_,h5,h6⟩:=zQG hp;refine⟨hn,by rw[hac];exact h.accts,by rw[hins];exact h.insts,h5,fun r hr=>?_,ho,ho2,ha,ha2,fun x hx=>?_⟩
.have:=zWz h hp hin r hr;unfold zAC at this ⊢;rw[hac,hins];exact this
.rw[h6 x hx,hh x hx,<- h.held x hx];rfl}
theorem zDX {s t:Sta}{p:List Pst}(h:zf s p=(t,0)):zBR s.rows p=(t.rows,0)/\t={ s with rows:=t.rows }:=by{
unfold zf at h;by_cases h0:(zBR s.rows p).2=0
.rw[if_pos h0] at h;obtain rfl:=(Prod.mk.inj h).1;exact⟨Prod.ext rfl h0,rfl⟩
.rw[if_neg h0] at h;exact absurd (Prod.mk.inj h).2 h0}
theorem Good.free {s t:Sta}{p:List Pst}(h:Good s)(hp:zf s p=(t,0))(hin:InP s p)(h0:∀ q∈p,q.held=0):Good t:=by{
obtain⟨h1,h2⟩:=zDX hp;have hd:∀ x,(dlF p x).2=0:=fun x=>by
 clear hp h1 hin;induction p with
 | nil=>rfl
 | cons q p ih =>
   rw[zBb];have:=ih fun q hq=>h0 q (zz5 _ hq);split
   .simp only[this,h0 q (List.Mem.head _)];rfl
   .exact this
rw[h2];refine h.upd (t:={ s with rows:=t.rows }) (by exact h1) hin rfl rfl h.nums h.ords h.ordsIn h.aucs h.aucsIn fun x _=>?_;rw[hd x];show zm (zT s) x=_;omega}
theorem zFc {s t:Sta}{a b c n:Int}(h:Good s)(hp:zDQ s a b c n=(t,0))(ha:a<=0\/zAC s a=true)(hb:b<=0\/zAC s b=true)(hc:c<=s.insts.length):Good t:=by{
refine h.free hp (fun q hq=>?_) (fun q hq=>?_)
.simp only[List.mem_cons,List.not_mem_nil,or_false] at hq;rcases hq with rfl|rfl
 .exact⟨ha,hc⟩
 .exact⟨hb,hc⟩
.simp only[List.mem_cons,List.not_mem_nil,or_false] at hq;rcases hq with rfl|rfl<;>rfl}
theorem Good.nums' {s t:Sta}(h:Good s)(hn:zID t=true)(e1:t.accts=s.accts)(e2:t.insts=s.insts)(e3:t.rows=s.rows)(e4:t.orders=s.orders)(e5:t.aucs=s.aucs)(e6:s.nextO<=t.nextO)(e7:s.nextA<=t.nextA):Good t:=by{
have eo:∀ a,zAC t a=zAC s a:=fun a=>by unfold zAC;rw[e1]
have eh:∀ a,zBO t a=zBO s a:=fun a=>by unfold zBO;rw[e2]
refine⟨hn,by rw[e1];exact h.accts,by rw[e2];exact h.insts,by rw[e3];exact h.rows,fun r hr=>?_,by rw[e4];exact h.ords,fun o ho=>?_,by rw[e5];exact h.aucs,fun a ha=>?_,fun x hx=>?_⟩
.rw[eo,e2];exact h.rowsIn r (e3 ▸ hr)
.have:=zy.1 (h.ordsIn o (e4 ▸ ho));exact zy.2 ⟨by omega,by rw[eo];exact this.2.1,by rw[eh];exact this.2.2.1,by rw[e2];exact this.2.2.2⟩
.have:=zAU.1 (h.aucsIn a (e5 ▸ ha));exact zAU.2 ⟨by omega,by rw[eo];exact this.2.1,by rw[eh];exact this.2.2.1,fun b hb=>by rw[eo];exact this.2.2.2 b hb⟩
.rw[e3];have:zT t=zT s:=by unfold zT;rw[e4,e5]
 rw[this];exact h.held x hx}
theorem Good.accts' {s:Sta}(h:Good s)(l:List Ac)(hl:zFW l=true)(hm:∀ a,zAC s a=true->zAC { s with accts:=l } a=true):Good { s with accts:=l }:=by{
refine⟨h.nums,hl,h.insts,h.rows,fun r hr=>?_,h.ords,fun o ho=>?_,h.aucs,fun a ha=>?_,h.held⟩
.have:=h.rowsIn r hr;exact⟨this.1.imp id (hm _),this.2⟩
.have:=zy.1 (h.ordsIn o ho);exact zy.2 ⟨this.1,hm _ this.2.1,this.2.2.1,this.2.2.2⟩
.have:=zAU.1 (h.aucsIn a ha);exact zAU.2 ⟨this.1,hm _ this.2.1,this.2.2.1,fun b hb=>hm _ (this.2.2.2 b hb)⟩}
theorem Good.insts' {s:Sta}(h:Good s)(l:List Ins)(hl:zDK l=true)(hn:s.insts.length<=l.length)(ht:∀ o∈s.orders,o.price.tmod (in_ l (o.inst - 1).toNat).tick=0):Good { s with insts:=l }:=by{
have hm:∀ a,zBO s a=true->zBO { s with insts:=l } a=true:=fun a ha=>zAh.2 ⟨(zAh.1 ha).1,by have:=(zAh.1 ha).2;show a<=(l.length:Int);omega⟩;refine⟨h.nums,h.accts,hl,h.rows,fun r hr=>?_,h.ords,fun o ho=>?_,h.aucs,fun a ha=>?_,h.held⟩
.have:=h.rowsIn r hr;exact⟨this.1,by show r.asset<=(l.length:Int);omega⟩
.have:=zy.1 (h.ordsIn o ho);exact zy.2 ⟨this.1,this.2.1,hm _ this.2.2.1,ht o ho⟩
.have:=zAU.1 (h.aucsIn a ha);exact zAU.2 ⟨this.1,this.2.1,hm _ this.2.2.1,this.2.2.2⟩}
theorem zUW {a b:ByteArray}:(a.toList==b.toList)=false↔a.data.toList≠b.data.toList:=by rw[ByteArray.toList_eq,ByteArray.toList_eq];simp
theorem zNC {l:List Ac}{t:ByteArray}(h:¬ zBE l t >= 0):∀ x∈l,x.name.data.toList≠t.data.toList:=by{
rw[<- zDp];unfold zBE at h;rcases zX (zFV l t) l.length with ⟨k,_,_,_,h2⟩|⟨h1,_⟩
.omega
.exact fun k hk=>zUW.1 (h1 k hk)}
theorem zHp (l:List ByteArray):zBo l=true↔(∀ x∈l,zAE x=true)/\(nmL l).Nodup:=by unfold zBo;simp
theorem zKi {l:List ByteArray}{t:ByteArray}(h:zBo l=true)(ht:zAE t=true)(hn:∀ x∈l,x.data.toList≠t.data.toList):zBo (l++[t])=true:=by{
rw[zHp] at h ⊢;refine⟨fun x hx=>?_,?_⟩
.rcases List.mem_append.1 hx with e|e
 .exact h.1 x e
 .rw[yyd] at e;exact e ▸ ht
.unfold nmL;rw[List.map_append,List.nodup_append];refine⟨h.2,by simp,fun a ha b hb=>?_⟩;obtain⟨x,hx,rfl⟩:=List.mem_map.1 ha;simp only[List.map_cons,List.map_nil,yyd] at hb;subst hb;exact hn x hx}
theorem zRm {l:List ByteArray}{t:ByteArray}(k:Nat)(h:zBo l=true)(ht:zAE t=true)(hn:∀ x∈l,x.data.toList≠t.data.toList):zBo (l.set k t)=true:=by{
rw[zHp] at h ⊢;refine⟨fun x hx=>?_,?_⟩
.rcases List.mem_or_eq_of_mem_set hx with e|e
 .exact h.1 x e
 .exact e ▸ ht
.have h2:=h.2;unfold nmL at h2 ⊢;rw[List.Nodup,List.pairwise_iff_getElem] at h2 ⊢;intro i j hi hj hij;simp only[yyp,List.length_set] at hi hj;have g:∀ m (hm:m<l.length),l[m].data.toList≠t.data.toList:=fun m hm=>hn _ (List.getElem_mem hm);simp only[List.getElem_map,List.getElem_set];have:=h2 i j (by simpa using hi) (by simpa using hj) hij;simp only[List.getElem_map] at this;by_cases h1:k=i
 .by_cases h3:k=j
  .omega
  .rw[if_pos h1,if_neg h3];exact(g j hj).symm
 .by_cases h3:k=j
  .rw[if_neg h1,if_pos h3];exact g i hi
  .rw[if_neg h1,if_neg h3];exact this}
theorem zCJ {l:List Ac}:zFW l=true↔l.length<=64/\zBo (nmA l)=true:=by rw[zGx];simp
theorem ac_app {l:List Ac}{x:Ac}{k:Nat}(h:k<l.length):ac_ (l++[x]) k=ac_ l k:=by simp[ac_,yy2,yyl h]
theorem zOs {s t:Sta}{n:List Int}{nm:ByteArray}(h:Good s)(hn:nF n 0<=64)(hm:zAE nm=true)(he:zEj s n nm=(t,0)):Good t:=by{
unfold zEj at he;by_cases h1:nF n 0≠s.accts.length+1
.rw[if_pos h1] at he;exact absurd (Prod.mk.inj he).2 (by decide)
rw[if_neg h1] at he;by_cases h2:zBE s.accts nm >= 0
.rw[if_pos h2] at he;exact absurd (Prod.mk.inj he).2 (by decide)
rw[if_neg h2] at he;obtain rfl:=(Prod.mk.inj he).1;have ha:=zCJ.1 h.accts;refine h.accts' _ (zCJ.2 ⟨by rw[yy4,yyo];omega,?_⟩) fun a ho=>?_
.have:=zKi (t:=nm) ha.2 hm (fun x hx=>by
  obtain⟨y,hy,rfl⟩:=List.mem_map.1 hx
  exact zNC h2 y hy)
 simpa [nmA] using this
.obtain⟨o1,o2,o3⟩:=zCo.1 ho;refine zCo.2 ⟨o1,?_,?_⟩
 .show a<=((s.accts++[(⟨nm,true⟩:Ac)]).length:Int);rw[yy4];omega
 .show(ac_ (s.accts++[(⟨nm,true⟩:Ac)]) (a - 1).toNat).opn=true;rw[ac_app qO];exact o3}
theorem zOt {l:List Ac}{x:Ac}{k j:Nat}(hk:k<l.length):ac_ (l.set k x) j=if j=k then x else ac_ l j:=by{
simp only[ac_,yy2];by_cases h:j=k
.subst h;simp[hk]
.rw[if_neg h,List.getElem?_set_ne qO]}
theorem zND {s t:Sta}{n:List Int}{nm:ByteArray}(h:Good s)(hm:zAE nm=true)(he:zDT s n nm=(t,0)):Good t:=by{
unfold zDT at he;by_cases h1:zAC s (nF n 0)=true
.rw[if_pos h1] at he;by_cases h2:zBE s.accts nm >= 0
 .rw[if_pos h2] at he;exact absurd (Prod.mk.inj he).2 (by decide)
 rw[if_neg h2] at he;obtain rfl:=(Prod.mk.inj he).1;have ha:=zCJ.1 h.accts;obtain⟨p1,p2,p3⟩:=zCo.1 h1;refine h.accts' _ (zCJ.2 ⟨by rw[List.length_set];exact ha.1,?_⟩) fun a ho=>?_
 .have:=zRm (t:=nm) (nF n 0 - 1).toNat ha.2 hm (fun x hx=>by
   obtain⟨y,hy,rfl⟩:=List.mem_map.1 hx
   exact zNC h2 y hy)
  simpa [nmA,List.map_set] using this
 .obtain⟨o1,o2,o3⟩:=zCo.1 ho;refine zCo.2 ⟨o1,?_,?_⟩
  .simpa using o2
  .simp only;rw[zOt qO];split
   .rename_i e;rw[<- e];exact o3
   .exact o3
.rw[if_neg h1] at he;exact absurd (Prod.mk.inj he).2 (by decide)}
theorem zCK {l:List Ins}:zDK l=true↔l.length<=16/\(∀ x∈l,1<=x.tick/\x.tick<=1073741824)/\zBo (nmI l)=true:=by rw[zEg,<- zDp];simp only[yy3,decide_eq_true_eq,yye,yy8,zEd];rfl
theorem in_app {l:List Ins}{x:Ins}{k:Nat}(h:k<l.length):in_ (l++[x]) k=in_ l k:=by simp[in_,yy2,yyl h]
theorem zUX {l:List Ins}{x:Ins}{k j:Nat}(hk:k<l.length):in_ (l.set k x) j=if j=k then x else in_ l j:=by{
simp only[in_,yy2];by_cases h:j=k
.subst h;simp[hk]
.rw[if_neg h,List.getElem?_set_ne qO]}
theorem zOu {s t:Sta}{n:List Int}{nm:ByteArray}(h:Good s)(hn:nF n 0<=16)(hk:1<=nF n 1/\nF n 1<=1073741824)(hm:zAE nm=true)(he:zEl s n nm=(t,0)):Good t:=by{
unfold zEl at he;by_cases h1:nF n 0≠s.insts.length+1
.rw[if_pos h1] at he;exact absurd (Prod.mk.inj he).2 (by decide)
rw[if_neg h1] at he;by_cases h2:(s.insts.any fun x=>x.name.toList==nm.toList)=true
.rw[if_pos h2] at he;exact absurd (Prod.mk.inj he).2 (by decide)
rw[if_neg h2] at he;obtain rfl:=(Prod.mk.inj he).1;obtain⟨i1,i2,i3⟩:=zCK.1 h.insts;refine h.insts' _ (zCK.2 ⟨by rw[yy4,yyo];omega,fun x hx=>?_,?_⟩) (by rw[yy4];omega) fun o ho=>?_
.rcases List.mem_append.1 hx with e|e
 .exact i2 x e
 .rw[yyd] at e;subst e;exact hk
.have:=zKi (t:=nm) i3 hm (fun x hx=>by
  obtain⟨y,hy,rfl⟩:=List.mem_map.1 hx;have:=List.any_eq_false.1 (by simpa only[Bool.not_eq_true] using h2) y hy
  exact zUW.1 (by simpa only[Bool.not_eq_true] using this))
 simpa [nmI] using this
.have:=zy.1 (h.ordsIn o ho);have hi:=zAh.1 this.2.2.1;rw[in_app qO];exact this.2.2.2}
theorem zNE {s:Sta}(h:Good s){i:Int}(hi:zBO s i=true)(y:Ins)(hnm:y.name=(in_ s.insts (i - 1).toNat).name)(hk:1<=y.tick/\y.tick<=1073741824)(ht:∀ o∈s.orders,o.inst=i->o.price.tmod y.tick=0):Good { s with insts:=s.insts.set (i - 1).toNat y }:=by{
obtain⟨i1,i2,i3⟩:=zCK.1 h.insts;obtain⟨j1,j2⟩:=zAh.1 hi;refine h.insts' _ (zCK.2 ⟨by rw[List.length_set];exact i1,fun x hx=>?_,?_⟩) (by rw[List.length_set];exact zzC _) fun o ho=>?_
.rcases List.mem_or_eq_of_mem_set hx with e|e
 .exact i2 x e
 .rw[e];exact hk
.have:nmI (s.insts.set (i - 1).toNat y)=nmI s.insts:=by
  unfold nmI;rw[List.map_set,hnm];have hlt:(i - 1).toNat<s.insts.length:=by{omega};have e:(in_ s.insts (i - 1).toNat).name=(s.insts.map (·.name))[(i - 1).toNat]'(by rw[yyp];exact hlt):=by rw[in_,yy2,yy1 hlt,List.getElem_map];rfl
  rw[e];exact List.set_getElem_self _
 rw[this];exact i3
.have hs:=zy.1 (h.ordsIn o ho);rw[zUX qO];split
 .rename_i e;have hb:=zAh.1 hs.2.2.1;exact ht o ho qO
 .exact hs.2.2.2}
theorem zNF {s t:Sta}{n:List Int}{is:Bool}(h:Good s)(he:zGL s n is=(t,0)):Good t:=by{
unfold zGL at he;by_cases h1:zBO s (nF n 0)=true
.rw[if_pos h1] at he;simp only at he;by_cases h2:(in_ s.insts (nF n 0 - 1).toNat).halted=is
 .rw[if_pos h2] at he;exact absurd (Prod.mk.inj he).2 (by decide)
 rw[if_neg h2] at he;obtain rfl:=(Prod.mk.inj he).1;obtain⟨i1,i2,i3⟩:=zCK.1 h.insts;obtain⟨j1,j2⟩:=zAh.1 h1;refine zNE h h1 _ rfl (i2 (in_ s.insts (nF n 0 - 1).toNat) (zi (l:=s.insts) (k:=(nF n 0 - 1).toNat) qO)) fun o ho e=>?_;have:=(zy.1 (h.ordsIn o ho)).2.2.2;rw[e] at this;exact this
.rw[if_neg h1] at he;exact absurd (Prod.mk.inj he).2 (by decide)}
theorem zOv {s t:Sta}{n:List Int}(h:Good s)(hk:1<=nF n 1/\nF n 1<=1073741824)(he:zEm s n=(t,0)):Good t:=by{
unfold zEm at he;by_cases h1:zBO s (nF n 0)=true
.rw[if_pos h1] at he;by_cases h2:(s.orders.any fun o=>o.inst==nF n 0)=true
 .rw[if_pos h2] at he;exact absurd (Prod.mk.inj he).2 (by decide)
 rw[if_neg h2] at he;obtain rfl:=(Prod.mk.inj he).1;refine zNE h h1 _ rfl hk fun o ho e=>?_;have:=List.any_eq_false.1 (by simpa only[Bool.not_eq_true] using h2) o ho;simp[e] at this
.rw[if_neg h1] at he;exact absurd (Prod.mk.inj he).2 (by decide)}
theorem zW0 {s:Sta}{z:Int}(h:Good s)(hz:0<=z/\z<=1000):Good { s with fee:=z }:=by have:=zAL.1 h.nums;exact h.nums' (zAL.2 ⟨this.1,hz,this.2.2⟩) rfl rfl rfl rfl rfl (Int.le_refl _) (Int.le_refl _)
theorem zRn {s t:Sta}{n:List Int}(h:Good s)(hk:nF n 0<=1099511627776)(he:zHi s n=(t,0)):Good t:=by{
unfold zHi at he;by_cases h1:nF n 0<=s.clock\/(s.aucs.any fun a=>zAW a s.clock)=true
.rw[if_pos h1] at he;exact absurd (Prod.mk.inj he).2 (by decide)
rw[if_neg h1] at he;obtain rfl:=(Prod.mk.inj he).1;have:=zAL.1 h.nums;exact h.nums' (zAL.2 ⟨⟨by show 0<=nF n 0;omega,hk⟩,this.2⟩) rfl rfl rfl rfl rfl (Int.le_refl _) (Int.le_refl _)}
theorem Good.parts {s:Sta}(h:Good s):(zT s).length<=1024/\∀ y∈zT s,zUS y :=
 zJP (zCV.2 ⟨h.ords,fun _ hk=>h.ordsIn _ (zi hk)⟩) (zDV.2 ⟨h.aucs,fun _ hk=>h.aucsIn _ (zi hk)⟩)
theorem zEG {l:List P3}(h:∀ y∈l,0<=y.2.2)(x:Pl):0<=zm l x:=by{
induction l with
| nil=>exact Int.le_refl _
| cons y l ih =>
  rw[zDW];have h1:=ih fun q hq=>h q (zz5 _ hq);have h2:=h y (zz2 _);split<;>omega}
theorem zNG {l:List P3}(h:∀ y∈l,0<=y.2.2){y:P3}(hy:y∈l):y.2.2<=zm l (zA9 y):=by{
induction l with
| nil=>cases hy
| cons q l ih =>
  rw[zDW];have h1:=h q (zz2 _);have hl:=fun z hz=>h z (zz5 q hz);rcases List.mem_cons.1 hy with rfl|e
  .have:=zEG hl (zA9 y);rw[if_pos rfl];omega
  .have:=ih hl e;split<;>omega}
theorem zUY {s:Sta}(h:Good s){y:P3}(hy:y∈zT s):∃ r∈s.rows,zAD r=zA9 y:=by obtain⟨_,po⟩:=h.parts;have hp:=po y hy;have hg:zA9 y∈zB5:=zDU.2 ⟨hp.2.1,hp.2.2⟩;have h1:=h.held _ hg;have h2:=zNG (fun q hq=>Int.le_of_lt (po q hq).1.1) hy;refine zUV fun h0=>?_;rw[h0] at h1;have:=hp.1.1;simp only at h1;omega
theorem zDq {o:Odr}(h:zAV o):(zV o=(if o.side=1 then(0,o.price*o.left) else(o.inst,o.left)))/\0<(zV o).2:=by{
have e:zV o=(if o.side=1 then(0,o.price*o.left) else(o.inst,o.left)):=by unfold zV;rw[if_pos ((zAi o).2 h)]
refine⟨e,?_⟩;rw[e];obtain⟨_,_,_,_,g4,g5⟩:=h;split
.have:=Int.mul_pos (show 0<o.price by omega) (show 0<o.left by omega);exact this
.show 0<o.left;omega}
theorem zFd {o:Odr}(h:zAV o):zAJ o=[(o.acct,(zV o).1,(zV o).2)]:=by unfold zAJ;rw[if_pos (zDq h).2]
theorem part_o {s:Sta}(h:Good s){o:Odr}(ho:o∈s.orders):(o.acct,(zV o).1,(zV o).2)∈zT s:=by unfold zT;refine zz6 _ (List.mem_flatMap.2 ⟨o,ho,?_⟩);rw[zFd ((zAK.1 h.ords).2.1 o ho)];exact zz2 _
theorem part_a {s:Sta}(h:Good s){a:Auc}(ha:a∈s.aucs):(a.seller,a.inst,a.qty)∈zT s/\∀ b∈a.bids,((b.acct,0,b.amount):P3)∈zT s:=by
 have hm:=(zs.1 h.aucs).2.1 a ha;have hp:zS a=(a.seller,a.inst,a.qty)::a.bids.map (fun b=>(b.acct,0,b.amount)):=by unfold zS;rw[if_pos hm]
 unfold zT;refine⟨zz3 _ (List.mem_flatMap.2 ⟨a,ha,by rw[hp];exact zz2 _⟩),fun b hb=>zz3 _ (List.mem_flatMap.2 ⟨a,ha,by rw[hp];exact zz5 _ (List.mem_map.2 ⟨b,hb,rfl⟩)⟩)⟩
theorem zOw {s t:Sta}{n:List Int}(h:Good s)(he:zEk s n=(t,0)):Good t:=by{
unfold zEk at he;by_cases h1:zAC s (nF n 0)=true
.rw[if_pos h1] at he;by_cases h2:(s.rows.any fun r=>r.acct==nF n 0)=true
 .rw[if_pos h2] at he;exact absurd (Prod.mk.inj he).2 (by decide)
 rw[if_neg h2] at he;obtain rfl:=(Prod.mk.inj he).1;have hr:∀ r∈s.rows,r.acct≠nF n 0:=fun r hr=>by have:=List.any_eq_false.1 (by simpa only[Bool.not_eq_true] using h2) r hr;simpa using this
 have hp:∀ y∈zT s,y.1≠nF n 0:=fun y hy e=>by obtain⟨r,hr',e'⟩:=zUY h hy;exact hr r hr' ((congrArg Prod.fst e').trans e)
 obtain⟨p1,p2,p3⟩:=zCo.1 h1;generalize hl:s.accts.set (nF n 0 - 1).toNat ⟨(ac_ s.accts (nF n 0 - 1).toNat).name,false⟩=l;have hm:∀ a,zAC s a=true->a≠nF n 0->zAC { s with accts:=l } a=true:=fun a ha hne=>by
  obtain⟨o1,o2,o3⟩:=zCo.1 ha;refine zCo.2 ⟨o1,?_,?_⟩
  .show a<=(l.length:Int);rw[<- hl,List.length_set];exact o2
  .show(ac_ l (a - 1).toNat).opn=true;rw[<- hl,zOt qO,if_neg qO];exact o3
 have ha:=zCJ.1 h.accts;refine⟨h.nums,zCJ.2 ⟨by show l.length<=64;rw[<- hl,List.length_set];exact ha.1,?_⟩,h.insts,h.rows,fun r hr'=>?_,h.ords,fun o ho=>?_,h.aucs,fun a ha'=>?_,h.held⟩
 .have:nmA l=nmA s.accts:=by
   unfold nmA;have hlt:(nF n 0 - 1).toNat<s.accts.length:=by{omega};rw[<- hl,List.map_set]
   have e:(ac_ s.accts (nF n 0 - 1).toNat).name=(s.accts.map (·.name))[(nF n 0 - 1).toNat]'(by rw[yyp];exact hlt):=by rw[ac_,yy2,yy1 hlt,List.getElem_map];rfl
   simp only;rw[e];exact List.set_getElem_self _
  show zBo (nmA l)=true;rw[this];exact ha.2
 .have:=h.rowsIn r hr';exact⟨this.1.imp id fun g=>hm _ g (hr r hr'),this.2⟩
 .have:=zy.1 (h.ordsIn o ho);exact zy.2 ⟨this.1,hm _ this.2.1 (hp _ (part_o h ho)),this.2.2.1,this.2.2.2⟩
 .have:=zAU.1 (h.aucsIn a ha');obtain⟨q1,q2⟩:=part_a h ha';exact zAU.2 ⟨this.1,hm _ this.2.1 (hp _ q1),this.2.2.1,fun b hb=>hm _ (this.2.2.2 b hb) (hp _ (q2 b hb))⟩
.rw[if_neg h1] at he;exact absurd (Prod.mk.inj he).2 (by decide)}
theorem zJR {s:Sta}{a i p:Int}{m:Bool}(h:zAQ s a i p m=0):zAC s a=true/\zBO s i=true/\(in_ s.insts (i - 1).toNat).halted=false/\p.tmod (in_ s.insts (i - 1).toNat).tick=0/\m=false:=by{
unfold zAQ at h;by_cases h1:zAC s a=true/\zBO s i=true
.rw[if_pos h1] at h;simp only at h;by_cases h2:(in_ s.insts (i - 1).toNat).halted=true
 .rw[if_pos h2] at h;cases h
 rw[if_neg h2] at h;by_cases h3:p.tmod (in_ s.insts (i - 1).toNat).tick≠0
 .rw[if_pos h3] at h;cases h
 rw[if_neg h3] at h;by_cases h4:m=true
 .rw[if_pos h4] at h;cases h
 exact⟨h1.1,h1.2,by simpa using h2,Decidable.of_not_not h3,by simpa using h4⟩
.rw[if_neg h1] at h;cases h}
theorem zJS (a s f g:Int)(x:Pl):(dlF [⟨a,s,f,g⟩] x).2=if ((a,s):Pl)=x then g else 0:=by{
rw[zBb];by_cases h:a=x.1/\s=x.2
.rw[if_pos h,if_pos (Prod.ext h.1 h.2)];show(dlF [] x).2+g=g;show(0:Int)+g=g;omega
.rw[if_neg h,if_neg fun e=>h ⟨congrArg Prod.fst e,congrArg Prod.snd e⟩];rfl}
theorem zDY (a s n:Int)(x:Pl):zm [(a,s,n)] x=if ((a,s):Pl)=x then n else 0:=by rw[zDW,zHo];show(if ((a,s):Pl)=x then n else 0)+0=_;omega
theorem zNH {l:List Odr}{o:Odr}(h:zb l=true)(ho:zt o=true)(hlt:∀ x∈l,x.id<o.id)(hn:l.length<128):zFY l o=(l++[o],0):=by
 unfold zFY;rw[if_pos ⟨h,ho⟩];have hf:(zO l o.id).2=false:=by unfold zO;rw[if_pos h,List.find?_eq_none.2 fun x hx=>by have:=hlt x hx;simp;omega]
 rw[hf];rw[if_neg (by simp),if_neg qO,List.filter_eq_self.2 fun x hx=>yyb (hlt x hx),List.filter_eq_nil_iff.2 fun x hx=>by have:=hlt x hx;simp;omega]
theorem zOx {s t:Sta}{n:List Int}(h:Good s)(hm:zt ⟨nF n 0,nF n 1,nF n 2,nF n 3,nF n 4,nF n 5⟩=true)(he:zC4 s n=(t,0)):Good t:=by{
unfold zC4 at he;simp only at he;generalize ho:(⟨nF n 0,nF n 1,nF n 2,nF n 3,nF n 4,nF n 5⟩:Odr)=o at he hm;have hid:nF n 0=o.id:=by rw[<- ho]
have hac:nF n 1=o.acct:=by rw[<- ho]
have hin:nF n 2=o.inst:=by rw[<- ho]
have hpr:nF n 4=o.price:=by rw[<- ho]
rw[hid,hac,hin,hpr] at he;by_cases h1:o.id≠s.nextO
.rw[if_pos h1] at he;exact absurd (Prod.mk.inj he).2 (by decide)
rw[if_neg h1] at he;by_cases h2:zAQ s o.acct o.inst o.price (decide (128<=s.orders.length))≠0
.rw[if_pos h2] at he;exact absurd (Prod.mk.inj he).2 h2
rw[if_neg h2] at he;obtain⟨q1,q2,_,q4,q5⟩:=zJR (Decidable.of_not_not h2);by_cases h3:(zAX s o.acct (zV o).1 (zV o).2).2≠0
.rw[if_pos h3] at he;rw[he] at h3;exact absurd rfl h3
rw[if_neg h3] at he;obtain rfl:=(Prod.mk.inj he).1;have hm':=(zAi o).1 hm;obtain⟨e1,e2⟩:=zDq hm';obtain⟨r1,r2⟩:=zDX (s:=s) (p:=[⟨o.acct,(zV o).1,-(zV o).2,(zV o).2⟩]) (t:=(zAX s o.acct (zV o).1 (zV o).2).1) (Prod.ext rfl (Decidable.of_not_not h3));have hlt:∀ x∈s.orders,x.id<o.id:=fun x hx=>by have:=(zy.1 (h.ordsIn x hx)).1;omega
have hlen:s.orders.length<128:=by have:=zzB q5;omega
have hadd:=zNH h.ords hm hlt hlen;obtain⟨o1,o2,o3⟩:=zAK.1 h.ords;have hn:=zAL.1 h.nums;generalize (zAX s o.acct (zV o).1 (zV o).2).1=u at r1 r2 ⊢;have u1:u.accts=s.accts:=by rw[r2]
have u2:u.insts=s.insts:=by rw[r2]
have u3:u.aucs=s.aucs:=by rw[r2]
have u4:u.clock=s.clock/\u.fee=s.fee/\u.nextA=s.nextA:=by rw[r2];exact⟨rfl,rfl,rfl⟩
have eo:∀ a,zAC { u with orders:=(zFY s.orders o).1,nextO:=s.nextO+1 } a=zAC s a:=fun a=>by unfold zAC;simp only;rw[u1]
have eh:∀ a,zBO { u with orders:=(zFY s.orders o).1,nextO:=s.nextO+1 } a=zBO s a:=fun a=>by unfold zBO;simp only;rw[u2]
have hinst:(zV o).1<=s.insts.length:=by
 rw[e1];split
 .show(0:Int)<=_;omega
 .exact(zAh.1 q2).2
refine h.upd r1 ?_ u1 u2 (zAL.2 ?_) ?_ ?_ ?_ ?_ ?_
.intro q hq;rw[yyd] at hq;subst hq;exact⟨.inr q1,hinst⟩
.simp only;rw[u4.1,u4.2.1,u4.2.2];have:=hm'.1;exact⟨hn.1,hn.2.1,by omega,hn.2.2.2⟩
.simp only;rw[hadd];refine zAK.2 ⟨by rw[yy4,yyo];omega,fun x hx=>?_,?_⟩
 .rcases List.mem_append.1 hx with e|e
  .exact o2 x e
  .rw[yyd] at e;subst e;exact hm'
 .rw[List.pairwise_append];exact⟨o3,by simp,fun a ha b hb=>by rw[yyd] at hb;subst hb;exact hlt a ha⟩
.intro x hx;simp only at hx;rw[hadd] at hx;refine zy.2 ?_;rw[eo,eh];simp only;rw[u2];rcases List.mem_append.1 hx with e|e
 .have:=zy.1 (h.ordsIn x e);exact⟨by omega,this.2⟩
 .rw[yyd] at e;subst e;exact⟨by omega,q1,q2,q4⟩
.simp only;rw[u3];exact h.aucs
.intro a ha;simp only at ha;rw[u3] at ha;have:=zAU.1 (h.aucsIn a ha);refine zAU.2 ?_;simp only[eo,eh];rw[u4.2.2];exact this
.intro x _;unfold zT;simp only;rw[u3,hadd,yy9,yya,zFd hm',zd,zd,zd,zDY,zJS];omega}
def zDr (o:Odr):Int:=if o.side=1 then o.price else 1
theorem zF3 {o:Odr}(h:zAV o):(zV o).2=zDr o*o.left:=by{
rw[(zDq h).1];unfold zDr;split
.rfl
.show o.left=1*o.left;omega}
def zBr (o:Odr)(q:Int):Odr:={ o with left:=o.left - q }
theorem zNI {o:Odr}(h:zAV o){q:Int}(h1:1<=q)(h2:q<o.left):zAV (zBr o q):=by obtain⟨a,b,c,d,e,f⟩:=h;exact⟨a,b,c,d,e,by show 1<=o.left - q/\o.left - q<=1048576;omega⟩
theorem zRo {o:Odr}(h:zAV o){q:Int}(h1:1<=q)(h2:q<o.left):(zV (zBr o q)).1=(zV o).1/\(zV (zBr o q)).2=(zV o).2 - zDr o*q:=by{
have h':=zNI h h1 h2;constructor
.rw[(zDq h').1,(zDq h).1];show(if o.side=1 then((0:Int),o.price*(o.left - q)) else(o.inst,o.left - q)).1=_;split<;>rfl
.rw[zF3 h',zF3 h];show zDr o*(o.left - q)=_;rw[Int.mul_sub]}
theorem zNJ {l:List Odr}(h:l.Pairwise fun a b=>a.id<b.id){o:Odr}(ho:o∈l):∃ a b,l=a++o::b/\(∀ x∈a,x.id≠o.id)/\∀ x∈b,x.id≠o.id:=by{
obtain⟨a,b,rfl⟩:=List.append_of_mem ho;rw[List.pairwise_append,List.pairwise_cons] at h;refine⟨a,b,rfl,fun x hx=>?_,fun x hx=>?_⟩
.have:=h.2.2 x hx o (zz2 _);omega
.have:=h.2.1.1 x hx;omega}
theorem zJT {a b:List Odr}{o:Odr}{q:Int}(ha:∀ x∈a,x.id≠o.id)(hb:∀ x∈b,x.id≠o.id)(hpa:∀ x∈a,x.left≠0)(hpb:∀ x∈b,x.left≠0) :
  zBi (a++o::b) o.id q=a++((if o.left - q=0 then[] else[zBr o q])++b):=by{
have key:∀ l:List Odr,(∀ x∈l,x.id≠o.id)->(∀ x∈l,x.left≠0)->(l.map fun z=>if z.id=o.id then{ z with left:=z.left - q } else z).filter (fun z=>decide (z.left≠0))=l:=by
 intro l h1 h2;have:(l.map fun z=>if z.id=o.id then{ z with left:=z.left - q } else z)=l:=by
  conv=>rhs;rw[<- List.map_id l]
  exact List.map_congr_left fun z hz=>by rw[if_neg (h1 z hz)];rfl
 rw[this];exact List.filter_eq_self.2 fun z hz=>yyb (h2 z hz)
unfold zBi;rw[List.map_append,List.filter_append,key a ha hpa,List.map_cons,List.filter_cons,key b hb hpb,if_pos rfl]
congr 1
by_cases h0:o.left - q=0
.rw[if_pos h0,if_neg (by simp[h0])];rfl
.rw[if_neg h0,if_pos (by simp;exact h0)];rfl}
structure TakeFx (l m:List Odr)(o:Odr)(q:Int):Prop where
 ok:zb m=true
 mem:∀ x∈m,x∈l/\x.id≠o.id\/x=zBr o q/\q<o.left
 keep:∀ x∈l,x.id≠o.id->x∈m
 held:∀ x,zm (m.flatMap zAJ) x=zm (l.flatMap zAJ) x - (if ((o.acct,(zV o).1):Pl)=x then zDr o*q else 0)
theorem zG9 {l:List Odr}(h:zb l=true){o:Odr}(ho:o∈l){q:Int}(h1:1<=q)(h2:q<=o.left):TakeFx l (zBi l o.id q) o q:=by{
obtain⟨l1,l2,l3⟩:=zAK.1 h;obtain⟨a,b,rfl,ha,hb⟩:=zNJ l3 ho;have hm:=l2 o ho;have hp:∀ x∈a++o::b,x.left≠0:=fun x hx=>by have:=(l2 x hx).2.2.2.2.2;omega
rw[zJT ha hb (fun x hx=>hp x (List.mem_append_left _ hx)) (fun x hx=>hp x (List.mem_append_right _ (List.Mem.tail _ hx)))];rw[List.pairwise_append,List.pairwise_cons] at l3;by_cases h0:o.left - q=0
.rw[if_pos h0,List.nil_append];refine⟨zAK.2 ⟨?_,fun x hx=>?_,?_⟩,fun x hx=>.inl ?_,fun x hx hne=>?_,fun x=>?_⟩
 .simp only[yy4,List.length_cons] at l1 ⊢;omega
 .rcases List.mem_append.1 hx with e|e
  .exact l2 x (zz6 _ e)
  .exact l2 x (zz3 _ (zz5 _ e))
 .rw[List.pairwise_append];exact⟨l3.1,l3.2.1.2,fun x hx y hy=>l3.2.2 x hx y (zz5 _ hy)⟩
 .rcases List.mem_append.1 hx with e|e
  .exact⟨zz6 _ e,ha x e⟩
  .exact⟨zz3 _ (zz5 _ e),hb x e⟩
 .rcases List.mem_append.1 hx with e|e
  .exact zz6 _ e
  .rcases List.mem_cons.1 e with e|e
   .subst e;exact absurd rfl hne
   .exact zz3 _ e
 .rw[yy9,yy9,List.flatMap_cons,zd,zd,zd,zFd hm,zDY,zF3 hm,show q=o.left by omega];split<;>omega
.rw[if_neg h0];have hlt:q<o.left:=by omega
 have hm':=zNI hm h1 hlt;refine⟨zAK.2 ⟨?_,fun x hx=>?_,?_⟩,fun x hx=>?_,fun x hx hne=>?_,fun x=>?_⟩
 .simp only[yy4,List.length_cons,List.length_nil] at l1 ⊢;omega
 .rcases List.mem_append.1 hx with e|e
  .exact l2 x (zz6 _ e)
  .rcases List.mem_append.1 e with e|e
   .rw[yyd] at e;subst e;exact hm'
   .exact l2 x (zz3 _ (zz5 _ e))
 .rw[List.singleton_append,List.pairwise_append,List.pairwise_cons];refine⟨l3.1,⟨fun y hy=>l3.2.1.1 y hy,l3.2.1.2⟩,fun x hx y hy=>?_⟩;rcases List.mem_cons.1 hy with e|e
  .subst e;exact l3.2.2 x hx o (zz2 _)
  .exact l3.2.2 x hx y (zz5 _ e)
 .rcases List.mem_append.1 hx with e|e
  .exact .inl ⟨zz6 _ e,ha x e⟩
  .rcases List.mem_append.1 e with e|e
   .rw[yyd] at e;exact .inr ⟨e,hlt⟩
   .exact .inl ⟨zz3 _ (zz5 _ e),hb x e⟩
 .rcases List.mem_append.1 hx with e|e
  .exact zz6 _ e
  .rcases List.mem_cons.1 e with e|e
   .subst e;exact absurd rfl hne
   .exact zz3 _ (zz3 _ e)
 .obtain⟨g1,g2⟩:=zRo hm h1 hlt;rw[yy9,zd,yy9,zd,yya,yy9,zd,List.flatMap_cons,zd,zFd hm,zFd hm',zDY,zDY,g1,g2];show _+((if ((o.acct,(zV o).1):Pl)=x then(zV o).2 - zDr o*q else 0)+_)=_;split<;>omega}
theorem zC5 {l:List Odr}{id:Int}(h:(zO l id).2=true):zb l=true/\(zO l id).1∈l/\(zO l id).1.id=id:=by{
unfold zO at h ⊢;by_cases h1:zb l=true
.rw[if_pos h1] at h ⊢;cases hf:l.find? (fun o=>o.id==id) with
 | none=>rw[hf] at h;cases h
 | some o =>
   have:=List.find?_some hf;exact⟨h1,List.mem_of_find?_eq_some hf,by simpa using this⟩
.rw[if_neg h1] at h;cases h}
theorem zBc {l:List Odr}(h:zb l=true){o:Odr}(ho:o∈l):zO l o.id=(o,true):=by{
unfold zO;rw[if_pos h];obtain⟨_,_,l3⟩:=zAK.1 h;cases hf:l.find? (fun x=>x.id==o.id) with
| none=>have:=List.find?_eq_none.1 hf o ho;simp at this
| some x =>
  have h1:=List.find?_some hf;have h2:=List.mem_of_find?_eq_some hf;obtain⟨a,b,rfl,ha,hb⟩:=zNJ l3 ho;have:x=o:=by
   rcases List.mem_append.1 h2 with e|e
   .exact absurd (by simpa using h1) (ha x e)
   .rcases List.mem_cons.1 e with e|e
    .exact e
    .exact absurd (by simpa using h1) (hb x e)
  rw[this]}
theorem zEH {l:List Odr}(h:zb l=true){o:Odr}(ho:o∈l){q:Int}(h1:1<=q)(h2:q<=o.left):zA1 l o.id q=(zBi l o.id q,0):=by unfold zA1;rw[if_pos h,zBc h ho,if_pos rfl,if_neg (by simp only;omega)]
theorem zHA {s u:Sta}{m:List Odr}(h:Good s)(e1:u.accts=s.accts)(e2:u.insts=s.insts)(e3:u.nextO=s.nextO)(hm:∀ x∈m,∃ y∈s.orders,x.id=y.id/\x.acct=y.acct/\x.inst=y.inst/\x.price=y.price):∀ x∈m,zCl u x=true:=by intro x hx;obtain⟨y,hy,a1,a2,a3,a4⟩:=hm x hx;have:=zy.1 (h.ordsIn y hy);refine zy.2 ?_;unfold zAC zBO at *;rw[e1,e2,e3,a1,a2,a3,a4];exact this
theorem zLy {s u:Sta}(h:Good s)(e1:u.accts=s.accts)(e2:u.insts=s.insts)(e3:u.nextA=s.nextA):∀ a∈s.aucs,zCW u a=false:=by intro a ha;have:=zAU.1 (h.aucsIn a ha);refine zAU.2 ?_;unfold zAC zBO at *;rw[e1,e2,e3];exact this
theorem zKD {s t:Sta}{n:List Int}(h:Good s)(he:zBW s n=(t,0)):Good t:=by{
unfold zBW at he;simp only at he;by_cases h1:(zO s.orders (nF n 0)).2=true
.rw[if_pos h1] at he;obtain⟨_,f1,f2⟩:=zC5 h1;generalize (zO s.orders (nF n 0)).1=o at he f1 f2;have hm:=(zAK.1 h.ords).2.1 o f1;have hl:=hm.2.2.2.2.2;have hd:(zDP s.orders o.id).1=zBi s.orders o.id o.left:=by unfold zDP;rw[zBc h.ords f1,zEH h.ords f1 hl.1 (Int.le_refl _)]
 rw[hd] at he;have fx:=zG9 h.ords f1 hl.1 (Int.le_refl o.left);obtain⟨r1,r2⟩:=zDX he;have ho:=zy.1 (h.ordsIn o f1);have hinst:(zV o).1<=s.insts.length:=by
  rw[(zDq hm).1];split
  .show(0:Int)<=_;omega
  .exact(zAh.1 ho.2.2.1).2
 have u1:t.accts=s.accts:=by rw[r2]
 have u2:t.insts=s.insts:=by rw[r2]
 have u3:t.aucs=s.aucs:=by rw[r2]
 have u4:t.orders=zBi s.orders o.id o.left:=by rw[r2]
 have u5:t.nextO=s.nextO:=by rw[r2]
 have u6:t.nextA=s.nextA:=by rw[r2]
 have u7:t.clock=s.clock:=by rw[r2]
 have u8:t.fee=s.fee:=by rw[r2]
 refine h.upd r1 ?_ u1 u2 (zAL.2 (by rw[u5,u6,u7,u8];exact zAL.1 h.nums)) (by rw[u4];exact fx.ok) ?_ (by rw[u3];exact h.aucs) (by rw[u3];exact zLy h u1 u2 u6) ?_
 .intro q hq;rw[yyd] at hq;subst hq;exact⟨.inr ho.2.1,hinst⟩
 .rw[u4];refine zHA h u1 u2 u5 fun x hx=>?_;rcases fx.mem x hx with e|e
  .exact⟨x,e.1,rfl,rfl,rfl,rfl⟩
  .exact absurd e.2 (Int.lt_irrefl _)
 .intro x _;unfold zT;rw[u3,u4,zd,zd,fx.held x,zJS,zF3 hm];split<;>omega
.rw[if_neg h1] at he;exact absurd (Prod.mk.inj he).2 (by decide)}
theorem zBs {o u:Odr}(h:zw o u=true):zAV o/\zAV u/\o.inst=u.inst/\o.side≠u.side/\(if o.side=1 then u.price<=o.price else o.price<=u.price):=by{
unfold zw at h;simp only[yy3,zAi,beq_iff_eq,bne_iff_ne] at h;refine⟨h.1.1.1.1,h.1.1.1.2,h.1.1.2,h.1.2,?_⟩;have:=h.2;split
.rename_i e;rw[if_pos e] at this;simpa using this
.rename_i e;rw[if_neg e] at this;simpa using this}
theorem zJU {b l:Odr}(hb:zAV b)(hl:zAV l)(sb:b.side=1)(sl:l.side=2)(inst p q f:Int)(hi:l.inst=inst)(x:Pl) :
  (dlF (zBX b l inst p q f) x).2=-(if ((b.acct,(zV b).1):Pl)=x then zDr b*q else 0) - (if ((l.acct,(zV l).1):Pl)=x then zDr l*q else 0):=by{
have e1:(zV b).1=0:=by rw[(zDq hb).1,if_pos sb]
have e2:(zV l).1=inst:=by rw[(zDq hl).1,if_neg qO];exact hi
have e3:zDr b=b.price:=by unfold zDr;rw[if_pos sb]
have e4:zDr l=1:=by unfold zDr;rw[if_neg qO]
have step:∀ (a s f g:Int) (p:List Pst),(dlF (⟨a,s,f,g⟩::p) x).2=(dlF p x).2+if ((a,s):Pl)=x then g else 0:=by
 intro a s f g p;rw[zBb];by_cases h:a=x.1/\s=x.2
 .rw[if_pos h,if_pos (Prod.ext h.1 h.2)]
 .rw[if_neg h,if_neg fun e=>h ⟨congrArg Prod.fst e,congrArg Prod.snd e⟩];omega
unfold zBX;rw[step,step,step,step,step,e1,e2,e3,e4,Int.neg_mul];show((((0+_)+_)+_)+_)+_=_;have z:∀ c:Prop,[Decidable c]->(if c then(0:Int) else 0)=0:=fun c _=>by split<;>rfl
rw[z,z,z];split<;>split<;>omega}
theorem zOy {s t:Sta}{n:List Int}(h:Good s)(he:zDn s n=(t,0)):Good t:=by{
unfold zDn at he;simp only at he;by_cases h1:(zO s.orders (nF n 0)).2=true/\(zO s.orders (nF n 1)).2=true
.rw[if_pos h1] at he;obtain⟨_,f1,f2⟩:=zC5 h1.1;obtain⟨_,g1,g2⟩:=zC5 h1.2;generalize (zO s.orders (nF n 0)).1=o at he f1 f2;generalize (zO s.orders (nF n 1)).1=u at he g1 g2;by_cases h2:zDR s n o u=true
 .rw[if_pos h2] at he;unfold zDR at h2;simp only[yy3,beq_iff_eq] at h2;obtain⟨⟨⟨⟨⟨_,_⟩,hc⟩,hp⟩,hq⟩,hf⟩:=h2;obtain⟨mo,mu,hin,hsd,hpr⟩:=zBs hc;by_cases h3:o.acct=u.acct
  .rw[if_pos h3] at he;exact absurd (Prod.mk.inj he).2 (by decide)
  rw[if_neg h3] at he;generalize nF n 2=price at *;generalize nF n 3=qty at *;generalize nF n 4=fee at *;generalize hP:(if o.side=2 then zBX u o o.inst price qty fee else zBX o u o.inst price qty fee)=P at he;by_cases h4:(zf s P).2≠0
  .rw[if_pos h4] at he;rw[he] at h4;exact absurd rfl h4
  rw[if_neg h4] at he;obtain rfl:=(Prod.mk.inj he).1;obtain⟨r1,r2⟩:=zDX (s:=s) (p:=P) (t:=(zf s P).1) (Prod.ext rfl (Decidable.of_not_not h4));generalize (zf s P).1=w at r1 r2 ⊢;have lo:=mo.2.2.2.2.2;have lu:=mu.2.2.2.2.2;have q1:1<=qty:=by{omega};have q2:qty<=o.left:=by omega
  have q3:qty<=u.left:=by{omega};have fx:=zG9 h.ords f1 q1 q2
  have hne:u.id≠o.id:=fun e=>by have:=zBc h.ords f1;rw[<- e,zBc h.ords g1] at this;have:=(Prod.mk.inj this).1;rw[this] at hsd;exact hsd rfl
  have gx:=zG9 fx.ok (fx.keep u g1 hne) q1 q3;have e1:(zA1 (zA1 s.orders o.id qty).1 u.id qty).1=zBi (zBi s.orders o.id qty) u.id qty:=by{rw[zEH h.ords f1 q1 q2,zEH fx.ok (fx.keep u g1 hne) q1 q3]};rw[e1]
  have ho:=zy.1 (h.ordsIn o f1);have hu:=zy.1 (h.ordsIn u g1);have u1:w.accts=s.accts:=by{rw[r2]};have u2:w.insts=s.insts:=by rw[r2]
  have u3:w.aucs=s.aucs:=by{rw[r2]};have u5:w.nextO=s.nextO:=by rw[r2]
  have u6:w.nextA=s.nextA:=by{rw[r2]};have u7:w.clock=s.clock:=by rw[r2]
  have u8:w.fee=s.fee:=by{rw[r2]};have hs1:=mo.2.2.2.1
  have hs2:=mu.2.2.2.1;have hdl:∀ x,(dlF P x).2=-(if ((o.acct,(zV o).1):Pl)=x then zDr o*qty else 0) - (if ((u.acct,(zV u).1):Pl)=x then zDr u*qty else 0):=fun x=>by
   rw[<- hP];by_cases h5:o.side=2
   .rw[if_pos h5,zJU mu mo qO h5 _ _ _ _ rfl];omega
   .rw[if_neg h5,zJU mo mu qO qO _ _ _ _ hin.symm]
  have hinP:InP s P:=by
   have hi:=zAh.1 ho.2.2.1;rw[<- hP];intro q hq;have z:(0:Int)<=s.insts.length:=by{omega};split at hq <;>
   .unfold zBX at hq;simp only[List.mem_cons,List.not_mem_nil,or_false] at hq;rcases hq with rfl|rfl|rfl|rfl|rfl
    .exact⟨.inr (by first|exact hu.2.1|exact ho.2.1),z⟩
    .exact⟨.inr (by first|exact ho.2.1|exact hu.2.1),z⟩
    .exact⟨.inl (Int.le_refl _),z⟩
    .exact⟨.inr (by first|exact ho.2.1|exact hu.2.1),hi.2⟩
    .exact⟨.inr (by first|exact hu.2.1|exact ho.2.1),hi.2⟩
  refine h.upd (t:={ w with orders:=zBi (zBi s.orders o.id qty) u.id qty }) r1 hinP u1 u2 (zAL.2 (by simp only;rw[u5,u6,u7,u8];exact zAL.1 h.nums)) gx.ok ?_ (by simp only;rw[u3];exact h.aucs) (by simp only;rw[u3];exact zLy h u1 u2 u6) ?_
  .refine zHA (s:=s) h u1 u2 u5 fun x hx=>?_;have back:∀ y,y∈zBi s.orders o.id qty->∃ z∈s.orders,y.id=z.id/\y.acct=z.acct/\y.inst=z.inst/\y.price=z.price:=fun y hy=>by
    rcases fx.mem y hy with e|e
    .exact⟨y,e.1,rfl,rfl,rfl,rfl⟩
    .rw[e.1];exact⟨o,f1,rfl,rfl,rfl,rfl⟩
   rcases gx.mem x hx with e|e
   .exact back x e.1
   .rw[e.1];exact⟨u,g1,rfl,rfl,rfl,rfl⟩
  .intro x _;unfold zT;simp only;rw[u3,zd,zd,gx.held x,fx.held x,hdl x];omega
 .rw[if_neg h2] at he;exact absurd (Prod.mk.inj he).2 (by decide)
.rw[if_neg h1] at he;exact absurd (Prod.mk.inj he).2 (by decide)}
end Go.Proofs.YtejhijhnlogikaaGreatDoor
