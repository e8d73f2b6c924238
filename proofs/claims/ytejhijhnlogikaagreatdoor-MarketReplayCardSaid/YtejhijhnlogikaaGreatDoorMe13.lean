/- Steps of the proof. -/
import Derived.Test.YtejhijhnlogikaaGreatDoorMe12
set_option linter.all false
set_option maxHeartbeats 16000000
namespace Go.Proofs.YtejhijhnlogikaaGreatDoor
open Go Go.Sk Go.RowKit
attribute [local irreducible] Go.Calls
theorem zEr {l:List Bid}{y:Bid}{i:Nat}(h:i<l.length):(l++[y]).getD i default=l.getD i default:=by simp[List.getD,yyl h]
theorem zRh {l:List Bid}{y:Bid}:(l++[y]).getD l.length default=y:=by simp[List.getD]
theorem zC8 {x:Auc}(h:zAS x=true):zp x.id 1099511627776=true/\zp x.seller 64=true/\zp x.inst 16=true/\zp x.qty 1048576=true/\zp x.reserve 1125899906842624=true/\zp x.fin 1099511627776=true/\zAb x=true/\zCT x=true:=by simp only[zAS,yy3] at h;exact⟨h.1.1.1.1.1.1.1,h.1.1.1.1.1.1.2,h.1.1.1.1.1.2,h.1.1.1.1.2,h.1.1.1.2,h.1.1.2,h.1.2,h.2⟩
theorem zHm {x:Auc}(h:∀ j,j<x.bids.length->zBf x j=false):zCT x=true:=by unfold zCT;rw[zA8 h];rfl
theorem take_zero {x:Auc}{y:Bid}(h:(zN x y).2≠0):(zN x y).1=Auc.zero:=by
 unfold zN at h ⊢;repeat' split
 all_goals first|rfl|(exfalso;simp_all;done)
structure Taken (x:Auc)(y:Bid)(c:Auc):Prop where
 may:zAS x=true
 acct:zp y.acct 64=true
 amount:zp y.amount 1125899906842624=true
 other:y.acct≠x.seller
 put:c=x.put (zHh x y).1
 ok:(zHh x y).2=0
theorem taken {x:Auc}{y:Bid}{c:Auc}(h:zN x y=(c,0)):Taken x y c:=by{
unfold zN at h;split at h
.simp at h
rename_i h1;split at h
.simp at h
rename_i h2;split at h
.simp at h
rename_i h3;split at h
.rename_i h4;simp at h;simp[h.2] at h4
rename_i h4;simp only[Bool.not_eq_false,yy3] at h1 h2;simp only[Prod.mk.injEq,and_true] at h;exact⟨h1,h2.1,h2.2,by simpa using h3,h.symm,by simpa using h4⟩}
theorem zG5 {x c:Auc}{y:Bid}(t:Taken x y c)(he:x.sealed=true):c=x.put (x.bids++[y])/\x.bids.length<16/\∀ j,j<x.bids.length->(x.bids.getD j default).acct≠y.acct:=by{
have h:=t.ok;have hp:=t.put;simp only[zHh,he,if_true,zCh] at h hp;split at h
.simp at h
rename_i h1;split at h
.simp at h
rename_i h2;rw[if_neg h1,if_neg h2] at hp;refine⟨hp,by omega,fun j hj e=>?_⟩;rcases zX (fun i=>(x.bids.getD i default).acct==y.acct) x.bids.length with ⟨k,_,_,_,h4⟩|⟨hn,_⟩
.rw[h4] at h1;omega
.have:=hn j hj;rw[e,beq_self_eq_true] at this;cases this}
theorem zKe {x c:Auc}{y:Bid}(t:Taken x y c)(he:x.sealed=false):c=x.put [y]/\y.amount >= zEi x:=by{
have h:=t.ok;have hp:=t.put;simp only[zHh,he,Bool.false_eq_true,if_false,zDN] at h hp;split at h
.simp at h
rename_i h1;rw[if_neg h1] at hp;exact⟨hp,by omega⟩}
theorem zRi {x:Auc}(h:zAS x=true)(he:x.sealed=false):x.reserve<=zEi x:=by{
unfold zEi;split
.exact Int.le_refl _
.rename_i h0;have hpos:0<x.bids.length:=by simp at h0;exact List.length_pos_iff.2 h0
 have hb:=zKc h 0 hpos;have hst:=zQA h he;have:=(zF1 h he).2;have:(x.bids.getD 0 default).amount >= x.reserve:=by omega
 simp only[zOX,zCH];rw[if_neg qO];simp only;omega}
theorem zEs {x:Auc}{j:Nat}:zBf x j=false↔zp (x.bids.getD j default).acct 64=true/\(x.bids.getD j default).acct≠x.seller/\zp (x.bids.getD j default).amount 1125899906842624=true/\∀ i,i<j->(x.bids.getD i default).acct≠(x.bids.getD j default).acct:=by{
unfold zBf;simp only[Bool.or_eq_false_iff,Bool.not_eq_false',yyy,yyq,ne_eq,and_assoc];refine⟨fun⟨h1,h2,h3,h4⟩=>⟨h1,h2,h3,fun i hi e=>?_⟩,fun⟨h1,h2,h3,h4⟩=>⟨h1,h2,h3,fun hc=>?_⟩⟩
.rcases zX (fun i=>(x.bids.getD i default).acct==(x.bids.getD j default).acct) j with ⟨k,_,_,_,h5⟩|⟨hn,_⟩
 .rw[h5] at h4;omega
 .have:=hn i hi;rw[e,beq_self_eq_true] at this;cases this
.rcases zX (fun i=>(x.bids.getD i default).acct==(x.bids.getD j default).acct) j with ⟨k,hk,_,h6,h5⟩|⟨_,h5⟩
 .exact h4 k hk (by simpa using h6)
 .rw[h5] at hc;omega}
theorem zM3 {x:Auc}(h:zAS x=true){j:Nat}(hj:j<x.bids.length):zBf x j=false:=zP9 (zC8 h).2.2.2.2.2.2.2 j hj
theorem zRj {x c:Auc}{y:Bid}(t:Taken x y c):zAS c=true:=by{
obtain⟨h1,h2,h3,h4,h5,h6,h7,h8⟩:=zC8 t.may;rcases Bool.eq_false_or_eq_true x.sealed with he|he
.obtain⟨rfl,hl,hn⟩:=zG5 t he;have hm:zAb (x.put (x.bids++[y]))=true:=by simp only[zAb,Auc.put,he,if_true,zGs,yy3] at h7 ⊢;refine⟨h7.1,?_⟩;rw[yy4,yyo];exact yyb qO
 have hb:zCT (x.put (x.bids++[y]))=true:=by
  refine zHm fun j hj=>?_;simp only[Auc.put,yy4,yyo] at hj;rw[zEs];simp only[Auc.put];by_cases hjn:j=x.bids.length
  .subst hjn;rw[zRh];exact⟨t.acct,t.other,t.amount,fun i hi=>by rw[zEr hi];exact hn i hi⟩
  .have hj:j<x.bids.length:=by{omega};have:=zEs.1 (zM3 t.may hj)
   rw[zEr hj];exact⟨this.1,this.2.1,this.2.2.1,fun i hi=>by rw[zEr qO];exact this.2.2.2 i hi⟩
 simp only[zAS,yy3];exact⟨⟨⟨⟨⟨⟨⟨h1,h2⟩,h3⟩,h4⟩,h5⟩,h6⟩,hm⟩,hb⟩
.obtain⟨rfl,hl⟩:=zKe t he;have hge:=zRi t.may he;have hm:zAb (x.put [y])=true:=by simp only[zAb,Auc.put,he,Bool.false_eq_true,if_false,zFS,yy3] at h7 ⊢;refine⟨h7.1,rfl,?_⟩;rw[Bool.or_eq_true];exact .inr (yyb (by show y.amount >= x.reserve;omega))
 have hb:zCT (x.put [y])=true:=by
  refine zHm fun j hj=>?_;obtain rfl:j=0:=by simp only[Auc.put,yyo] at hj;omega
  rw[zEs];exact⟨t.acct,t.other,t.amount,fun i hi=>by omega⟩
 simp only[zAS,yy3];exact⟨⟨⟨⟨⟨⟨⟨h1,h2⟩,h3⟩,h4⟩,h5⟩,h6⟩,hm⟩,hb⟩}
structure MayP (x:Auc):Prop where
 id:zp x.id 1099511627776=true
 seller:zp x.seller 64=true
 inst:zp x.inst 16=true
 qty:zp x.qty 1048576=true
 reserve:zp x.reserve 1125899906842624=true
 fin:zp x.fin 1099511627776=true
 step0:x.sealed=true->x.step=0
 step1:x.sealed=false->zp x.step 1125899906842624=true
 len16:x.bids.length<=16
 len1:x.sealed=false->x.bids.length<=1
 high:x.sealed=false->∀ j,j<x.bids.length->x.reserve<=(x.bids.getD j default).amount
 ok:∀ j,j<x.bids.length->zBf x j=false
theorem mayP {x:Auc}:zAS x=true↔MayP x:=by{
constructor
.intro h;obtain⟨h1,h2,h3,h4,h5,h6,h7,h8⟩:=zC8 h;refine⟨h1,h2,h3,h4,h5,h6,fun he=>?_,fun he=>?_,?_,fun he=>?_,fun he j hj=>?_,fun j hj=>zM3 h hj⟩
 .simp only[zAb,he,if_true,zGs,yy3,beq_iff_eq] at h7;exact h7.1
 .simp only[zAb,he,Bool.false_eq_true,if_false,zFS,yy3] at h7;exact h7.1
 .rcases Bool.eq_false_or_eq_true x.sealed with he|he
  .simp only[zAb,he,if_true,zGs,yy3,decide_eq_true_eq] at h7;omega
  .simp only[zAb,he,Bool.false_eq_true,if_false,zFS,yy3,decide_eq_true_eq] at h7;omega
 .exact(zF1 h he).1
 .obtain⟨g1,g2⟩:=zF1 h he;obtain rfl:j=0:=by{omega};rcases g2 with g2|g2
  .omega
  .exact g2
.intro h;have h8:zCT x=true:=zHm h.ok;have h7:zAb x=true:=by
  have hl:=h.len16;rcases Bool.eq_false_or_eq_true x.sealed with he|he
  .simp only[zAb,he,if_true,zGs,yy3,beq_iff_eq,decide_eq_true_eq];exact⟨h.step0 he,by omega⟩
  .have g:=h.len1 he;simp only[zAb,he,Bool.false_eq_true,if_false,zFS,yy3,decide_eq_true_eq,Bool.or_eq_true,beq_iff_eq];refine⟨h.step1 he,by omega,?_⟩;rcases yyn x.bids.length with h0|h0
   .left;omega
   .right;exact h.high he 0 h0
 simp only[zAS,h.id,h.seller,h.inst,h.qty,h.reserve,h.fin,h7,h8,Bool.and_self]}
def zLt (l:List Row4)(a q:Int):Row4:=(l.find? fun r=>r.acct==a&&r.asset==q).getD ⟨a,q,0,0⟩
theorem zWv {l:List Row4}{p:Row4->Bool}{k:Nat}(hk:k<l.length)(hno:∀ j,j<k->p (rw_ l j)=false)(hy:p (rw_ l k)=true):l.find? p=some (rw_ l k):=by{
induction l generalizing k with
| nil=>exact absurd hk (zzE k)
| cons x xs ih =>
  rcases k with _|k
  .have:p x=true:=hy;rw[List.find?_cons_of_pos this];rfl
  .have h0:p x=false:=hno 0 qO;rw[List.find?_cons_of_neg (by rw[h0];simp)];exact ih (by simpa using hk) (fun j hj=>hno (j+1) qO) hy}
theorem zRk {l:List Row4}{p:Row4->Bool}(hno:∀ j,j<l.length->p (rw_ l j)=false):l.find? p=none:=by rw[List.find?_eq_none];intro x hx;obtain⟨j,hj,rfl⟩:=List.mem_iff_getElem.1 hx;have:=hno j hj;unfold rw_ at this;rw[yy2,yy1 hj] at this;simpa using this
def zG6 (l:List Odr)(a q:Int):Nat->Int
 | 0=>0
 | k+1=>if (od_ l k).acct=a/\(zV (od_ l k)).1=q then IntKind.i64.wrap (zG6 l a q k+(zV (od_ l k)).2) else zG6 l a q k
def zG7 (l:List Bid)(a q z:Int):Nat->Int
 | 0=>z
 | k+1=>if (l.getD k default).acct=a/\q=0 then IntKind.i64.wrap (zG7 l a q z k+(l.getD k default).amount) else zG7 l a q z k
def zJM (l:List Auc)(a q z:Int):Nat->Int
 | 0=>z
 | k+1=>if zAS (l.getD k default)=true then zG7 (l.getD k default).bids a q (if (l.getD k default).seller=a/\(l.getD k default).inst=q then IntKind.i64.wrap (zJM l a q z k+(l.getD k default).qty) else zJM l a q z k) (l.getD k default).bids.length else zJM l a q z k
def zM4 (s:Sta)(a q:Int):Int:=zJM s.aucs a q (zG6 s.orders a q s.orders.length) s.aucs.length
def zQI (s:Sta)(a q:Nat):Bool:=(zLt s.rows (a:Int) (q:Int)).held==zM4 s (a:Int) (q:Int)
def zUQ (s:Sta):Bool:=(List.range 65).all fun a=>(List.range 17).all fun q=>zQI s a q
theorem zKf {s:Sta}:zUQ s=true↔∀ a,a<65->∀ q,q<17->zQI s a q=true:=by unfold zUQ;simp only[yye,yy8]
def cnt (l:List Auc):Nat->Int
 | 0=>0
 | k+1=>cnt l k+1+(if (1001:Int)<((l.getD k default).bids.length:Int) then 1001 else((l.getD k default).bids.length:Int))
structure Ow where
 k:Nat
 a:OA
 cap:Nat
 ad:Nat->OA × Nat
 mo:zA
 mb:zA
theorem zDV {s:Sta}:zDM s=true↔zAF s.aucs=true/\∀ k,k<s.aucs.length->zCW s (s.aucs.getD k default)=false:=by{
unfold zDM;rw[yy3];refine and_congr Iff.rfl ?_;rcases zX (fun j=>zCW s (s.aucs.getD j default)) s.aucs.length with ⟨k,hk,_,hb,hx⟩|⟨ha,hx⟩
.rw[hx,yyb qO];constructor
 .intro h;cases h
 .intro h;have:=h k hk;rw[this] at hb;cases hb
.rw[hx,yyc qO];exact⟨fun _=>ha,fun _=>rfl⟩}
theorem zEt {s:Sta}(h:zCP s=true)(k:Nat)(hk:k<7):stOk s k=true:=by unfold zCP at h;exact List.all_eq_true.1 h k (List.mem_range.2 hk)
theorem zRl {l:List Auc}(h:zAF l=true):l.length<=32/\∀ k,k<l.length->(l.getD k default).bids.length<=16:=by{
unfold zAF at h;simp only[yy3,decide_eq_true_eq] at h;refine⟨by omega,fun k hk=>?_⟩;have hm:zAS (l.getD k default)=true:=by
 rcases zX (zBn l) l.length with ⟨j,h1,h2,h3,h4⟩|⟨h1,h2⟩
 .omega
 .have:=h1 k hk;unfold zBn at this;simp only[Bool.or_eq_false_iff,Bool.not_eq_false'] at this;exact this.2
have a7:=(zC8 hm).2.2.2.2.2.2.1;unfold zAb at a7;split at a7
.unfold zGs at a7;simp only[yy3,decide_eq_true_eq] at a7;omega
.unfold zFS at a7;simp only[yy3,decide_eq_true_eq] at a7;omega}
end Go.Proofs.YtejhijhnlogikaaGreatDoor
