/- Texts of ours, joined: the steps of the proof, or the claim's theorem. -/
import Derived.Test.YtejhijhnlogikaaGreatDoorMc12
set_option linter.all false
set_option maxHeartbeats 16000000
namespace Go.Proofs.YtejhijhnlogikaaGreatDoor
section
open Go Go.Sk Go.RowKit
theorem zEQ {l:List Bid}{y:Bid}{i:Nat}(h:i<l.length):(l++[y]).getD i default=l.getD i default:=by
 simp[List.getD,List.getElem?_append_left h]
theorem zPn {l:List Bid}{y:Bid}:(l++[y]).getD l.length default=y:=by simp[List.getD]
theorem zCt {x:Auc}(h:zAU x=true):zu x.id 1099511627776=true∧zu x.seller 64=true∧zu x.inst 16=true∧zu x.qty 1048576=true∧zu x.reserve 1125899906842624=true∧zu x.fin 1099511627776=true∧zAb x=true∧zCF x=true:=by
 simp only[zAU,Bool.and_eq_true] at h
 exact⟨h.1.1.1.1.1.1.1,h.1.1.1.1.1.1.2,h.1.1.1.1.1.2,h.1.1.1.1.2,h.1.1.1.2,h.1.1.2,h.1.2,h.2⟩
theorem zGp {x:Auc}(h:∀ j,j<x.bids.length→zBY x j=false):zCF x=true:=by
 unfold zCF
 rw[zA4 h]
 rfl
theorem take_zero {x:Auc}{y:Bid}(h:(zS x y).2≠0):(zS x y).1=Auc.zero:=by
 unfold zS at h ⊢
 repeat' split
 all_goals first|rfl|(exfalso;simp_all;done)
structure Taken (x:Auc)(y:Bid)(c:Auc):Prop where
 may:zAU x=true
 acct:zu y.acct 64=true
 amount:zu y.amount 1125899906842624=true
 other:y.acct≠x.seller
 put:c=x.put (zGj x y).1
 ok:(zGj x y).2=0
theorem taken {x:Auc}{y:Bid}{c:Auc}(h:zS x y=(c,0)):Taken x y c:=by
 unfold zS at h
 split at h
 ·simp at h
 rename_i h1
 split at h
 ·simp at h
 rename_i h2
 split at h
 ·simp at h
 rename_i h3
 split at h
 ·rename_i h4;simp at h;simp[h.2] at h4
 rename_i h4
 simp only[Bool.not_eq_false,Bool.and_eq_true] at h1 h2
 simp only[Prod.mk.injEq,and_true] at h
 exact⟨h1,h2.1,h2.2,by simpa using h3,h.symm,by simpa using h4⟩
theorem zGI {x c:Auc}{y:Bid}(t:Taken x y c)(he:x.sealed=true):c=x.put (x.bids++[y])∧x.bids.length<16∧∀ j,j<x.bids.length→(x.bids.getD j default).acct≠y.acct:=by
 have h:=t.ok
 have hp:=t.put
 simp only[zGj,he,if_true,zCV] at h hp
 split at h
 ·simp at h
 rename_i h1
 split at h
 ·simp at h
 rename_i h2
 rw[if_neg h1,if_neg h2] at hp
 refine⟨hp,by omega,fun j hj e=>?_⟩
 rcases zZ (fun i=>(x.bids.getD i default).acct==y.acct) x.bids.length with ⟨k,_,_,_,h4⟩|⟨hn,_⟩
 ·rw[h4] at h1;omega
 ·have:=hn j hj
  rw[e,beq_self_eq_true] at this;cases this
theorem zJM {x c:Auc}{y:Bid}(t:Taken x y c)(he:x.sealed=false):c=x.put [y]∧y.amount ≥ zEI x:=by
 have h:=t.ok
 have hp:=t.put
 simp only[zGj,he,Bool.false_eq_true,if_false,zC5] at h hp
 split at h
 ·simp at h
 rename_i h1
 rw[if_neg h1] at hp
 exact⟨hp,by omega⟩
theorem zPo {x:Auc}(h:zAU x=true)(he:x.sealed=false):x.reserve≤zEI x:=by
 unfold zEI
 split
 ·exact Int.le_refl _
 ·rename_i h0
  have hpos:0<x.bids.length:=by simp at h0;exact List.length_pos_iff.2 h0
  have hb:=zJK h 0 hpos
  have hst:=zOU h he
  have:=(zFL h he).2
  have:(x.bids.getD 0 default).amount ≥ x.reserve:=by omega
  simp only[zMw,zB5]
  rw[if_neg qO]
  simp only;omega
theorem zER {x:Auc}{j:Nat}:zBY x j=false↔zu (x.bids.getD j default).acct 64=true∧(x.bids.getD j default).acct≠x.seller∧zu (x.bids.getD j default).amount 1125899906842624=true∧∀ i,i<j→(x.bids.getD i default).acct≠(x.bids.getD j default).acct:=by
 unfold zBY
 simp only[Bool.or_eq_false_iff,Bool.not_eq_false',decide_eq_false_iff_not,beq_eq_false_iff_ne,ne_eq,and_assoc]
 refine⟨fun⟨h1,h2,h3,h4⟩=>⟨h1,h2,h3,fun i hi e=>?_⟩,fun⟨h1,h2,h3,h4⟩=>⟨h1,h2,h3,fun hc=>?_⟩⟩
 ·rcases zZ (fun i=>(x.bids.getD i default).acct==(x.bids.getD j default).acct) j with ⟨k,_,_,_,h5⟩|⟨hn,_⟩
  ·rw[h5] at h4;omega
  ·have:=hn i hi
   rw[e,beq_self_eq_true] at this;cases this
 ·rcases zZ (fun i=>(x.bids.getD i default).acct==(x.bids.getD j default).acct) j with ⟨k,hk,_,h6,h5⟩|⟨_,h5⟩
  ·exact h4 k hk (by simpa using h6)
  ·rw[h5] at hc;omega
theorem zLb {x:Auc}(h:zAU x=true){j:Nat}(hj:j<x.bids.length):zBY x j=false:=zOT (zCt h).2.2.2.2.2.2.2 j hj
theorem zPp {x c:Auc}{y:Bid}(t:Taken x y c):zAU c=true:=by
 obtain⟨h1,h2,h3,h4,h5,h6,h7,h8⟩:=zCt t.may
 rcases Bool.eq_false_or_eq_true x.sealed with he|he
 ·obtain⟨rfl,hl,hn⟩:=zGI t he
  have hm:zAb (x.put (x.bids++[y]))=true:=by
   simp only[zAb,Auc.put,he,if_true,zF7,Bool.and_eq_true] at h7 ⊢
   refine⟨h7.1,?_⟩
   rw[List.length_append,List.length_singleton]
   exact decide_eq_true qO
  have hb:zCF (x.put (x.bids++[y]))=true:=by
   refine zGp fun j hj=>?_
   simp only[Auc.put,List.length_append,List.length_singleton] at hj
   rw[zER]
   simp only[Auc.put]
   by_cases hjn:j=x.bids.length
   ·subst hjn
    rw[zPn]
    exact⟨t.acct,t.other,t.amount,fun i hi=>by rw[zEQ hi];exact hn i hi⟩
   ·have hj:j<x.bids.length:=by omega
    have:=zER.1 (zLb t.may hj)
    rw[zEQ hj]
    exact⟨this.1,this.2.1,this.2.2.1,fun i hi=>by rw[zEQ qO];exact this.2.2.2 i hi⟩
  simp only[zAU,Bool.and_eq_true]
  exact⟨⟨⟨⟨⟨⟨⟨h1,h2⟩,h3⟩,h4⟩,h5⟩,h6⟩,hm⟩,hb⟩
 ·obtain⟨rfl,hl⟩:=zJM t he
  have hge:=zPo t.may he
  have hm:zAb (x.put [y])=true:=by
   simp only[zAb,Auc.put,he,Bool.false_eq_true,if_false,zEr,Bool.and_eq_true] at h7 ⊢
   refine⟨h7.1,rfl,?_⟩
   rw[Bool.or_eq_true]
   exact .inr (decide_eq_true (by show y.amount ≥ x.reserve;omega))
  have hb:zCF (x.put [y])=true:=by
   refine zGp fun j hj=>?_
   obtain rfl:j=0:=by simp only[Auc.put,List.length_singleton] at hj;omega
   rw[zER]
   exact⟨t.acct,t.other,t.amount,fun i hi=>by omega⟩
  simp only[zAU,Bool.and_eq_true]
  exact⟨⟨⟨⟨⟨⟨⟨h1,h2⟩,h3⟩,h4⟩,h5⟩,h6⟩,hm⟩,hb⟩
structure MayP (x:Auc):Prop where
 id:zu x.id 1099511627776=true
 seller:zu x.seller 64=true
 inst:zu x.inst 16=true
 qty:zu x.qty 1048576=true
 reserve:zu x.reserve 1125899906842624=true
 fin:zu x.fin 1099511627776=true
 step0:x.sealed=true→x.step=0
 step1:x.sealed=false→zu x.step 1125899906842624=true
 len16:x.bids.length≤16
 len1:x.sealed=false→x.bids.length≤1
 high:x.sealed=false→∀ j,j<x.bids.length→x.reserve≤(x.bids.getD j default).amount
 ok:∀ j,j<x.bids.length→zBY x j=false
theorem mayP {x:Auc}:zAU x=true↔MayP x:=by
 constructor
 ·intro h
  obtain⟨h1,h2,h3,h4,h5,h6,h7,h8⟩:=zCt h
  refine⟨h1,h2,h3,h4,h5,h6,fun he=>?_,fun he=>?_,?_,fun he=>?_,fun he j hj=>?_,fun j hj=>zLb h hj⟩
  ·simp only[zAb,he,if_true,zF7,Bool.and_eq_true,beq_iff_eq] at h7;exact h7.1
  ·simp only[zAb,he,Bool.false_eq_true,if_false,zEr,Bool.and_eq_true] at h7;exact h7.1
  ·rcases Bool.eq_false_or_eq_true x.sealed with he|he
   ·simp only[zAb,he,if_true,zF7,Bool.and_eq_true,decide_eq_true_eq] at h7;omega
   ·simp only[zAb,he,Bool.false_eq_true,if_false,zEr,Bool.and_eq_true,decide_eq_true_eq] at h7;omega
  ·exact(zFL h he).1
  ·obtain⟨g1,g2⟩:=zFL h he
   obtain rfl:j=0:=by omega
   rcases g2 with g2|g2
   ·omega
   ·exact g2
 ·intro h
  have h8:zCF x=true:=zGp h.ok
  have h7:zAb x=true:=by
   have hl:=h.len16
   rcases Bool.eq_false_or_eq_true x.sealed with he|he
   ·simp only[zAb,he,if_true,zF7,Bool.and_eq_true,beq_iff_eq,decide_eq_true_eq]
    exact⟨h.step0 he,by omega⟩
   ·have g:=h.len1 he
    simp only[zAb,he,Bool.false_eq_true,if_false,zEr,Bool.and_eq_true,decide_eq_true_eq,Bool.or_eq_true,beq_iff_eq]
    refine⟨h.step1 he,by omega,?_⟩
    rcases Nat.eq_zero_or_pos x.bids.length with h0|h0
    ·left;omega
    ·right;exact h.high he 0 h0
  simp only[zAU,h.id,h.seller,h.inst,h.qty,h.reserve,h.fin,h7,h8,Bool.and_self]
end
section
open Go Go.Sk Go.RowKit
attribute [local irreducible] Go.Calls
def zKO (l:List Row4)(a q:Int):Row4:=(l.find? fun r=>r.acct==a&&r.asset==q).getD ⟨a,q,0,0⟩
theorem zUt {l:List Row4}{p:Row4→Bool}{k:Nat}(hk:k<l.length)(hno:∀ j,j<k→p (rw_ l j)=false)(hy:p (rw_ l k)=true):l.find? p=some (rw_ l k):=by
 induction l generalizing k with
 | nil=>exact absurd hk (zzE k)
 | cons x xs ih =>
   rcases k with _|k
   ·have:p x=true:=hy
    rw[List.find?_cons_of_pos this];rfl
   ·have h0:p x=false:=hno 0 qO
    rw[List.find?_cons_of_neg (by rw[h0];simp)]
    exact ih (by simpa using hk) (fun j hj=>hno (j+1) qO) hy
theorem zPq {l:List Row4}{p:Row4→Bool}(hno:∀ j,j<l.length→p (rw_ l j)=false):l.find? p=none:=by
 rw[List.find?_eq_none]
 intro x hx
 obtain⟨j,hj,rfl⟩:=List.mem_iff_getElem.1 hx
 have:=hno j hj
 unfold rw_ at this
 rw[List.getD_eq_getElem?_getD,List.getElem?_eq_getElem hj] at this
 simpa using this
def zGJ (l:List Odr)(a q:Int):Nat→Int
 | 0=>0
 | k+1=>if (od_ l k).acct=a∧(zX (od_ l k)).1=q then IntKind.i64.wrap (zGJ l a q k+(zX (od_ l k)).2) else zGJ l a q k
def zGK (l:List Bid)(a q z:Int):Nat→Int
 | 0=>z
 | k+1=>if (l.getD k default).acct=a∧q=0 then IntKind.i64.wrap (zGK l a q z k+(l.getD k default).amount) else zGK l a q z k
def zIH (l:List Auc)(a q z:Int):Nat→Int
 | 0=>z
 | k+1=>if zAU (l.getD k default)=true then zGK (l.getD k default).bids a q (if (l.getD k default).seller=a∧(l.getD k default).inst=q then IntKind.i64.wrap (zIH l a q z k+(l.getD k default).qty) else zIH l a q z k) (l.getD k default).bids.length else zIH l a q z k
def zLc (s:Sta)(a q:Int):Int:=zIH s.aucs a q (zGJ s.orders a q s.orders.length) s.aucs.length
def zOc (s:Sta)(a q:Nat):Bool:=(zKO s.rows (a:Int) (q:Int)).held==zLc s (a:Int) (q:Int)
def zSS (s:Sta):Bool:=(List.range 65).all fun a=>(List.range 17).all fun q=>zOc s a q
theorem zJN {s:Sta}:zSS s=true↔∀ a,a<65→∀ q,q<17→zOc s a q=true:=by
 unfold zSS
 simp only[List.all_eq_true,List.mem_range]
def cnt (l:List Auc):Nat→Int
 | 0=>0
 | k+1=>cnt l k+1+(if (1001:Int)<((l.getD k default).bids.length:Int) then 1001 else((l.getD k default).bids.length:Int))
structure Ow where
 k:Nat
 a:Option Addr
 cap:Nat
 ad:Nat→Option Addr × Nat
 mo:zB
 mb:zB
theorem zDD {s:Sta}:zC4 s=true↔zAG s.aucs=true∧∀ k,k<s.aucs.length→zCI s (s.aucs.getD k default)=false:=by
 unfold zC4
 rw[Bool.and_eq_true]
 refine and_congr Iff.rfl ?_
 rcases zZ (fun j=>zCI s (s.aucs.getD j default)) s.aucs.length with ⟨k,hk,_,hb,hx⟩|⟨ha,hx⟩
 ·rw[hx,decide_eq_true qO]
  constructor
  ·intro h;cases h
  ·intro h;have:=h k hk;rw[this] at hb;cases hb
 ·rw[hx,decide_eq_false qO]
  exact⟨fun _=>ha,fun _=>rfl⟩
end
section
open Go Go.Sk Go.RowKit
theorem zES {s:Sta}(h:zCU s=true)(k:Nat)(hk:k<7):stOk s k=true:=by
 unfold zCU at h
 exact List.all_eq_true.1 h k (List.mem_range.2 hk)
theorem zPr {l:List Auc}(h:zAG l=true):l.length≤32∧∀ k,k<l.length→(l.getD k default).bids.length≤16:=by
 unfold zAG at h
 simp only[Bool.and_eq_true,decide_eq_true_eq] at h
 refine⟨by omega,fun k hk=>?_⟩
 have hm:zAU (l.getD k default)=true:=by
  rcases zZ (zBe l) l.length with ⟨j,h1,h2,h3,h4⟩|⟨h1,h2⟩
  ·omega
  ·have:=h1 k hk
   unfold zBe at this
   simp only[Bool.or_eq_false_iff,Bool.not_eq_false'] at this
   exact this.2
 have a7:=(zCt hm).2.2.2.2.2.2.1
 unfold zAb at a7
 split at a7
 ·unfold zF7 at a7
  simp only[Bool.and_eq_true,decide_eq_true_eq] at a7
  omega
 ·unfold zEr at a7
  simp only[Bool.and_eq_true,decide_eq_true_eq] at a7
  omega
end
end Go.Proofs.YtejhijhnlogikaaGreatDoor
