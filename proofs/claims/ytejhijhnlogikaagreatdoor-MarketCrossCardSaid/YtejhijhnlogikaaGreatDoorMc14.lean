/- Texts of ours, joined: the steps of the proof, or the claim's theorem. -/
import Derived.Test.YtejhijhnlogikaaGreatDoorMc13
set_option linter.all false
set_option maxHeartbeats 16000000
namespace Go.Proofs.YtejhijhnlogikaaGreatDoor
open Go Go.Sk Go.RowKit
def tw (l:List P3)(x:Int × Int)(z:Int):Int:=l.foldl (fun a y=>if zA5 y=x then IntKind.i64.wrap (a+y.2.2) else a) z
theorem zKP (l m:List P3)(x:Int × Int)(z:Int):tw (l++m) x z=tw m x (tw l x z):=by unfold tw;exact List.foldl_append
theorem zKQ (y:P3)(a q:Int):zA5 y=(a,q)↔y.1=a∧y.2.1=q:=by unfold zA5;exact Prod.mk.injEq _ _ _ _ |>.to_iff
theorem zLd (l:List Odr)(a q:Int)(h:∀ j,j<l.length→(zX (od_ l j)).2>0):∀ k,k≤l.length→zGJ l a q k=tw ((l.take k).flatMap zAL) (a,q) 0
 | 0,_=>by simp[zGJ,tw]
 | k+1,hk=>by
   have hp:=h k qO
   have hf:=zFI zAL l default (i:=k) qO
   have hd:l.getD k default=od_ l k:=rfl
   rw[hf,zKP,← zLd l a q h k qO,hd]
   have:zAL (od_ l k)=[((od_ l k).acct,(zX (od_ l k)).1,(zX (od_ l k)).2)]:=if_pos hp
   rw[this]
   have e:zGJ l a q (k+1)=if (od_ l k).acct=a∧(zX (od_ l k)).1=q then IntKind.i64.wrap (zGJ l a q k+(zX (od_ l k)).2) else zGJ l a q k:=rfl
   rw[e]
   generalize zGJ l a q k=z
   show _=if zA5 _=(a,q) then _ else _
   simp only[zKQ]
theorem zLe (l:List Bid)(a q z:Int):∀ k,k≤l.length→zGK l a q z k=tw ((l.take k).map fun b=>(b.acct,0,b.amount)) (a,q) z
 | 0,_=>by simp[zGK,tw]
 | k+1,hk=>by
   have ht:l.take (k+1)=l.take k++[l.getD k default]:=by
    rw[List.take_add_one,List.getD_eq_getElem?_getD,List.getElem?_eq_getElem qO];rfl
   rw[ht,List.map_append,zKP,← zLe l a q z k qO]
   have e:zGK l a q z (k+1)=if (l.getD k default).acct=a∧q=0 then IntKind.i64.wrap (zGK l a q z k+(l.getD k default).amount) else zGK l a q z k:=rfl
   rw[e]
   generalize zGK l a q z k=z
   show _=if zA5 _=(a,q) then _ else _
   simp only[zKQ]
   by_cases h:(l.getD k default).acct=a∧q=0
   ·rw[if_pos h,if_pos ⟨h.1,h.2.symm⟩]
   ·rw[if_neg h,if_neg (fun g=>h ⟨g.1,g.2.symm⟩)]
theorem zLf (l:List Auc)(a q z:Int):∀ k,k≤l.length→zIH l a q z k=tw ((l.take k).flatMap zU) (a,q) z
 | 0,_=>by simp[zIH,tw]
 | k+1,hk=>by
   have hf:=zFI zU l default (i:=k) qO
   rw[hf,zKP,← zLf l a q z k qO]
   generalize hu:zIH l a q z k=u
   show(if zAU (l.getD k default)=true then _ else _)=_
   rw[hu]
   unfold zU
   split
   ·have hb:=zLe (l.getD k default).bids a q (if (l.getD k default).seller=a∧(l.getD k default).inst=q then IntKind.i64.wrap (u+(l.getD k default).qty) else u) (l.getD k default).bids.length (zzC _)
    rw[List.take_length] at hb
    rw[hb]
    show _=tw _ _ (if zA5 _=(a,q) then _ else _)
    simp only[zKQ]
   ·rfl
theorem zLg (s:Sta)(a q:Int)(h:∀ j,j<s.orders.length→(zX (od_ s.orders j)).2>0):zLc s a q=zGf (zV s) (a,q):=by
 unfold zLc
 rw[zLf _ _ _ _ _ (Nat.le_refl _),zLd _ _ _ h _ (Nat.le_refl _),List.take_length,List.take_length,← zKP]
 rfl
theorem zND (x:Int × Int):∀ (l:List P3) (z:Int),0≤z→z+(l.length:Int)*1125899906842624<9223372036854775808→(∀ y,y∈l→0≤y.2.2∧y.2.2≤1125899906842624)→z≤tw l x z∧∀ y,y∈l→zA5 y=x→y.2.2≤tw l x z
 | [],z,_,_,_=>⟨Int.le_refl _,fun y hy=>absurd hy (List.not_mem_nil)⟩
 | y::t,z,h0,h1,hb=>by
   obtain⟨b0,b1⟩:=hb y (List.mem_cons_self ..)
   rw[List.length_cons] at h1
   have hcast:((t.length+1:Nat):Int)=(t.length:Int)+1:=by omega
   rw[hcast,Int.add_mul] at h1
   have hstep:tw (y::t) x z=tw t x (if zA5 y=x then IntKind.i64.wrap (z+y.2.2) else z):=rfl
   by_cases hk:zA5 y=x
   ·rw[if_pos hk] at hstep
    have hw:IntKind.i64.wrap (z+y.2.2)=z+y.2.2:=w64 qO qO
    rw[hw] at hstep
    obtain⟨i1,i2⟩:=zND x t (z+y.2.2) qO qO (fun y hy=>hb y (zz4 _ hy))
    rw[hstep]
    refine⟨by omega,fun y' hy' hk'=>?_⟩
    rcases List.mem_cons.1 hy' with rfl|hy'
    ·omega
    ·exact i2 y' hy' hk'
   ·rw[if_neg hk] at hstep
    obtain⟨i1,i2⟩:=zND x t z h0 qO (fun y hy=>hb y (zz4 _ hy))
    rw[hstep]
    refine⟨i1,fun y' hy' hk'=>?_⟩
    rcases List.mem_cons.1 hy' with rfl|hy'
    ·exact absurd hk' hk
    ·exact i2 y' hy' hk'
theorem zII {s:Sta}(h:zBF s=true):s.orders.length≤128∧∀ j,j<s.orders.length→((zX (od_ s.orders j)).2>0∧(zX (od_ s.orders j)).2≤1125899906842624)∧(0≤(od_ s.orders j).acct∧(od_ s.orders j).acct≤64)∧0≤(zX (od_ s.orders j)).1∧(zX (od_ s.orders j)).1≤16:=by
 obtain⟨h1,h2⟩:=zAk.1 (zCH.1 h).1
 refine⟨h1,fun j hj=>?_⟩
 obtain⟨hm,_⟩:=h2 j hj
 have hm':=hm
 obtain⟨_,g1,g2,_,g4,g5⟩:=hm
 unfold zX
 rw[if_pos ((zAS _).2 hm')]
 split
 ·have a1:1*1≤(od_ s.orders j).price*(od_ s.orders j).left:=Int.mul_le_mul g4.1 g5.1 qO qO
  have a2:(od_ s.orders j).price*(od_ s.orders j).left≤1073741824*1048576:=Int.mul_le_mul g4.2 g5.2 qO qO
  refine⟨⟨?_,?_⟩,by omega,?_,?_⟩<;>simp only<;>omega
 ·refine⟨⟨?_,?_⟩,by omega,?_,?_⟩<;>simp only<;>omega
theorem zST {x:Auc}(h:zAU x=true):x.bids.length≤16∧(1≤x.seller∧x.seller≤64)∧(1≤x.inst∧x.inst≤16)∧(1≤x.qty∧x.qty≤1048576)∧∀ j,j<x.bids.length→(1≤(x.bids.getD j default).acct∧(x.bids.getD j default).acct≤64)∧1≤(x.bids.getD j default).amount∧(x.bids.getD j default).amount≤1125899906842624:=by
 obtain⟨a1,a2,a3,a4,a5,a6,a7,a8⟩:=zCt h
 unfold zu at a1 a2 a3 a4
 simp only[Bool.and_eq_true,decide_eq_true_eq] at a1 a2 a3 a4
 refine⟨?_,by omega,by omega,by omega,fun j hj=>?_⟩
 ·unfold zAb at a7
  split at a7
  ·unfold zF7 at a7
   simp only[Bool.and_eq_true,decide_eq_true_eq] at a7
   omega
  ·unfold zEr at a7
   simp only[Bool.and_eq_true,decide_eq_true_eq] at a7
   omega
 ·unfold zCF at a8
  rcases zZ (zBY x) x.bids.length with ⟨i,h1,h2,h3,h4⟩|⟨h1,h2⟩
  ·rw[h4] at a8;simp only[decide_eq_true_eq] at a8;omega
  ·have:=h1 j hj
   unfold zBY zu at this
   simp only[Bool.or_eq_false_iff,Bool.not_eq_false',Bool.and_eq_true,decide_eq_true_eq] at this
   omega
theorem zUu {l:List Auc}(h:zAG l=true){k:Nat}(hk:k<l.length):zAU (l.getD k default)=true:=by
 unfold zAG at h
 simp only[Bool.and_eq_true,decide_eq_true_eq] at h
 rcases zZ (zBe l) l.length with ⟨j,h1,h2,h3,h4⟩|⟨h1,h2⟩
 ·omega
 ·have:=h1 k hk
  unfold zBe at this
  simp only[Bool.or_eq_false_iff,Bool.not_eq_false'] at this
  exact this.2
theorem zGq {α:Type}(f:α→List P3)(n:Nat):∀ (l:List α),(∀ x,x∈l→(f x).length≤n)→(l.flatMap f).length≤l.length*n
 | [],_=>by simp
 | x::t,h=>by
   rw[List.flatMap_cons,List.length_append,List.length_cons,Nat.add_mul]
   have:=zGq f n t (fun y hy=>h y (zz4 _ hy))
   have:=h x (List.mem_cons_self ..)
   omega
def zSU (y:P3):Prop:=(0<y.2.2∧y.2.2≤1125899906842624)∧(0≤y.1∧y.1≤64)∧0≤y.2.1∧y.2.1≤16
theorem zIJ {α:Type}{l:List α}{x:α}(d:α)(h:x∈l):∃ k,k<l.length∧l.getD k d=x:=zBW h
theorem zIK {s:Sta}(h4:zBF s=true)(h5:zC4 s=true):(zV s).length≤1024∧∀ y,y∈zV s→zSU y:=by
 obtain⟨o1,o2⟩:=zII h4
 have hma:=(zDD.1 h5).1
 obtain⟨u1,u2⟩:=zPr hma
 have hao:∀ x,x∈s.orders→(zAL x).length≤1:=fun x _=>by unfold zAL;split<;>simp
 have hau:∀ x,x∈s.aucs→(zU x).length≤17:=fun x hx=>by
  obtain⟨k,hk,rfl⟩:=zIJ default hx
  have:=u2 k hk
  unfold zU
  split
  ·rw[List.length_cons,List.length_map];omega
  ·simp
 refine⟨?_,fun y hy=>?_⟩
 ·unfold zV
  rw[List.length_append]
  have:=zGq zAL 1 s.orders hao
  have:=zGq zU 17 s.aucs hau
  omega
 ·unfold zV at hy
  rcases List.mem_append.1 hy with hy|hy
  ·obtain⟨x,hx,hy⟩:=List.mem_flatMap.1 hy
   obtain⟨k,hk,rfl⟩:=zIJ default hx
   obtain⟨⟨g1,g2⟩,g3,g4⟩:=o2 k hk
   have hd:s.orders.getD k default=od_ s.orders k:=rfl
   rw[hd] at hy
   unfold zAL at hy
   rw[if_pos g1,List.mem_singleton] at hy
   subst hy
   exact⟨⟨g1,g2⟩,g3,g4⟩
  ·obtain⟨x,hx,hy⟩:=List.mem_flatMap.1 hy
   obtain⟨k,hk,rfl⟩:=zIJ default hx
   have hm:=zUu hma hk
   obtain⟨_,b1,b2,b3,b4⟩:=zST hm
   unfold zU at hy
   rw[if_pos hm] at hy
   rcases List.mem_cons.1 hy with rfl|hy
   ·refine⟨⟨?_,?_⟩,⟨?_,?_⟩,?_,?_⟩<;>simp only<;>omega
   ·obtain⟨z,hz,rfl⟩:=List.mem_map.1 hy
    obtain⟨j,hj,rfl⟩:=zIJ default hz
    obtain⟨c1,c2⟩:=b4 j hj
    refine⟨⟨?_,?_⟩,⟨?_,?_⟩,?_,?_⟩<;>simp only<;>omega
theorem zKR {l:List Row4}(h:RowsP l l.length):∀ k,k<l.length→∀ j,j<k→LtR (rw_ l j) (rw_ l k)
 | 0,_,j,hj=>absurd hj (zzE j)
 | k+1,hk,j,hj=>by
   have h1:=(h (k+1) hk).2
   rcases h1 with h1|h1
   ·omega
   ·rw[Nat.add_sub_cancel] at h1
    by_cases hjk:j=k
    ·rw[hjk];exact h1
    ·have h2:=zKR h k qO j qO
     unfold LtR at *
     omega
theorem zKS {l:List Row4}{k:Nat}{x:Int × Int}(hk:k≤l.length):x∈zCG l k↔∃ j,j<k∧zAE (rw_ l j)=x:=by
 unfold zCG
 rw[List.mem_map]
 constructor
 ·rintro⟨r,hr,rfl⟩
  obtain⟨j,hj,rfl⟩:=zIJ default hr
  rw[List.length_take] at hj
  refine⟨j,by omega,?_⟩
  have:(l.take k).getD j default=rw_ l j:=by
   unfold rw_
   rw[List.getD_eq_getElem?_getD,List.getElem?_take_of_lt qO,List.getD_eq_getElem?_getD,List.getElem?_eq_getElem qO]
  rw[this]
 ·rintro⟨j,hj,rfl⟩
  refine⟨rw_ l j,?_,rfl⟩
  rw[List.mem_take_iff_getElem]
  refine⟨j,by omega,?_⟩
  unfold rw_
  rw[List.getD_eq_getElem?_getD,List.getElem?_eq_getElem qO]
  rfl
theorem zLh {l:List Row4}(h:RowsP l l.length){k:Nat}(hk:k<l.length):zKO l (rw_ l k).acct (rw_ l k).asset=rw_ l k:=by
 unfold zKO
 rw[zUt (p:=fun r=>r.acct==(rw_ l k).acct&&r.asset==(rw_ l k).asset) hk (fun j hj=>by
  have:=zKR h k hk j hj
  unfold LtR at this
  have hn:¬ ((rw_ l j).acct=(rw_ l k).acct∧(rw_ l j).asset=(rw_ l k).asset):=by omega
  simpa using fun a b=>hn ⟨a,b⟩) (by simp)]
 rfl
theorem zJO {l:List Row4}{a q:Int}(h:¬ (a,q)∈zCG l l.length):(zKO l a q).held=0:=by
 unfold zKO
 rw[zPq (p:=fun r=>r.acct==a&&r.asset==q) (fun j hj=>by
  cases e:((rw_ l j).acct==a&&(rw_ l j).asset==q)
  ·rfl
  ·exfalso
   simp only[Bool.and_eq_true,beq_iff_eq] at e
   exact h ((zKS (zzC _)).2 ⟨j,hj,by unfold zAE;rw[e.1,e.2]⟩))]
 rfl
theorem zLi {s:Sta}(h3:zC3 s=true)(h4:zBF s=true)(h5:zC4 s=true):zFm s=zSS s:=by
 obtain⟨pl,po⟩:=zIK h4 h5
 have hR:=(zBn.1 (zEF.1 h3).1).1
 have hH:∀ a q,zLc s a q=zGf (zV s) (a,q):=fun a q=>zLg s a q fun j hj=>((zII h4).2 j hj).1.1
 have hat:∀ k,k<s.rows.length→(zDc s k=true↔zGf (zV s) (zAE (rw_ s.rows k))=(rw_ s.rows k).held):=fun k hk=>by
  unfold zDc
  rw[if_neg,beq_iff_eq]
  rw[zKS qO]
  rintro⟨j,hj,he⟩
  have:=zKR hR k hk j hj
  unfold LtR at this
  unfold zAE at he
  have e1:=(Prod.mk.injEq _ _ _ _).mp he
  omega
 rw[Bool.eq_iff_iff,zJN]
 unfold zFm zOc
 simp only[Bool.and_eq_true,List.all_eq_true,List.mem_range,decide_eq_true_eq,beq_iff_eq]
 constructor
 ·rintro⟨q1,q2⟩ a ha q hq
  rw[hH]
  by_cases hm:((a:Int),(q:Int))∈zCG s.rows s.rows.length
  ·obtain⟨k,hk,he⟩:=(zKS (zzC _)).1 hm
   have h1:=(hat k hk).1 (q1 k hk)
   have h2:=zLh hR hk
   rw[he] at h1
   unfold zAE at he
   have e1:=(Prod.mk.injEq _ _ _ _).mp he
   rw[e1.1,e1.2] at h2
   rw[h2,h1]
  ·rw[zJO hm]
   refine(zJF ?_).symm
   unfold zH4
   rw[List.any_eq_false]
   intro y hy he
   exact hm (zzA he ▸ q2 y hy)
 ·intro hg
  refine⟨fun k hk=>(hat k hk).2 ?_,fun y hy=>?_⟩
  ·obtain⟨⟨g1,g2,g3,g4⟩,_⟩:=(hR k hk).1
   have h1:=hg (rw_ s.rows k).acct.toNat qO (rw_ s.rows k).asset.toNat qO
   rw[Int.toNat_of_nonneg g1,Int.toNat_of_nonneg g3,zLh hR hk,hH] at h1
   exact h1.symm
  ·obtain⟨⟨y1,_⟩,⟨y3,y4⟩,y5,y6⟩:=po y hy
   refine Classical.byContradiction fun hm=>?_
   have h1:=hg y.1.toNat qO y.2.1.toNat qO
   rw[Int.toNat_of_nonneg y3,Int.toNat_of_nonneg y5,hH] at h1
   have h2:(zKO s.rows y.1 y.2.1).held=0:=zJO (a:=y.1) (q:=y.2.1) hm
   have h3:=(zND (y.1,y.2.1) (zV s) 0 (Int.le_refl _) qO (fun z hz=>⟨by have:=(po z hz).1;omega,by have:=(po z hz).1;omega⟩)).2 y hy rfl
   have h4:tw (zV s) (y.1,y.2.1) 0=zGf (zV s) (y.1,y.2.1):=rfl
   omega
def zp (l:List P3)(x:Pl):Int:=(l.map fun y=>if zA5 y=x then y.2.2 else 0).sum
theorem ze (l m:List P3)(x:Pl):zp (l++m) x=zp l x+zp m x:=by unfold zp;rw[List.map_append,List.sum_append]
theorem zDE (y:P3)(l:List P3)(x:Pl):zp (y::l) x=(if zA5 y=x then y.2.2 else 0)+zp l x:=rfl
theorem zGr (x:Pl):zp [] x=0:=rfl
theorem tw_E (x:Pl):∀ (l:List P3) (z:Int),0≤z→z+(l.length:Int)*1125899906842624<9223372036854775808→(∀ y∈l,0≤y.2.2∧y.2.2≤1125899906842624)→tw l x z=z+zp l x∧0≤zp l x∧zp l x≤(l.length:Int)*1125899906842624
 | [],z,_,_,_=>by simp[tw,zp]
 | y::l,z,h0,h1,h=>by
   have hy:=h y (zz2 _)
   have hl:((y::l).length:Int)=(l.length:Int)+1:=by simp
   rw[hl] at h1 ⊢
   have hs:tw (y::l) x z=tw l x (if zA5 y=x then IntKind.i64.wrap (z+y.2.2) else z):=rfl
   rw[hs,zDE]
   by_cases hk:zA5 y=x
   ·rw[if_pos hk,if_pos hk,w64 qO qO]
    obtain⟨a,b,c⟩:=tw_E x l (z+y.2.2) qO qO fun q hq=>h q (zz5 _ hq)
    refine⟨by omega,by omega,by omega⟩
   ·rw[if_neg hk,if_neg hk]
    obtain⟨a,b,c⟩:=tw_E x l z h0 qO fun q hq=>h q (zz5 _ hq)
    refine⟨by omega,by omega,by omega⟩
structure Good (s:Sta):Prop where
 nums:zHD s=true
 accts:zEv s.accts=true
 insts:zC2 s.insts=true
 rows:zAZ s.rows=true
 rowsIn:∀ r∈s.rows,(r.acct≤0∨zAD s r.acct=true)∧r.asset≤s.insts.length
 ords:za s.orders=true
 ordsIn:∀ o∈s.orders,zCZ s o=true
 aucs:zAG s.aucs=true
 aucsIn:∀ a∈s.aucs,zCI s a=false
 held:∀ x∈zBu,(atR s.rows x).2=zp (zV s) x
theorem zj {α:Type}[Inhabited α]{l:List α}{k:Nat}(h:k<l.length):l.getD k default∈l:=by
 rw[List.getD_eq_getElem?_getD,List.getElem?_eq_getElem h];exact List.getElem_mem h
theorem zDT {α:Type}[Inhabited α]{l:List α}{p:α→Prop}:(∀ k,k<l.length→p (l.getD k default))↔∀ x∈l,p x :=
 ⟨fun h x hx=>by obtain⟨k,hk,rfl⟩:=zIJ default hx;exact h k hk,fun h k hk=>h _ (zj hk)⟩
theorem zUv (l:List Row4)(a q:Int):(zKO l a q).free=(atR l (a,q)).1∧(zKO l a q).held=(atR l (a,q)).2:=by
 unfold zKO atR
 simp only
 cases l.find? (fun r=>r.acct==a&&r.asset==q)<;>exact⟨rfl,rfl⟩
theorem zJP {s:Sta}(h3:zC3 s=true)(h4:zBF s=true)(h5:zC4 s=true):zFm s=true↔∀ x∈zBu,(atR s.rows x).2=zp (zV s) x:=by
 obtain⟨pl,po⟩:=zIK h4 h5
 have hH:∀ a q,zLc s a q=zp (zV s) (a,q):=fun a q=>by
  rw[zLg s a q fun j hj=>((zII h4).2 j hj).1.1]
  have:=(tw_E (a,q) (zV s) 0 (Int.le_refl _) qO fun y hy=>⟨Int.le_of_lt (po y hy).1.1,(po y hy).1.2⟩).1
  rw[Int.zero_add] at this
  exact this
 rw[zLi h3 h4 h5,zJN]
 unfold zOc
 simp only[beq_iff_eq,(zUv _ _ _).2,hH]
 constructor
 ·intro h x hx
  obtain⟨⟨h1,h2⟩,h3,h4⟩:=zDC.1 hx
  have:=h x.1.toNat qO x.2.toNat qO
  rw[Int.toNat_of_nonneg h1,Int.toNat_of_nonneg h3] at this
  exact this
 ·intro h a ha q hq
  exact h _ (zDC.2 ⟨⟨by simp only;omega,by simp only;omega⟩,by simp only;omega,by simp only;omega⟩)
theorem zAp {s:Sta}:zCU s=true↔Good s:=by
 constructor
 ·intro h
  have h3:=zES h 3 (by decide)
  have h4:=zES h 4 (by decide)
  have h5:=zES h 5 (by decide)
  have h6:=zES h 6 (by decide)
  refine⟨zES h 0 (by decide),zES h 1 (by decide),zES h 2 (by decide),(zEF.1 h3).1,?_,(zCH.1 h4).1,?_,(zDD.1 h5).1,?_,(zJP h3 h4 h5).1 h6⟩
  ·exact zDT.1 fun k hk=>zHC.1 ((zEF.1 h3).2 k hk)
  ·exact zDT.1 fun k hk=>(zCH.1 h4).2 k hk
  ·exact zDT.1 fun k hk=>(zDD.1 h5).2 k hk
 ·intro h
  have h3:zC3 s=true:=zEF.2 ⟨h.rows,fun k hk=>zHC.2 (h.rowsIn _ (zj hk))⟩
  have h4:zBF s=true:=zCH.2 ⟨h.ords,fun k hk=>h.ordsIn _ (zj hk)⟩
  have h5:zC4 s=true:=zDD.2 ⟨h.aucs,fun k hk=>h.aucsIn _ (zj hk)⟩
  have h6:=(zJP h3 h4 h5).2 h.held
  unfold zCU
  rw[List.all_eq_true]
  intro k hk
  match k,List.mem_range.1 hk with
  | 0,_=>exact h.nums
  | 1,_=>exact h.accts
  | 2,_=>exact h.insts
  | 3,_=>exact h3
  | 4,_=>exact h4
  | 5,_=>exact h5
  | 6,_=>exact h6
theorem zLj {α:Type}[Inhabited α](f:α→Int){l:List α}:(∀ j,j<l.length→j=0∨f (l.getD (j - 1) default)<f (l.getD j default))↔l.Pairwise fun a b=>f a<f b:=by
 constructor
 ·intro h
  rw[List.pairwise_iff_getElem]
  intro i j hi hj hij
  have key:∀ d,i+d+1<l.length→f (l.getD i default)<f (l.getD (i+d+1) default):=by
   intro d
   induction d with
   | zero =>
     intro hd
     rcases h (i+1) hd with e|e
     ·omega
     ·simpa using e
   | succ d ih =>
     intro hd
     rcases h (i+(d+1)+1) hd with e|e
     ·omega
     ·exact Int.lt_trans (ih qO) e
  have:=key (j - i - 1) qO
  rw[show i+(j - i - 1)+1=j by omega] at this
  simpa [List.getD_eq_getElem?_getD,List.getElem?_eq_getElem hi,List.getElem?_eq_getElem hj] using this
 ·intro h j hj
  rcases Nat.eq_zero_or_pos j with e|e
  ·exact .inl e
  ·right
   have:=List.pairwise_iff_getElem.1 h (j - 1) j qO hj qO
   simpa [List.getD_eq_getElem?_getD,List.getElem?_eq_getElem hj,List.getElem?_eq_getElem (show j - 1<l.length by omega)] using this
theorem zAK {l:List Odr}:za l=true↔l.length≤128∧(∀ o∈l,zAW o)∧l.Pairwise fun a b=>a.id<b.id:=by
 rw[zAk,← zLj,← zDT]
 unfold OrdP od_
 exact and_congr_right fun _=>⟨fun h=>⟨fun k hk=>(h k hk).1,fun k hk=>(h k hk).2⟩,fun h k hk=>⟨h.1 k hk,h.2 k hk⟩⟩
theorem zNE {x:Auc}(h:zAU x=true):1≤x.id∧x.id≤1099511627776:=by
 have:=(zCt h).1
 simpa [zu] using this
theorem zw {l:List Auc}:zAG l=true↔l.length≤32∧(∀ a∈l,zAU a=true)∧l.Pairwise fun a b=>a.id<b.id:=by
 have hb:∀ j,zBe l j=false↔zMy l j<(l.getD j default).id∧zAU (l.getD j default)=true:=fun j=>by
  unfold zBe;simp
 rw[← zLj,← zDT]
 unfold zAG
 simp only[Bool.and_eq_true,decide_eq_true_eq]
 constructor
 ·rintro⟨h1,h2⟩
  rcases zZ (zBe l) l.length with ⟨j,_,_,_,h4⟩|⟨h3,_⟩
  ·omega
  ·refine⟨by omega,fun k hk=>((hb k).1 (h3 k hk)).2,fun k hk=>?_⟩
   have:=((hb k).1 (h3 k hk)).1
   cases k with
   | zero=>exact .inl rfl
   | succ k=>exact .inr this
 ·rintro⟨h1,h2,h3⟩
  refine⟨?_,by omega⟩
  rw[zA4 fun j hj=>(hb j).2 ⟨?_,h2 j hj⟩]
  ·decide
  ·cases j with
   | zero=>have:=(zNE (h2 0 hj)).1;exact this
   | succ k => rcases h3 (k+1) hj with e|e
               ·cases e
               ·exact e
def zNF (k:Int):List Nat:=(zBT 3 k).1
structure EvOk (e:Evt):Prop where
 kind:1≤e.kind∧e.kind≤23
 len:e.nums.length=(zNF e.kind).length
 fit:∀ i,i<(zNF e.kind).length→zBg 3 ((zNF e.kind).getD i 0) (nF e.nums i)=true
 text:(zBT 3 e.kind).2=true→zAF (e.texts.getD 0 ByteArray.empty)=true
theorem zOd {e:Evt}(hv:e.v=3)(h:zAm e=true):EvOk e:=by
 unfold zAm zAj at h
 rw[hv] at h
 by_cases hk:1≤e.kind∧e.kind≤23
 ·by_cases hb:(1:Int)≤3∧(3:Int)≤3∧32 ∉ (zBT 3 e.kind).1
  ·rw[if_pos hb] at h
   simp only[Bool.and_eq_true] at h
   obtain⟨h1,h2⟩:=h
   unfold zBL at h1
   simp only[Bool.and_eq_true,beq_iff_eq,List.all_eq_true,List.mem_range] at h1
   refine⟨hk,h1.1.symm,fun i hi=>h1.2 i hi,fun ht=>?_⟩
   rw[if_pos ht] at h2
   simp only[Bool.and_eq_true] at h2
   exact h2.2
  ·rw[if_neg hb] at h;cases h
 ·have:¬ ((1:Int)≤3∧(3:Int)≤3∧32 ∉ (zBT 3 e.kind).1):=by
   unfold zBT;rw[if_neg hk];simp
  rw[if_neg this] at h;cases h
def bnd (c:Nat)(n:Int):Prop :=
 match zC6 3 c with
 | some (l,h)=>l≤n∧n≤h
 | none=>False
theorem zUw {c:Nat}{n:Int}(h:zBg 3 c n=true):bnd c n:=by
 unfold zBg at h;unfold bnd
 cases hb:zC6 3 c with
 | none=>rw[hb] at h;cases h
 | some p=>rw[hb] at h;simpa using h
theorem EvOk.at {e:Evt}(h:EvOk e)(i:Nat){c:Nat}(hc:(zNF e.kind)[i]?=some c):bnd c (nF e.nums i):=by
 have hi:i<(zNF e.kind).length:=(List.getElem?_eq_some_iff.1 hc).1
 have:=zUw (h.fit i hi)
 rwa [List.getD_eq_getElem?_getD,hc] at this
theorem zIL {n:Int}(h:bnd 97 n):1≤n∧n≤64:=h
theorem zDs {n:Int}(h:bnd 105 n):1≤n∧n≤16:=h
theorem bnd_o {n:Int}(h:bnd 111 n):1≤n∧n≤1099511627776:=h
theorem bnd_c {n:Int}(h:bnd 99 n):1≤n∧n≤1099511627776:=h
theorem zHH {n:Int}(h:bnd 109 n):1≤n∧n≤1125899906842624:=h
theorem bnd_z {n:Int}(h:bnd 122 n):0≤n∧n≤1125899906842624:=h
theorem zOe {n:Int}(h:bnd 112 n):1≤n∧n≤1073741824:=h
theorem bnd_k {n:Int}(h:bnd 107 n):1≤n∧n≤1073741824:=h
theorem zGL {n:Int}(h:bnd 113 n):1≤n∧n≤1048576:=h
theorem zSV {n:Int}(h:bnd 115 n):1≤n∧n≤2:=h
theorem bnd_b {n:Int}(h:bnd 98 n):0≤n∧n≤1000:=h
theorem zSW {n:Int}(h:bnd 116 n):1≤n∧n≤1099511627776:=h
theorem zCb {s:Sta}{a:Int}:zAD s a=true↔1≤a∧a≤s.accts.length∧(ac_ s.accts (a - 1).toNat).opn=true:=by
 unfold zAD zBI
 by_cases h:1≤a∧a≤s.accts.length∧(ac_ s.accts (a - 1).toNat).opn=true
 ·rw[if_pos h];exact⟨fun _=>h,fun _=>rfl⟩
 ·rw[if_neg h];exact⟨fun h'=>(by cases h'),fun h'=>absurd h' h⟩
theorem zAh {s:Sta}{a:Int}:zBH s a=true↔1≤a∧a≤s.insts.length:=by
 unfold zBH zB6
 by_cases h:1≤a∧a≤s.insts.length
 ·rw[if_pos h];exact⟨fun _=>h,fun _=>rfl⟩
 ·rw[if_neg h];exact⟨fun h'=>(by cases h'),fun h'=>absurd h' h⟩
theorem zOf {s:Sta}{a:Int}(h:zBH s a=true):(zB6 s.insts a).1=in_ s.insts (a - 1).toNat:=by
 unfold zB6;rw[if_pos (zAh.1 h)]
theorem zz {s:Sta}{o:Odr}:zCZ s o=true↔o.id<s.nextO∧zAD s o.acct=true∧zBH s o.inst=true∧o.price.tmod (in_ s.insts (o.inst - 1).toNat).tick=0:=by
 unfold zCZ
 simp only[Bool.and_eq_true,decide_eq_true_eq,beq_iff_eq]
 constructor
 ·rintro⟨⟨⟨a,b⟩,c⟩,d⟩;exact⟨a,b,c,by rw[zOf c] at d;exact d⟩
 ·rintro⟨a,b,c,d⟩;exact⟨⟨⟨a,b⟩,c⟩,by rw[zOf c];exact d⟩
theorem zAV {s:Sta}{x:Auc}:zCI s x=false↔x.id<s.nextA∧zAD s x.seller=true∧zBH s x.inst=true∧∀ b∈x.bids,zAD s b.acct=true:=by
 have hb:zHV s x.bids=false↔∀ b∈x.bids,zAD s b.acct=true:=by
  rw[← zDT]
  unfold zHV
  simp only[decide_eq_false_iff_not]
  rcases zZ (zGi s x.bids) x.bids.length with ⟨k,hk,_,hp,hx⟩|⟨hx,h2⟩
  ·refine⟨fun h=>absurd (by omega:idx (zGi s x.bids) x.bids.length ≥ 0) h,fun h=>?_⟩
   have:=h k hk
   unfold zGi at hp
   unfold zAD at this
   rw[this] at hp;cases hp
  ·refine⟨fun _ k hk=>?_,fun _=>by omega⟩
   have:=hx k hk
   unfold zGi at this
   simpa [zAD] using this
 unfold zCI
 simp only[Bool.or_eq_false_iff,decide_eq_false_iff_not,Bool.not_eq_false',hb]
 unfold zAD zBH
 constructor
 ·rintro⟨⟨⟨a,b⟩,c⟩,d⟩;exact⟨by omega,b,c,d⟩
 ·rintro⟨a,b,c,d⟩;exact⟨⟨⟨by omega,b⟩,c⟩,d⟩
theorem zAM {s:Sta}:zHD s=true↔(0≤s.clock∧s.clock≤1099511627776)∧(0≤s.fee∧s.fee≤1000)∧(1≤s.nextO∧s.nextO≤1099511627777)∧(1≤s.nextA∧s.nextA≤1099511627777):=by
 unfold zHD
 simp only[Bool.and_eq_true,zED,and_assoc]
theorem zSX {l:List Row4}{x:Pl}(h:atR l x≠(0,0)):∃ r∈l,zAE r=x:=by
 refine Classical.byContradiction fun hn=>h (zID fun r hr he=>hn ⟨r,hr,he⟩)
theorem dl_ne {p:List Pst}{x:Pl}(h:dlF p x≠(0,0)):∃ q∈p,q.acct=x.1∧q.asset=x.2:=by
 induction p with
 | nil=>exact absurd rfl h
 | cons q p ih =>
   rw[zBU] at h
   by_cases hq:q.acct=x.1∧q.asset=x.2
   ·exact⟨q,zz2 _,hq⟩
   ·rw[if_neg hq] at h
    obtain⟨t,ht,e⟩:=ih h
    exact⟨t,zz5 _ ht,e⟩
def InP (s:Sta)(p:List Pst):Prop:=∀ q∈p,(q.acct≤0∨zAD s q.acct=true)∧q.asset≤s.insts.length
theorem zUx {s:Sta}{p:List Pst}{r:List Row4}(hs:Good s)(hp:zBJ s.rows p=(r,0))(hin:InP s p):∀ t∈r,(t.acct≤0∨zAD s t.acct=true)∧t.asset≤s.insts.length:=by
 obtain⟨_,_,_,rfl,_,_⟩:=zOa hp
 intro t ht
 have hm:=zFK.1 ht
 have hne:zAI s.rows p (zAE t)≠(0,0):=by
  rw[hm.2.1];exact fun h=>hm.2.2 (Prod.mk.inj h)
 by_cases h1:atR s.rows (zAE t)=(0,0)
 ·have h2:dlF p (zAE t)≠(0,0):=fun h2=>hne (by unfold zAI;rw[h1,h2];rfl)
  obtain⟨q,hq,e1,e2⟩:=dl_ne h2
  have:=hin q hq
  rw[e1,e2] at this
  exact this
 ·obtain⟨q,hq,e⟩:=zSX h1
  have:=hs.rowsIn q hq
  have e1:q.acct=t.acct:=congrArg Prod.fst e
  have e2:q.asset=t.asset:=congrArg Prod.snd e
  rw[e1,e2] at this
  exact this
theorem Good.upd {s t:Sta}{p:List Pst}(h:Good s)(hp:zBJ s.rows p=(t.rows,0))(hin:InP s p)(hac:t.accts=s.accts)(hins:t.insts=s.insts)(hn:zHD t=true)(ho:za t.orders=true)(ho2:∀ o∈t.orders,zCZ t o=true)(ha:zAG t.aucs=true)(ha2:∀ a∈t.aucs,zCI t a=false)
  (hh:∀ x∈zBu,zp (zV t) x=zp (zV s) x+(dlF p x).2):Good t:=by
 obtain⟨_,_,_,_,h5,h6⟩:=zOa hp
 refine⟨hn,by rw[hac];exact h.accts,by rw[hins];exact h.insts,h5,fun r hr=>?_,ho,ho2,ha,ha2,fun x hx=>?_⟩
 ·have:=zUx h hp hin r hr
  unfold zAD at this ⊢
  rw[hac,hins];exact this
 ·rw[h6 x hx,hh x hx,← h.held x hx];rfl
theorem zDF {s t:Sta}{p:List Pst}(h:zh s p=(t,0)):zBJ s.rows p=(t.rows,0)∧t={ s with rows:=t.rows }:=by
 unfold zh at h
 by_cases h0:(zBJ s.rows p).2=0
 ·rw[if_pos h0] at h
  obtain rfl:=(Prod.mk.inj h).1
  exact⟨Prod.ext rfl h0,rfl⟩
 ·rw[if_neg h0] at h;exact absurd (Prod.mk.inj h).2 h0
theorem Good.free {s t:Sta}{p:List Pst}(h:Good s)(hp:zh s p=(t,0))(hin:InP s p)(h0:∀ q∈p,q.held=0):Good t:=by
 obtain⟨h1,h2⟩:=zDF hp
 have hd:∀ x,(dlF p x).2=0:=fun x=>by
  clear hp h1 hin
  induction p with
  | nil=>rfl
  | cons q p ih =>
    rw[zBU]
    have:=ih fun q hq=>h0 q (zz5 _ hq)
    split
    ·simp only[this,h0 q (List.Mem.head _)];rfl
    ·exact this
 rw[h2]
 refine h.upd (t:={ s with rows:=t.rows }) (by exact h1) hin rfl rfl h.nums h.ords h.ordsIn h.aucs h.aucsIn fun x _=>?_
 rw[hd x];show zp (zV s) x=_;omega
theorem zE0 {s t:Sta}{a b c n:Int}(h:Good s)(hp:zC8 s a b c n=(t,0))(ha:a≤0∨zAD s a=true)(hb:b≤0∨zAD s b=true)(hc:c≤s.insts.length):Good t:=by
 refine h.free hp (fun q hq=>?_) (fun q hq=>?_)
 ·simp only[List.mem_cons,List.not_mem_nil,or_false] at hq
  rcases hq with rfl|rfl
  ·exact⟨ha,hc⟩
  ·exact⟨hb,hc⟩
 ·simp only[List.mem_cons,List.not_mem_nil,or_false] at hq
  rcases hq with rfl|rfl<;>rfl
theorem Good.nums' {s t:Sta}(h:Good s)(hn:zHD t=true)(e1:t.accts=s.accts)(e2:t.insts=s.insts)(e3:t.rows=s.rows)(e4:t.orders=s.orders)(e5:t.aucs=s.aucs)(e6:s.nextO≤t.nextO)(e7:s.nextA≤t.nextA):Good t:=by
 have eo:∀ a,zAD t a=zAD s a:=fun a=>by unfold zAD;rw[e1]
 have eh:∀ a,zBH t a=zBH s a:=fun a=>by unfold zBH;rw[e2]
 refine⟨hn,by rw[e1];exact h.accts,by rw[e2];exact h.insts,by rw[e3];exact h.rows,fun r hr=>?_,by rw[e4];exact h.ords,fun o ho=>?_,by rw[e5];exact h.aucs,fun a ha=>?_,fun x hx=>?_⟩
 ·rw[eo,e2];exact h.rowsIn r (e3 ▸ hr)
 ·have:=zz.1 (h.ordsIn o (e4 ▸ ho))
  exact zz.2 ⟨by omega,by rw[eo];exact this.2.1,by rw[eh];exact this.2.2.1,by rw[e2];exact this.2.2.2⟩
 ·have:=zAV.1 (h.aucsIn a (e5 ▸ ha))
  exact zAV.2 ⟨by omega,by rw[eo];exact this.2.1,by rw[eh];exact this.2.2.1,fun b hb=>by rw[eo];exact this.2.2.2 b hb⟩
 ·rw[e3]
  have:zV t=zV s:=by unfold zV;rw[e4,e5]
  rw[this];exact h.held x hx
theorem Good.accts' {s:Sta}(h:Good s)(l:List Ac)(hl:zEv l=true)(hm:∀ a,zAD s a=true→zAD { s with accts:=l } a=true):Good { s with accts:=l }:=by
 refine⟨h.nums,hl,h.insts,h.rows,fun r hr=>?_,h.ords,fun o ho=>?_,h.aucs,fun a ha=>?_,h.held⟩
 ·have:=h.rowsIn r hr
  exact⟨this.1.imp id (hm _),this.2⟩
 ·have:=zz.1 (h.ordsIn o ho)
  exact zz.2 ⟨this.1,hm _ this.2.1,this.2.2.1,this.2.2.2⟩
 ·have:=zAV.1 (h.aucsIn a ha)
  exact zAV.2 ⟨this.1,hm _ this.2.1,this.2.2.1,fun b hb=>hm _ (this.2.2.2 b hb)⟩
theorem Good.insts' {s:Sta}(h:Good s)(l:List Ins)(hl:zC2 l=true)(hn:s.insts.length≤l.length)(ht:∀ o∈s.orders,o.price.tmod (in_ l (o.inst - 1).toNat).tick=0):Good { s with insts:=l }:=by
 have hm:∀ a,zBH s a=true→zBH { s with insts:=l } a=true:=fun a ha=>zAh.2 ⟨(zAh.1 ha).1,by have:=(zAh.1 ha).2;show a≤(l.length:Int);omega⟩
 refine⟨h.nums,h.accts,hl,h.rows,fun r hr=>?_,h.ords,fun o ho=>?_,h.aucs,fun a ha=>?_,h.held⟩
 ·have:=h.rowsIn r hr
  exact⟨this.1,by show r.asset≤(l.length:Int);omega⟩
 ·have:=zz.1 (h.ordsIn o ho)
  exact zz.2 ⟨this.1,this.2.1,hm _ this.2.2.1,ht o ho⟩
 ·have:=zAV.1 (h.aucsIn a ha)
  exact zAV.2 ⟨this.1,this.2.1,hm _ this.2.2.1,this.2.2.2⟩
theorem zSY {a b:ByteArray}:(a.toList==b.toList)=false↔a.data.toList≠b.data.toList:=by
 rw[ByteArray.toList_eq,ByteArray.toList_eq];simp
theorem zLk {l:List Ac}{t:ByteArray}(h:¬ zA9 l t ≥ 0):∀ x∈l,x.name.data.toList≠t.data.toList:=by
 rw[← zDT]
 unfold zA9 at h
 rcases zZ (zEu l t) l.length with ⟨k,_,_,_,h2⟩|⟨h1,_⟩
 ·omega
 ·exact fun k hk=>zSY.1 (h1 k hk)
theorem zGs (l:List ByteArray):zBf l=true↔(∀ x∈l,zAF x=true)∧(nmL l).Nodup:=by
 unfold zBf;simp
theorem zJQ {l:List ByteArray}{t:ByteArray}(h:zBf l=true)(ht:zAF t=true)(hn:∀ x∈l,x.data.toList≠t.data.toList):zBf (l++[t])=true:=by
 rw[zGs] at h ⊢
 refine⟨fun x hx=>?_,?_⟩
 ·rcases List.mem_append.1 hx with e|e
  ·exact h.1 x e
  ·rw[List.mem_singleton] at e;exact e ▸ ht
 ·unfold nmL
  rw[List.map_append,List.nodup_append]
  refine⟨h.2,by simp,fun a ha b hb=>?_⟩
  obtain⟨x,hx,rfl⟩:=List.mem_map.1 ha
  simp only[List.map_cons,List.map_nil,List.mem_singleton] at hb
  subst hb
  exact hn x hx
theorem zPs {l:List ByteArray}{t:ByteArray}(k:Nat)(h:zBf l=true)(ht:zAF t=true)(hn:∀ x∈l,x.data.toList≠t.data.toList):zBf (l.set k t)=true:=by
 rw[zGs] at h ⊢
 refine⟨fun x hx=>?_,?_⟩
 ·rcases List.mem_or_eq_of_mem_set hx with e|e
  ·exact h.1 x e
  ·exact e ▸ ht
 ·have h2:=h.2
  unfold nmL at h2 ⊢
  rw[List.Nodup,List.pairwise_iff_getElem] at h2 ⊢
  intro i j hi hj hij
  simp only[List.length_map,List.length_set] at hi hj
  have g:∀ m (hm:m<l.length),l[m].data.toList≠t.data.toList:=fun m hm=>hn _ (List.getElem_mem hm)
  simp only[List.getElem_map,List.getElem_set]
  have:=h2 i j (by simpa using hi) (by simpa using hj) hij
  simp only[List.getElem_map] at this
  by_cases h1:k=i
  ·by_cases h3:k=j
   ·omega
   ·rw[if_pos h1,if_neg h3];exact(g j hj).symm
  ·by_cases h3:k=j
   ·rw[if_neg h1,if_pos h3];exact g i hi
   ·rw[if_neg h1,if_neg h3];exact this
theorem zB7 {l:List Ac}:zEv l=true↔l.length≤64∧zBf (nmA l)=true:=by rw[zGB];simp
theorem ac_app {l:List Ac}{x:Ac}{k:Nat}(h:k<l.length):ac_ (l++[x]) k=ac_ l k:=by simp[ac_,List.getD_eq_getElem?_getD,List.getElem?_append_left h]
theorem zNG {s t:Sta}{n:List Int}{nm:ByteArray}(h:Good s)(hn:nF n 0≤64)(hm:zAF nm=true)(he:zEJ s n nm=(t,0)):Good t:=by
 unfold zEJ at he
 by_cases h1:nF n 0≠s.accts.length+1
 ·rw[if_pos h1] at he;exact absurd (Prod.mk.inj he).2 (by decide)
 rw[if_neg h1] at he
 by_cases h2:zA9 s.accts nm ≥ 0
 ·rw[if_pos h2] at he;exact absurd (Prod.mk.inj he).2 (by decide)
 rw[if_neg h2] at he
 obtain rfl:=(Prod.mk.inj he).1
 have ha:=zB7.1 h.accts
 refine h.accts' _ (zB7.2 ⟨by rw[List.length_append,List.length_singleton];omega,?_⟩) fun a ho=>?_
 ·have:=zJQ (t:=nm) ha.2 hm (fun x hx=>by
   obtain⟨y,hy,rfl⟩:=List.mem_map.1 hx
   exact zLk h2 y hy)
  simpa [nmA] using this
 ·obtain⟨o1,o2,o3⟩:=zCb.1 ho
  refine zCb.2 ⟨o1,?_,?_⟩
  ·show a≤((s.accts++[(⟨nm,true⟩:Ac)]).length:Int)
   rw[List.length_append];omega
  ·show(ac_ (s.accts++[(⟨nm,true⟩:Ac)]) (a - 1).toNat).opn=true
   rw[ac_app qO];exact o3
theorem zNH {l:List Ac}{x:Ac}{k j:Nat}(hk:k<l.length):ac_ (l.set k x) j=if j=k then x else ac_ l j:=by
 simp only[ac_,List.getD_eq_getElem?_getD]
 by_cases h:j=k
 ·subst h;simp[hk]
 ·rw[if_neg h,List.getElem?_set_ne qO]
theorem zLl {s t:Sta}{n:List Int}{nm:ByteArray}(h:Good s)(hm:zAF nm=true)(he:zDB s n nm=(t,0)):Good t:=by
 unfold zDB at he
 by_cases h1:zAD s (nF n 0)=true
 ·rw[if_pos h1] at he
  by_cases h2:zA9 s.accts nm ≥ 0
  ·rw[if_pos h2] at he;exact absurd (Prod.mk.inj he).2 (by decide)
  rw[if_neg h2] at he
  obtain rfl:=(Prod.mk.inj he).1
  have ha:=zB7.1 h.accts
  obtain⟨p1,p2,p3⟩:=zCb.1 h1
  refine h.accts' _ (zB7.2 ⟨by rw[List.length_set];exact ha.1,?_⟩) fun a ho=>?_
  ·have:=zPs (t:=nm) (nF n 0 - 1).toNat ha.2 hm (fun x hx=>by
    obtain⟨y,hy,rfl⟩:=List.mem_map.1 hx
    exact zLk h2 y hy)
   simpa [nmA,List.map_set] using this
  ·obtain⟨o1,o2,o3⟩:=zCb.1 ho
   refine zCb.2 ⟨o1,?_,?_⟩
   ·simpa using o2
   ·simp only
    rw[zNH qO]
    split
    ·rename_i e;rw[← e];exact o3
    ·exact o3
 ·rw[if_neg h1] at he;exact absurd (Prod.mk.inj he).2 (by decide)
theorem zB8 {l:List Ins}:zC2 l=true↔l.length≤16∧(∀ x∈l,1≤x.tick∧x.tick≤1073741824)∧zBf (nmI l)=true:=by
 rw[zEG,← zDT]
 simp only[Bool.and_eq_true,decide_eq_true_eq,List.all_eq_true,List.mem_range,zED]
 rfl
theorem in_app {l:List Ins}{x:Ins}{k:Nat}(h:k<l.length):in_ (l++[x]) k=in_ l k:=by simp[in_,List.getD_eq_getElem?_getD,List.getElem?_append_left h]
theorem zSZ {l:List Ins}{x:Ins}{k j:Nat}(hk:k<l.length):in_ (l.set k x) j=if j=k then x else in_ l j:=by
 simp only[in_,List.getD_eq_getElem?_getD]
 by_cases h:j=k
 ·subst h;simp[hk]
 ·rw[if_neg h,List.getElem?_set_ne qO]
theorem zNI {s t:Sta}{n:List Int}{nm:ByteArray}(h:Good s)(hn:nF n 0≤16)(hk:1≤nF n 1∧nF n 1≤1073741824)(hm:zAF nm=true)(he:zEL s n nm=(t,0)):Good t:=by
 unfold zEL at he
 by_cases h1:nF n 0≠s.insts.length+1
 ·rw[if_pos h1] at he;exact absurd (Prod.mk.inj he).2 (by decide)
 rw[if_neg h1] at he
 by_cases h2:(s.insts.any fun x=>x.name.toList==nm.toList)=true
 ·rw[if_pos h2] at he;exact absurd (Prod.mk.inj he).2 (by decide)
 rw[if_neg h2] at he
 obtain rfl:=(Prod.mk.inj he).1
 obtain⟨i1,i2,i3⟩:=zB8.1 h.insts
 refine h.insts' _ (zB8.2 ⟨by rw[List.length_append,List.length_singleton];omega,fun x hx=>?_,?_⟩) (by rw[List.length_append];omega) fun o ho=>?_
 ·rcases List.mem_append.1 hx with e|e
  ·exact i2 x e
  ·rw[List.mem_singleton] at e;subst e;exact hk
 ·have:=zJQ (t:=nm) i3 hm (fun x hx=>by
   obtain⟨y,hy,rfl⟩:=List.mem_map.1 hx
   have:=List.any_eq_false.1 (by simpa only[Bool.not_eq_true] using h2) y hy
   exact zSY.1 (by simpa only[Bool.not_eq_true] using this))
  simpa [nmI] using this
 ·have:=zz.1 (h.ordsIn o ho)
  have hi:=zAh.1 this.2.2.1
  rw[in_app qO];exact this.2.2.2
theorem zLm {s:Sta}(h:Good s){i:Int}(hi:zBH s i=true)(y:Ins)(hnm:y.name=(in_ s.insts (i - 1).toNat).name)(hk:1≤y.tick∧y.tick≤1073741824)(ht:∀ o∈s.orders,o.inst=i→o.price.tmod y.tick=0):Good { s with insts:=s.insts.set (i - 1).toNat y }:=by
 obtain⟨i1,i2,i3⟩:=zB8.1 h.insts
 obtain⟨j1,j2⟩:=zAh.1 hi
 refine h.insts' _ (zB8.2 ⟨by rw[List.length_set];exact i1,fun x hx=>?_,?_⟩) (by rw[List.length_set];exact zzC _) fun o ho=>?_
 ·rcases List.mem_or_eq_of_mem_set hx with e|e
  ·exact i2 x e
  ·rw[e];exact hk
 ·have:nmI (s.insts.set (i - 1).toNat y)=nmI s.insts:=by
   unfold nmI
   rw[List.map_set,hnm]
   have hlt:(i - 1).toNat<s.insts.length:=by omega
   have e:(in_ s.insts (i - 1).toNat).name=(s.insts.map (·.name))[(i - 1).toNat]'(by rw[List.length_map];exact hlt):=by
    rw[in_,List.getD_eq_getElem?_getD,List.getElem?_eq_getElem hlt,List.getElem_map];rfl
   rw[e]
   exact List.set_getElem_self _
  rw[this];exact i3
 ·have hs:=zz.1 (h.ordsIn o ho)
  rw[zSZ qO]
  split
  ·rename_i e
   have hb:=zAh.1 hs.2.2.1
   exact ht o ho qO
  ·exact hs.2.2.2
theorem zLn {s t:Sta}{n:List Int}{is:Bool}(h:Good s)(he:zFX s n is=(t,0)):Good t:=by
 unfold zFX at he
 by_cases h1:zBH s (nF n 0)=true
 ·rw[if_pos h1] at he
  simp only at he
  by_cases h2:(in_ s.insts (nF n 0 - 1).toNat).halted=is
  ·rw[if_pos h2] at he;exact absurd (Prod.mk.inj he).2 (by decide)
  rw[if_neg h2] at he
  obtain rfl:=(Prod.mk.inj he).1
  obtain⟨i1,i2,i3⟩:=zB8.1 h.insts
  obtain⟨j1,j2⟩:=zAh.1 h1
  refine zLm h h1 _ rfl (i2 (in_ s.insts (nF n 0 - 1).toNat) (zj (l:=s.insts) (k:=(nF n 0 - 1).toNat) qO)) fun o ho e=>?_
  have:=(zz.1 (h.ordsIn o ho)).2.2.2
  rw[e] at this;exact this
 ·rw[if_neg h1] at he;exact absurd (Prod.mk.inj he).2 (by decide)
theorem zNJ {s t:Sta}{n:List Int}(h:Good s)(hk:1≤nF n 1∧nF n 1≤1073741824)(he:zEM s n=(t,0)):Good t:=by
 unfold zEM at he
 by_cases h1:zBH s (nF n 0)=true
 ·rw[if_pos h1] at he
  by_cases h2:(s.orders.any fun o=>o.inst==nF n 0)=true
  ·rw[if_pos h2] at he;exact absurd (Prod.mk.inj he).2 (by decide)
  rw[if_neg h2] at he
  obtain rfl:=(Prod.mk.inj he).1
  refine zLm h h1 _ rfl hk fun o ho e=>?_
  have:=List.any_eq_false.1 (by simpa only[Bool.not_eq_true] using h2) o ho
  simp[e] at this
 ·rw[if_neg h1] at he;exact absurd (Prod.mk.inj he).2 (by decide)
theorem zUy {s:Sta}{z:Int}(h:Good s)(hz:0≤z∧z≤1000):Good { s with fee:=z }:=by
 have:=zAM.1 h.nums
 exact h.nums' (zAM.2 ⟨this.1,hz,this.2.2⟩) rfl rfl rfl rfl rfl (Int.le_refl _) (Int.le_refl _)
theorem zPt {s t:Sta}{n:List Int}(h:Good s)(hk:nF n 0≤1099511627776)(he:zGk s n=(t,0)):Good t:=by
 unfold zGk at he
 by_cases h1:nF n 0≤s.clock∨(s.aucs.any fun a=>zAX a s.clock)=true
 ·rw[if_pos h1] at he;exact absurd (Prod.mk.inj he).2 (by decide)
 rw[if_neg h1] at he
 obtain rfl:=(Prod.mk.inj he).1
 have:=zAM.1 h.nums
 exact h.nums' (zAM.2 ⟨⟨by show 0≤nF n 0;omega,hk⟩,this.2⟩) rfl rfl rfl rfl rfl (Int.le_refl _) (Int.le_refl _)
theorem Good.parts {s:Sta}(h:Good s):(zV s).length≤1024∧∀ y∈zV s,zSU y :=
 zIK (zCH.2 ⟨h.ords,fun _ hk=>h.ordsIn _ (zj hk)⟩) (zDD.2 ⟨h.aucs,fun _ hk=>h.aucsIn _ (zj hk)⟩)
theorem zDt {l:List P3}(h:∀ y∈l,0≤y.2.2)(x:Pl):0≤zp l x:=by
 induction l with
 | nil=>exact Int.le_refl _
 | cons y l ih =>
   rw[zDE]
   have h1:=ih fun q hq=>h q (zz5 _ hq)
   have h2:=h y (zz2 _)
   split<;>omega
theorem zLo {l:List P3}(h:∀ y∈l,0≤y.2.2){y:P3}(hy:y∈l):y.2.2≤zp l (zA5 y):=by
 induction l with
 | nil=>cases hy
 | cons q l ih =>
   rw[zDE]
   have h1:=h q (zz2 _)
   have hl:=fun z hz=>h z (zz5 q hz)
   rcases List.mem_cons.1 hy with rfl|e
   ·have:=zDt hl (zA5 y)
    rw[if_pos rfl];omega
   ·have:=ih hl e
    split<;>omega
theorem zSa {s:Sta}(h:Good s){y:P3}(hy:y∈zV s):∃ r∈s.rows,zAE r=zA5 y:=by
 obtain⟨_,po⟩:=h.parts
 have hp:=po y hy
 have hg:zA5 y∈zBu:=zDC.2 ⟨hp.2.1,hp.2.2⟩
 have h1:=h.held _ hg
 have h2:=zLo (fun q hq=>Int.le_of_lt (po q hq).1.1) hy
 refine zSX fun h0=>?_
 rw[h0] at h1
 have:=hp.1.1
 simp only at h1
 omega
theorem zDU {o:Odr}(h:zAW o):(zX o=(if o.side=1 then(0,o.price*o.left) else(o.inst,o.left)))∧0<(zX o).2:=by
 have e:zX o=(if o.side=1 then(0,o.price*o.left) else(o.inst,o.left)):=by unfold zX;rw[if_pos ((zAS o).2 h)]
 refine⟨e,?_⟩
 rw[e]
 obtain⟨_,_,_,_,g4,g5⟩:=h
 split
 ·have:=Int.mul_pos (show 0<o.price by omega) (show 0<o.left by omega)
  exact this
 ·show 0<o.left;omega
theorem zE1 {o:Odr}(h:zAW o):zAL o=[(o.acct,(zX o).1,(zX o).2)]:=by
 unfold zAL;rw[if_pos (zDU h).2]
theorem part_o {s:Sta}(h:Good s){o:Odr}(ho:o∈s.orders):(o.acct,(zX o).1,(zX o).2)∈zV s:=by
 unfold zV
 refine zz6 _ (List.mem_flatMap.2 ⟨o,ho,?_⟩)
 rw[zE1 ((zAK.1 h.ords).2.1 o ho)];exact zz2 _
theorem part_a {s:Sta}(h:Good s){a:Auc}(ha:a∈s.aucs):(a.seller,a.inst,a.qty)∈zV s∧∀ b∈a.bids,((b.acct,0,b.amount):P3)∈zV s:=by
 have hm:=(zw.1 h.aucs).2.1 a ha
 have hp:zU a=(a.seller,a.inst,a.qty)::a.bids.map (fun b=>(b.acct,0,b.amount)):=by unfold zU;rw[if_pos hm]
 unfold zV
 refine⟨zz3 _ (List.mem_flatMap.2 ⟨a,ha,by rw[hp];exact zz2 _⟩),fun b hb=>zz3 _ (List.mem_flatMap.2 ⟨a,ha,by rw[hp];exact zz5 _ (List.mem_map.2 ⟨b,hb,rfl⟩)⟩)⟩
theorem zNK {s t:Sta}{n:List Int}(h:Good s)(he:zEK s n=(t,0)):Good t:=by
 unfold zEK at he
 by_cases h1:zAD s (nF n 0)=true
 ·rw[if_pos h1] at he
  by_cases h2:(s.rows.any fun r=>r.acct==nF n 0)=true
  ·rw[if_pos h2] at he;exact absurd (Prod.mk.inj he).2 (by decide)
  rw[if_neg h2] at he
  obtain rfl:=(Prod.mk.inj he).1
  have hr:∀ r∈s.rows,r.acct≠nF n 0:=fun r hr=>by
   have:=List.any_eq_false.1 (by simpa only[Bool.not_eq_true] using h2) r hr
   simpa using this
  have hp:∀ y∈zV s,y.1≠nF n 0:=fun y hy e=>by
   obtain⟨r,hr',e'⟩:=zSa h hy
   exact hr r hr' ((congrArg Prod.fst e').trans e)
  obtain⟨p1,p2,p3⟩:=zCb.1 h1
  generalize hl:s.accts.set (nF n 0 - 1).toNat ⟨(ac_ s.accts (nF n 0 - 1).toNat).name,false⟩=l
  have hm:∀ a,zAD s a=true→a≠nF n 0→zAD { s with accts:=l } a=true:=fun a ha hne=>by
   obtain⟨o1,o2,o3⟩:=zCb.1 ha
   refine zCb.2 ⟨o1,?_,?_⟩
   ·show a≤(l.length:Int);rw[← hl,List.length_set];exact o2
   ·show(ac_ l (a - 1).toNat).opn=true
    rw[← hl,zNH qO,if_neg qO];exact o3
  have ha:=zB7.1 h.accts
  refine⟨h.nums,zB7.2 ⟨by show l.length≤64;rw[← hl,List.length_set];exact ha.1,?_⟩,h.insts,h.rows,fun r hr'=>?_,h.ords,fun o ho=>?_,h.aucs,fun a ha'=>?_,h.held⟩
  ·have:nmA l=nmA s.accts:=by
    unfold nmA
    have hlt:(nF n 0 - 1).toNat<s.accts.length:=by omega
    rw[← hl,List.map_set]
    have e:(ac_ s.accts (nF n 0 - 1).toNat).name=(s.accts.map (·.name))[(nF n 0 - 1).toNat]'(by rw[List.length_map];exact hlt):=by
     rw[ac_,List.getD_eq_getElem?_getD,List.getElem?_eq_getElem hlt,List.getElem_map];rfl
    simp only
    rw[e]
    exact List.set_getElem_self _
   show zBf (nmA l)=true
   rw[this];exact ha.2
  ·have:=h.rowsIn r hr'
   exact⟨this.1.imp id fun g=>hm _ g (hr r hr'),this.2⟩
  ·have:=zz.1 (h.ordsIn o ho)
   exact zz.2 ⟨this.1,hm _ this.2.1 (hp _ (part_o h ho)),this.2.2.1,this.2.2.2⟩
  ·have:=zAV.1 (h.aucsIn a ha')
   obtain⟨q1,q2⟩:=part_a h ha'
   exact zAV.2 ⟨this.1,hm _ this.2.1 (hp _ q1),this.2.2.1,fun b hb=>hm _ (this.2.2.2 b hb) (hp _ (q2 b hb))⟩
 ·rw[if_neg h1] at he;exact absurd (Prod.mk.inj he).2 (by decide)
theorem zIM {s:Sta}{a i p:Int}{m:Bool}(h:zAR s a i p m=0):zAD s a=true∧zBH s i=true∧(in_ s.insts (i - 1).toNat).halted=false∧p.tmod (in_ s.insts (i - 1).toNat).tick=0∧m=false:=by
 unfold zAR at h
 by_cases h1:zAD s a=true∧zBH s i=true
 ·rw[if_pos h1] at h
  simp only at h
  by_cases h2:(in_ s.insts (i - 1).toNat).halted=true
  ·rw[if_pos h2] at h;cases h
  rw[if_neg h2] at h
  by_cases h3:p.tmod (in_ s.insts (i - 1).toNat).tick≠0
  ·rw[if_pos h3] at h;cases h
  rw[if_neg h3] at h
  by_cases h4:m=true
  ·rw[if_pos h4] at h;cases h
  exact⟨h1.1,h1.2,by simpa using h2,Decidable.of_not_not h3,by simpa using h4⟩
 ·rw[if_neg h1] at h;cases h
theorem zIN (a s f g:Int)(x:Pl):(dlF [⟨a,s,f,g⟩] x).2=if ((a,s):Pl)=x then g else 0:=by
 rw[zBU]
 by_cases h:a=x.1∧s=x.2
 ·rw[if_pos h,if_pos (Prod.ext h.1 h.2)];show(dlF [] x).2+g=g;show(0:Int)+g=g;omega
 ·rw[if_neg h,if_neg fun e=>h ⟨congrArg Prod.fst e,congrArg Prod.snd e⟩];rfl
theorem zDG (a s n:Int)(x:Pl):zp [(a,s,n)] x=if ((a,s):Pl)=x then n else 0:=by
 rw[zDE,zGr]
 show(if ((a,s):Pl)=x then n else 0)+0=_
 omega
theorem zLp {l:List Odr}{o:Odr}(h:za l=true)(ho:zx o=true)(hlt:∀ x∈l,x.id<o.id)(hn:l.length<128):zEx l o=(l++[o],0):=by
 unfold zEx
 rw[if_pos ⟨h,ho⟩]
 have hf:(zT l o.id).2=false:=by
  unfold zT
  rw[if_pos h,List.find?_eq_none.2 fun x hx=>by have:=hlt x hx;simp;omega]
 rw[hf]
 rw[if_neg (by simp),if_neg qO,List.filter_eq_self.2 fun x hx=>decide_eq_true (hlt x hx),List.filter_eq_nil_iff.2 fun x hx=>by have:=hlt x hx;simp;omega]
theorem zNL {s t:Sta}{n:List Int}(h:Good s)(hm:zx ⟨nF n 0,nF n 1,nF n 2,nF n 3,nF n 4,nF n 5⟩=true)(he:zCo s n=(t,0)):Good t:=by
 unfold zCo at he
 simp only at he
 generalize ho:(⟨nF n 0,nF n 1,nF n 2,nF n 3,nF n 4,nF n 5⟩:Odr)=o at he hm
 have hid:nF n 0=o.id:=by rw[← ho]
 have hac:nF n 1=o.acct:=by rw[← ho]
 have hin:nF n 2=o.inst:=by rw[← ho]
 have hpr:nF n 4=o.price:=by rw[← ho]
 rw[hid,hac,hin,hpr] at he
 by_cases h1:o.id≠s.nextO
 ·rw[if_pos h1] at he;exact absurd (Prod.mk.inj he).2 (by decide)
 rw[if_neg h1] at he
 by_cases h2:zAR s o.acct o.inst o.price (decide (128≤s.orders.length))≠0
 ·rw[if_pos h2] at he;exact absurd (Prod.mk.inj he).2 h2
 rw[if_neg h2] at he
 obtain⟨q1,q2,_,q4,q5⟩:=zIM (Decidable.of_not_not h2)
 by_cases h3:(zAY s o.acct (zX o).1 (zX o).2).2≠0
 ·rw[if_pos h3] at he;rw[he] at h3;exact absurd rfl h3
 rw[if_neg h3] at he
 obtain rfl:=(Prod.mk.inj he).1
 have hm':=(zAS o).1 hm
 obtain⟨e1,e2⟩:=zDU hm'
 obtain⟨r1,r2⟩:=zDF (s:=s) (p:=[⟨o.acct,(zX o).1,-(zX o).2,(zX o).2⟩]) (t:=(zAY s o.acct (zX o).1 (zX o).2).1) (Prod.ext rfl (Decidable.of_not_not h3))
 have hlt:∀ x∈s.orders,x.id<o.id:=fun x hx=>by have:=(zz.1 (h.ordsIn x hx)).1;omega
 have hlen:s.orders.length<128:=by have:=zzB q5;omega
 have hadd:=zLp h.ords hm hlt hlen
 obtain⟨o1,o2,o3⟩:=zAK.1 h.ords
 have hn:=zAM.1 h.nums
 generalize (zAY s o.acct (zX o).1 (zX o).2).1=u at r1 r2 ⊢
 have u1:u.accts=s.accts:=by rw[r2]
 have u2:u.insts=s.insts:=by rw[r2]
 have u3:u.aucs=s.aucs:=by rw[r2]
 have u4:u.clock=s.clock∧u.fee=s.fee∧u.nextA=s.nextA:=by rw[r2];exact⟨rfl,rfl,rfl⟩
 have eo:∀ a,zAD { u with orders:=(zEx s.orders o).1,nextO:=s.nextO+1 } a=zAD s a:=fun a=>by unfold zAD;simp only;rw[u1]
 have eh:∀ a,zBH { u with orders:=(zEx s.orders o).1,nextO:=s.nextO+1 } a=zBH s a:=fun a=>by unfold zBH;simp only;rw[u2]
 have hinst:(zX o).1≤s.insts.length:=by
  rw[e1]
  split
  ·show(0:Int)≤_;omega
  ·exact(zAh.1 q2).2
 refine h.upd r1 ?_ u1 u2 (zAM.2 ?_) ?_ ?_ ?_ ?_ ?_
 ·intro q hq
  rw[List.mem_singleton] at hq;subst hq
  exact⟨.inr q1,hinst⟩
 ·simp only
  rw[u4.1,u4.2.1,u4.2.2]
  have:=hm'.1
  exact⟨hn.1,hn.2.1,by omega,hn.2.2.2⟩
 ·simp only
  rw[hadd]
  refine zAK.2 ⟨by rw[List.length_append,List.length_singleton];omega,fun x hx=>?_,?_⟩
  ·rcases List.mem_append.1 hx with e|e
   ·exact o2 x e
   ·rw[List.mem_singleton] at e;subst e;exact hm'
  ·rw[List.pairwise_append]
   exact⟨o3,by simp,fun a ha b hb=>by rw[List.mem_singleton] at hb;subst hb;exact hlt a ha⟩
 ·intro x hx
  simp only at hx
  rw[hadd] at hx
  refine zz.2 ?_
  rw[eo,eh]
  simp only
  rw[u2]
  rcases List.mem_append.1 hx with e|e
  ·have:=zz.1 (h.ordsIn x e)
   exact⟨by omega,this.2⟩
  ·rw[List.mem_singleton] at e;subst e
   exact⟨by omega,q1,q2,q4⟩
 ·simp only;rw[u3];exact h.aucs
 ·intro a ha
  simp only at ha
  rw[u3] at ha
  have:=zAV.1 (h.aucsIn a ha)
  refine zAV.2 ?_
  simp only[eo,eh]
  rw[u4.2.2]
  exact this
 ·intro x _
  unfold zV
  simp only
  rw[u3,hadd,List.flatMap_append,List.flatMap_singleton,zE1 hm',ze,ze,ze,zDG,zIN]
  omega
def zDV (o:Odr):Int:=if o.side=1 then o.price else 1
theorem zFN {o:Odr}(h:zAW o):(zX o).2=zDV o*o.left:=by
 rw[(zDU h).1];unfold zDV
 split
 ·rfl
 ·show o.left=1*o.left;omega
def zBi (o:Odr)(q:Int):Odr:={ o with left:=o.left - q }
theorem zLq {o:Odr}(h:zAW o){q:Int}(h1:1≤q)(h2:q<o.left):zAW (zBi o q):=by
 obtain⟨a,b,c,d,e,f⟩:=h
 exact⟨a,b,c,d,e,by show 1≤o.left - q∧o.left - q≤1048576;omega⟩
theorem zPu {o:Odr}(h:zAW o){q:Int}(h1:1≤q)(h2:q<o.left):(zX (zBi o q)).1=(zX o).1∧(zX (zBi o q)).2=(zX o).2 - zDV o*q:=by
 have h':=zLq h h1 h2
 constructor
 ·rw[(zDU h').1,(zDU h).1]
  show(if o.side=1 then((0:Int),o.price*(o.left - q)) else(o.inst,o.left - q)).1=_
  split<;>rfl
 ·rw[zFN h',zFN h]
  show zDV o*(o.left - q)=_
  rw[Int.mul_sub]
theorem zLr {l:List Odr}(h:l.Pairwise fun a b=>a.id<b.id){o:Odr}(ho:o∈l):∃ a b,l=a++o::b∧(∀ x∈a,x.id≠o.id)∧∀ x∈b,x.id≠o.id:=by
 obtain⟨a,b,rfl⟩:=List.append_of_mem ho
 rw[List.pairwise_append,List.pairwise_cons] at h
 refine⟨a,b,rfl,fun x hx=>?_,fun x hx=>?_⟩
 ·have:=h.2.2 x hx o (zz2 _);omega
 ·have:=h.2.1.1 x hx;omega
theorem zIO {a b:List Odr}{o:Odr}{q:Int}(ha:∀ x∈a,x.id≠o.id)(hb:∀ x∈b,x.id≠o.id)(hpa:∀ x∈a,x.left≠0)(hpb:∀ x∈b,x.left≠0) :
  zBa (a++o::b) o.id q=a++((if o.left - q=0 then[] else[zBi o q])++b):=by
 have key:∀ l:List Odr,(∀ x∈l,x.id≠o.id)→(∀ x∈l,x.left≠0)→(l.map fun z=>if z.id=o.id then{ z with left:=z.left - q } else z).filter (fun z=>decide (z.left≠0))=l:=by
  intro l h1 h2
  have:(l.map fun z=>if z.id=o.id then{ z with left:=z.left - q } else z)=l:=by
   conv=>rhs;rw[← List.map_id l]
   exact List.map_congr_left fun z hz=>by rw[if_neg (h1 z hz)];rfl
  rw[this]
  exact List.filter_eq_self.2 fun z hz=>decide_eq_true (h2 z hz)
 unfold zBa
 rw[List.map_append,List.filter_append,key a ha hpa,List.map_cons,List.filter_cons,key b hb hpb,if_pos rfl]
 congr 1
 by_cases h0:o.left - q=0
 ·rw[if_pos h0,if_neg (by simp[h0])];rfl
 ·rw[if_neg h0,if_pos (by simp;exact h0)];rfl
structure TakeFx (l m:List Odr)(o:Odr)(q:Int):Prop where
 ok:za m=true
 mem:∀ x∈m,x∈l∧x.id≠o.id∨x=zBi o q∧q<o.left
 keep:∀ x∈l,x.id≠o.id→x∈m
 held:∀ x,zp (m.flatMap zAL) x=zp (l.flatMap zAL) x - (if ((o.acct,(zX o).1):Pl)=x then zDV o*q else 0)
theorem zGM {l:List Odr}(h:za l=true){o:Odr}(ho:o∈l){q:Int}(h1:1≤q)(h2:q≤o.left):TakeFx l (zBa l o.id q) o q:=by
 obtain⟨l1,l2,l3⟩:=zAK.1 h
 obtain⟨a,b,rfl,ha,hb⟩:=zLr l3 ho
 have hm:=l2 o ho
 have hp:∀ x∈a++o::b,x.left≠0:=fun x hx=>by have:=(l2 x hx).2.2.2.2.2;omega
 rw[zIO ha hb (fun x hx=>hp x (List.mem_append_left _ hx)) (fun x hx=>hp x (List.mem_append_right _ (List.Mem.tail _ hx)))]
 rw[List.pairwise_append,List.pairwise_cons] at l3
 by_cases h0:o.left - q=0
 ·rw[if_pos h0,List.nil_append]
  refine⟨zAK.2 ⟨?_,fun x hx=>?_,?_⟩,fun x hx=>.inl ?_,fun x hx hne=>?_,fun x=>?_⟩
  ·simp only[List.length_append,List.length_cons] at l1 ⊢;omega
  ·rcases List.mem_append.1 hx with e|e
   ·exact l2 x (zz6 _ e)
   ·exact l2 x (zz3 _ (zz5 _ e))
  ·rw[List.pairwise_append]
   exact⟨l3.1,l3.2.1.2,fun x hx y hy=>l3.2.2 x hx y (zz5 _ hy)⟩
  ·rcases List.mem_append.1 hx with e|e
   ·exact⟨zz6 _ e,ha x e⟩
   ·exact⟨zz3 _ (zz5 _ e),hb x e⟩
  ·rcases List.mem_append.1 hx with e|e
   ·exact zz6 _ e
   ·rcases List.mem_cons.1 e with e|e
    ·subst e;exact absurd rfl hne
    ·exact zz3 _ e
  ·rw[List.flatMap_append,List.flatMap_append,List.flatMap_cons,ze,ze,ze,zE1 hm,zDG,zFN hm,show q=o.left by omega]
   split<;>omega
 ·rw[if_neg h0]
  have hlt:q<o.left:=by omega
  have hm':=zLq hm h1 hlt
  refine⟨zAK.2 ⟨?_,fun x hx=>?_,?_⟩,fun x hx=>?_,fun x hx hne=>?_,fun x=>?_⟩
  ·simp only[List.length_append,List.length_cons,List.length_nil] at l1 ⊢;omega
  ·rcases List.mem_append.1 hx with e|e
   ·exact l2 x (zz6 _ e)
   ·rcases List.mem_append.1 e with e|e
    ·rw[List.mem_singleton] at e;subst e;exact hm'
    ·exact l2 x (zz3 _ (zz5 _ e))
  ·rw[List.singleton_append,List.pairwise_append,List.pairwise_cons]
   refine⟨l3.1,⟨fun y hy=>l3.2.1.1 y hy,l3.2.1.2⟩,fun x hx y hy=>?_⟩
   rcases List.mem_cons.1 hy with e|e
   ·subst e;exact l3.2.2 x hx o (zz2 _)
   ·exact l3.2.2 x hx y (zz5 _ e)
  ·rcases List.mem_append.1 hx with e|e
   ·exact .inl ⟨zz6 _ e,ha x e⟩
   ·rcases List.mem_append.1 e with e|e
    ·rw[List.mem_singleton] at e;exact .inr ⟨e,hlt⟩
    ·exact .inl ⟨zz3 _ (zz5 _ e),hb x e⟩
  ·rcases List.mem_append.1 hx with e|e
   ·exact zz6 _ e
   ·rcases List.mem_cons.1 e with e|e
    ·subst e;exact absurd rfl hne
    ·exact zz3 _ (zz3 _ e)
  ·obtain⟨g1,g2⟩:=zPu hm h1 hlt
   rw[List.flatMap_append,ze,List.flatMap_append,ze,List.flatMap_singleton,List.flatMap_append,ze,List.flatMap_cons,ze,zE1 hm,zE1 hm',zDG,zDG,g1,g2]
   show _+((if ((o.acct,(zX o).1):Pl)=x then(zX o).2 - zDV o*q else 0)+_)=_
   split<;>omega
theorem zCr {l:List Odr}{id:Int}(h:(zT l id).2=true):za l=true∧(zT l id).1∈l∧(zT l id).1.id=id:=by
 unfold zT at h ⊢
 by_cases h1:za l=true
 ·rw[if_pos h1] at h ⊢
  cases hf:l.find? (fun o=>o.id==id) with
  | none=>rw[hf] at h;cases h
  | some o =>
    have:=List.find?_some hf
    exact⟨h1,List.mem_of_find?_eq_some hf,by simpa using this⟩
 ·rw[if_neg h1] at h;cases h
theorem zBV {l:List Odr}(h:za l=true){o:Odr}(ho:o∈l):zT l o.id=(o,true):=by
 unfold zT
 rw[if_pos h]
 obtain⟨_,_,l3⟩:=zAK.1 h
 cases hf:l.find? (fun x=>x.id==o.id) with
 | none=>have:=List.find?_eq_none.1 hf o ho;simp at this
 | some x =>
   have h1:=List.find?_some hf
   have h2:=List.mem_of_find?_eq_some hf
   obtain⟨a,b,rfl,ha,hb⟩:=zLr l3 ho
   have:x=o:=by
    rcases List.mem_append.1 h2 with e|e
    ·exact absurd (by simpa using h1) (ha x e)
    ·rcases List.mem_cons.1 e with e|e
     ·exact e
     ·exact absurd (by simpa using h1) (hb x e)
   rw[this]
theorem zDu {l:List Odr}(h:za l=true){o:Odr}(ho:o∈l){q:Int}(h1:1≤q)(h2:q≤o.left):zAx l o.id q=(zBa l o.id q,0):=by
 unfold zAx
 rw[if_pos h,zBV h ho,if_pos rfl,if_neg (by simp only;omega)]
theorem zGN {s u:Sta}{m:List Odr}(h:Good s)(e1:u.accts=s.accts)(e2:u.insts=s.insts)(e3:u.nextO=s.nextO)(hm:∀ x∈m,∃ y∈s.orders,x.id=y.id∧x.acct=y.acct∧x.inst=y.inst∧x.price=y.price):∀ x∈m,zCZ u x=true:=by
 intro x hx
 obtain⟨y,hy,a1,a2,a3,a4⟩:=hm x hx
 have:=zz.1 (h.ordsIn y hy)
 refine zz.2 ?_
 unfold zAD zBH at *
 rw[e1,e2,e3,a1,a2,a3,a4]
 exact this
theorem zKT {s u:Sta}(h:Good s)(e1:u.accts=s.accts)(e2:u.insts=s.insts)(e3:u.nextA=s.nextA):∀ a∈s.aucs,zCI u a=false:=by
 intro a ha
 have:=zAV.1 (h.aucsIn a ha)
 refine zAV.2 ?_
 unfold zAD zBH at *
 rw[e1,e2,e3]
 exact this
theorem zIx {s t:Sta}{n:List Int}(h:Good s)(he:zBN s n=(t,0)):Good t:=by
 unfold zBN at he
 simp only at he
 by_cases h1:(zT s.orders (nF n 0)).2=true
 ·rw[if_pos h1] at he
  obtain⟨_,f1,f2⟩:=zCr h1
  generalize (zT s.orders (nF n 0)).1=o at he f1 f2
  have hm:=(zAK.1 h.ords).2.1 o f1
  have hl:=hm.2.2.2.2.2
  have hd:(zC7 s.orders o.id).1=zBa s.orders o.id o.left:=by
   unfold zC7
   rw[zBV h.ords f1,zDu h.ords f1 hl.1 (Int.le_refl _)]
  rw[hd] at he
  have fx:=zGM h.ords f1 hl.1 (Int.le_refl o.left)
  obtain⟨r1,r2⟩:=zDF he
  have ho:=zz.1 (h.ordsIn o f1)
  have hinst:(zX o).1≤s.insts.length:=by
   rw[(zDU hm).1]
   split
   ·show(0:Int)≤_;omega
   ·exact(zAh.1 ho.2.2.1).2
  have u1:t.accts=s.accts:=by rw[r2]
  have u2:t.insts=s.insts:=by rw[r2]
  have u3:t.aucs=s.aucs:=by rw[r2]
  have u4:t.orders=zBa s.orders o.id o.left:=by rw[r2]
  have u5:t.nextO=s.nextO:=by rw[r2]
  have u6:t.nextA=s.nextA:=by rw[r2]
  have u7:t.clock=s.clock:=by rw[r2]
  have u8:t.fee=s.fee:=by rw[r2]
  refine h.upd r1 ?_ u1 u2 (zAM.2 (by rw[u5,u6,u7,u8];exact zAM.1 h.nums)) (by rw[u4];exact fx.ok) ?_ (by rw[u3];exact h.aucs) (by rw[u3];exact zKT h u1 u2 u6) ?_
  ·intro q hq
   rw[List.mem_singleton] at hq;subst hq
   exact⟨.inr ho.2.1,hinst⟩
  ·rw[u4]
   refine zGN h u1 u2 u5 fun x hx=>?_
   rcases fx.mem x hx with e|e
   ·exact⟨x,e.1,rfl,rfl,rfl,rfl⟩
   ·exact absurd e.2 (Int.lt_irrefl _)
  ·intro x _
   unfold zV
   rw[u3,u4,ze,ze,fx.held x,zIN,zFN hm]
   split<;>omega
 ·rw[if_neg h1] at he;exact absurd (Prod.mk.inj he).2 (by decide)
theorem zBj {o u:Odr}(h:zo o u=true):zAW o∧zAW u∧o.inst=u.inst∧o.side≠u.side∧(if o.side=1 then u.price≤o.price else o.price≤u.price):=by
 unfold zo at h
 simp only[Bool.and_eq_true,zAS,beq_iff_eq,bne_iff_ne] at h
 refine⟨h.1.1.1.1,h.1.1.1.2,h.1.1.2,h.1.2,?_⟩
 have:=h.2
 split
 ·rename_i e;rw[if_pos e] at this;simpa using this
 ·rename_i e;rw[if_neg e] at this;simpa using this
theorem zIP {b l:Odr}(hb:zAW b)(hl:zAW l)(sb:b.side=1)(sl:l.side=2)(inst p q f:Int)(hi:l.inst=inst)(x:Pl) :
  (dlF (zBO b l inst p q f) x).2=-(if ((b.acct,(zX b).1):Pl)=x then zDV b*q else 0) - (if ((l.acct,(zX l).1):Pl)=x then zDV l*q else 0):=by
 have e1:(zX b).1=0:=by rw[(zDU hb).1,if_pos sb]
 have e2:(zX l).1=inst:=by rw[(zDU hl).1,if_neg qO];exact hi
 have e3:zDV b=b.price:=by unfold zDV;rw[if_pos sb]
 have e4:zDV l=1:=by unfold zDV;rw[if_neg qO]
 have step:∀ (a s f g:Int) (p:List Pst),(dlF (⟨a,s,f,g⟩::p) x).2=(dlF p x).2+if ((a,s):Pl)=x then g else 0:=by
  intro a s f g p
  rw[zBU]
  by_cases h:a=x.1∧s=x.2
  ·rw[if_pos h,if_pos (Prod.ext h.1 h.2)]
  ·rw[if_neg h,if_neg fun e=>h ⟨congrArg Prod.fst e,congrArg Prod.snd e⟩];omega
 unfold zBO
 rw[step,step,step,step,step,e1,e2,e3,e4,Int.neg_mul]
 show((((0+_)+_)+_)+_)+_=_
 have z:∀ c:Prop,[Decidable c]→(if c then(0:Int) else 0)=0:=fun c _=>by split<;>rfl
 rw[z,z,z]
 split<;>split<;>omega
theorem zNM {s t:Sta}{n:List Int}(h:Good s)(he:zDR s n=(t,0)):Good t:=by
 unfold zDR at he
 simp only at he
 by_cases h1:(zT s.orders (nF n 0)).2=true∧(zT s.orders (nF n 1)).2=true
 ·rw[if_pos h1] at he
  obtain⟨_,f1,f2⟩:=zCr h1.1
  obtain⟨_,g1,g2⟩:=zCr h1.2
  generalize (zT s.orders (nF n 0)).1=o at he f1 f2
  generalize (zT s.orders (nF n 1)).1=u at he g1 g2
  by_cases h2:zC9 s n o u=true
  ·rw[if_pos h2] at he
   unfold zC9 at h2
   simp only[Bool.and_eq_true,beq_iff_eq] at h2
   obtain⟨⟨⟨⟨⟨_,_⟩,hc⟩,hp⟩,hq⟩,hf⟩:=h2
   obtain⟨mo,mu,hin,hsd,hpr⟩:=zBj hc
   by_cases h3:o.acct=u.acct
   ·rw[if_pos h3] at he;exact absurd (Prod.mk.inj he).2 (by decide)
   rw[if_neg h3] at he
   generalize nF n 2=price at *
   generalize nF n 3=qty at *
   generalize nF n 4=fee at *
   generalize hP:(if o.side=2 then zBO u o o.inst price qty fee else zBO o u o.inst price qty fee)=P at he
   by_cases h4:(zh s P).2≠0
   ·rw[if_pos h4] at he;rw[he] at h4;exact absurd rfl h4
   rw[if_neg h4] at he
   obtain rfl:=(Prod.mk.inj he).1
   obtain⟨r1,r2⟩:=zDF (s:=s) (p:=P) (t:=(zh s P).1) (Prod.ext rfl (Decidable.of_not_not h4))
   generalize (zh s P).1=w at r1 r2 ⊢
   have lo:=mo.2.2.2.2.2
   have lu:=mu.2.2.2.2.2
   have q1:1≤qty:=by omega
   have q2:qty≤o.left:=by omega
   have q3:qty≤u.left:=by omega
   have fx:=zGM h.ords f1 q1 q2
   have hne:u.id≠o.id:=fun e=>by
    have:=zBV h.ords f1
    rw[← e,zBV h.ords g1] at this
    have:=(Prod.mk.inj this).1
    rw[this] at hsd
    exact hsd rfl
   have gx:=zGM fx.ok (fx.keep u g1 hne) q1 q3
   have e1:(zAx (zAx s.orders o.id qty).1 u.id qty).1=zBa (zBa s.orders o.id qty) u.id qty:=by
    rw[zDu h.ords f1 q1 q2,zDu fx.ok (fx.keep u g1 hne) q1 q3]
   rw[e1]
   have ho:=zz.1 (h.ordsIn o f1)
   have hu:=zz.1 (h.ordsIn u g1)
   have u1:w.accts=s.accts:=by rw[r2]
   have u2:w.insts=s.insts:=by rw[r2]
   have u3:w.aucs=s.aucs:=by rw[r2]
   have u5:w.nextO=s.nextO:=by rw[r2]
   have u6:w.nextA=s.nextA:=by rw[r2]
   have u7:w.clock=s.clock:=by rw[r2]
   have u8:w.fee=s.fee:=by rw[r2]
   have hs1:=mo.2.2.2.1
   have hs2:=mu.2.2.2.1
   have hdl:∀ x,(dlF P x).2=-(if ((o.acct,(zX o).1):Pl)=x then zDV o*qty else 0) - (if ((u.acct,(zX u).1):Pl)=x then zDV u*qty else 0):=fun x=>by
    rw[← hP]
    by_cases h5:o.side=2
    ·rw[if_pos h5,zIP mu mo qO h5 _ _ _ _ rfl];omega
    ·rw[if_neg h5,zIP mo mu qO qO _ _ _ _ hin.symm]
   have hinP:InP s P:=by
    have hi:=zAh.1 ho.2.2.1
    rw[← hP]
    intro q hq
    have z:(0:Int)≤s.insts.length:=by omega
    split at hq <;>
    ·unfold zBO at hq
     simp only[List.mem_cons,List.not_mem_nil,or_false] at hq
     rcases hq with rfl|rfl|rfl|rfl|rfl
     ·exact⟨.inr (by first|exact hu.2.1|exact ho.2.1),z⟩
     ·exact⟨.inr (by first|exact ho.2.1|exact hu.2.1),z⟩
     ·exact⟨.inl (Int.le_refl _),z⟩
     ·exact⟨.inr (by first|exact ho.2.1|exact hu.2.1),hi.2⟩
     ·exact⟨.inr (by first|exact hu.2.1|exact ho.2.1),hi.2⟩
   refine h.upd (t:={ w with orders:=zBa (zBa s.orders o.id qty) u.id qty }) r1 hinP u1 u2 (zAM.2 (by simp only;rw[u5,u6,u7,u8];exact zAM.1 h.nums)) gx.ok ?_ (by simp only;rw[u3];exact h.aucs) (by simp only;rw[u3];exact zKT h u1 u2 u6) ?_
   ·refine zGN (s:=s) h u1 u2 u5 fun x hx=>?_
    have back:∀ y,y∈zBa s.orders o.id qty→∃ z∈s.orders,y.id=z.id∧y.acct=z.acct∧y.inst=z.inst∧y.price=z.price:=fun y hy=>by
     rcases fx.mem y hy with e|e
     ·exact⟨y,e.1,rfl,rfl,rfl,rfl⟩
     ·rw[e.1];exact⟨o,f1,rfl,rfl,rfl,rfl⟩
    rcases gx.mem x hx with e|e
    ·exact back x e.1
    ·rw[e.1];exact⟨u,g1,rfl,rfl,rfl,rfl⟩
   ·intro x _
    unfold zV
    simp only
    rw[u3,ze,ze,gx.held x,fx.held x,hdl x]
    omega
  ·rw[if_neg h2] at he;exact absurd (Prod.mk.inj he).2 (by decide)
 ·rw[if_neg h1] at he;exact absurd (Prod.mk.inj he).2 (by decide)
end Go.Proofs.YtejhijhnlogikaaGreatDoor
