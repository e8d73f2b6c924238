/- Texts of ours, joined: the steps of the proof, or the claim's theorem. -/
import Derived.Test.YtibmaifoaajllaaGreatDoorQa27
set_option linter.unusedSimpArgs false
set_option linter.unusedVariables false
set_option maxHeartbeats 16000000
namespace Go.Proofs.YtibmaifoaajllaaGreatDoor
section
open Go Go.Sk Go.RowKit
attribute [local irreducible] Go.Calls
structure Ow where
 k:Nat
 a:Option Addr
 cap:Nat
 ad:Nat→Option Addr × Nat
 mo:zH
 mb:zH
theorem zDJ {s:Sta}:zDE s=true↔zAS s.aucs=true∧∀ k,k<s.aucs.length→zCH s (s.aucs.getD k default)=false:=by
 unfold zDE
 rw[Bool.and_eq_true]
 refine and_congr Iff.rfl ?_
 rcases zY (fun j=>zCH s (s.aucs.getD j default)) s.aucs.length with ⟨k,hk,_,hb,hx⟩|⟨ha,hx⟩
 ·rw[hx,decide_eq_true (by omega)]
  constructor
  ·intro h;cases h
  ·intro h;have:=h k hk;rw[this] at hb;cases hb
 ·rw[hx,decide_eq_false (by omega)]
  exact⟨fun _=>ha,fun _=>rfl⟩
end
section
open Go Go.Sk Go.RowKit
theorem zET {s:Sta}(h:zCC s=true)(k:Nat)(hk:k<7):stOk s k=true:=by
 unfold zCC at h
 exact List.all_eq_true.1 h k (List.mem_range.2 hk)
theorem zPJ {l:List Auc}(h:zAS l=true):l.length≤32∧∀ k,k<l.length→(l.getD k default).bids.length≤16:=by
 unfold zAS at h
 simp only[Bool.and_eq_true,decide_eq_true_eq] at h
 refine⟨by omega,fun k hk=>?_⟩
 have hm:zAV (l.getD k default)=true:=by
  rcases zY (zBY l) l.length with ⟨j,h1,h2,h3,h4⟩|⟨h1,h2⟩
  ·omega
  ·have:=h1 k hk
   unfold zBY at this
   simp only[Bool.or_eq_false_iff,Bool.not_eq_false'] at this
   exact this.2
 have a7:=(zC4 hm).2.2.2.2.2.2.1
 unfold zAc at a7
 split at a7
 ·unfold zF8 at a7
  simp only[Bool.and_eq_true,decide_eq_true_eq] at a7
  omega
 ·unfold zEo at a7
  simp only[Bool.and_eq_true,decide_eq_true_eq] at a7
  omega
def tw (l:List P3)(x:Int × Int)(z:Int):Int:=l.foldl (fun a y=>if zA0 y=x then IntKind.i64.wrap (a+y.2.2) else a) z
theorem zKE (l m:List P3)(x:Int × Int)(z:Int):tw (l++m) x z=tw m x (tw l x z):=by unfold tw;exact List.foldl_append
theorem zGO (y:P3)(a q:Int):zA0 y=(a,q)↔y.1=a∧y.2.1=q:=by unfold zA0;exact Prod.mk.injEq _ _ _ _ |>.to_iff
theorem zLB (l:List Odr)(a q:Int)(h:∀ j,j<l.length→(zT (od_ l j)).2>0):∀ k,k≤l.length→zGM l a q k=tw ((l.take k).flatMap zAI) (a,q) 0
 | 0,_=>by simp[zGM,tw]
 | k+1,hk=>by
   have hp:=h k (by omega)
   have hf:=zFB zAI l default (i:=k) (by omega)
   have hd:l.getD k default=od_ l k:=rfl
   rw[hf,zKE,← zLB l a q h k (by omega),hd]
   have:zAI (od_ l k)=[((od_ l k).acct,(zT (od_ l k)).1,(zT (od_ l k)).2)]:=if_pos hp
   rw[this]
   have e:zGM l a q (k+1)=if (od_ l k).acct=a∧(zT (od_ l k)).1=q then IntKind.i64.wrap (zGM l a q k+(zT (od_ l k)).2) else zGM l a q k:=rfl
   rw[e]
   generalize zGM l a q k=z
   show _=if zA0 _=(a,q) then _ else _
   simp only[zGO]
theorem zLC (l:List Bid)(a q z:Int):∀ k,k≤l.length→zGN l a q z k=tw ((l.take k).map fun b=>(b.acct,0,b.amount)) (a,q) z
 | 0,_=>by simp[zGN,tw]
 | k+1,hk=>by
   have ht:l.take (k+1)=l.take k++[l.getD k default]:=by
    rw[List.take_add_one,List.getD_eq_getElem?_getD,List.getElem?_eq_getElem (by omega)];rfl
   rw[ht,List.map_append,zKE,← zLC l a q z k (by omega)]
   have e:zGN l a q z (k+1)=if (l.getD k default).acct=a∧q=0 then IntKind.i64.wrap (zGN l a q z k+(l.getD k default).amount) else zGN l a q z k:=rfl
   rw[e]
   generalize zGN l a q z k=z
   show _=if zA0 _=(a,q) then _ else _
   simp only[zGO]
   by_cases h:(l.getD k default).acct=a∧q=0
   ·rw[if_pos h,if_pos ⟨h.1,h.2.symm⟩]
   ·rw[if_neg h,if_neg (fun g=>h ⟨g.1,g.2.symm⟩)]
theorem zLD (l:List Auc)(a q z:Int):∀ k,k≤l.length→zIE l a q z k=tw ((l.take k).flatMap zX) (a,q) z
 | 0,_=>by simp[zIE,tw]
 | k+1,hk=>by
   have hf:=zFB zX l default (i:=k) (by omega)
   rw[hf,zKE,← zLD l a q z k (by omega)]
   generalize hu:zIE l a q z k=u
   show(if zAV (l.getD k default)=true then _ else _)=_
   rw[hu]
   unfold zX
   split
   ·have hb:=zLC (l.getD k default).bids a q (if (l.getD k default).seller=a∧(l.getD k default).inst=q then IntKind.i64.wrap (u+(l.getD k default).qty) else u) (l.getD k default).bids.length (zzC _)
    rw[List.take_length] at hb
    rw[hb]
    show _=tw _ _ (if zA0 _=(a,q) then _ else _)
    simp only[zGO]
   ·rfl
theorem zLE (s:Sta)(a q:Int)(h:∀ j,j<s.orders.length→(zT (od_ s.orders j)).2>0):zLA s a q=zGj (zS s) (a,q):=by
 unfold zLA
 rw[zLD _ _ _ _ _ (Nat.le_refl _),zLB _ _ _ h _ (Nat.le_refl _),List.take_length,List.take_length,← zKE]
 rfl
theorem zMb (x:Int × Int):∀ (l:List P3) (z:Int),0≤z→z+(l.length:Int)*1125899906842624<9223372036854775808→(∀ y,y∈l→0≤y.2.2∧y.2.2≤1125899906842624)→z≤tw l x z∧∀ y,y∈l→zA0 y=x→y.2.2≤tw l x z
 | [],z,_,_,_=>⟨Int.le_refl _,fun y hy=>absurd hy (List.not_mem_nil)⟩
 | y::t,z,h0,h1,hb=>by
   obtain⟨b0,b1⟩:=hb y (List.mem_cons_self ..)
   rw[List.length_cons] at h1
   have hcast:((t.length+1:Nat):Int)=(t.length:Int)+1:=by omega
   rw[hcast,Int.add_mul] at h1
   have hstep:tw (y::t) x z=tw t x (if zA0 y=x then IntKind.i64.wrap (z+y.2.2) else z):=rfl
   by_cases hk:zA0 y=x
   ·rw[if_pos hk] at hstep
    have hw:IntKind.i64.wrap (z+y.2.2)=z+y.2.2:=w64 (by omega) (by omega)
    rw[hw] at hstep
    obtain⟨i1,i2⟩:=zMb x t (z+y.2.2) (by omega) (by omega) (fun y hy=>hb y (zz4 _ hy))
    rw[hstep]
    refine⟨by omega,fun y' hy' hk'=>?_⟩
    rcases List.mem_cons.1 hy' with rfl|hy'
    ·omega
    ·exact i2 y' hy' hk'
   ·rw[if_neg hk] at hstep
    obtain⟨i1,i2⟩:=zMb x t z h0 (by omega) (fun y hy=>hb y (zz4 _ hy))
    rw[hstep]
    refine⟨i1,fun y' hy' hk'=>?_⟩
    rcases List.mem_cons.1 hy' with rfl|hy'
    ·exact absurd hk' hk
    ·exact i2 y' hy' hk'
theorem zIF {s:Sta}(h:zBD s=true):s.orders.length≤128∧∀ j,j<s.orders.length→((zT (od_ s.orders j)).2>0∧(zT (od_ s.orders j)).2≤1125899906842624)∧(0≤(od_ s.orders j).acct∧(od_ s.orders j).acct≤64)∧0≤(zT (od_ s.orders j)).1∧(zT (od_ s.orders j)).1≤16:=by
 obtain⟨h1,h2⟩:=zAk.1 (zCG.1 h).1
 refine⟨h1,fun j hj=>?_⟩
 obtain⟨hm,_⟩:=h2 j hj
 have hm':=hm
 obtain⟨_,g1,g2,_,g4,g5⟩:=hm
 unfold zT
 rw[if_pos ((zAi _).2 hm')]
 split
 ·have a1:1*1≤(od_ s.orders j).price*(od_ s.orders j).left:=Int.mul_le_mul g4.1 g5.1 (by omega) (by omega)
  have a2:(od_ s.orders j).price*(od_ s.orders j).left≤1073741824*1048576:=Int.mul_le_mul g4.2 g5.2 (by omega) (by omega)
  refine⟨⟨?_,?_⟩,by omega,?_,?_⟩<;>simp only<;>omega
 ·refine⟨⟨?_,?_⟩,by omega,?_,?_⟩<;>simp only<;>omega
theorem zRh {x:Auc}(h:zAV x=true):x.bids.length≤16∧(1≤x.seller∧x.seller≤64)∧(1≤x.inst∧x.inst≤16)∧(1≤x.qty∧x.qty≤1048576)∧∀ j,j<x.bids.length→(1≤(x.bids.getD j default).acct∧(x.bids.getD j default).acct≤64)∧1≤(x.bids.getD j default).amount∧(x.bids.getD j default).amount≤1125899906842624:=by
 obtain⟨a1,a2,a3,a4,a5,a6,a7,a8⟩:=zC4 h
 unfold zp at a1 a2 a3 a4
 simp only[Bool.and_eq_true,decide_eq_true_eq] at a1 a2 a3 a4
 refine⟨?_,by omega,by omega,by omega,fun j hj=>?_⟩
 ·unfold zAc at a7
  split at a7
  ·unfold zF8 at a7
   simp only[Bool.and_eq_true,decide_eq_true_eq] at a7
   omega
  ·unfold zEo at a7
   simp only[Bool.and_eq_true,decide_eq_true_eq] at a7
   omega
 ·unfold zCE at a8
  rcases zY (zBQ x) x.bids.length with ⟨i,h1,h2,h3,h4⟩|⟨h1,h2⟩
  ·rw[h4] at a8;simp only[decide_eq_true_eq] at a8;omega
  ·have:=h1 j hj
   unfold zBQ zp at this
   simp only[Bool.or_eq_false_iff,Bool.not_eq_false',Bool.and_eq_true,decide_eq_true_eq] at this
   omega
theorem zTw {l:List Auc}(h:zAS l=true){k:Nat}(hk:k<l.length):zAV (l.getD k default)=true:=by
 unfold zAS at h
 simp only[Bool.and_eq_true,decide_eq_true_eq] at h
 rcases zY (zBY l) l.length with ⟨j,h1,h2,h3,h4⟩|⟨h1,h2⟩
 ·omega
 ·have:=h1 k hk
  unfold zBY at this
  simp only[Bool.or_eq_false_iff,Bool.not_eq_false'] at this
  exact this.2
theorem zGt {α:Type}(f:α→List P3)(n:Nat):∀ (l:List α),(∀ x,x∈l→(f x).length≤n)→(l.flatMap f).length≤l.length*n
 | [],_=>by simp
 | x::t,h=>by
   rw[List.flatMap_cons,List.length_append,List.length_cons,Nat.add_mul]
   have:=zGt f n t (fun y hy=>h y (zz4 _ hy))
   have:=h x (List.mem_cons_self ..)
   omega
def zRi (y:P3):Prop:=(0<y.2.2∧y.2.2≤1125899906842624)∧(0≤y.1∧y.1≤64)∧0≤y.2.1∧y.2.1≤16
theorem zIG {α:Type}{l:List α}{x:α}(d:α)(h:x∈l):∃ k,k<l.length∧l.getD k d=x:=zBO h
theorem zIH {s:Sta}(h4:zBD s=true)(h5:zDE s=true):(zS s).length≤1024∧∀ y,y∈zS s→zRi y:=by
 obtain⟨o1,o2⟩:=zIF h4
 have hma:=(zDJ.1 h5).1
 obtain⟨u1,u2⟩:=zPJ hma
 have hao:∀ x,x∈s.orders→(zAI x).length≤1:=fun x _=>by unfold zAI;split<;>simp
 have hau:∀ x,x∈s.aucs→(zX x).length≤17:=fun x hx=>by
  obtain⟨k,hk,rfl⟩:=zIG default hx
  have:=u2 k hk
  unfold zX
  split
  ·rw[List.length_cons,List.length_map];omega
  ·simp
 refine⟨?_,fun y hy=>?_⟩
 ·unfold zS
  rw[List.length_append]
  have:=zGt zAI 1 s.orders hao
  have:=zGt zX 17 s.aucs hau
  omega
 ·unfold zS at hy
  rcases List.mem_append.1 hy with hy|hy
  ·obtain⟨x,hx,hy⟩:=List.mem_flatMap.1 hy
   obtain⟨k,hk,rfl⟩:=zIG default hx
   obtain⟨⟨g1,g2⟩,g3,g4⟩:=o2 k hk
   have hd:s.orders.getD k default=od_ s.orders k:=rfl
   rw[hd] at hy
   unfold zAI at hy
   rw[if_pos g1,List.mem_singleton] at hy
   subst hy
   exact⟨⟨g1,g2⟩,g3,g4⟩
  ·obtain⟨x,hx,hy⟩:=List.mem_flatMap.1 hy
   obtain⟨k,hk,rfl⟩:=zIG default hx
   have hm:=zTw hma hk
   obtain⟨_,b1,b2,b3,b4⟩:=zRh hm
   unfold zX at hy
   rw[if_pos hm] at hy
   rcases List.mem_cons.1 hy with rfl|hy
   ·refine⟨⟨?_,?_⟩,⟨?_,?_⟩,?_,?_⟩<;>simp only<;>omega
   ·obtain⟨z,hz,rfl⟩:=List.mem_map.1 hy
    obtain⟨j,hj,rfl⟩:=zIG default hz
    obtain⟨c1,c2⟩:=b4 j hj
    refine⟨⟨?_,?_⟩,⟨?_,?_⟩,?_,?_⟩<;>simp only<;>omega
theorem zKF {l:List Row4}(h:RowsP l l.length):∀ k,k<l.length→∀ j,j<k→LtR (rw_ l j) (rw_ l k)
 | 0,_,j,hj=>absurd hj (zzE j)
 | k+1,hk,j,hj=>by
   have h1:=(h (k+1) hk).2
   rcases h1 with h1|h1
   ·omega
   ·rw[Nat.add_sub_cancel] at h1
    by_cases hjk:j=k
    ·rw[hjk];exact h1
    ·have h2:=zKF h k (by omega) j (by omega)
     unfold LtR at *
     omega
theorem zKG {l:List Row4}{k:Nat}{x:Int × Int}(hk:k≤l.length):x∈zCF l k↔∃ j,j<k∧zAD (rw_ l j)=x:=by
 unfold zCF
 rw[List.mem_map]
 constructor
 ·rintro⟨r,hr,rfl⟩
  obtain⟨j,hj,rfl⟩:=zIG default hr
  rw[List.length_take] at hj
  refine⟨j,by omega,?_⟩
  have:(l.take k).getD j default=rw_ l j:=by
   unfold rw_
   rw[List.getD_eq_getElem?_getD,List.getElem?_take_of_lt (by omega),List.getD_eq_getElem?_getD,List.getElem?_eq_getElem (by omega)]
  rw[this]
 ·rintro⟨j,hj,rfl⟩
  refine⟨rw_ l j,?_,rfl⟩
  rw[List.mem_take_iff_getElem]
  refine⟨j,by omega,?_⟩
  unfold rw_
  rw[List.getD_eq_getElem?_getD,List.getElem?_eq_getElem (by omega)]
  rfl
theorem zLF {l:List Row4}(h:RowsP l l.length){k:Nat}(hk:k<l.length):zKD l (rw_ l k).acct (rw_ l k).asset=rw_ l k:=by
 unfold zKD
 rw[zTv (p:=fun r=>r.acct==(rw_ l k).acct&&r.asset==(rw_ l k).asset) hk (fun j hj=>by
  have:=zKF h k hk j hj
  unfold LtR at this
  have hn:¬ ((rw_ l j).acct=(rw_ l k).acct∧(rw_ l j).asset=(rw_ l k).asset):=by omega
  simpa using fun a b=>hn ⟨a,b⟩) (by simp)]
 rfl
theorem zJC {l:List Row4}{a q:Int}(h:¬ (a,q)∈zCF l l.length):(zKD l a q).held=0:=by
 unfold zKD
 rw[zPI (p:=fun r=>r.acct==a&&r.asset==q) (fun j hj=>by
  cases e:((rw_ l j).acct==a&&(rw_ l j).asset==q)
  ·rfl
  ·exfalso
   simp only[Bool.and_eq_true,beq_iff_eq] at e
   exact h ((zKG (zzC _)).2 ⟨j,hj,by unfold zAD;rw[e.1,e.2]⟩))]
 rfl
theorem zLG {s:Sta}(h3:zDD s=true)(h4:zBD s=true)(h5:zDE s=true):zFn s=zRg s:=by
 obtain⟨pl,po⟩:=zIH h4 h5
 have hR:=(zBN.1 (zEL.1 h3).1).1
 have hH:∀ a q,zLA s a q=zGj (zS s) (a,q):=fun a q=>zLE s a q fun j hj=>((zIF h4).2 j hj).1.1
 have hat:∀ k,k<s.rows.length→(zDl s k=true↔zGj (zS s) (zAD (rw_ s.rows k))=(rw_ s.rows k).held):=fun k hk=>by
  unfold zDl
  rw[if_neg,beq_iff_eq]
  rw[zKG (by omega)]
  rintro⟨j,hj,he⟩
  have:=zKF hR k hk j hj
  unfold LtR at this
  unfold zAD at he
  have e1:=(Prod.mk.injEq _ _ _ _).mp he
  omega
 rw[Bool.eq_iff_iff,zJB]
 unfold zFn zNw
 simp only[Bool.and_eq_true,List.all_eq_true,List.mem_range,decide_eq_true_eq,beq_iff_eq]
 constructor
 ·rintro⟨q1,q2⟩ a ha q hq
  rw[hH]
  by_cases hm:((a:Int),(q:Int))∈zCF s.rows s.rows.length
  ·obtain⟨k,hk,he⟩:=(zKG (zzC _)).1 hm
   have h1:=(hat k hk).1 (q1 k hk)
   have h2:=zLF hR hk
   rw[he] at h1
   unfold zAD at he
   have e1:=(Prod.mk.injEq _ _ _ _).mp he
   rw[e1.1,e1.2] at h2
   rw[h2,h1]
  ·rw[zJC hm]
   refine(zI2 ?_).symm
   unfold zH0
   rw[List.any_eq_false]
   intro y hy he
   exact hm (zzA he ▸ q2 y hy)
 ·intro hg
  refine⟨fun k hk=>(hat k hk).2 ?_,fun y hy=>?_⟩
  ·obtain⟨⟨g1,g2,g3,g4⟩,_⟩:=(hR k hk).1
   have h1:=hg (rw_ s.rows k).acct.toNat (by omega) (rw_ s.rows k).asset.toNat (by omega)
   rw[Int.toNat_of_nonneg g1,Int.toNat_of_nonneg g3,zLF hR hk,hH] at h1
   exact h1.symm
  ·obtain⟨⟨y1,_⟩,⟨y3,y4⟩,y5,y6⟩:=po y hy
   refine Classical.byContradiction fun hm=>?_
   have h1:=hg y.1.toNat (by omega) y.2.1.toNat (by omega)
   rw[Int.toNat_of_nonneg y3,Int.toNat_of_nonneg y5,hH] at h1
   have h2:(zKD s.rows y.1 y.2.1).held=0:=zJC (a:=y.1) (q:=y.2.1) hm
   have h3:=(zMb (y.1,y.2.1) (zS s) 0 (Int.le_refl _) (by omega) (fun z hz=>⟨by have:=(po z hz).1;omega,by have:=(po z hz).1;omega⟩)).2 y hy rfl
   have h4:tw (zS s) (y.1,y.2.1) 0=zGj (zS s) (y.1,y.2.1):=rfl
   omega
def zq (l:List P3)(x:Pl):Int:=(l.map fun y=>if zA0 y=x then y.2.2 else 0).sum
theorem zg (l m:List P3)(x:Pl):zq (l++m) x=zq l x+zq m x:=by unfold zq;rw[List.map_append,List.sum_append]
theorem zDK (y:P3)(l:List P3)(x:Pl):zq (y::l) x=(if zA0 y=x then y.2.2 else 0)+zq l x:=rfl
theorem zGu (x:Pl):zq [] x=0:=rfl
theorem tw_E (x:Pl):∀ (l:List P3) (z:Int),0≤z→z+(l.length:Int)*1125899906842624<9223372036854775808→(∀ y∈l,0≤y.2.2∧y.2.2≤1125899906842624)→tw l x z=z+zq l x∧0≤zq l x∧zq l x≤(l.length:Int)*1125899906842624
 | [],z,_,_,_=>by simp[tw,zq]
 | y::l,z,h0,h1,h=>by
   have hy:=h y (zz2 _)
   have hl:((y::l).length:Int)=(l.length:Int)+1:=by simp
   rw[hl] at h1 ⊢
   have hs:tw (y::l) x z=tw l x (if zA0 y=x then IntKind.i64.wrap (z+y.2.2) else z):=rfl
   rw[hs,zDK]
   by_cases hk:zA0 y=x
   ·rw[if_pos hk,if_pos hk,w64 (by omega) (by omega)]
    obtain⟨a,b,c⟩:=tw_E x l (z+y.2.2) (by omega) (by omega) fun q hq=>h q (zz5 _ hq)
    refine⟨by omega,by omega,by omega⟩
   ·rw[if_neg hk,if_neg hk]
    obtain⟨a,b,c⟩:=tw_E x l z h0 (by omega) fun q hq=>h q (zz5 _ hq)
    refine⟨by omega,by omega,by omega⟩
structure Good (s:Sta):Prop where
 nums:zHE s=true
 accts:zEq s.accts=true
 insts:zDC s.insts=true
 rows:zAJ s.rows=true
 rowsIn:∀ r∈s.rows,(r.acct≤0∨zt s r.acct=true)∧r.asset≤s.insts.length
 ords:zd s.orders=true
 ordsIn:∀ o∈s.orders,zCf s o=true
 aucs:zAS s.aucs=true
 aucsIn:∀ a∈s.aucs,zCH s a=false
 held:∀ x∈zBb,(atR s.rows x).2=zq (zS s) x
theorem ze {α:Type}[Inhabited α]{l:List α}{k:Nat}(h:k<l.length):l.getD k default∈l:=by
 rw[List.getD_eq_getElem?_getD,List.getElem?_eq_getElem h];exact List.getElem_mem h
theorem zDb {α:Type}[Inhabited α]{l:List α}{p:α→Prop}:(∀ k,k<l.length→p (l.getD k default))↔∀ x∈l,p x :=
 ⟨fun h x hx=>by obtain⟨k,hk,rfl⟩:=zIG default hx;exact h k hk,fun h k hk=>h _ (ze hk)⟩
theorem zTx (l:List Row4)(a q:Int):(zKD l a q).free=(atR l (a,q)).1∧(zKD l a q).held=(atR l (a,q)).2:=by
 unfold zKD atR
 simp only
 cases l.find? (fun r=>r.acct==a&&r.asset==q)<;>exact⟨rfl,rfl⟩
theorem zJD {s:Sta}(h3:zDD s=true)(h4:zBD s=true)(h5:zDE s=true):zFn s=true↔∀ x∈zBb,(atR s.rows x).2=zq (zS s) x:=by
 obtain⟨pl,po⟩:=zIH h4 h5
 have hH:∀ a q,zLA s a q=zq (zS s) (a,q):=fun a q=>by
  rw[zLE s a q fun j hj=>((zIF h4).2 j hj).1.1]
  have:=(tw_E (a,q) (zS s) 0 (Int.le_refl _) (by omega) fun y hy=>⟨Int.le_of_lt (po y hy).1.1,(po y hy).1.2⟩).1
  rw[Int.zero_add] at this
  exact this
 rw[zLG h3 h4 h5,zJB]
 unfold zNw
 simp only[beq_iff_eq,(zTx _ _ _).2,hH]
 constructor
 ·intro h x hx
  obtain⟨⟨h1,h2⟩,h3,h4⟩:=zCL.1 hx
  have:=h x.1.toNat (by omega) x.2.toNat (by omega)
  rw[Int.toNat_of_nonneg h1,Int.toNat_of_nonneg h3] at this
  exact this
 ·intro h a ha q hq
  exact h _ (zCL.2 ⟨⟨by simp only;omega,by simp only;omega⟩,by simp only;omega,by simp only;omega⟩)
theorem zAl {s:Sta}:zCC s=true↔Good s:=by
 constructor
 ·intro h
  have h3:=zET h 3 (by decide)
  have h4:=zET h 4 (by decide)
  have h5:=zET h 5 (by decide)
  have h6:=zET h 6 (by decide)
  refine⟨zET h 0 (by decide),zET h 1 (by decide),zET h 2 (by decide),(zEL.1 h3).1,?_,(zCG.1 h4).1,?_,(zDJ.1 h5).1,?_,(zJD h3 h4 h5).1 h6⟩
  ·exact zDb.1 fun k hk=>zHD.1 ((zEL.1 h3).2 k hk)
  ·exact zDb.1 fun k hk=>(zCG.1 h4).2 k hk
  ·exact zDb.1 fun k hk=>(zDJ.1 h5).2 k hk
 ·intro h
  have h3:zDD s=true:=zEL.2 ⟨h.rows,fun k hk=>zHD.2 (h.rowsIn _ (ze hk))⟩
  have h4:zBD s=true:=zCG.2 ⟨h.ords,fun k hk=>h.ordsIn _ (ze hk)⟩
  have h5:zDE s=true:=zDJ.2 ⟨h.aucs,fun k hk=>h.aucsIn _ (ze hk)⟩
  have h6:=(zJD h3 h4 h5).2 h.held
  unfold zCC
  rw[List.all_eq_true]
  intro k hk
  match k,List.mem_range.1 hk with
  | 0,_=>exact h.nums
  | 1,_=>exact h.accts
  | 2,_=>exact h.insts
  | 3,_=>exact h3
  | 4,_=>exact h4
  | 5,_=>exact h5
  | 6,_=>exact h6
theorem zLH {α:Type}[Inhabited α](f:α→Int){l:List α}:(∀ j,j<l.length→j=0∨f (l.getD (j - 1) default)<f (l.getD j default))↔l.Pairwise fun a b=>f a<f b:=by
 constructor
 ·intro h
  rw[List.pairwise_iff_getElem]
  intro i j hi hj hij
  have key:∀ d,i+d+1<l.length→f (l.getD i default)<f (l.getD (i+d+1) default):=by
   intro d
   induction d with
   | zero =>
     intro hd
     rcases h (i+1) hd with e|e
     ·omega
     ·simpa using e
   | succ d ih =>
     intro hd
     rcases h (i+(d+1)+1) hd with e|e
     ·omega
     ·exact Int.lt_trans (ih (by omega)) e
  have:=key (j - i - 1) (by omega)
  rw[show i+(j - i - 1)+1=j by omega] at this
  simpa [List.getD_eq_getElem?_getD,List.getElem?_eq_getElem hi,List.getElem?_eq_getElem hj] using this
 ·intro h j hj
  rcases Nat.eq_zero_or_pos j with e|e
  ·exact .inl e
  ·right
   have:=List.pairwise_iff_getElem.1 h (j - 1) j (by omega) hj (by omega)
   simpa [List.getD_eq_getElem?_getD,List.getElem?_eq_getElem hj,List.getElem?_eq_getElem (show j - 1<l.length by omega)] using this
theorem zAP {l:List Odr}:zd l=true↔l.length≤128∧(∀ o∈l,zAm o)∧l.Pairwise fun a b=>a.id<b.id:=by
 rw[zAk,← zLH,← zDb]
 unfold OrdP od_
 exact and_congr_right fun _=>⟨fun h=>⟨fun k hk=>(h k hk).1,fun k hk=>(h k hk).2⟩,fun h k hk=>⟨h.1 k hk,h.2 k hk⟩⟩
theorem zMc {x:Auc}(h:zAV x=true):1≤x.id∧x.id≤1099511627776:=by
 have:=(zC4 h).1
 simpa [zp] using this
theorem zAL {l:List Auc}:zAS l=true↔l.length≤32∧(∀ a∈l,zAV a=true)∧l.Pairwise fun a b=>a.id<b.id:=by
 have hb:∀ j,zBY l j=false↔zML l j<(l.getD j default).id∧zAV (l.getD j default)=true:=fun j=>by
  unfold zBY;simp
 rw[← zLH,← zDb]
 unfold zAS
 simp only[Bool.and_eq_true,decide_eq_true_eq]
 constructor
 ·rintro⟨h1,h2⟩
  rcases zY (zBY l) l.length with ⟨j,_,_,_,h4⟩|⟨h3,_⟩
  ·omega
  ·refine⟨by omega,fun k hk=>((hb k).1 (h3 k hk)).2,fun k hk=>?_⟩
   have:=((hb k).1 (h3 k hk)).1
   cases k with
   | zero=>exact .inl rfl
   | succ k=>exact .inr this
 ·rintro⟨h1,h2,h3⟩
  refine⟨?_,by omega⟩
  rw[zBB fun j hj=>(hb j).2 ⟨?_,h2 j hj⟩]
  ·decide
  ·cases j with
   | zero=>have:=(zMc (h2 0 hj)).1;exact this
   | succ k => rcases h3 (k+1) hj with e|e
               ·cases e
               ·exact e
def zII (k:Int):List Nat:=(zH4 3 k).1
structure EvOk (e:Evt):Prop where
 kind:1≤e.kind∧e.kind≤23
 len:e.nums.length=(zII e.kind).length
 fit:∀ i,i<(zII e.kind).length→zBk 3 ((zII e.kind).getD i 0) (nF e.nums i)=true
 text:(zH4 3 e.kind).2=true→zAR (e.texts.getD 0 ByteArray.empty)=true
theorem zNx {e:Evt}(hv:e.v=3)(h:zBa e=true):EvOk e:=by
 unfold zBa zFD at h
 rw[hv] at h
 by_cases hk:1≤e.kind∧e.kind≤23
 ·by_cases hb:(1:Int)≤3∧(3:Int)≤3∧32 ∉ (zH4 3 e.kind).1
  ·rw[if_pos hb] at h
   simp only[Bool.and_eq_true] at h
   obtain⟨h1,h2⟩:=h
   unfold zCg at h1
   simp only[Bool.and_eq_true,beq_iff_eq,List.all_eq_true,List.mem_range] at h1
   refine⟨hk,h1.1.symm,fun i hi=>h1.2 i hi,fun ht=>?_⟩
   rw[if_pos ht] at h2
   simp only[Bool.and_eq_true] at h2
   exact h2.2
  ·rw[if_neg hb] at h;cases h
 ·have:¬ ((1:Int)≤3∧(3:Int)≤3∧32 ∉ (zH4 3 e.kind).1):=by
   unfold zH4;rw[if_neg hk];simp
  rw[if_neg this] at h;cases h
def bnd (c:Nat)(n:Int):Prop :=
 match zEP 3 c with
 | some (l,h)=>l≤n∧n≤h
 | none=>False
theorem zTy {c:Nat}{n:Int}(h:zBk 3 c n=true):bnd c n:=by
 unfold zBk at h;unfold bnd
 cases hb:zEP 3 c with
 | none=>rw[hb] at h;cases h
 | some p=>rw[hb] at h;simpa using h
theorem EvOk.at {e:Evt}(h:EvOk e)(i:Nat){c:Nat}(hc:(zII e.kind)[i]?=some c):bnd c (nF e.nums i):=by
 have hi:i<(zII e.kind).length:=(List.getElem?_eq_some_iff.1 hc).1
 have:=zTy (h.fit i hi)
 rwa [List.getD_eq_getElem?_getD,hc] at this
theorem zHI {n:Int}(h:bnd 97 n):1≤n∧n≤64:=h
theorem zDL {n:Int}(h:bnd 105 n):1≤n∧n≤16:=h
theorem zRj {n:Int}(h:bnd 111 n):1≤n∧n≤1099511627776:=h
theorem bnd_c {n:Int}(h:bnd 99 n):1≤n∧n≤1099511627776:=h
theorem zDM {n:Int}(h:bnd 109 n):1≤n∧n≤1125899906842624:=h
theorem zLI {n:Int}(h:bnd 122 n):0≤n∧n≤1125899906842624:=h
theorem zNy {n:Int}(h:bnd 112 n):1≤n∧n≤1073741824:=h
theorem bnd_k {n:Int}(h:bnd 107 n):1≤n∧n≤1073741824:=h
theorem zDc {n:Int}(h:bnd 113 n):1≤n∧n≤1048576:=h
theorem zRk {n:Int}(h:bnd 115 n):1≤n∧n≤2:=h
theorem bnd_b {n:Int}(h:bnd 98 n):0≤n∧n≤1000:=h
theorem zRl {n:Int}(h:bnd 116 n):1≤n∧n≤1099511627776:=h
theorem zBi {s:Sta}{a:Int}:zt s a=true↔1≤a∧a≤s.accts.length∧(ac_ s.accts (a - 1).toNat).opn=true:=by
 unfold zt zBG
 by_cases h:1≤a∧a≤s.accts.length∧(ac_ s.accts (a - 1).toNat).opn=true
 ·rw[if_pos h];exact⟨fun _=>h,fun _=>rfl⟩
 ·rw[if_neg h];exact⟨fun h'=>(by cases h'),fun h'=>absurd h' h⟩
theorem zAT {s:Sta}{a:Int}:zAq s a=true↔1≤a∧a≤s.insts.length:=by
 unfold zAq zB7
 by_cases h:1≤a∧a≤s.insts.length
 ·rw[if_pos h];exact⟨fun _=>h,fun _=>rfl⟩
 ·rw[if_neg h];exact⟨fun h'=>(by cases h'),fun h'=>absurd h' h⟩
theorem zNz {s:Sta}{a:Int}(h:zAq s a=true):(zB7 s.insts a).1=in_ s.insts (a - 1).toNat:=by
 unfold zB7;rw[if_pos (zAT.1 h)]
theorem zAC {s:Sta}{o:Odr}:zCf s o=true↔o.id<s.nextO∧zt s o.acct=true∧zAq s o.inst=true∧o.price.tmod (in_ s.insts (o.inst - 1).toNat).tick=0:=by
 unfold zCf
 simp only[Bool.and_eq_true,decide_eq_true_eq,beq_iff_eq]
 constructor
 ·rintro⟨⟨⟨a,b⟩,c⟩,d⟩;exact⟨a,b,c,by rw[zNz c] at d;exact d⟩
 ·rintro⟨a,b,c,d⟩;exact⟨⟨⟨a,b⟩,c⟩,by rw[zNz c];exact d⟩
theorem zAQ {s:Sta}{x:Auc}:zCH s x=false↔x.id<s.nextA∧zt s x.seller=true∧zAq s x.inst=true∧∀ b∈x.bids,zt s b.acct=true:=by
 have hb:zHT s x.bids=false↔∀ b∈x.bids,zt s b.acct=true:=by
  rw[← zDb]
  unfold zHT
  simp only[decide_eq_false_iff_not]
  rcases zY (zGl s x.bids) x.bids.length with ⟨k,hk,_,hp,hx⟩|⟨hx,h2⟩
  ·refine⟨fun h=>absurd (by omega:idx (zGl s x.bids) x.bids.length ≥ 0) h,fun h=>?_⟩
   have:=h k hk
   unfold zGl at hp
   unfold zt at this
   rw[this] at hp;cases hp
  ·refine⟨fun _ k hk=>?_,fun _=>by omega⟩
   have:=hx k hk
   unfold zGl at this
   simpa [zt] using this
 unfold zCH
 simp only[Bool.or_eq_false_iff,decide_eq_false_iff_not,Bool.not_eq_false',hb]
 unfold zt zAq
 constructor
 ·rintro⟨⟨⟨a,b⟩,c⟩,d⟩;exact⟨by omega,b,c,d⟩
 ·rintro⟨a,b,c,d⟩;exact⟨⟨⟨by omega,b⟩,c⟩,d⟩
theorem zx {s:Sta}:zHE s=true↔(0≤s.clock∧s.clock≤1099511627776)∧(0≤s.fee∧s.fee≤1000)∧(1≤s.nextO∧s.nextO≤1099511627777)∧(1≤s.nextA∧s.nextA≤1099511627777):=by
 unfold zHE
 simp only[Bool.and_eq_true,zEJ,and_assoc]
theorem zRm {l:List Row4}{x:Pl}(h:atR l x≠(0,0)):∃ r∈l,zAD r=x:=by
 refine Classical.byContradiction fun hn=>h (zGo fun r hr he=>hn ⟨r,hr,he⟩)
theorem zRn {p:List Pst}{x:Pl}(h:dlF p x≠(0,0)):∃ q∈p,q.acct=x.1∧q.asset=x.2:=by
 induction p with
 | nil=>exact absurd rfl h
 | cons q p ih =>
   rw[zAW] at h
   by_cases hq:q.acct=x.1∧q.asset=x.2
   ·exact⟨q,zz2 _,hq⟩
   ·rw[if_neg hq] at h
    obtain⟨t,ht,e⟩:=ih h
    exact⟨t,zz5 _ ht,e⟩
def InP (s:Sta)(p:List Pst):Prop:=∀ q∈p,(q.acct≤0∨zt s q.acct=true)∧q.asset≤s.insts.length
theorem zTz {s:Sta}{p:List Pst}{r:List Row4}(hs:Good s)(hp:zAn s.rows p=(r,0))(hin:InP s p):∀ t∈r,(t.acct≤0∨zt s t.acct=true)∧t.asset≤s.insts.length:=by
 obtain⟨_,_,_,rfl,_,_⟩:=zHZ hp
 intro t ht
 have hm:=zFF.1 ht
 have hne:zm s.rows p (zAD t)≠(0,0):=by
  rw[hm.2.1];exact fun h=>hm.2.2 (Prod.mk.inj h)
 by_cases h1:atR s.rows (zAD t)=(0,0)
 ·have h2:dlF p (zAD t)≠(0,0):=fun h2=>hne (by unfold zm;rw[h1,h2];rfl)
  obtain⟨q,hq,e1,e2⟩:=zRn h2
  have:=hin q hq
  rw[e1,e2] at this
  exact this
 ·obtain⟨q,hq,e⟩:=zRm h1
  have:=hs.rowsIn q hq
  have e1:q.acct=t.acct:=congrArg Prod.fst e
  have e2:q.asset=t.asset:=congrArg Prod.snd e
  rw[e1,e2] at this
  exact this
theorem Good.upd {s t:Sta}{p:List Pst}(h:Good s)(hp:zAn s.rows p=(t.rows,0))(hin:InP s p)(hac:t.accts=s.accts)(hins:t.insts=s.insts)(hn:zHE t=true)(ho:zd t.orders=true)(ho2:∀ o∈t.orders,zCf t o=true)(ha:zAS t.aucs=true)(ha2:∀ a∈t.aucs,zCH t a=false)
  (hh:∀ x∈zBb,zq (zS t) x=zq (zS s) x+(dlF p x).2):Good t:=by
 obtain⟨_,_,_,_,h5,h6⟩:=zHZ hp
 refine⟨hn,by rw[hac];exact h.accts,by rw[hins];exact h.insts,h5,fun r hr=>?_,ho,ho2,ha,ha2,fun x hx=>?_⟩
 ·have:=zTz h hp hin r hr
  unfold zt at this ⊢
  rw[hac,hins];exact this
 ·rw[h6 x hx,hh x hx,← h.held x hx];rfl
theorem zBF {s t:Sta}{p:List Pst}(h:zj s p=(t,0)):zAn s.rows p=(t.rows,0)∧t={ s with rows:=t.rows }:=by
 unfold zj at h
 by_cases h0:(zAn s.rows p).2=0
 ·rw[if_pos h0] at h
  obtain rfl:=(Prod.mk.inj h).1
  exact⟨Prod.ext rfl h0,rfl⟩
 ·rw[if_neg h0] at h;exact absurd (Prod.mk.inj h).2 h0
theorem Good.free {s t:Sta}{p:List Pst}(h:Good s)(hp:zj s p=(t,0))(hin:InP s p)(h0:∀ q∈p,q.held=0):Good t:=by
 obtain⟨h1,h2⟩:=zBF hp
 have hd:∀ x,(dlF p x).2=0:=fun x=>by
  clear hp h1 hin
  induction p with
  | nil=>rfl
  | cons q p ih =>
    rw[zAW]
    have:=ih fun q hq=>h0 q (zz5 _ hq)
    split
    ·simp only[this,h0 q (List.Mem.head _)];rfl
    ·exact this
 rw[h2]
 refine h.upd (t:={ s with rows:=t.rows }) (by exact h1) hin rfl rfl h.nums h.ords h.ordsIn h.aucs h.aucsIn fun x _=>?_
 rw[hd x];show zq (zS s) x=_;omega
theorem zEx {s t:Sta}{a b c n:Int}(h:Good s)(hp:zBu s a b c n=(t,0))(ha:a≤0∨zt s a=true)(hb:b≤0∨zt s b=true)(hc:c≤s.insts.length):Good t:=by
 refine h.free hp (fun q hq=>?_) (fun q hq=>?_)
 ·simp only[List.mem_cons,List.not_mem_nil,or_false] at hq
  rcases hq with rfl|rfl
  ·exact⟨ha,hc⟩
  ·exact⟨hb,hc⟩
 ·simp only[List.mem_cons,List.not_mem_nil,or_false] at hq
  rcases hq with rfl|rfl<;>rfl
theorem Good.nums' {s t:Sta}(h:Good s)(hn:zHE t=true)(e1:t.accts=s.accts)(e2:t.insts=s.insts)(e3:t.rows=s.rows)(e4:t.orders=s.orders)(e5:t.aucs=s.aucs)(e6:s.nextO≤t.nextO)(e7:s.nextA≤t.nextA):Good t:=by
 have eo:∀ a,zt t a=zt s a:=fun a=>by unfold zt;rw[e1]
 have eh:∀ a,zAq t a=zAq s a:=fun a=>by unfold zAq;rw[e2]
 refine⟨hn,by rw[e1];exact h.accts,by rw[e2];exact h.insts,by rw[e3];exact h.rows,fun r hr=>?_,by rw[e4];exact h.ords,fun o ho=>?_,by rw[e5];exact h.aucs,fun a ha=>?_,fun x hx=>?_⟩
 ·rw[eo,e2];exact h.rowsIn r (e3 ▸ hr)
 ·have:=zAC.1 (h.ordsIn o (e4 ▸ ho))
  exact zAC.2 ⟨by omega,by rw[eo];exact this.2.1,by rw[eh];exact this.2.2.1,by rw[e2];exact this.2.2.2⟩
 ·have:=zAQ.1 (h.aucsIn a (e5 ▸ ha))
  exact zAQ.2 ⟨by omega,by rw[eo];exact this.2.1,by rw[eh];exact this.2.2.1,fun b hb=>by rw[eo];exact this.2.2.2 b hb⟩
 ·rw[e3]
  have:zS t=zS s:=by unfold zS;rw[e4,e5]
  rw[this];exact h.held x hx
theorem Good.accts' {s:Sta}(h:Good s)(l:List Ac)(hl:zEq l=true)(hm:∀ a,zt s a=true→zt { s with accts:=l } a=true):Good { s with accts:=l }:=by
 refine⟨h.nums,hl,h.insts,h.rows,fun r hr=>?_,h.ords,fun o ho=>?_,h.aucs,fun a ha=>?_,h.held⟩
 ·have:=h.rowsIn r hr
  exact⟨this.1.imp id (hm _),this.2⟩
 ·have:=zAC.1 (h.ordsIn o ho)
  exact zAC.2 ⟨this.1,hm _ this.2.1,this.2.2.1,this.2.2.2⟩
 ·have:=zAQ.1 (h.aucsIn a ha)
  exact zAQ.2 ⟨this.1,hm _ this.2.1,this.2.2.1,fun b hb=>hm _ (this.2.2.2 b hb)⟩
theorem Good.insts' {s:Sta}(h:Good s)(l:List Ins)(hl:zDC l=true)(hn:s.insts.length≤l.length)(ht:∀ o∈s.orders,o.price.tmod (in_ l (o.inst - 1).toNat).tick=0):Good { s with insts:=l }:=by
 have hm:∀ a,zAq s a=true→zAq { s with insts:=l } a=true:=fun a ha=>zAT.2 ⟨(zAT.1 ha).1,by have:=(zAT.1 ha).2;show a≤(l.length:Int);omega⟩
 refine⟨h.nums,h.accts,hl,h.rows,fun r hr=>?_,h.ords,fun o ho=>?_,h.aucs,fun a ha=>?_,h.held⟩
 ·have:=h.rowsIn r hr
  exact⟨this.1,by show r.asset≤(l.length:Int);omega⟩
 ·have:=zAC.1 (h.ordsIn o ho)
  exact zAC.2 ⟨this.1,this.2.1,hm _ this.2.2.1,ht o ho⟩
 ·have:=zAQ.1 (h.aucsIn a ha)
  exact zAQ.2 ⟨this.1,this.2.1,hm _ this.2.2.1,this.2.2.2⟩
theorem zRo {a b:ByteArray}:(a.toList==b.toList)=false↔a.data.toList≠b.data.toList:=by
 rw[ByteArray.toList_eq,ByteArray.toList_eq];simp
theorem zLJ {l:List Ac}{t:ByteArray}(h:¬ zA7 l t ≥ 0):∀ x∈l,x.name.data.toList≠t.data.toList:=by
 rw[← zDb]
 unfold zA7 at h
 rcases zY (zEp l t) l.length with ⟨k,_,_,_,h2⟩|⟨h1,_⟩
 ·omega
 ·exact fun k hk=>zRo.1 (h1 k hk)
theorem zGv (l:List ByteArray):zBZ l=true↔(∀ x∈l,zAR x=true)∧(nmL l).Nodup:=by
 unfold zBZ;simp
theorem zJE {l:List ByteArray}{t:ByteArray}(h:zBZ l=true)(ht:zAR t=true)(hn:∀ x∈l,x.data.toList≠t.data.toList):zBZ (l++[t])=true:=by
 rw[zGv] at h ⊢
 refine⟨fun x hx=>?_,?_⟩
 ·rcases List.mem_append.1 hx with e|e
  ·exact h.1 x e
  ·rw[List.mem_singleton] at e;exact e ▸ ht
 ·unfold nmL
  rw[List.map_append,List.nodup_append]
  refine⟨h.2,by simp,fun a ha b hb=>?_⟩
  obtain⟨x,hx,rfl⟩:=List.mem_map.1 ha
  simp only[List.map_cons,List.map_nil,List.mem_singleton] at hb
  subst hb
  exact hn x hx
theorem zPK {l:List ByteArray}{t:ByteArray}(k:Nat)(h:zBZ l=true)(ht:zAR t=true)(hn:∀ x∈l,x.data.toList≠t.data.toList):zBZ (l.set k t)=true:=by
 rw[zGv] at h ⊢
 refine⟨fun x hx=>?_,?_⟩
 ·rcases List.mem_or_eq_of_mem_set hx with e|e
  ·exact h.1 x e
  ·exact e ▸ ht
 ·have h2:=h.2
  unfold nmL at h2 ⊢
  rw[List.Nodup,List.pairwise_iff_getElem] at h2 ⊢
  intro i j hi hj hij
  simp only[List.length_map,List.length_set] at hi hj
  have g:∀ m (hm:m<l.length),l[m].data.toList≠t.data.toList:=fun m hm=>hn _ (List.getElem_mem hm)
  simp only[List.getElem_map,List.getElem_set]
  have:=h2 i j (by simpa using hi) (by simpa using hj) hij
  simp only[List.getElem_map] at this
  by_cases h1:k=i
  ·by_cases h3:k=j
   ·omega
   ·rw[if_pos h1,if_neg h3];exact(g j hj).symm
  ·by_cases h3:k=j
   ·rw[if_neg h1,if_pos h3];exact g i hi
   ·rw[if_neg h1,if_neg h3];exact this
theorem zB8 {l:List Ac}:zEq l=true↔l.length≤64∧zBZ (nmA l)=true:=by rw[zGC];simp
theorem ac_app {l:List Ac}{x:Ac}{k:Nat}(h:k<l.length):ac_ (l++[x]) k=ac_ l k:=by simp[ac_,List.getD_eq_getElem?_getD,List.getElem?_append_left h]
theorem zMd {s t:Sta}{n:List Int}{nm:ByteArray}(h:Good s)(hn:nF n 0≤64)(hm:zAR nm=true)(he:zDX s n nm=(t,0)):Good t:=by
 unfold zDX at he
 by_cases h1:nF n 0≠s.accts.length+1
 ·rw[if_pos h1] at he;exact absurd (Prod.mk.inj he).2 (by decide)
 rw[if_neg h1] at he
 by_cases h2:zA7 s.accts nm ≥ 0
 ·rw[if_pos h2] at he;exact absurd (Prod.mk.inj he).2 (by decide)
 rw[if_neg h2] at he
 obtain rfl:=(Prod.mk.inj he).1
 have ha:=zB8.1 h.accts
 refine h.accts' _ (zB8.2 ⟨by rw[List.length_append,List.length_singleton];omega,?_⟩) fun a ho=>?_
 ·have:=zJE (t:=nm) ha.2 hm (fun x hx=>by
   obtain⟨y,hy,rfl⟩:=List.mem_map.1 hx
   exact zLJ h2 y hy)
  simpa [nmA] using this
 ·obtain⟨o1,o2,o3⟩:=zBi.1 ho
  refine zBi.2 ⟨o1,?_,?_⟩
  ·show a≤((s.accts++[(⟨nm,true⟩:Ac)]).length:Int)
   rw[List.length_append];omega
  ·show(ac_ (s.accts++[(⟨nm,true⟩:Ac)]) (a - 1).toNat).opn=true
   rw[ac_app (by omega)];exact o3
theorem zMe {l:List Ac}{x:Ac}{k j:Nat}(hk:k<l.length):ac_ (l.set k x) j=if j=k then x else ac_ l j:=by
 simp only[ac_,List.getD_eq_getElem?_getD]
 by_cases h:j=k
 ·subst h;simp[hk]
 ·rw[if_neg h,List.getElem?_set_ne (by omega)]
theorem zLK {s t:Sta}{n:List Int}{nm:ByteArray}(h:Good s)(hm:zAR nm=true)(he:zCl s n nm=(t,0)):Good t:=by
 unfold zCl at he
 by_cases h1:zt s (nF n 0)=true
 ·rw[if_pos h1] at he
  by_cases h2:zA7 s.accts nm ≥ 0
  ·rw[if_pos h2] at he;exact absurd (Prod.mk.inj he).2 (by decide)
  rw[if_neg h2] at he
  obtain rfl:=(Prod.mk.inj he).1
  have ha:=zB8.1 h.accts
  obtain⟨p1,p2,p3⟩:=zBi.1 h1
  refine h.accts' _ (zB8.2 ⟨by rw[List.length_set];exact ha.1,?_⟩) fun a ho=>?_
  ·have:=zPK (t:=nm) (nF n 0 - 1).toNat ha.2 hm (fun x hx=>by
    obtain⟨y,hy,rfl⟩:=List.mem_map.1 hx
    exact zLJ h2 y hy)
   simpa [nmA,List.map_set] using this
  ·obtain⟨o1,o2,o3⟩:=zBi.1 ho
   refine zBi.2 ⟨o1,?_,?_⟩
   ·simpa using o2
   ·simp only
    rw[zMe (by omega)]
    split
    ·rename_i e;rw[← e];exact o3
    ·exact o3
 ·rw[if_neg h1] at he;exact absurd (Prod.mk.inj he).2 (by decide)
theorem zB9 {l:List Ins}:zDC l=true↔l.length≤16∧(∀ x∈l,1≤x.tick∧x.tick≤1073741824)∧zBZ (nmI l)=true:=by
 rw[zEM,← zDb]
 simp only[Bool.and_eq_true,decide_eq_true_eq,List.all_eq_true,List.mem_range,zEJ]
 rfl
theorem in_app {l:List Ins}{x:Ins}{k:Nat}(h:k<l.length):in_ (l++[x]) k=in_ l k:=by simp[in_,List.getD_eq_getElem?_getD,List.getElem?_append_left h]
theorem zMf {l:List Ins}{x:Ins}{k j:Nat}(hk:k<l.length):in_ (l.set k x) j=if j=k then x else in_ l j:=by
 simp only[in_,List.getD_eq_getElem?_getD]
 by_cases h:j=k
 ·subst h;simp[hk]
 ·rw[if_neg h,List.getElem?_set_ne (by omega)]
theorem zMg {s t:Sta}{n:List Int}{nm:ByteArray}(h:Good s)(hn:nF n 0≤16)(hk:1≤nF n 1∧nF n 1≤1073741824)(hm:zAR nm=true)(he:zDZ s n nm=(t,0)):Good t:=by
 unfold zDZ at he
 by_cases h1:nF n 0≠s.insts.length+1
 ·rw[if_pos h1] at he;exact absurd (Prod.mk.inj he).2 (by decide)
 rw[if_neg h1] at he
 by_cases h2:(s.insts.any fun x=>x.name.toList==nm.toList)=true
 ·rw[if_pos h2] at he;exact absurd (Prod.mk.inj he).2 (by decide)
 rw[if_neg h2] at he
 obtain rfl:=(Prod.mk.inj he).1
 obtain⟨i1,i2,i3⟩:=zB9.1 h.insts
 refine h.insts' _ (zB9.2 ⟨by rw[List.length_append,List.length_singleton];omega,fun x hx=>?_,?_⟩) (by rw[List.length_append];omega) fun o ho=>?_
 ·rcases List.mem_append.1 hx with e|e
  ·exact i2 x e
  ·rw[List.mem_singleton] at e;subst e;exact hk
 ·have:=zJE (t:=nm) i3 hm (fun x hx=>by
   obtain⟨y,hy,rfl⟩:=List.mem_map.1 hx
   have:=List.any_eq_false.1 (by simpa only[Bool.not_eq_true] using h2) y hy
   exact zRo.1 (by simpa only[Bool.not_eq_true] using this))
  simpa [nmI] using this
 ·have:=zAC.1 (h.ordsIn o ho)
  have hi:=zAT.1 this.2.2.1
  rw[in_app (by omega)];exact this.2.2.2
theorem zLL {s:Sta}(h:Good s){i:Int}(hi:zAq s i=true)(y:Ins)(hnm:y.name=(in_ s.insts (i - 1).toNat).name)(hk:1≤y.tick∧y.tick≤1073741824)(ht:∀ o∈s.orders,o.inst=i→o.price.tmod y.tick=0):Good { s with insts:=s.insts.set (i - 1).toNat y }:=by
 obtain⟨i1,i2,i3⟩:=zB9.1 h.insts
 obtain⟨j1,j2⟩:=zAT.1 hi
 refine h.insts' _ (zB9.2 ⟨by rw[List.length_set];exact i1,fun x hx=>?_,?_⟩) (by rw[List.length_set];exact zzC _) fun o ho=>?_
 ·rcases List.mem_or_eq_of_mem_set hx with e|e
  ·exact i2 x e
  ·rw[e];exact hk
 ·have:nmI (s.insts.set (i - 1).toNat y)=nmI s.insts:=by
   unfold nmI
   rw[List.map_set,hnm]
   have hlt:(i - 1).toNat<s.insts.length:=by omega
   have e:(in_ s.insts (i - 1).toNat).name=(s.insts.map (·.name))[(i - 1).toNat]'(by rw[List.length_map];exact hlt):=by
    rw[in_,List.getD_eq_getElem?_getD,List.getElem?_eq_getElem hlt,List.getElem_map];rfl
   rw[e]
   exact List.set_getElem_self _
  rw[this];exact i3
 ·have hs:=zAC.1 (h.ordsIn o ho)
  rw[zMf (by omega)]
  split
  ·rename_i e
   have hb:=zAT.1 hs.2.2.1
   exact ht o ho (by omega)
  ·exact hs.2.2.2
theorem zLM {s t:Sta}{n:List Int}{is:Bool}(h:Good s)(he:zDG s n is=(t,0)):Good t:=by
 unfold zDG at he
 by_cases h1:zAq s (nF n 0)=true
 ·rw[if_pos h1] at he
  simp only at he
  by_cases h2:(in_ s.insts (nF n 0 - 1).toNat).halted=is
  ·rw[if_pos h2] at he;exact absurd (Prod.mk.inj he).2 (by decide)
  rw[if_neg h2] at he
  obtain rfl:=(Prod.mk.inj he).1
  obtain⟨i1,i2,i3⟩:=zB9.1 h.insts
  obtain⟨j1,j2⟩:=zAT.1 h1
  refine zLL h h1 _ rfl (i2 (in_ s.insts (nF n 0 - 1).toNat) (ze (l:=s.insts) (k:=(nF n 0 - 1).toNat) (by omega))) fun o ho e=>?_
  have:=(zAC.1 (h.ordsIn o ho)).2.2.2
  rw[e] at this;exact this
 ·rw[if_neg h1] at he;exact absurd (Prod.mk.inj he).2 (by decide)
theorem zMh {s t:Sta}{n:List Int}(h:Good s)(hk:1≤nF n 1∧nF n 1≤1073741824)(he:zDa s n=(t,0)):Good t:=by
 unfold zDa at he
 by_cases h1:zAq s (nF n 0)=true
 ·rw[if_pos h1] at he
  by_cases h2:(s.orders.any fun o=>o.inst==nF n 0)=true
  ·rw[if_pos h2] at he;exact absurd (Prod.mk.inj he).2 (by decide)
  rw[if_neg h2] at he
  obtain rfl:=(Prod.mk.inj he).1
  refine zLL h h1 _ rfl hk fun o ho e=>?_
  have:=List.any_eq_false.1 (by simpa only[Bool.not_eq_true] using h2) o ho
  simp[e] at this
 ·rw[if_neg h1] at he;exact absurd (Prod.mk.inj he).2 (by decide)
theorem zT0 {s:Sta}{z:Int}(h:Good s)(hz:0≤z∧z≤1000):Good { s with fee:=z }:=by
 have:=zx.1 h.nums
 exact h.nums' (zx.2 ⟨this.1,hz,this.2.2⟩) rfl rfl rfl rfl rfl (Int.le_refl _) (Int.le_refl _)
theorem zPL {s t:Sta}{n:List Int}(h:Good s)(hk:nF n 0≤1099511627776)(he:zEs s n=(t,0)):Good t:=by
 unfold zEs at he
 by_cases h1:nF n 0≤s.clock∨(s.aucs.any fun a=>zA6 a s.clock)=true
 ·rw[if_pos h1] at he;exact absurd (Prod.mk.inj he).2 (by decide)
 rw[if_neg h1] at he
 obtain rfl:=(Prod.mk.inj he).1
 have:=zx.1 h.nums
 exact h.nums' (zx.2 ⟨⟨by show 0≤nF n 0;omega,hk⟩,this.2⟩) rfl rfl rfl rfl rfl (Int.le_refl _) (Int.le_refl _)
theorem Good.parts {s:Sta}(h:Good s):(zS s).length≤1024∧∀ y∈zS s,zRi y :=
 zIH (zCG.2 ⟨h.ords,fun _ hk=>h.ordsIn _ (ze hk)⟩) (zDJ.2 ⟨h.aucs,fun _ hk=>h.aucsIn _ (ze hk)⟩)
theorem zDy {l:List P3}(h:∀ y∈l,0≤y.2.2)(x:Pl):0≤zq l x:=by
 induction l with
 | nil=>exact Int.le_refl _
 | cons y l ih =>
   rw[zDK]
   have h1:=ih fun q hq=>h q (zz5 _ hq)
   have h2:=h y (zz2 _)
   split<;>omega
theorem zLN {l:List P3}(h:∀ y∈l,0≤y.2.2){y:P3}(hy:y∈l):y.2.2≤zq l (zA0 y):=by
 induction l with
 | nil=>cases hy
 | cons q l ih =>
   rw[zDK]
   have h1:=h q (zz2 _)
   have hl:=fun z hz=>h z (zz5 q hz)
   rcases List.mem_cons.1 hy with rfl|e
   ·have:=zDy hl (zA0 y)
    rw[if_pos rfl];omega
   ·have:=ih hl e
    split<;>omega
theorem zRp {s:Sta}(h:Good s){y:P3}(hy:y∈zS s):∃ r∈s.rows,zAD r=zA0 y:=by
 obtain⟨_,po⟩:=h.parts
 have hp:=po y hy
 have hg:zA0 y∈zBb:=zCL.2 ⟨hp.2.1,hp.2.2⟩
 have h1:=h.held _ hg
 have h2:=zLN (fun q hq=>Int.le_of_lt (po q hq).1.1) hy
 refine zRm fun h0=>?_
 rw[h0] at h1
 have:=hp.1.1
 simp only at h1
 omega
theorem zC2 {o:Odr}(h:zAm o):(zT o=(if o.side=1 then(0,o.price*o.left) else(o.inst,o.left)))∧0<(zT o).2:=by
 have e:zT o=(if o.side=1 then(0,o.price*o.left) else(o.inst,o.left)):=by unfold zT;rw[if_pos ((zAi o).2 h)]
 refine⟨e,?_⟩
 rw[e]
 obtain⟨_,_,_,_,g4,g5⟩:=h
 split
 ·have:=Int.mul_pos (show 0<o.price by omega) (show 0<o.left by omega)
  exact this
 ·show 0<o.left;omega
theorem zEy {o:Odr}(h:zAm o):zAI o=[(o.acct,(zT o).1,(zT o).2)]:=by
 unfold zAI;rw[if_pos (zC2 h).2]
theorem part_o {s:Sta}(h:Good s){o:Odr}(ho:o∈s.orders):(o.acct,(zT o).1,(zT o).2)∈zS s:=by
 unfold zS
 refine zz6 _ (List.mem_flatMap.2 ⟨o,ho,?_⟩)
 rw[zEy ((zAP.1 h.ords).2.1 o ho)];exact zz2 _
theorem part_a {s:Sta}(h:Good s){a:Auc}(ha:a∈s.aucs):(a.seller,a.inst,a.qty)∈zS s∧∀ b∈a.bids,((b.acct,0,b.amount):P3)∈zS s:=by
 have hm:=(zAL.1 h.aucs).2.1 a ha
 have hp:zX a=(a.seller,a.inst,a.qty)::a.bids.map (fun b=>(b.acct,0,b.amount)):=by unfold zX;rw[if_pos hm]
 unfold zS
 refine⟨zz3 _ (List.mem_flatMap.2 ⟨a,ha,by rw[hp];exact zz2 _⟩),fun b hb=>zz3 _ (List.mem_flatMap.2 ⟨a,ha,by rw[hp];exact zz5 _ (List.mem_map.2 ⟨b,hb,rfl⟩)⟩)⟩
theorem zMi {s t:Sta}{n:List Int}(h:Good s)(he:zDY s n=(t,0)):Good t:=by
 unfold zDY at he
 by_cases h1:zt s (nF n 0)=true
 ·rw[if_pos h1] at he
  by_cases h2:(s.rows.any fun r=>r.acct==nF n 0)=true
  ·rw[if_pos h2] at he;exact absurd (Prod.mk.inj he).2 (by decide)
  rw[if_neg h2] at he
  obtain rfl:=(Prod.mk.inj he).1
  have hr:∀ r∈s.rows,r.acct≠nF n 0:=fun r hr=>by
   have:=List.any_eq_false.1 (by simpa only[Bool.not_eq_true] using h2) r hr
   simpa using this
  have hp:∀ y∈zS s,y.1≠nF n 0:=fun y hy e=>by
   obtain⟨r,hr',e'⟩:=zRp h hy
   exact hr r hr' ((congrArg Prod.fst e').trans e)
  obtain⟨p1,p2,p3⟩:=zBi.1 h1
  generalize hl:s.accts.set (nF n 0 - 1).toNat ⟨(ac_ s.accts (nF n 0 - 1).toNat).name,false⟩=l
  have hm:∀ a,zt s a=true→a≠nF n 0→zt { s with accts:=l } a=true:=fun a ha hne=>by
   obtain⟨o1,o2,o3⟩:=zBi.1 ha
   refine zBi.2 ⟨o1,?_,?_⟩
   ·show a≤(l.length:Int);rw[← hl,List.length_set];exact o2
   ·show(ac_ l (a - 1).toNat).opn=true
    rw[← hl,zMe (by omega),if_neg (by omega)];exact o3
  have ha:=zB8.1 h.accts
  refine⟨h.nums,zB8.2 ⟨by show l.length≤64;rw[← hl,List.length_set];exact ha.1,?_⟩,h.insts,h.rows,fun r hr'=>?_,h.ords,fun o ho=>?_,h.aucs,fun a ha'=>?_,h.held⟩
  ·have:nmA l=nmA s.accts:=by
    unfold nmA
    have hlt:(nF n 0 - 1).toNat<s.accts.length:=by omega
    rw[← hl,List.map_set]
    have e:(ac_ s.accts (nF n 0 - 1).toNat).name=(s.accts.map (·.name))[(nF n 0 - 1).toNat]'(by rw[List.length_map];exact hlt):=by
     rw[ac_,List.getD_eq_getElem?_getD,List.getElem?_eq_getElem hlt,List.getElem_map];rfl
    simp only
    rw[e]
    exact List.set_getElem_self _
   show zBZ (nmA l)=true
   rw[this];exact ha.2
  ·have:=h.rowsIn r hr'
   exact⟨this.1.imp id fun g=>hm _ g (hr r hr'),this.2⟩
  ·have:=zAC.1 (h.ordsIn o ho)
   exact zAC.2 ⟨this.1,hm _ this.2.1 (hp _ (part_o h ho)),this.2.2.1,this.2.2.2⟩
  ·have:=zAQ.1 (h.aucsIn a ha')
   obtain⟨q1,q2⟩:=part_a h ha'
   exact zAQ.2 ⟨this.1,hm _ this.2.1 (hp _ q1),this.2.2.1,fun b hb=>hm _ (this.2.2.2 b hb) (hp _ (q2 b hb))⟩
 ·rw[if_neg h1] at he;exact absurd (Prod.mk.inj he).2 (by decide)
theorem zCc {s:Sta}{a i p:Int}{m:Bool}(h:zAF s a i p m=0):zt s a=true∧zAq s i=true∧(in_ s.insts (i - 1).toNat).halted=false∧p.tmod (in_ s.insts (i - 1).toNat).tick=0∧m=false:=by
 unfold zAF at h
 by_cases h1:zt s a=true∧zAq s i=true
 ·rw[if_pos h1] at h
  simp only at h
  by_cases h2:(in_ s.insts (i - 1).toNat).halted=true
  ·rw[if_pos h2] at h;cases h
  rw[if_neg h2] at h
  by_cases h3:p.tmod (in_ s.insts (i - 1).toNat).tick≠0
  ·rw[if_pos h3] at h;cases h
  rw[if_neg h3] at h
  by_cases h4:m=true
  ·rw[if_pos h4] at h;cases h
  exact⟨h1.1,h1.2,by simpa using h2,Decidable.of_not_not h3,by simpa using h4⟩
 ·rw[if_neg h1] at h;cases h
theorem zIJ (a s f g:Int)(x:Pl):(dlF [⟨a,s,f,g⟩] x).2=if ((a,s):Pl)=x then g else 0:=by
 rw[zAW]
 by_cases h:a=x.1∧s=x.2
 ·rw[if_pos h,if_pos (Prod.ext h.1 h.2)];show(dlF [] x).2+g=g;show(0:Int)+g=g;omega
 ·rw[if_neg h,if_neg fun e=>h ⟨congrArg Prod.fst e,congrArg Prod.snd e⟩];rfl
theorem zDN (a s n:Int)(x:Pl):zq [(a,s,n)] x=if ((a,s):Pl)=x then n else 0:=by
 rw[zDK,zGu]
 show(if ((a,s):Pl)=x then n else 0)+0=_
 omega
theorem zLO {l:List Odr}{o:Odr}(h:zd l=true)(ho:zu o=true)(hlt:∀ x∈l,x.id<o.id)(hn:l.length<128):zFT l o=(l++[o],0):=by
 unfold zFT
 rw[if_pos ⟨h,ho⟩]
 have hf:(zV l o.id).2=false:=by
  unfold zV
  rw[if_pos h,List.find?_eq_none.2 fun x hx=>by have:=hlt x hx;simp;omega]
 rw[hf]
 rw[if_neg (by simp),if_neg (by omega),List.filter_eq_self.2 fun x hx=>decide_eq_true (hlt x hx),List.filter_eq_nil_iff.2 fun x hx=>by have:=hlt x hx;simp;omega]
theorem zMj {s t:Sta}{n:List Int}(h:Good s)(hm:zu ⟨nF n 0,nF n 1,nF n 2,nF n 3,nF n 4,nF n 5⟩=true)(he:zCJ s n=(t,0)):Good t:=by
 unfold zCJ at he
 simp only at he
 generalize ho:(⟨nF n 0,nF n 1,nF n 2,nF n 3,nF n 4,nF n 5⟩:Odr)=o at he hm
 have hid:nF n 0=o.id:=by rw[← ho]
 have hac:nF n 1=o.acct:=by rw[← ho]
 have hin:nF n 2=o.inst:=by rw[← ho]
 have hpr:nF n 4=o.price:=by rw[← ho]
 rw[hid,hac,hin,hpr] at he
 by_cases h1:o.id≠s.nextO
 ·rw[if_pos h1] at he;exact absurd (Prod.mk.inj he).2 (by decide)
 rw[if_neg h1] at he
 by_cases h2:zAF s o.acct o.inst o.price (decide (128≤s.orders.length))≠0
 ·rw[if_pos h2] at he;exact absurd (Prod.mk.inj he).2 h2
 rw[if_neg h2] at he
 obtain⟨q1,q2,_,q4,q5⟩:=zCc (Decidable.of_not_not h2)
 by_cases h3:(zAO s o.acct (zT o).1 (zT o).2).2≠0
 ·rw[if_pos h3] at he;rw[he] at h3;exact absurd rfl h3
 rw[if_neg h3] at he
 obtain rfl:=(Prod.mk.inj he).1
 have hm':=(zAi o).1 hm
 obtain⟨e1,e2⟩:=zC2 hm'
 obtain⟨r1,r2⟩:=zBF (s:=s) (p:=[⟨o.acct,(zT o).1,-(zT o).2,(zT o).2⟩]) (t:=(zAO s o.acct (zT o).1 (zT o).2).1) (Prod.ext rfl (Decidable.of_not_not h3))
 have hlt:∀ x∈s.orders,x.id<o.id:=fun x hx=>by have:=(zAC.1 (h.ordsIn x hx)).1;omega
 have hlen:s.orders.length<128:=by have:=zzB q5;omega
 have hadd:=zLO h.ords hm hlt hlen
 obtain⟨o1,o2,o3⟩:=zAP.1 h.ords
 have hn:=zx.1 h.nums
 generalize (zAO s o.acct (zT o).1 (zT o).2).1=u at r1 r2 ⊢
 have u1:u.accts=s.accts:=by rw[r2]
 have u2:u.insts=s.insts:=by rw[r2]
 have u3:u.aucs=s.aucs:=by rw[r2]
 have u4:u.clock=s.clock∧u.fee=s.fee∧u.nextA=s.nextA:=by rw[r2];exact⟨rfl,rfl,rfl⟩
 have eo:∀ a,zt { u with orders:=(zFT s.orders o).1,nextO:=s.nextO+1 } a=zt s a:=fun a=>by unfold zt;simp only;rw[u1]
 have eh:∀ a,zAq { u with orders:=(zFT s.orders o).1,nextO:=s.nextO+1 } a=zAq s a:=fun a=>by unfold zAq;simp only;rw[u2]
 have hinst:(zT o).1≤s.insts.length:=by
  rw[e1]
  split
  ·show(0:Int)≤_;omega
  ·exact(zAT.1 q2).2
 refine h.upd r1 ?_ u1 u2 (zx.2 ?_) ?_ ?_ ?_ ?_ ?_
 ·intro q hq
  rw[List.mem_singleton] at hq;subst hq
  exact⟨.inr q1,hinst⟩
 ·simp only
  rw[u4.1,u4.2.1,u4.2.2]
  have:=hm'.1
  exact⟨hn.1,hn.2.1,by omega,hn.2.2.2⟩
 ·simp only
  rw[hadd]
  refine zAP.2 ⟨by rw[List.length_append,List.length_singleton];omega,fun x hx=>?_,?_⟩
  ·rcases List.mem_append.1 hx with e|e
   ·exact o2 x e
   ·rw[List.mem_singleton] at e;subst e;exact hm'
  ·rw[List.pairwise_append]
   exact⟨o3,by simp,fun a ha b hb=>by rw[List.mem_singleton] at hb;subst hb;exact hlt a ha⟩
 ·intro x hx
  simp only at hx
  rw[hadd] at hx
  refine zAC.2 ?_
  rw[eo,eh]
  simp only
  rw[u2]
  rcases List.mem_append.1 hx with e|e
  ·have:=zAC.1 (h.ordsIn x e)
   exact⟨by omega,this.2⟩
  ·rw[List.mem_singleton] at e;subst e
   exact⟨by omega,q1,q2,q4⟩
 ·simp only;rw[u3];exact h.aucs
 ·intro a ha
  simp only at ha
  rw[u3] at ha
  have:=zAQ.1 (h.aucsIn a ha)
  refine zAQ.2 ?_
  simp only[eo,eh]
  rw[u4.2.2]
  exact this
 ·intro x _
  unfold zS
  simp only
  rw[u3,hadd,List.flatMap_append,List.flatMap_singleton,zEy hm',zg,zg,zg,zDN,zIJ]
  omega
def zDd (o:Odr):Int:=if o.side=1 then o.price else 1
theorem zFI {o:Odr}(h:zAm o):(zT o).2=zDd o*o.left:=by
 rw[(zC2 h).1];unfold zDd
 split
 ·rfl
 ·show o.left=1*o.left;omega
def zBM (o:Odr)(q:Int):Odr:={ o with left:=o.left - q }
theorem zLP {o:Odr}(h:zAm o){q:Int}(h1:1≤q)(h2:q<o.left):zAm (zBM o q):=by
 obtain⟨a,b,c,d,e,f⟩:=h
 exact⟨a,b,c,d,e,by show 1≤o.left - q∧o.left - q≤1048576;omega⟩
theorem zPM {o:Odr}(h:zAm o){q:Int}(h1:1≤q)(h2:q<o.left):(zT (zBM o q)).1=(zT o).1∧(zT (zBM o q)).2=(zT o).2 - zDd o*q:=by
 have h':=zLP h h1 h2
 constructor
 ·rw[(zC2 h').1,(zC2 h).1]
  show(if o.side=1 then((0:Int),o.price*(o.left - q)) else(o.inst,o.left - q)).1=_
  split<;>rfl
 ·rw[zFI h',zFI h]
  show zDd o*(o.left - q)=_
  rw[Int.mul_sub]
theorem zLQ {l:List Odr}(h:l.Pairwise fun a b=>a.id<b.id){o:Odr}(ho:o∈l):∃ a b,l=a++o::b∧(∀ x∈a,x.id≠o.id)∧∀ x∈b,x.id≠o.id:=by
 obtain⟨a,b,rfl⟩:=List.append_of_mem ho
 rw[List.pairwise_append,List.pairwise_cons] at h
 refine⟨a,b,rfl,fun x hx=>?_,fun x hx=>?_⟩
 ·have:=h.2.2 x hx o (zz2 _);omega
 ·have:=h.2.1.1 x hx;omega
theorem zFt {a b:List Odr}{o:Odr}{q:Int}(ha:∀ x∈a,x.id≠o.id)(hb:∀ x∈b,x.id≠o.id)(hpa:∀ x∈a,x.left≠0)(hpb:∀ x∈b,x.left≠0) :
  zBs (a++o::b) o.id q=a++((if o.left - q=0 then[] else[zBM o q])++b):=by
 have key:∀ l:List Odr,(∀ x∈l,x.id≠o.id)→(∀ x∈l,x.left≠0)→(l.map fun z=>if z.id=o.id then{ z with left:=z.left - q } else z).filter (fun z=>decide (z.left≠0))=l:=by
  intro l h1 h2
  have:(l.map fun z=>if z.id=o.id then{ z with left:=z.left - q } else z)=l:=by
   conv=>rhs;rw[← List.map_id l]
   exact List.map_congr_left fun z hz=>by rw[if_neg (h1 z hz)];rfl
  rw[this]
  exact List.filter_eq_self.2 fun z hz=>decide_eq_true (h2 z hz)
 unfold zBs
 rw[List.map_append,List.filter_append,key a ha hpa,List.map_cons,List.filter_cons,key b hb hpb,if_pos rfl]
 congr 1
 by_cases h0:o.left - q=0
 ·rw[if_pos h0,if_neg (by simp[h0])];rfl
 ·rw[if_neg h0,if_pos (by simp;exact h0)];rfl
structure TakeFx (l m:List Odr)(o:Odr)(q:Int):Prop where
 ok:zd m=true
 mem:∀ x∈m,x∈l∧x.id≠o.id∨x=zBM o q∧q<o.left
 keep:∀ x∈l,x.id≠o.id→x∈m
 held:∀ x,zq (m.flatMap zAI) x=zq (l.flatMap zAI) x - (if ((o.acct,(zT o).1):Pl)=x then zDd o*q else 0)
theorem zHa {l:List Odr}(h:zd l=true){o:Odr}(ho:o∈l){q:Int}(h1:1≤q)(h2:q≤o.left):TakeFx l (zBs l o.id q) o q:=by
 obtain⟨l1,l2,l3⟩:=zAP.1 h
 obtain⟨a,b,rfl,ha,hb⟩:=zLQ l3 ho
 have hm:=l2 o ho
 have hp:∀ x∈a++o::b,x.left≠0:=fun x hx=>by have:=(l2 x hx).2.2.2.2.2;omega
 rw[zFt ha hb (fun x hx=>hp x (List.mem_append_left _ hx)) (fun x hx=>hp x (List.mem_append_right _ (List.Mem.tail _ hx)))]
 rw[List.pairwise_append,List.pairwise_cons] at l3
 by_cases h0:o.left - q=0
 ·rw[if_pos h0,List.nil_append]
  refine⟨zAP.2 ⟨?_,fun x hx=>?_,?_⟩,fun x hx=>.inl ?_,fun x hx hne=>?_,fun x=>?_⟩
  ·simp only[List.length_append,List.length_cons] at l1 ⊢;omega
  ·rcases List.mem_append.1 hx with e|e
   ·exact l2 x (zz6 _ e)
   ·exact l2 x (zz3 _ (zz5 _ e))
  ·rw[List.pairwise_append]
   exact⟨l3.1,l3.2.1.2,fun x hx y hy=>l3.2.2 x hx y (zz5 _ hy)⟩
  ·rcases List.mem_append.1 hx with e|e
   ·exact⟨zz6 _ e,ha x e⟩
   ·exact⟨zz3 _ (zz5 _ e),hb x e⟩
  ·rcases List.mem_append.1 hx with e|e
   ·exact zz6 _ e
   ·rcases List.mem_cons.1 e with e|e
    ·subst e;exact absurd rfl hne
    ·exact zz3 _ e
  ·rw[List.flatMap_append,List.flatMap_append,List.flatMap_cons,zg,zg,zg,zEy hm,zDN,zFI hm,show q=o.left by omega]
   split<;>omega
 ·rw[if_neg h0]
  have hlt:q<o.left:=by omega
  have hm':=zLP hm h1 hlt
  refine⟨zAP.2 ⟨?_,fun x hx=>?_,?_⟩,fun x hx=>?_,fun x hx hne=>?_,fun x=>?_⟩
  ·simp only[List.length_append,List.length_cons,List.length_nil] at l1 ⊢;omega
  ·rcases List.mem_append.1 hx with e|e
   ·exact l2 x (zz6 _ e)
   ·rcases List.mem_append.1 e with e|e
    ·rw[List.mem_singleton] at e;subst e;exact hm'
    ·exact l2 x (zz3 _ (zz5 _ e))
  ·rw[List.singleton_append,List.pairwise_append,List.pairwise_cons]
   refine⟨l3.1,⟨fun y hy=>l3.2.1.1 y hy,l3.2.1.2⟩,fun x hx y hy=>?_⟩
   rcases List.mem_cons.1 hy with e|e
   ·subst e;exact l3.2.2 x hx o (zz2 _)
   ·exact l3.2.2 x hx y (zz5 _ e)
  ·rcases List.mem_append.1 hx with e|e
   ·exact .inl ⟨zz6 _ e,ha x e⟩
   ·rcases List.mem_append.1 e with e|e
    ·rw[List.mem_singleton] at e;exact .inr ⟨e,hlt⟩
    ·exact .inl ⟨zz3 _ (zz5 _ e),hb x e⟩
  ·rcases List.mem_append.1 hx with e|e
   ·exact zz6 _ e
   ·rcases List.mem_cons.1 e with e|e
    ·subst e;exact absurd rfl hne
    ·exact zz3 _ (zz3 _ e)
  ·obtain⟨g1,g2⟩:=zPM hm h1 hlt
   rw[List.flatMap_append,zg,List.flatMap_append,zg,List.flatMap_singleton,List.flatMap_append,zg,List.flatMap_cons,zg,zEy hm,zEy hm',zDN,zDN,g1,g2]
   show _+((if ((o.acct,(zT o).1):Pl)=x then(zT o).2 - zDd o*q else 0)+_)=_
   split<;>omega
theorem zCh {l:List Odr}{id:Int}(h:(zV l id).2=true):zd l=true∧(zV l id).1∈l∧(zV l id).1.id=id:=by
 unfold zV at h ⊢
 by_cases h1:zd l=true
 ·rw[if_pos h1] at h ⊢
  cases hf:l.find? (fun o=>o.id==id) with
  | none=>rw[hf] at h;cases h
  | some o =>
    have:=List.find?_some hf
    exact⟨h1,List.mem_of_find?_eq_some hf,by simpa using this⟩
 ·rw[if_neg h1] at h;cases h
theorem zBd {l:List Odr}(h:zd l=true){o:Odr}(ho:o∈l):zV l o.id=(o,true):=by
 unfold zV
 rw[if_pos h]
 obtain⟨_,_,l3⟩:=zAP.1 h
 cases hf:l.find? (fun x=>x.id==o.id) with
 | none=>have:=List.find?_eq_none.1 hf o ho;simp at this
 | some x =>
   have h1:=List.find?_some hf
   have h2:=List.mem_of_find?_eq_some hf
   obtain⟨a,b,rfl,ha,hb⟩:=zLQ l3 ho
   have:x=o:=by
    rcases List.mem_append.1 h2 with e|e
    ·exact absurd (by simpa using h1) (ha x e)
    ·rcases List.mem_cons.1 e with e|e
     ·exact e
     ·exact absurd (by simpa using h1) (hb x e)
   rw[this]
theorem zDz {l:List Odr}(h:zd l=true){o:Odr}(ho:o∈l){q:Int}(h1:1≤q)(h2:q≤o.left):zAx l o.id q=(zBs l o.id q,0):=by
 unfold zAx
 rw[if_pos h,zBd h ho,if_pos rfl,if_neg (by simp only;omega)]
theorem zGP {s u:Sta}{m:List Odr}(h:Good s)(e1:u.accts=s.accts)(e2:u.insts=s.insts)(e3:u.nextO=s.nextO)(hm:∀ x∈m,∃ y∈s.orders,x.id=y.id∧x.acct=y.acct∧x.inst=y.inst∧x.price=y.price):∀ x∈m,zCf u x=true:=by
 intro x hx
 obtain⟨y,hy,a1,a2,a3,a4⟩:=hm x hx
 have:=zAC.1 (h.ordsIn y hy)
 refine zAC.2 ?_
 unfold zt zAq at *
 rw[e1,e2,e3,a1,a2,a3,a4]
 exact this
theorem zKH {s u:Sta}(h:Good s)(e1:u.accts=s.accts)(e2:u.insts=s.insts)(e3:u.nextA=s.nextA):∀ a∈s.aucs,zCH u a=false:=by
 intro a ha
 have:=zAQ.1 (h.aucsIn a ha)
 refine zAQ.2 ?_
 unfold zt zAq at *
 rw[e1,e2,e3]
 exact this
theorem zIp {s t:Sta}{n:List Int}(h:Good s)(he:zAv s n=(t,0)):Good t:=by
 unfold zAv at he
 simp only at he
 by_cases h1:(zV s.orders (nF n 0)).2=true
 ·rw[if_pos h1] at he
  obtain⟨_,f1,f2⟩:=zCh h1
  generalize (zV s.orders (nF n 0)).1=o at he f1 f2
  have hm:=(zAP.1 h.ords).2.1 o f1
  have hl:=hm.2.2.2.2.2
  have hd:(zCy s.orders o.id).1=zBs s.orders o.id o.left:=by
   unfold zCy
   rw[zBd h.ords f1,zDz h.ords f1 hl.1 (Int.le_refl _)]
  rw[hd] at he
  have fx:=zHa h.ords f1 hl.1 (Int.le_refl o.left)
  obtain⟨r1,r2⟩:=zBF he
  have ho:=zAC.1 (h.ordsIn o f1)
  have hinst:(zT o).1≤s.insts.length:=by
   rw[(zC2 hm).1]
   split
   ·show(0:Int)≤_;omega
   ·exact(zAT.1 ho.2.2.1).2
  have u1:t.accts=s.accts:=by rw[r2]
  have u2:t.insts=s.insts:=by rw[r2]
  have u3:t.aucs=s.aucs:=by rw[r2]
  have u4:t.orders=zBs s.orders o.id o.left:=by rw[r2]
  have u5:t.nextO=s.nextO:=by rw[r2]
  have u6:t.nextA=s.nextA:=by rw[r2]
  have u7:t.clock=s.clock:=by rw[r2]
  have u8:t.fee=s.fee:=by rw[r2]
  refine h.upd r1 ?_ u1 u2 (zx.2 (by rw[u5,u6,u7,u8];exact zx.1 h.nums)) (by rw[u4];exact fx.ok) ?_ (by rw[u3];exact h.aucs) (by rw[u3];exact zKH h u1 u2 u6) ?_
  ·intro q hq
   rw[List.mem_singleton] at hq;subst hq
   exact⟨.inr ho.2.1,hinst⟩
  ·rw[u4]
   refine zGP h u1 u2 u5 fun x hx=>?_
   rcases fx.mem x hx with e|e
   ·exact⟨x,e.1,rfl,rfl,rfl,rfl⟩
   ·exact absurd e.2 (Int.lt_irrefl _)
  ·intro x _
   unfold zS
   rw[u3,u4,zg,zg,fx.held x,zIJ,zFI hm]
   split<;>omega
 ·rw[if_neg h1] at he;exact absurd (Prod.mk.inj he).2 (by decide)
theorem zIK {o u:Odr}(h:zAu o u=true):zAm o∧zAm u∧o.inst=u.inst∧o.side≠u.side∧(if o.side=1 then u.price≤o.price else o.price≤u.price):=by
 unfold zAu at h
 simp only[Bool.and_eq_true,zAi,beq_iff_eq,bne_iff_ne] at h
 refine⟨h.1.1.1.1,h.1.1.1.2,h.1.1.2,h.1.2,?_⟩
 have:=h.2
 split
 ·rename_i e;rw[if_pos e] at this;simpa using this
 ·rename_i e;rw[if_neg e] at this;simpa using this
theorem zIL {b l:Odr}(hb:zAm b)(hl:zAm l)(sb:b.side=1)(sl:l.side=2)(inst p q f:Int)(hi:l.inst=inst)(x:Pl) :
  (dlF (zA1 b l inst p q f) x).2=-(if ((b.acct,(zT b).1):Pl)=x then zDd b*q else 0) - (if ((l.acct,(zT l).1):Pl)=x then zDd l*q else 0):=by
 have e1:(zT b).1=0:=by rw[(zC2 hb).1,if_pos sb]
 have e2:(zT l).1=inst:=by rw[(zC2 hl).1,if_neg (by omega)];exact hi
 have e3:zDd b=b.price:=by unfold zDd;rw[if_pos sb]
 have e4:zDd l=1:=by unfold zDd;rw[if_neg (by omega)]
 have step:∀ (a s f g:Int) (p:List Pst),(dlF (⟨a,s,f,g⟩::p) x).2=(dlF p x).2+if ((a,s):Pl)=x then g else 0:=by
  intro a s f g p
  rw[zAW]
  by_cases h:a=x.1∧s=x.2
  ·rw[if_pos h,if_pos (Prod.ext h.1 h.2)]
  ·rw[if_neg h,if_neg fun e=>h ⟨congrArg Prod.fst e,congrArg Prod.snd e⟩];omega
 unfold zA1
 rw[step,step,step,step,step,e1,e2,e3,e4,Int.neg_mul]
 show((((0+_)+_)+_)+_)+_=_
 have z:∀ c:Prop,[Decidable c]→(if c then(0:Int) else 0)=0:=fun c _=>by split<;>rfl
 rw[z,z,z]
 split<;>split<;>omega
theorem zMk {s t:Sta}{n:List Int}(h:Good s)(he:zCK s n=(t,0)):Good t:=by
 unfold zCK at he
 simp only at he
 by_cases h1:(zV s.orders (nF n 0)).2=true∧(zV s.orders (nF n 1)).2=true
 ·rw[if_pos h1] at he
  obtain⟨_,f1,f2⟩:=zCh h1.1
  obtain⟨_,g1,g2⟩:=zCh h1.2
  generalize (zV s.orders (nF n 0)).1=o at he f1 f2
  generalize (zV s.orders (nF n 1)).1=u at he g1 g2
  by_cases h2:zDH s n o u=true
  ·rw[if_pos h2] at he
   unfold zDH at h2
   simp only[Bool.and_eq_true,beq_iff_eq] at h2
   obtain⟨⟨⟨⟨⟨_,_⟩,hc⟩,hp⟩,hq⟩,hf⟩:=h2
   obtain⟨mo,mu,hin,hsd,hpr⟩:=zIK hc
   by_cases h3:o.acct=u.acct
   ·rw[if_pos h3] at he;exact absurd (Prod.mk.inj he).2 (by decide)
   rw[if_neg h3] at he
   generalize nF n 2=price at *
   generalize nF n 3=qty at *
   generalize nF n 4=fee at *
   generalize hP:(if o.side=2 then zA1 u o o.inst price qty fee else zA1 o u o.inst price qty fee)=P at he
   by_cases h4:(zj s P).2≠0
   ·rw[if_pos h4] at he;rw[he] at h4;exact absurd rfl h4
   rw[if_neg h4] at he
   obtain rfl:=(Prod.mk.inj he).1
   obtain⟨r1,r2⟩:=zBF (s:=s) (p:=P) (t:=(zj s P).1) (Prod.ext rfl (Decidable.of_not_not h4))
   generalize (zj s P).1=w at r1 r2 ⊢
   have lo:=mo.2.2.2.2.2
   have lu:=mu.2.2.2.2.2
   have q1:1≤qty:=by omega
   have q2:qty≤o.left:=by omega
   have q3:qty≤u.left:=by omega
   have fx:=zHa h.ords f1 q1 q2
   have hne:u.id≠o.id:=fun e=>by
    have:=zBd h.ords f1
    rw[← e,zBd h.ords g1] at this
    have:=(Prod.mk.inj this).1
    rw[this] at hsd
    exact hsd rfl
   have gx:=zHa fx.ok (fx.keep u g1 hne) q1 q3
   have e1:(zAx (zAx s.orders o.id qty).1 u.id qty).1=zBs (zBs s.orders o.id qty) u.id qty:=by
    rw[zDz h.ords f1 q1 q2,zDz fx.ok (fx.keep u g1 hne) q1 q3]
   rw[e1]
   have ho:=zAC.1 (h.ordsIn o f1)
   have hu:=zAC.1 (h.ordsIn u g1)
   have u1:w.accts=s.accts:=by rw[r2]
   have u2:w.insts=s.insts:=by rw[r2]
   have u3:w.aucs=s.aucs:=by rw[r2]
   have u5:w.nextO=s.nextO:=by rw[r2]
   have u6:w.nextA=s.nextA:=by rw[r2]
   have u7:w.clock=s.clock:=by rw[r2]
   have u8:w.fee=s.fee:=by rw[r2]
   have hs1:=mo.2.2.2.1
   have hs2:=mu.2.2.2.1
   have hdl:∀ x,(dlF P x).2=-(if ((o.acct,(zT o).1):Pl)=x then zDd o*qty else 0) - (if ((u.acct,(zT u).1):Pl)=x then zDd u*qty else 0):=fun x=>by
    rw[← hP]
    by_cases h5:o.side=2
    ·rw[if_pos h5,zIL mu mo (by omega) h5 _ _ _ _ rfl];omega
    ·rw[if_neg h5,zIL mo mu (by omega) (by omega) _ _ _ _ hin.symm]
   have hinP:InP s P:=by
    have hi:=zAT.1 ho.2.2.1
    rw[← hP]
    intro q hq
    have z:(0:Int)≤s.insts.length:=by omega
    split at hq <;>
    ·unfold zA1 at hq
     simp only[List.mem_cons,List.not_mem_nil,or_false] at hq
     rcases hq with rfl|rfl|rfl|rfl|rfl
     ·exact⟨.inr (by first|exact hu.2.1|exact ho.2.1),z⟩
     ·exact⟨.inr (by first|exact ho.2.1|exact hu.2.1),z⟩
     ·exact⟨.inl (Int.le_refl _),z⟩
     ·exact⟨.inr (by first|exact ho.2.1|exact hu.2.1),hi.2⟩
     ·exact⟨.inr (by first|exact hu.2.1|exact ho.2.1),hi.2⟩
   refine h.upd (t:={ w with orders:=zBs (zBs s.orders o.id qty) u.id qty }) r1 hinP u1 u2 (zx.2 (by simp only;rw[u5,u6,u7,u8];exact zx.1 h.nums)) gx.ok ?_ (by simp only;rw[u3];exact h.aucs) (by simp only;rw[u3];exact zKH h u1 u2 u6) ?_
   ·refine zGP (s:=s) h u1 u2 u5 fun x hx=>?_
    have back:∀ y,y∈zBs s.orders o.id qty→∃ z∈s.orders,y.id=z.id∧y.acct=z.acct∧y.inst=z.inst∧y.price=z.price:=fun y hy=>by
     rcases fx.mem y hy with e|e
     ·exact⟨y,e.1,rfl,rfl,rfl,rfl⟩
     ·rw[e.1];exact⟨o,f1,rfl,rfl,rfl,rfl⟩
    rcases gx.mem x hx with e|e
    ·exact back x e.1
    ·rw[e.1];exact⟨u,g1,rfl,rfl,rfl,rfl⟩
   ·intro x _
    unfold zS
    simp only
    rw[u3,zg,zg,gx.held x,fx.held x,hdl x]
    omega
  ·rw[if_neg h2] at he;exact absurd (Prod.mk.inj he).2 (by decide)
 ·rw[if_neg h1] at he;exact absurd (Prod.mk.inj he).2 (by decide)
theorem zGw (p:List Pst)(x:Pl):(dlF p x).2=(p.map fun q=>if ((q.acct,q.asset):Pl)=x then q.held else 0).sum:=by
 induction p with
 | nil=>rfl
 | cons q p ih =>
   rw[zAW,List.map_cons,List.sum_cons,← ih]
   by_cases h:q.acct=x.1∧q.asset=x.2
   ·rw[if_pos h,if_pos (Prod.ext h.1 h.2)];simp only;omega
   ·rw[if_neg h,if_neg fun e=>h ⟨congrArg Prod.fst e,congrArg Prod.snd e⟩];omega
def bP3 (b:Bid):P3:=(b.acct,0,b.amount)
theorem zDO {a:Auc}(h:zAV a=true)(x:Pl):zq (zX a) x=(if ((a.seller,a.inst):Pl)=x then a.qty else 0)+zq (a.bids.map bP3) x:=by
 unfold zX
 rw[if_pos h,zDK];rfl
theorem zN0 (a:Auc)(x:Pl):(dlF (zAU a) x).2=-(if ((a.seller,a.inst):Pl)=x then a.qty else 0) - zq (a.bids.map bP3) x:=by
 rw[zGw]
 unfold zAU zq
 rw[List.map_append,List.sum_append,List.map_map,List.map_map]
 have:(a.bids.map ((fun q:Pst=>if ((q.acct,q.asset):Pl)=x then q.held else 0) ∘ fun b=>(⟨b.acct,0,b.amount,-b.amount⟩:Pst))).sum=-(a.bids.map ((fun y:P3=>if zA0 y=x then y.2.2 else 0) ∘ bP3)).sum:=by
  induction a.bids with
  | nil=>rfl
  | cons b l ih =>
    rw[List.map_cons,List.map_cons,List.sum_cons,List.sum_cons,ih]
    simp only[Function.comp]
    show(if ((b.acct,0):Pl)=x then -b.amount else 0)+_=-((if ((b.acct,0):Pl)=x then b.amount else 0)+_)
    split<;>omega
 rw[this]
 simp only[List.map_cons,List.map_nil,List.sum_cons,List.sum_nil]
 split<;>omega
theorem dl_app (p q:List Pst)(x:Pl):(dlF (p++q) x).2=(dlF p x).2+(dlF q x).2:=by rw[zGw,zGw,zGw,List.map_append,List.sum_append]
theorem zN1 {p:List Pst}(h:∀ q∈p,q.held=0)(x:Pl):(dlF p x).2=0:=by
 rw[zGw]
 exact zDx fun q hq=>by rw[h q hq];split<;>rfl
theorem zIM {s:Sta}{id:Int}(h:¬ zAG s id<0):(zAG s id).toNat<s.aucs.length∧(au_ s.aucs (zAG s id).toNat).id=id:=by
 unfold zAG at h ⊢
 rcases zY (fun j=>(au_ s.aucs j).id==id) s.aucs.length with ⟨k,hk,_,hp,hx⟩|⟨_,hx⟩
 ·rw[hx,Int.toNat_natCast]
  exact⟨hk,by simpa using hp⟩
 ·rw[hx] at h;exact absurd (by decide) h
theorem zIN {l:List Auc}{i:Nat}(hi:i<l.length):l=l.take i++au_ l i::l.drop (i+1):=by
 conv=>lhs;rw[← List.take_append_drop i l,List.drop_eq_getElem_cons hi]
 simp[au_,List.getD_eq_getElem?_getD,List.getElem?_eq_getElem hi]
theorem zJF {s t:Sta}{a:Auc}(h:Good s)(hm:zAV a=true)(hb:a.bids=[])(he:zCa s a=(t,0)):Good t:=by
 unfold zCa at he
 by_cases h1:a.id≠s.nextA∨a.fin≤s.clock
 ·rw[if_pos h1] at he;exact absurd (Prod.mk.inj he).2 (by decide)
 rw[if_neg h1] at he
 by_cases h2:zAF s a.seller a.inst 0 (decide (32≤s.aucs.length))≠0
 ·rw[if_pos h2] at he;exact absurd (Prod.mk.inj he).2 h2
 rw[if_neg h2] at he
 obtain⟨q1,q2,_,_,q5⟩:=zCc (Decidable.of_not_not h2)
 simp only at he
 by_cases h3:(zAO s a.seller a.inst a.qty).2≠0
 ·rw[if_pos h3] at he;rw[he] at h3;exact absurd rfl h3
 rw[if_neg h3] at he
 obtain rfl:=(Prod.mk.inj he).1
 obtain⟨r1,r2⟩:=zBF (s:=s) (p:=[⟨a.seller,a.inst,-a.qty,a.qty⟩]) (t:=(zAO s a.seller a.inst a.qty).1) (Prod.ext rfl (Decidable.of_not_not h3))
 generalize (zAO s a.seller a.inst a.qty).1=u at r1 r2 ⊢
 have u1:u.accts=s.accts:=by rw[r2]
 have u2:u.insts=s.insts:=by rw[r2]
 have u3:u.orders=s.orders:=by rw[r2]
 have u4:u.clock=s.clock∧u.fee=s.fee∧u.nextO=s.nextO:=by rw[r2];exact⟨rfl,rfl,rfl⟩
 obtain⟨l1,l2,l3⟩:=zAL.1 h.aucs
 have hn:=zx.1 h.nums
 have hid:=zMc hm
 have hlen:s.aucs.length<32:=by have:=zzB q5;omega
 have hlt:∀ x∈s.aucs,x.id<a.id:=fun x hx=>by have:=(zAQ.1 (h.aucsIn x hx)).1;omega
 refine h.upd (t:={ u with aucs:=s.aucs++[a],nextA:=s.nextA+1 }) r1 ?_ u1 u2 (zx.2 ?_) (by simp only;rw[u3];exact h.ords) ?_ (zAL.2 ⟨?_,?_,?_⟩) ?_ ?_
 ·intro q hq
  rw[List.mem_singleton] at hq;subst hq
  exact⟨.inr q1,(zAT.1 q2).2⟩
 ·simp only
  rw[u4.1,u4.2.1,u4.2.2]
  exact⟨hn.1,hn.2.1,hn.2.2.1,by omega⟩
 ·simp only
  rw[u3]
  exact zGP (s:=s) h u1 u2 u4.2.2 fun x hx=>⟨x,hx,rfl,rfl,rfl,rfl⟩
 ·simp only[List.length_append,List.length_singleton];omega
 ·intro x hx
  rcases List.mem_append.1 hx with e|e
  ·exact l2 x e
  ·rw[List.mem_singleton] at e;subst e;exact hm
 ·simp only
  rw[List.pairwise_append]
  exact⟨l3,by simp,fun x hx y hy=>by rw[List.mem_singleton] at hy;subst hy;exact hlt x hx⟩
 ·intro x hx
  refine zAQ.2 ?_
  unfold zt zAq at *
  simp only
  rw[u1,u2]
  rcases List.mem_append.1 hx with e|e
  ·have:=zAQ.1 (h.aucsIn x e)
   unfold zt zAq at this
   exact⟨by omega,this.2⟩
  ·rw[List.mem_singleton] at e;subst e
   exact⟨by omega,q1,q2,fun b hb'=>by rw[hb] at hb';cases hb'⟩
 ·intro x _
  unfold zS
  simp only
  rw[u3,List.flatMap_append,List.flatMap_singleton,zg,zg,zg,zDO hm,hb,zIJ,List.map_nil,zGu]
  omega
theorem zN2 {a:Auc}(hm:zAV a=true)(hs:a.sealed=false):(a.bids=[]∧(zAH a).2=false)∨∃ b,a.bids=[b]∧zAH a=(b,true):=by
 have hl:=(zFG hm hs).1
 have ht:=zRd hm
 match hb:a.bids with
 | []=>left;refine⟨rfl,?_⟩;rw[ht,hb];decide
 | [b] =>
   right
   refine⟨b,rfl,?_⟩
   have h2:(zAH a).2=true:=by rw[ht,hb];simp
   have h1:(zAH a).1=b:=by
    unfold zAH
    rw[hb]
    have:hi [b]=0:=by simp[hi,zCY]
    rw[this,hm];rfl
   exact Prod.ext h1 h2
 | b::c::r=>rw[hb] at hl;simp at hl
theorem zN3 {s t:Sta}{n:List Int}{sl:Bool}(h:Good s)(he:zGE s n sl=(t,0)):Good t:=by
 unfold zGE at he
 simp only at he
 by_cases h1:zAG s (nF n 0)<0∨(au_ s.aucs (zAG s (nF n 0)).toNat).sealed≠sl
 ·rw[if_pos h1] at he;exact absurd (Prod.mk.inj he).2 (by decide)
 rw[if_neg h1] at he
 obtain⟨hi,hid⟩:=zIM (fun e=>h1 (.inl e))
 generalize (zAG s (nF n 0)).toNat=i at *
 generalize ha:au_ s.aucs i=a at *
 have hsl:a.sealed=sl:=Decidable.of_not_not fun e=>h1 (.inr e)
 have hmem:a∈s.aucs:=ha ▸ ze hi
 by_cases h2:zt s (nF n 1)=true
 ·rw[if_pos h2] at he
  by_cases h3:zA6 a s.clock=true
  ·rw[if_pos h3] at he;exact absurd (Prod.mk.inj he).2 (by decide)
  rw[if_neg h3] at he
  generalize hb:(⟨nF n 1,nF n 2⟩:Bid)=b at he
  have hbo:zt s b.acct=true:=by rw[← hb];exact h2
  by_cases h4:(zW a b).2≠0
  ·rw[if_pos h4] at he;exact absurd (Prod.mk.inj he).2 h4
  rw[if_neg h4] at he
  have tk:Taken a b (zW a b).1:=taken (Prod.ext rfl (Decidable.of_not_not h4))
  generalize (zW a b).1=c at tk he
  generalize hP:(⟨nF n 1,0,-nF n 2,nF n 2⟩::(if (zAH a).2=true∧sl=false then[⟨(zAH a).1.acct,0,(zAH a).1.amount,-(zAH a).1.amount⟩] else[]):List Pst)=P at he
  rw[show nF n 1=b.acct by rw[← hb],show nF n 2=b.amount by rw[← hb]] at hP
  by_cases h5:(zj s P).2≠0
  ·rw[if_pos h5] at he;rw[he] at h5;exact absurd rfl h5
  rw[if_neg h5] at he
  obtain rfl:=(Prod.mk.inj he).1
  obtain⟨r1,r2⟩:=zBF (s:=s) (p:=P) (t:=(zj s P).1) (Prod.ext rfl (Decidable.of_not_not h5))
  generalize (zj s P).1=u at r1 r2 ⊢
  have u1:u.accts=s.accts:=by rw[r2]
  have u2:u.insts=s.insts:=by rw[r2]
  have u3:u.orders=s.orders:=by rw[r2]
  have u4:u.clock=s.clock∧u.fee=s.fee∧u.nextO=s.nextO∧u.nextA=s.nextA:=by rw[r2];exact⟨rfl,rfl,rfl,rfl⟩
  have hma:=tk.may
  have hmc:=zPH tk
  have cid:c.id=a.id∧c.seller=a.seller∧c.inst=a.inst∧c.qty=a.qty:=by rw[tk.put];exact⟨rfl,rfl,rfl,rfl⟩
  obtain⟨l1,l2,l3⟩:=zAL.1 h.aucs
  have hA:=zAQ.1 (h.aucsIn a hmem)
  have z:(0:Int)≤s.insts.length:=by omega
  have hbid:(∀ x,zq (c.bids.map bP3) x=zq (a.bids.map bP3) x+(dlF P x).2)∧InP s P∧∀ y∈c.bids,zt s y.acct=true:=by
   cases hsl':sl with
   | true =>
     have e:=(zGL tk (hsl.trans hsl')).1
     have ec:c.bids=a.bids++[b]:=by rw[e];rfl
     rw[hsl',if_neg (fun g=>by cases g.2)] at hP
     refine⟨fun x=>?_,fun q hq=>?_,fun y hy=>?_⟩
     ·rw[ec,List.map_append,zg,← hP,zIJ,List.map_cons,List.map_nil,bP3,zDN]
     ·rw[← hP,List.mem_singleton] at hq;subst hq;exact⟨.inr hbo,z⟩
     ·rw[ec] at hy
      rcases List.mem_append.1 hy with g|g
      ·exact hA.2.2.2 y g
      ·rw[List.mem_singleton] at g;subst g;exact hbo
   | false =>
     have e:=(zJA tk (hsl.trans hsl')).1
     have ec:c.bids=[b]:=by rw[e];rfl
     rcases zN2 hma (hsl.trans hsl') with ⟨g1,g2⟩|⟨d,g1,g2⟩
     ·rw[hsl',if_neg (fun g=>by rw[g2] at g;cases g.1)] at hP
      refine⟨fun x=>?_,fun q hq=>?_,fun y hy=>?_⟩
      ·rw[ec,g1,← hP,zIJ,List.map_cons,List.map_nil,bP3,zDN,zGu];omega
      ·rw[← hP,List.mem_singleton] at hq;subst hq;exact⟨.inr hbo,z⟩
      ·rw[ec,List.mem_singleton] at hy;subst hy;exact hbo
     ·rw[hsl',g2,if_pos ⟨rfl,rfl⟩] at hP
      have hd:zt s d.acct=true:=hA.2.2.2 d (by rw[g1];exact zz2 _)
      refine⟨fun x=>?_,fun q hq=>?_,fun y hy=>?_⟩
      ·rw[ec,g1,← hP,zGw]
       simp only[List.map_cons,List.map_nil,bP3,zDN,List.sum_cons,List.sum_nil]
       split<;>split<;>omega
      ·rw[← hP] at hq
       simp only[List.mem_cons,List.not_mem_nil,or_false] at hq
       rcases hq with rfl|rfl
       ·exact⟨.inr hbo,z⟩
       ·exact⟨.inr hd,z⟩
      ·rw[ec,List.mem_singleton] at hy;subst hy;exact hbo
  obtain⟨b1,b2,b3⟩:=hbid
  have hsp:=zIN hi
  rw[ha] at hsp
  have hset:s.aucs.set i c=s.aucs.take i++c::s.aucs.drop (i+1):=List.set_eq_take_append_cons_drop .. |>.trans (if_pos hi)
  refine h.upd (t:={ u with aucs:=s.aucs.set i c }) r1 b2 u1 u2 (zx.2 (by simp only;rw[u4.1,u4.2.1,u4.2.2.1,u4.2.2.2];exact zx.1 h.nums)) (by simp only;rw[u3];exact h.ords) ?_ (zAL.2 ⟨by rw[List.length_set];exact l1,?_,?_⟩) ?_ ?_
  ·simp only
   rw[u3]
   exact zGP (s:=s) h u1 u2 u4.2.2.1 fun x hx=>⟨x,hx,rfl,rfl,rfl,rfl⟩
  ·intro x hx
   rcases List.mem_or_eq_of_mem_set hx with e|e
   ·exact l2 x e
   ·rw[e];exact hmc
  ·simp only
   rw[hset]
   rw[hsp] at l3
   rw[List.pairwise_append,List.pairwise_cons] at l3 ⊢
   refine⟨l3.1,⟨fun y hy=>by rw[cid.1];exact l3.2.1.1 y hy,l3.2.1.2⟩,fun x hx y hy=>?_⟩
   rcases List.mem_cons.1 hy with e|e
   ·subst e;rw[cid.1];exact l3.2.2 x hx a (zz2 _)
   ·exact l3.2.2 x hx y (zz5 _ e)
  ·intro x hx
   refine zAQ.2 ?_
   unfold zt zAq at *
   simp only
   rw[u1,u2,u4.2.2.2]
   rcases List.mem_or_eq_of_mem_set hx with e|e
   ·exact zAQ.1 (h.aucsIn x e)
   ·subst e
    rw[cid.1,cid.2.1,cid.2.2.1]
    exact⟨hA.1,hA.2.1,hA.2.2.1,b3⟩
  ·intro x _
   unfold zS
   simp only
   rw[u3,hset]
   have e:zq (s.aucs.flatMap zX) x=zq ((s.aucs.take i).flatMap zX) x+(zq (zX a) x+zq ((s.aucs.drop (i+1)).flatMap zX) x):=by
    conv=>lhs;rw[hsp]
    rw[List.flatMap_append,List.flatMap_cons,zg,zg]
   rw[zg,zg,e,List.flatMap_append,List.flatMap_cons,zg,zg,zDO hmc,zDO hma,cid.2.1,cid.2.2.1,cid.2.2.2,b1 x]
   omega
 ·rw[if_neg h2] at he;exact absurd (Prod.mk.inj he).2 (by decide)
theorem zIO {s t:Sta}{i:Nat}{p:List Pst}(h:Good s)(hi:i<s.aucs.length)(hp:InP s p)(h0:∀ q∈p,q.held=0)(he:zA3 s i p=(t,0)):Good t:=by
 unfold zA3 at he
 simp only at he
 generalize ha:au_ s.aucs i=a at he
 have hmem:a∈s.aucs:=ha ▸ ze hi
 have hA:=zAQ.1 (h.aucsIn a hmem)
 obtain⟨l1,l2,l3⟩:=zAL.1 h.aucs
 by_cases h5:(zj s (p++zAU a)).2≠0
 ·rw[if_pos h5] at he;rw[he] at h5;exact absurd rfl h5
 rw[if_neg h5] at he
 obtain rfl:=(Prod.mk.inj he).1
 obtain⟨r1,r2⟩:=zBF (s:=s) (p:=p++zAU a) (t:=(zj s (p++zAU a)).1) (Prod.ext rfl (Decidable.of_not_not h5))
 generalize (zj s (p++zAU a)).1=u at r1 r2 ⊢
 have u1:u.accts=s.accts:=by rw[r2]
 have u2:u.insts=s.insts:=by rw[r2]
 have u3:u.orders=s.orders:=by rw[r2]
 have u4:u.clock=s.clock∧u.fee=s.fee∧u.nextO=s.nextO∧u.nextA=s.nextA:=by rw[r2];exact⟨rfl,rfl,rfl,rfl⟩
 have hsp:=zIN hi
 rw[ha] at hsp
 have her:s.aucs.eraseIdx i=s.aucs.take i++s.aucs.drop (i+1):=List.eraseIdx_eq_take_drop_succ ..
 have hsub:∀ x,x∈s.aucs.eraseIdx i→x∈s.aucs:=fun x hx=>List.mem_of_mem_eraseIdx hx
 have hin:InP s (p++zAU a):=fun q hq=>by
  rcases List.mem_append.1 hq with e|e
  ·exact hp q e
  ·unfold zAU at e
   rcases List.mem_append.1 e with g|g
   ·obtain⟨b,hb,rfl⟩:=List.mem_map.1 g
    exact⟨.inr (hA.2.2.2 b hb),by show(0:Int)≤_;omega⟩
   ·rw[List.mem_singleton] at g;subst g
    exact⟨.inr hA.2.1,(zAT.1 hA.2.2.1).2⟩
 refine h.upd (t:={ u with aucs:=s.aucs.eraseIdx i }) r1 hin u1 u2 (zx.2 (by simp only;rw[u4.1,u4.2.1,u4.2.2.1,u4.2.2.2];exact zx.1 h.nums)) (by simp only;rw[u3];exact h.ords) ?_ (zAL.2 ⟨?_,fun x hx=>l2 x (hsub x hx),?_⟩) ?_ ?_
 ·simp only
  rw[u3]
  exact zGP (s:=s) h u1 u2 u4.2.2.1 fun x hx=>⟨x,hx,rfl,rfl,rfl,rfl⟩
 ·have:=List.length_eraseIdx_le s.aucs i
  simp only;omega
 ·exact l3.sublist (List.eraseIdx_sublist ..)
 ·intro x hx
  have:=zKH (s:=s) (u:={ u with aucs:=s.aucs.eraseIdx i }) h u1 u2 u4.2.2.2 x (hsub x hx)
  exact this
 ·intro x _
  unfold zS
  simp only
  have e:zq (s.aucs.flatMap zX) x=zq ((s.aucs.take i).flatMap zX) x+(zq (zX a) x+zq ((s.aucs.drop (i+1)).flatMap zX) x):=by
   conv=>lhs;rw[hsp]
   rw[List.flatMap_append,List.flatMap_cons,zg,zg]
  rw[u3,zg,zg,e,her,List.flatMap_append,zg,dl_app,zN1 h0,zN0,zDO (l2 a hmem)]
  omega
theorem zN4 {a:Auc}(hm:zAV a=true)(hw:(zN a).2=true):∃ b∈a.bids,(zN a).1.acct=b.acct:=by
 obtain⟨m,h1,h2,_⟩:=zFH hm hw
 exact⟨_,ze h1,h2⟩
theorem zD0 {s:Sta}{a:Auc}(h:(zO s a).2.2=true):(zN a).2=true∧(zO s a).1=(zN a).1∧(zO s a).2.1=(zBt (zN a).1.amount s.fee).1∧zs s.rows a.seller 0+(zN a).1.amount - (zBt (zN a).1.amount s.fee).1≤1125899906842624∧zs s.rows (zN a).1.acct a.inst+a.qty≤1125899906842624:=by
 unfold zO at h ⊢
 by_cases h1:(zN a).2=true
 ·rw[if_pos h1] at h ⊢
  simp only at h ⊢
  by_cases h2:zs s.rows a.seller 0+(zN a).1.amount - (zBt (zN a).1.amount s.fee).1>1125899906842624∨zs s.rows (zN a).1.acct a.inst+a.qty>1125899906842624
  ·rw[if_pos h2] at h;cases h
  ·rw[if_neg h2];exact⟨h1,rfl,rfl,by omega,by omega⟩
 ·rw[if_neg h1] at h;cases h
theorem zRq {s t:Sta}{n:List Int}(h:Good s)(he:zEd s n=(t,0)):Good t:=by
 unfold zEd at he
 simp only at he
 by_cases h1:zAG s (nF n 0)<0
 ·rw[if_pos h1] at he;exact absurd (Prod.mk.inj he).2 (by decide)
 rw[if_neg h1] at he
 obtain⟨hi,hid⟩:=zIM h1
 generalize (zAG s (nF n 0)).toNat=i at *
 generalize ha:au_ s.aucs i=a at *
 have hmem:a∈s.aucs:=ha ▸ ze hi
 have hA:=zAQ.1 (h.aucsIn a hmem)
 have hm:=(zAL.1 h.aucs).2.1 a hmem
 split at he
 ·rename_i h2
  obtain⟨w1,w2,w3,_,_⟩:=zD0 h2.2.1
  obtain⟨b,hb,e⟩:=zN4 hm w1
  have hw:zt s (zO s a).1.acct=true:=by rw[w2,e];exact hA.2.2.2 b hb
  have z:(0:Int)≤s.insts.length:=by omega
  have hh:=(zAT.1 hA.2.2.1).2
  refine zIO h hi (fun q hq=>?_) (fun q hq=>?_) he
  ·unfold zDI at hq
   simp only[List.mem_cons,List.not_mem_nil,or_false] at hq
   rcases hq with rfl|rfl|rfl|rfl|rfl
   ·exact⟨.inr hw,z⟩
   ·exact⟨.inr hA.2.1,z⟩
   ·exact⟨.inl (Int.le_refl _),z⟩
   ·exact⟨.inr hA.2.1,hh⟩
   ·exact⟨.inr hw,hh⟩
  ·unfold zDI at hq
   simp only[List.mem_cons,List.not_mem_nil,or_false] at hq
   rcases hq with rfl|rfl|rfl|rfl|rfl<;>rfl
 ·exact absurd (Prod.mk.inj he).2 (by decide)
theorem zMl {s t:Sta}{n:List Int}(h:Good s)(he:zBy s n=(t,0)):Good t:=by
 unfold zBy at he
 simp only at he
 by_cases h1:zAG s (nF n 0)<0
 ·rw[if_pos h1] at he;exact absurd (Prod.mk.inj he).2 (by decide)
 rw[if_neg h1] at he
 obtain⟨hi,_⟩:=zIM h1
 split at he
 ·exact absurd (Prod.mk.inj he).2 (by decide)
 ·exact zIO h hi (fun q hq=>by cases hq) (fun q hq=>by cases hq) he
end
end Go.Proofs.YtibmaifoaajllaaGreatDoor
