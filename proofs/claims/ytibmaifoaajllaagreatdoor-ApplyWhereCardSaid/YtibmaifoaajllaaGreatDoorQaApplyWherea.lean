/- The statement ApplyWhereSaid, proved, and its tied card. -/
import Derived.ChangeKeysEq
import Derived.Deep.LoopGhost
import Derived.Deep.QuietTactic
import Derived.Deep.Slices
import Derived.KernelRfl
import Derived.LaidMore
import Derived.Laws.Bits64b
import Derived.Laws.IdiomStrings
import Derived.Laws.MakeOwn
import Derived.Laws.RangeString
import Derived.Laws.StructEq
import Derived.Lib.Mul64
import Derived.Maps.RangeRun
import Derived.OpenShut
import Derived.OrdersHeld
import Derived.ProofKit
import Derived.RangeFuncLeaves
import Derived.RangeFuncNested
import Derived.Shelf.SlLaysE
import Derived.Shelf.SlLaysF0
import Derived.Shelf.SlLaysM
import Derived.Shelf.SlSortCmp.NoneTotal
import Derived.Shelf.SlicesE.Compact
import Derived.Shelf.SortM.Plain
import Derived.Shelf.SortM.SortNone
import Derived.SizedLaws
import Derived.Sort.LoopGhostIn
import Derived.Stop.Joined
import Derived.TacticsIn
import Derived.Test.YtibmaifoaajllaaGreatDoorChecked
import Derived.Test.YtibmaifoaajllaaGreatDoorProg
import Derived.Test.YtibmaifoaajllaaGreatDoorRows
import Derived.WalkKit
import Derived.WalkSpells
import Derived.Test.YtibmaifoaajllaaGreatDoorQa48
set_option linter.unusedSimpArgs false
set_option linter.unusedVariables false
set_option maxHeartbeats 16000000
namespace Go.Proofs.YtibmaifoaajllaaGreatDoor
section
open Go Go.Sk Go.RowKit
theorem zEg:Ent Tryz.prog 14:=em Tryz.func14
theorem zSx {l:List Row4}(h:zAJ l=true):zAn l []=(l,0):=by
 have e:zm l []=atR l:=by funext x;unfold zm;simp[dlF]
 have ha:zAd []=0:=by decide
 have hw:zAt (atR l)=0:=zGx.1.2 fun x _=>by
  have:=zRs (p:=[]) h (x:=x) rfl
  rw[e] at this;exact this
 rw[zHb h ha,e,if_pos hw,zHX h]
theorem zUW {p:List Pst}{q:Int}(h:∀ x∈p,x.acct≠0):dlF p (0,q)=(0,0):=by
 by_cases h0:dlF p (0,q)=(0,0)
 ·exact h0
 ·obtain⟨x,hx,e,_⟩:=zRn h0
  exact absurd e (h x hx)
def zNL (s:Sta)(n:List Int)(sealed:Bool):List Pst :=
 let a:=au_ s.aucs (zAG s (nF n 0)).toNat
 (⟨nF n 1,0,-nF n 2,nF n 2⟩:Pst)::(if (zAH a).2=true∧sealed=false then[⟨(zAH a).1.acct,0,(zAH a).1.amount,-(zAH a).1.amount⟩] else[])
def pstF (s:Sta)(k:Int)(n:List Int):List Pst :=
 if k=6 then[⟨0,0,-nF n 1,0⟩,⟨nF n 0,0,nF n 1,0⟩]
 else if k=7 then[⟨nF n 0,0,-nF n 1,0⟩,⟨0,0,nF n 1,0⟩]
 else if k=8 then[⟨0,nF n 1,-nF n 2,0⟩,⟨nF n 0,nF n 1,nF n 2,0⟩]
 else if k=9 then[⟨nF n 0,nF n 1,-nF n 2,0⟩,⟨0,nF n 1,nF n 2,0⟩]
 else if k=11 then[⟨nF n 1,(zT (zAw n)).1,-(zT (zAw n)).2,(zT (zAw n)).2⟩]
 else if k=12 then[⟨(zV s.orders (nF n 0)).1.acct,(zT (zV s.orders (nF n 0)).1).1,-(-(zT (zV s.orders (nF n 0)).1).2),-(zT (zV s.orders (nF n 0)).1).2⟩]
 else if k=13 then(if (zV s.orders (nF n 0)).1.side=2 then zA1 (zV s.orders (nF n 1)).1 (zV s.orders (nF n 0)).1 (zV s.orders (nF n 0)).1.inst (nF n 2) (nF n 3) (nF n 4) else zA1 (zV s.orders (nF n 0)).1 (zV s.orders (nF n 1)).1 (zV s.orders (nF n 0)).1.inst (nF n 2) (nF n 3) (nF n 4))
 else if k=14∨k=16 then[⟨nF n 1,nF n 2,-nF n 3,nF n 3⟩]
 else if k=15 then zNL s n false
 else if k=17 then zNL s n true
 else if k=18 then zDI (au_ s.aucs (zAG s (nF n 0)).toNat) (zO s (au_ s.aucs (zAG s (nF n 0)).toNat)).1 (zO s (au_ s.aucs (zAG s (nF n 0)).toNat)).2.1++zAU (au_ s.aucs (zAG s (nF n 0)).toNat)
 else if k=19 then[]++zAU (au_ s.aucs (zAG s (nF n 0)).toNat)
 else if k=21 then[⟨nF n 0,0,-nF n 2,0⟩,⟨nF n 1,0,nF n 2,0⟩]
 else[]
theorem zD4 {s:Sta}{p:List Pst}(h:¬ (zj s p).2≠0):zAn s.rows p=((zj s p).1.rows,0):=(zBF (Prod.ext rfl (Decidable.of_not_not h))).1
theorem zP0 {s t:Sta}{k:Int}{n:List Int}{tx:ByteArray}(h:Good s)(hk:1≤k∧k≤23)(he:zBE s k n tx=(t,0)):zAn s.rows (pstF s k n)=(t.rows,0):=by
 have hz:=zSx h.rows
 unfold zBE at he
 unfold pstF
 rcases kinds hk with rfl|rfl|rfl|rfl|rfl|rfl|rfl|rfl|rfl|rfl|rfl|rfl|rfl|rfl|rfl|rfl|rfl|rfl|rfl|rfl|rfl|rfl|rfl<;>simp only[Int.reduceEq,if_false,if_true,or_false,false_or,or_true,true_or] at he ⊢
 case' _=>unfold zDX at he
 all_goals(try unfold zDY at he)
 all_goals(try unfold zDZ at he)
 all_goals(try unfold zDG at he)
 all_goals(try unfold zCJ at he)
 all_goals(try unfold zAv at he)
 all_goals(try unfold zCK at he)
 all_goals(try unfold zCa at he)
 all_goals(try unfold zGE at he)
 all_goals(try unfold zEd at he)
 all_goals(try unfold zBy at he)
 all_goals(try unfold zEs at he)
 all_goals(try unfold zAe at he)
 all_goals(try unfold zCl at he)
 all_goals(try unfold zDa at he)
 all_goals(try unfold zA3 at he)
 all_goals(try simp only at he)
 all_goals(repeat' split at he)
 all_goals first
  | exact absurd (Prod.mk.inj he).2 (by decide)
  | exact absurd (Prod.mk.inj he).2 (by assumption)
  | (exact(zBF he).1)
  | (rename_i g;rw[he] at g;exact absurd rfl g)
  | (rename_i g;obtain rfl:=(Prod.mk.inj he).1;exact zD4 g)
  | (rename_i g2 g;obtain rfl:=(Prod.mk.inj he).1;first|(rw[if_pos g2];exact zD4 g)|(rw[if_neg g2];exact zD4 g))
  | (rename_i g2 g;obtain rfl:=(Prod.mk.inj he).1;unfold zNL;simp only;first|(rw[if_pos g2];exact zD4 g)|(rw[if_neg g2];exact zD4 g))
  | (obtain rfl:=(Prod.mk.inj he).1;exact hz)
def zCQ (s:Sta)(q:Int):Int:=((List.range s.accts.length).map fun(k:Nat)=>zs s.rows ((k:Int)+1) q).sum
theorem zLr {g:Nat→Int}{m:Nat}(h:∀ k,m≤k→g k=0):∀ d,((List.range (m+d)).map g).sum=((List.range m).map g).sum
 | 0=>rfl
 | d+1=>by
   rw[show m+(d+1)=(m+d)+1 from rfl,List.range_succ,List.map_append,List.sum_append,zLr h d]
   simp[h (m+d) (by omega)]
theorem zUX {s:Sta}(h:Good s){x:Pl}(hx:0<x.1)(ho:zt s x.1=false):atR s.rows x=(0,0) :=
 zGo fun r hr e=>by
  have:=(h.rowsIn r hr).1
  have e1:r.acct=x.1:=congrArg Prod.fst e
  rw[e1,ho] at this
  rcases this with g|g
  ·omega
  ·cases g
theorem zOf {s:Sta}(h:Good s)(q:Nat)(hq:q<17):zCQ s q=-(atR s.rows (0,(q:Int))).1:=by
 have hc:=zIA h.rows q hq
 have hl:=zCo h
 unfold zGr at hc
 rw[show List.range 65=0::(List.range 64).map Nat.succ from List.range_succ_eq_map,List.map_cons,List.sum_cons,List.map_map] at hc
 have e0:(atR s.rows (((0:Nat):Int),(q:Int))).2=0:=(zBc h.rows _).1 rfl
 have e1:=zLr (g:=fun(k:Nat)=>zs s.rows ((k:Int)+1) q) (m:=s.accts.length) (fun k hk=>by
  have:zt s ((k:Int)+1)=false:=by
   rw[← Bool.not_eq_true,zBi];omega
  rw[zCn h.rows (by omega),zUX h (by show(0:Int)<(k:Int)+1;omega) this];rfl) (64 - s.accts.length)
 rw[show s.accts.length+(64 - s.accts.length)=64 by omega] at e1
 unfold zCQ
 rw[← e1]
 have e2:((List.range 64).map fun(k:Nat)=>zs s.rows ((k:Int)+1) q).sum=((List.range 64).map ((fun(a:Nat)=>(atR s.rows ((a:Int),(q:Int))).1+(atR s.rows ((a:Int),(q:Int))).2) ∘ Nat.succ)).sum:=by
  refine zC3 fun k _=>?_
  rw[zCn h.rows (by omega)]
  rfl
 rw[e2]
 have e3:(atR s.rows (((0:Nat):Int),(q:Int))).1=(atR s.rows (0,(q:Int))).1:=rfl
 omega
theorem zCe {s:Sta}{a:Int}(h:zt s a=true):a≠0:=by have:=(zBi.1 h).1;omega
end
section
open Go Go.Sk Go.RowKit
attribute [local irreducible] Go.Calls
theorem zKZ {F:zH}(s:Sta)(p:SPt)(g:Good s)(h64:R64 s.rows)(q:Nat)(hq:q<17)(w0:World)(hF:Mem w0 F)(hs:StaM F s p) :
  Calls Tryz.prog 14 [.agg (s.cells p).toArray,.int .i64 (q:Int)].toArray w0 (Ret (.int .i64 (zCQ s q)) w0):=by
 have hal:=zCo g
 have htot:=fun w (a q:Int) (hG:Mem w F)=>zGI s.rows h64 a q w hG hs.rw
 have hbd:∀ a:Int,0<a→0≤zs s.rows a q∧zs s.rows a q≤1125899906842624:=fun a ha=>by
  rw[zCn g.rows (by omega)]
  have:=(zBc g.rows (a,(q:Int))).2 (by simp only;omega)
  omega
 have hsum:∀ k,0≤((List.range k).map fun(j:Nat)=>zs s.rows ((j:Int)+1) q).sum∧((List.range k).map fun(j:Nat)=>zs s.rows ((j:Int)+1) q).sum≤k*1125899906842624:=fun k=>by
  induction k with
  | zero=>simp
  | succ k ih =>
    rw[List.range_succ,List.map_append,List.sum_append]
    have:=hbd ((k:Int)+1) (by omega)
    simp only[List.map_cons,List.map_nil,List.sum_cons,List.sum_nil]
    omega
 refine enter [.tmp 4] Tryz.func14 rfl Tryz.ntmps14 rfl rfl ?_
 have H:=zB w0
 repeat' (first|refine yT ?_|(refine y9 H ?_;intro b w H)|refine yU ?_|with_reducible apply zA|fail)
 refine zM [(5,20)] (fun k:Nat=>[(5,.int .i64 ((List.range k).map fun(j:Nat)=>zs s.rows ((j:Int)+1) q).sum),(6,.int .i64 ((k+1:Nat):Int))]) (fun k w=>St w0 [cb _ (s.cells p) 28] w∧k≤s.accts.length) (fun k=>s.accts.length - k) 0 ⟨rfl,rfl,trivial⟩ ⟨H,zzD _⟩ ?_
 clear H
 rintro k gh w ⟨H,hk⟩
 by_cases hkl:k<s.accts.length
 ·have d1:decide (((k+1:Nat):Int)≤(s.accts.length:Int))=true:=decide_eq_true (by omega)
  have hst:=hsum k
  have hst2:=hbd ((k:Int)+1) (by omega)
  repeat' (first|refine yT ?_|refine y7 sg H ?_|(refine' y30 zHA ?_ ?_;rotate_left;exact htot _ _ _ (H.memF hF);intro w hcl;replace H:=H.ext hcl;clear hcl)|refine yU ?_|with_reducible apply zA|(refine y23 ?_ ?_;all_goals(intro h;try (exfalso;first|((cases d1.symm.trans h);done))))|fail)
  refine zK (k+1) rfl ⟨congrArg (Value.int .i64) ?_,zZ (by omega),trivial⟩ ⟨H,hkl⟩ (by omega)
  rw[List.range_succ,List.map_append,List.sum_append]
  simp only[List.map_cons,List.map_nil,List.sum_cons,List.sum_nil]
  rw[show((k+1:Nat):Int)=(k:Int)+1 by omega,w64 (by omega) (by omega)]
  omega
 ·have d1:decide (((k+1:Nat):Int)≤(s.accts.length:Int))=false:=decide_eq_false (by omega)
  obtain rfl:k=s.accts.length:=by omega
  repeat' (first|refine yT ?_|refine y7 sg H ?_|refine yU ?_|(refine y23 ?_ ?_;all_goals(intro h;try (exfalso;first|((cases d1.symm.trans h);done))))|fail)
  exact zQ rfl H.cl rfl
end
section
open Go Go.Sk Go.RowKit
theorem zSy {o:Odr}(h:zAm o):o.acct≠0:=by have:=h.2.1;omega
theorem zSz {s t:Sta}{k:Int}{n:List Int}{tx:ByteArray}(h:Good s)(hk:1≤k∧k≤23)(he:zBE s k n tx=(t,0))(q:Int):(dlF (pstF s k n) (0,q)).1=-(zDP k n q):=by
 have hz:∀ {p:List Pst},(∀ x∈p,x.acct≠0)→(dlF p (0,q)).1=0:=fun g=>by rw[zUW g]
 have hfo:∀ id,(zV s.orders id).2=true→(zV s.orders id).1.acct≠0:=fun id g=>by
  obtain⟨_,f1,_⟩:=zCh g
  exact zSy ((zAP.1 h.ords).2.1 _ f1)
 have hau:∀ i,i<s.aucs.length→(au_ s.aucs i).seller≠0∧∀ b∈(au_ s.aucs i).bids,b.acct≠0:=fun i hi=>by
  have hA:=zAQ.1 (h.aucsIn _ (ze hi))
  exact⟨zCe hA.2.1,fun b hb=>zCe (hA.2.2.2 b hb)⟩
 have hbk:∀ i,i<s.aucs.length→∀ x∈zAU (au_ s.aucs i),x.acct≠0:=fun i hi x hx=>by
  unfold zAU at hx
  rcases List.mem_append.1 hx with g|g
  ·obtain⟨b,hb,rfl⟩:=List.mem_map.1 g
   exact(hau i hi).2 b hb
  ·rw[List.mem_singleton] at g;subst g;exact(hau i hi).1
 unfold zBE at he
 unfold pstF zDP
 rcases kinds hk with rfl|rfl|rfl|rfl|rfl|rfl|rfl|rfl|rfl|rfl|rfl|rfl|rfl|rfl|rfl|rfl|rfl|rfl|rfl|rfl|rfl|rfl|rfl<;>simp only[Int.reduceEq,if_false,if_true,or_false,false_or,or_true,true_or] at he ⊢
 ·rfl
 ·rfl
 ·rfl
 ·rfl
 ·rfl
 ·split at he
  ·rename_i g
   have:=zCe g
   have en:dlF [] (0,q)=(0,0):=rfl
   simp only[zAW,this,false_and,if_false,en,true_and]
   by_cases g0:(0:Int)=q
   ·rw[if_pos g0,if_pos g0.symm];simp only;omega
   ·rw[if_neg g0,if_neg (fun e=>g0 e.symm)];rfl
  ·exact absurd (Prod.mk.inj he).2 (by decide)
 ·split at he
  ·rename_i g
   have:=zCe g
   have en:dlF [] (0,q)=(0,0):=rfl
   simp only[zAW,this,false_and,if_false,en,true_and]
   by_cases g0:(0:Int)=q
   ·rw[if_pos g0,if_pos g0.symm];simp only;omega
   ·rw[if_neg g0,if_neg (fun e=>g0 e.symm)];rfl
  ·exact absurd (Prod.mk.inj he).2 (by decide)
 ·split at he
  ·rename_i g
   have:=zCe g.1
   have en:dlF [] (0,q)=(0,0):=rfl
   simp only[zAW,this,false_and,if_false,en,true_and]
   by_cases g0:nF n 1=q
   ·rw[if_pos g0,if_pos g0.symm];simp only;omega
   ·rw[if_neg g0,if_neg (fun e=>g0 e.symm)];rfl
  ·exact absurd (Prod.mk.inj he).2 (by decide)
 ·split at he
  ·rename_i g
   have:=zCe g.1
   have en:dlF [] (0,q)=(0,0):=rfl
   simp only[zAW,this,false_and,if_false,en,true_and]
   by_cases g0:nF n 1=q
   ·rw[if_pos g0,if_pos g0.symm];simp only;omega
   ·rw[if_neg g0,if_neg (fun e=>g0 e.symm)];rfl
  ·exact absurd (Prod.mk.inj he).2 (by decide)
 ·rfl
 ·-- placed
  unfold zCJ at he
  simp only at he
  split at he
  ·exact absurd (Prod.mk.inj he).2 (by decide)
  split at he
  ·exact absurd (Prod.mk.inj he).2 (by assumption)
  rename_i g
  have:=zCe (zCc (Decidable.of_not_not g)).1
  exact hz fun x hx=>by rw[List.mem_singleton] at hx;subst hx;exact this
 ·unfold zAv at he
  simp only at he
  split at he
  ·rename_i g
   exact hz fun x hx=>by rw[List.mem_singleton] at hx;subst hx;exact hfo _ g
  ·exact absurd (Prod.mk.inj he).2 (by decide)
 ·unfold zCK at he
  simp only at he
  split at he
  ·rename_i g
   have a1:=hfo _ g.1
   have a2:=hfo _ g.2
   split
   all_goals
    unfold zA1
    have en:dlF [] (0,q)=(0,0):=rfl
    simp only[zAW,a1,a2,false_and,if_false,en,true_and]
    by_cases g0:(0:Int)=q
    ·rw[if_pos g0,if_pos g0.symm];simp only;omega
    ·rw[if_neg g0,if_neg (fun e=>g0 e.symm)];rfl
  ·exact absurd (Prod.mk.inj he).2 (by decide)
 ·unfold zCa at he
  simp only at he
  split at he
  ·exact absurd (Prod.mk.inj he).2 (by decide)
  split at he
  ·exact absurd (Prod.mk.inj he).2 (by assumption)
  rename_i g
  have:=zCe (zCc (Decidable.of_not_not g)).1
  exact hz fun x hx=>by rw[List.mem_singleton] at hx;subst hx;exact this
 ·unfold zGE at he
  simp only at he
  split at he
  ·exact absurd (Prod.mk.inj he).2 (by decide)
  rename_i g0
  split at he
  ·rename_i g
   obtain⟨hi,_⟩:=zIM (fun e=>g0 (.inl e))
   refine hz fun x hx=>?_
   unfold zNL at hx
   simp only[List.mem_cons] at hx
   rcases hx with rfl|hx
   ·exact zCe g
   ·split at hx
    ·rename_i g2
     rw[List.mem_singleton] at hx;subst hx
     have hm:=(zAL.1 h.aucs).2.1 _ (ze hi)
     have hs:(au_ s.aucs (zAG s (nF n 0)).toNat).sealed=false:=by
      have:=fun e=>g0 (.inr e)
      exact Decidable.of_not_not this
     rcases zN2 hm hs with ⟨_,e⟩|⟨b,e1,e2⟩
     ·rw[e] at g2;cases g2.1
     ·rw[e2];exact(hau _ hi).2 b (by rw[e1];exact zz2 _)
    ·cases hx
  ·exact absurd (Prod.mk.inj he).2 (by decide)
 ·unfold zCa at he
  simp only at he
  split at he
  ·exact absurd (Prod.mk.inj he).2 (by decide)
  split at he
  ·exact absurd (Prod.mk.inj he).2 (by assumption)
  rename_i g
  have:=zCe (zCc (Decidable.of_not_not g)).1
  exact hz fun x hx=>by rw[List.mem_singleton] at hx;subst hx;exact this
 ·unfold zGE at he
  simp only at he
  split at he
  ·exact absurd (Prod.mk.inj he).2 (by decide)
  split at he
  ·rename_i g
   refine hz fun x hx=>?_
   unfold zNL at hx
   simp only[List.mem_cons,Bool.true_eq_false,and_false,if_false,List.not_mem_nil,or_false] at hx
   subst hx
   exact zCe g
  ·exact absurd (Prod.mk.inj he).2 (by decide)
 ·unfold zEd at he
  simp only at he
  split at he
  ·exact absurd (Prod.mk.inj he).2 (by decide)
  rename_i g0
  obtain⟨hi,_⟩:=zIM g0
  split at he
  ·rename_i g
   have hm:=(zAL.1 h.aucs).2.1 _ (ze hi)
   obtain⟨w1,w2,w3,_,_⟩:=zD0 g.2.1
   obtain⟨b,hb,e⟩:=zN4 hm w1
   have a1:(zO s (au_ s.aucs (zAG s (nF n 0)).toNat)).1.acct≠0:=by rw[w2,e];exact(hau _ hi).2 b hb
   have a2:=(hau _ hi).1
   rw[zJH,hz (hbk _ hi),← g.2.2.2.2]
   unfold zDI
   have en:dlF [] (0,q)=(0,0):=rfl
   simp only[zAW,a1,a2,false_and,if_false,en,true_and]
   by_cases g0:(0:Int)=q
   ·rw[if_pos g0,if_pos g0.symm];simp only;omega
   ·rw[if_neg g0,if_neg (fun e=>g0 e.symm)];rfl
  ·exact absurd (Prod.mk.inj he).2 (by decide)
 ·unfold zBy at he
  simp only at he
  split at he
  ·exact absurd (Prod.mk.inj he).2 (by decide)
  rename_i g0
  obtain⟨hi,_⟩:=zIM g0
  exact hz (hbk _ hi)
 ·rfl
 ·unfold zAe at he
  split at he
  ·rename_i g
   exact hz fun x hx=>by
    simp only[List.mem_cons,List.not_mem_nil,or_false] at hx
    rcases hx with rfl|rfl
    ·exact zCe g.1
    ·exact zCe g.2
  ·exact absurd (Prod.mk.inj he).2 (by decide)
 ·rfl
 ·rfl
theorem zS0 {s:Sta}{k:Int}{n:List Int}(hk:1≤k∧k≤23)(hm:zNB k=false):∀ q∈pstF s k n,q.free+q.held=0:=by
 have hb:∀ (a:Auc),∀ q∈zAU a,q.free+q.held=0:=fun a x hx=>by
  unfold zAU at hx
  rcases List.mem_append.1 hx with g|g
  ·obtain⟨b,hb,rfl⟩:=List.mem_map.1 g
   show b.amount+-b.amount=0;omega
  ·rw[List.mem_singleton] at g;subst g;show a.qty+-a.qty=0;omega
 unfold pstF
 rcases kinds hk with rfl|rfl|rfl|rfl|rfl|rfl|rfl|rfl|rfl|rfl|rfl|rfl|rfl|rfl|rfl|rfl|rfl|rfl|rfl|rfl|rfl|rfl|rfl<;>simp only[Int.reduceEq,if_false,if_true,or_false,false_or,or_true,true_or]<;>first|(intro q hq;cases hq;done)|(exact absurd hm (by decide))|(exact hb _)|skip
 ·intro q hq;rw[List.mem_singleton] at hq;subst hq;simp only;omega
 ·intro q hq;rw[List.mem_singleton] at hq;subst hq;simp only;omega
 ·intro q hq;rw[List.mem_singleton] at hq;subst hq;simp only;omega
 ·intro q hq
  unfold zNL at hq
  simp only[List.mem_cons] at hq
  rcases hq with rfl|hq
  ·simp only;omega
  ·split at hq
   ·rw[List.mem_singleton] at hq;subst hq;simp only;omega
   ·cases hq
 ·intro q hq;rw[List.mem_singleton] at hq;subst hq;simp only;omega
 ·intro q hq
  unfold zNL at hq
  simp only[List.mem_cons,Bool.true_eq_false,and_false,if_false,List.not_mem_nil,or_false] at hq
  subst hq;simp only;omega
theorem zS1 {s t:Sta}{e:Evt}(hd:zk s e=(t,0)):(∀ q:Nat,q<17→zCQ t q=zCQ s q+zDP e.kind e.nums q)∧(zNB e.kind=false→∀ a q:Int,a≠0→zs t.rows a q=zs s.rows a q):=by
 obtain⟨g1,g2,ev,_,_,hd⟩:=zBI hd
 have hp:=zP0 g1 ev.kind hd
 obtain⟨_,_,_,_,_,h6⟩:=zHZ hp
 refine⟨fun q hq=>?_,fun hm a q ha=>?_⟩
 ·rw[zOf g1 q hq,zOf g2 q hq,h6 _ (zCL.2 ⟨⟨by simp only;omega,by simp only;omega⟩,by simp only;omega,by simp only;omega⟩)]
  unfold zm
  simp only
  rw[zSz g1 ev.kind hd q];omega
 ·rw[zCn g1.rows ha,zCn g2.rows ha]
  by_cases hg:((a,q):Pl)∈zBb
  ·rw[h6 _ hg]
   have:=zLS (zS0 (s:=s) (n:=e.nums) ev.kind hm) (a,q)
   unfold zm
   simp only;omega
  ·rw[zH9 g1.rows hg,zH9 g2.rows hg]
theorem wh_f {e:Evt}(ev:EvOk e):WhF e.kind e.nums:=by
 obtain⟨v,k,n,tx⟩:=e
 have hat:=fun(i c:Nat) (hc:(zII k)[i]?=some c)=>ev.at i hc
 have hk:=ev.kind
 simp only at hat hk ⊢
 have Z0:(-1125899906842624:Int)≤0∧(0:Int)≤1125899906842624:=by decide
 have J:∀ j:Nat,0<j→¬ ((j:Int)=0):=fun j hj=>by omega
 rcases kinds hk with rfl|rfl|rfl|rfl|rfl|rfl|rfl|rfl|rfl|rfl|rfl|rfl|rfl|rfl|rfl|rfl|rfl|rfl|rfl|rfl|rfl|rfl|rfl
 all_goals first|exact⟨rfl,fun j _=>by simp only[zDP,whI,whZ,Int.reduceEq,if_false,ite_self],fun _ _ _=>rfl,Z0,Z0⟩|exact⟨rfl,fun j _=>by simp only[zDP,whI,whZ,Int.reduceEq,if_false,ite_self],fun h=>absurd h (by decide),Z0,Z0⟩|skip
 ·have b:=zDM (hat 1 109 rfl)
  exact⟨rfl,fun j hj=>by simp only[zDP,whI,whZ,Int.reduceEq,if_false,if_true,ite_self,J j hj],fun _ h=>absurd (show nF n 1=0 from h) (by omega),by show _≤nF n 1∧nF n 1≤_;omega,Z0⟩
 ·have b:=zDM (hat 1 109 rfl)
  exact⟨rfl,fun j hj=>by simp only[zDP,whI,whZ,Int.reduceEq,if_false,if_true,ite_self,J j hj],fun _ h=>absurd (show -nF n 1=0 from h) (by omega),by show _≤-nF n 1∧-nF n 1≤_;omega,Z0⟩
 ·have a:=zDL (hat 1 105 rfl)
  have b:=zDc (hat 2 113 rfl)
  exact⟨(show(if (0:Int)=nF n 1 then nF n 2 else 0)=0 from if_neg (by omega)),fun j hj=>rfl,fun _ _ h=>absurd (show nF n 2=0 from h) (by omega),Z0,by show _≤nF n 2∧nF n 2≤_;omega⟩
 ·have a:=zDL (hat 1 105 rfl)
  have b:=zDc (hat 2 113 rfl)
  exact⟨(show(if (0:Int)=nF n 1 then -nF n 2 else 0)=0 from if_neg (by omega)),fun j hj=>rfl,fun _ _ h=>absurd (show -nF n 2=0 from h) (by omega),Z0,by show _≤-nF n 2∧-nF n 2≤_;omega⟩
 ·have b:=zLI (hat 4 122 rfl)
  exact⟨rfl,fun j hj=>by simp only[zDP,whI,whZ,Int.reduceEq,if_false,if_true,ite_self,J j hj],fun h=>absurd h (by decide),by show _≤-nF n 4∧-nF n 4≤_;omega,Z0⟩
 ·have b:=zLI (hat 3 122 rfl)
  exact⟨rfl,fun j hj=>by simp only[zDP,whI,whZ,Int.reduceEq,if_false,if_true,ite_self,J j hj],fun h=>absurd h (by decide),by show _≤-nF n 3∧-nF n 3≤_;omega,Z0⟩
theorem zOg {s:Sta}(g:Good s)(q:Nat):0≤zCQ s q∧zCQ s q≤72057594037927936:=by
 have hal:=zCo g
 have hbd:∀ a:Int,0<a→0≤zs s.rows a q∧zs s.rows a q≤1125899906842624:=fun a ha=>by
  rw[zCn g.rows (by omega)]
  have:=(zBc g.rows (a,(q:Int))).2 (by simp only;omega)
  omega
 have hsum:∀ k,0≤((List.range k).map fun(j:Nat)=>zs s.rows ((j:Int)+1) q).sum∧((List.range k).map fun(j:Nat)=>zs s.rows ((j:Int)+1) q).sum≤k*1125899906842624:=fun k=>by
  induction k with
  | zero=>simp
  | succ k ih =>
    rw[List.range_succ,List.map_append,List.sum_append]
    have:=hbd ((k:Int)+1) (by omega)
    simp only[List.map_cons,List.map_nil,List.sum_cons,List.sum_nil]
    omega
 have:=hsum s.accts.length
 unfold zCQ
 omega
end
section
open Go Go.Sk Go.RowKit
attribute [local irreducible] Go.Calls
theorem zS2 {F:zH}(s:Sta)(p:SPt)(e:Evt)(q:EPt)(hac:∀ k,k<s.accts.length→(ac_ s.accts k).name.size≤140737488355328)(hin:∀ k,k<s.insts.length→(in_ s.insts k).name.size≤140737488355328)(hr:∀ j,j<s.rows.length→(rw_ s.rows j).wf)(hT:zFq e)(w0:World)(hF:Mem w0 F)(hP:PriM F)(hK:KinM F)(hs:StaM F s p)(hM:EvtM F e q) :
  Calls Tryz.prog 3 [.agg (s.cells p).toArray,.agg (e.cells q).toArray].toArray w0 (Ret (.bool true) w0):=by
 have hlg:=fun w (hG:Mem w F)=>zFE s p hac hin w hG hs
 have hod:=fun w (hG:Mem w F)=>zK4 e q w hG hM
 have haw:=fun w (hG:Mem w F)=>zFO w hG hP hK
 by_cases hg:zCu s=false∧zGn e=false
 rotate_left
 ·refine enter [.tmp 4] Tryz.func3 rfl Tryz.ntmps3 rfl rfl ?_
  have H:=zB w0
  repeat' (first|refine yT ?_|refine y7 sg H ?_|refine y8 sg H ?_|(refine y9 H ?_;intro b w H)|(refine y10 sg H ?_;intro b w H)|(refine y11 sg H ?_;intro w H)|refine y12 ?_|(refine' y30 zAa ?_ ?_;rotate_left;exact hlg _ (H.memF hF);intro w hcl;replace H:=H.ext hcl;clear hcl)|(refine' y31 zAa ?_ ?_;rotate_left;exact(fun _ hcl=>hlg _ ((H.ext hcl).memF hF)))|(refine' y30 zAr ?_ ?_;rotate_left;exact hod _ (H.memF hF);intro w hcl;replace H:=H.ext hcl;clear hcl)|(refine' y31 zAr ?_ ?_;rotate_left;exact(fun _ hcl=>hod _ ((H.ext hcl).memF hF)))|(refine' y30 zAb ?_ ?_;rotate_left;exact haw _ (H.memF hF);intro w hcl;replace H:=H.ext hcl;clear hcl)|(refine' y31 zAb ?_ ?_;rotate_left;exact(fun _ hcl=>haw _ ((H.ext hcl).memF hF)))|refine yU ?_|(refine y17 ?_ ?_;all_goals(intro h;try (exfalso;first|((exact absurd h (by decide));done)|((exact hg ⟨‹_›,‹_›⟩);done))))|(refine y18 ?_ ?_;all_goals(intro h;try (exfalso;first|((exact absurd h (by decide));done)|((exact hg ⟨‹_›,‹_›⟩);done))))|(with_reducible apply zL;intro w hcl;replace H:=H.ext hcl;clear hcl)|refine y20 mixed ?_|with_reducible apply zA|(refine y23 ?_ ?_;all_goals(intro h;try (exfalso;first|((exact absurd h (by decide));done)|((exact hg ⟨‹_›,‹_›⟩);done))))|fail)
  all_goals exact zQ rfl H.cl rfl
 obtain⟨h1,h2⟩:=hg
 have hW:=zFP (zDv h1) hr
 rw[h1] at hlg
 rw[h2] at hod
 have cA:=fun w (G:zH) (hG:Mem w (G++F))=>zDS (s:=s) (p:=p) hW e q hT w hG (hP.mono (zz8 _ _)) (hK.mono (zz8 _ _)) (hs.mono (zz8 _ _)) (hM.mono (zz8 _ _))
 obtain⟨⟨t,r⟩,hE⟩:∃ r,zk s e=r:=⟨_,rfl⟩
 have ltA:=zE7 hE
 rw[hE] at cA
 by_cases hr0:r=0
 rotate_left
 ·have ez:=zD3 (s:=s) (e:=e) (by rw[hE];exact hr0)
  rw[hE] at ez
  simp only at ez
  subst ez
  have d1:(r != 0)=true:=by simpa using hr0
  refine enter [.tmp 4] Tryz.func3 rfl Tryz.ntmps3 rfl rfl ?_
  have H:=zB w0
  repeat' (first|refine yT ?_|refine y7 sg H ?_|refine y8 sg H ?_|(refine y9 H ?_;intro b w H)|(refine y10 sg H ?_;intro b w H)|(refine y11 sg H ?_;intro w H)|refine y12 ?_|(refine' y30 zAa ?_ ?_;rotate_left;exact hlg _ (H.memF hF);intro w hcl;replace H:=H.ext hcl;clear hcl)|(refine' y31 zAa ?_ ?_;rotate_left;exact(fun _ hcl=>hlg _ ((H.ext hcl).memF hF)))|(refine' y30 zAr ?_ ?_;rotate_left;exact hod _ (H.memF hF);intro w hcl;replace H:=H.ext hcl;clear hcl)|(refine' y31 zAr ?_ ?_;rotate_left;exact(fun _ hcl=>hod _ ((H.ext hcl).memF hF)))|(refine' y30 zAb ?_ ?_;rotate_left;exact haw _ (H.memF hF);intro w hcl;replace H:=H.ext hcl;clear hcl)|(refine' y31 zAb ?_ ?_;rotate_left;exact(fun _ hcl=>haw _ ((H.ext hcl).memF hF)))|(refine' y32 zBr ?_ ?_;rotate_left;exact cA _ _ (H.all hF);intro v M w hR hS;replace H:=H.addR hS;clear hS;(try simp only[List.cons_append,List.nil_append] at H);obtain⟨pA,rfl,hsA⟩:=StC.sta hR ltA)|refine yU ?_|(refine y17 ?_ ?_;all_goals(intro h;try (exfalso;first|((exact absurd h (by decide));done)|((cases d1.symm.trans h);done))))|(refine y18 ?_ ?_;all_goals(intro h;try (exfalso;first|((exact absurd h (by decide));done)|((cases d1.symm.trans h);done))))|(with_reducible apply zL;intro w hcl;replace H:=H.ext hcl;clear hcl)|refine y20 mixed ?_|with_reducible apply zA|(refine y23 ?_ ?_;all_goals(intro h;try (exfalso;first|((exact absurd h (by decide));done)|((cases d1.symm.trans h);done))))|fail)
  exact zQ rfl H.cl rfl
 subst hr0
 obtain⟨gs,gt,ev,hv3,hmay,hdo⟩:=zBI hE
 obtain⟨wA,wB⟩:=zS1 hE
 have wf:=wh_f ev
 have hi:=zEz gt
 have hi2:=(zLn hE).2.2.2.2
 have kk:=ev.kind
 have hlen:=ev.len
 have hat:=fun(i c:Nat) (hc:(zII e.kind)[i]?=some c)=>ev.at i hc
 obtain⟨ev',ek,en,et⟩:=e
 obtain⟨na,nc,ta,tc⟩:=q
 simp only at wA wB wf kk hlen hat
 have hN:Ints F na nc en:=hM.nums
 obtain⟨hn2,hc2,b2,off2,cs2,T2,fr2,hs2⟩:=id hN
 refine enter [.tmp 4] Tryz.func3 rfl Tryz.ntmps3 rfl rfl ?_
 have H:=zB w0
 repeat' (first|refine yT ?_|refine y7 sg H ?_|refine y8 sg H ?_|(refine y9 H ?_;intro b w H)|(refine y10 sg H ?_;intro b w H)|(refine y11 sg H ?_;intro w H)|refine y12 ?_|(refine' y30 zAa ?_ ?_;rotate_left;exact hlg _ (H.memF hF);intro w hcl;replace H:=H.ext hcl;clear hcl)|(refine' y31 zAa ?_ ?_;rotate_left;exact(fun _ hcl=>hlg _ ((H.ext hcl).memF hF)))|(refine' y30 zAr ?_ ?_;rotate_left;exact hod _ (H.memF hF);intro w hcl;replace H:=H.ext hcl;clear hcl)|(refine' y31 zAr ?_ ?_;rotate_left;exact(fun _ hcl=>hod _ ((H.ext hcl).memF hF)))|(refine' y30 zAb ?_ ?_;rotate_left;exact haw _ (H.memF hF);intro w hcl;replace H:=H.ext hcl;clear hcl)|(refine' y31 zAb ?_ ?_;rotate_left;exact(fun _ hcl=>haw _ ((H.ext hcl).memF hF)))|(refine' y32 zBr ?_ ?_;rotate_left;exact cA _ _ (H.all hF);intro v M w hR hS;replace H:=H.addR hS;clear hS;(try simp only[List.cons_append,List.nil_append] at H);obtain⟨pA,rfl,hsA⟩:=StC.sta hR ltA)|refine yU ?_|(refine y17 ?_ ?_;all_goals(intro h;try (exfalso;first|((exact absurd h (by decide));done))))|(refine y18 ?_ ?_;all_goals(intro h;try (exfalso;first|((exact absurd h (by decide));done))))|(with_reducible apply zL;intro w hcl;replace H:=H.ext hcl;clear hcl)|refine y20 mixed ?_|fail)
 (try with_reducible apply zBW)
 refine CW.cutT (fun en1 w=>∃ bs be b5 en',en1=ovl [(2,.pointer (some ⟨bs,0,none⟩)),(5,.pointer (some ⟨b5,0,none⟩)),(7,.int .i64 (whM ek en)),(8,.int .i64 (whI ek en)),(9,.int .i64 (whZ ek en)),(10,.bool (whV ek))] en'∧St w0 (cb b5 (t.cells pA) 28::cb be ((⟨ev',ek,en,et⟩:Evt).cells ⟨na,nc,ta,tc⟩) 32::cb bs (s.cells p) 28::M) w) ?_ ?_
 ·by_cases hk:ek=6∨ek=7∨ek=8∨ek=9∨ek=13∨ek=18∨ek=21
  ·rcases hk with rfl|rfl|rfl|rfl|rfl|rfl|rfl
   ·have hl:en.length=2:=hlen
    repeat' (first|refine yT ?_|refine y7 sg H ?_|refine y8 sg H ?_|(refine y9 H ?_;intro b w H)|(refine y10 sg H ?_;intro b w H)|(refine y11 sg H ?_;intro w H)|refine y12 ?_|(refine y40 sg (hs2) ?_ ?_ ?_;(omega);(omega))|(refine y41 sg (hs2) ?_ ?_ ?_;(omega);(omega))|refine z13 (Yq.loadB1 sg hs2 (H.memF hF) rfl rfl rfl rfl (show 1<en.length by omega) rfl) ?_|((with_reducible apply zP);exact rfl;exact rfl;exact Yq.loadB1 sg hs2 (H.memF hF) rfl rfl rfl rfl (show 1<en.length by omega) rfl)|refine yU ?_|(refine y17 ?_ ?_;all_goals intro h)|(refine y18 ?_ ?_;all_goals intro h)|(with_reducible apply zL;intro w hcl;replace H:=H.ext hcl;clear hcl)|refine y20 mixed ?_|with_reducible apply zA|fail)
    exact⟨_,_,_,_,za rfl (za rfl (za rfl (zAZ rfl rfl rfl))),H⟩
   ·have hl:en.length=2:=hlen
    have b:=zDM (hat 1 109 rfl)
    have hw:IntKind.i64.wrap (0 - nF en 1)=-(nF en 1):=by rw[w64 (by omega) (by omega)];omega
    repeat' (first|refine yT ?_|refine y7 sg H ?_|refine y8 sg H ?_|(refine y9 H ?_;intro b w H)|(refine y10 sg H ?_;intro b w H)|(refine y11 sg H ?_;intro w H)|refine y12 ?_|(refine y40 sg (hs2) ?_ ?_ ?_;(omega);(omega))|(refine y41 sg (hs2) ?_ ?_ ?_;(omega);(omega))|refine z13 (Yq.loadB1 sg hs2 (H.memF hF) rfl rfl rfl rfl (show 1<en.length by omega) rfl) ?_|((with_reducible apply zP);exact rfl;exact rfl;exact Yq.loadB1 sg hs2 (H.memF hF) rfl rfl rfl rfl (show 1<en.length by omega) rfl)|refine yU ?_|(refine y17 ?_ ?_;all_goals intro h)|(refine y18 ?_ ?_;all_goals intro h)|(with_reducible apply zL;intro w hcl;replace H:=H.ext hcl;clear hcl)|refine y20 mixed ?_|with_reducible apply zA|fail)
    exact⟨_,_,_,_,za rfl (za rfl (za (congrArg (Value.int .i64) hw) (zAZ rfl rfl rfl))),H⟩
   ·have hl:en.length=3:=hlen
    repeat' (first|refine yT ?_|refine y7 sg H ?_|refine y8 sg H ?_|(refine y9 H ?_;intro b w H)|(refine y10 sg H ?_;intro b w H)|(refine y11 sg H ?_;intro w H)|refine y12 ?_|(refine y40 sg (hs2) ?_ ?_ ?_;(omega);(omega))|(refine y41 sg (hs2) ?_ ?_ ?_;(omega);(omega))|refine z13 (Yq.loadB1 sg hs2 (H.memF hF) rfl rfl rfl rfl (show 1<en.length by omega) rfl) ?_|((with_reducible apply zP);exact rfl;exact rfl;exact Yq.loadB1 sg hs2 (H.memF hF) rfl rfl rfl rfl (show 1<en.length by omega) rfl)|refine z13 (Yq.loadB1 sg hs2 (H.memF hF) rfl rfl rfl rfl (show 2<en.length by omega) rfl) ?_|((with_reducible apply zP);exact rfl;exact rfl;exact Yq.loadB1 sg hs2 (H.memF hF) rfl rfl rfl rfl (show 2<en.length by omega) rfl)|refine yU ?_|(refine y17 ?_ ?_;all_goals intro h)|(refine y18 ?_ ?_;all_goals intro h)|(with_reducible apply zL;intro w hcl;replace H:=H.ext hcl;clear hcl)|refine y20 mixed ?_|with_reducible apply zA|fail)
    exact⟨_,_,_,_,za rfl (za rfl (za rfl (zAZ rfl rfl rfl))),H⟩
   ·have hl:en.length=3:=hlen
    have b:=zDc (hat 2 113 rfl)
    have hw:IntKind.i64.wrap (0 - nF en 2)=-(nF en 2):=by rw[w64 (by omega) (by omega)];omega
    repeat' (first|refine yT ?_|refine y7 sg H ?_|refine y8 sg H ?_|(refine y9 H ?_;intro b w H)|(refine y10 sg H ?_;intro b w H)|(refine y11 sg H ?_;intro w H)|refine y12 ?_|(refine y40 sg (hs2) ?_ ?_ ?_;(omega);(omega))|(refine y41 sg (hs2) ?_ ?_ ?_;(omega);(omega))|refine z13 (Yq.loadB1 sg hs2 (H.memF hF) rfl rfl rfl rfl (show 1<en.length by omega) rfl) ?_|((with_reducible apply zP);exact rfl;exact rfl;exact Yq.loadB1 sg hs2 (H.memF hF) rfl rfl rfl rfl (show 1<en.length by omega) rfl)|refine z13 (Yq.loadB1 sg hs2 (H.memF hF) rfl rfl rfl rfl (show 2<en.length by omega) rfl) ?_|((with_reducible apply zP);exact rfl;exact rfl;exact Yq.loadB1 sg hs2 (H.memF hF) rfl rfl rfl rfl (show 2<en.length by omega) rfl)|refine yU ?_|(refine y17 ?_ ?_;all_goals intro h)|(refine y18 ?_ ?_;all_goals intro h)|(with_reducible apply zL;intro w hcl;replace H:=H.ext hcl;clear hcl)|refine y20 mixed ?_|with_reducible apply zA|fail)
    exact⟨_,_,_,_,za rfl (za rfl (za rfl (zAZ rfl (congrArg (Value.int .i64) hw) rfl))),H⟩
   ·have hl:en.length=5:=hlen
    have b:=zLI (hat 4 122 rfl)
    have hw:IntKind.i64.wrap (0 - nF en 4)=-(nF en 4):=by rw[w64 (by omega) (by omega)];omega
    repeat' (first|refine yT ?_|refine y7 sg H ?_|refine y8 sg H ?_|(refine y9 H ?_;intro b w H)|(refine y10 sg H ?_;intro b w H)|(refine y11 sg H ?_;intro w H)|refine y12 ?_|(refine y40 sg (hs2) ?_ ?_ ?_;(omega);(omega))|(refine y41 sg (hs2) ?_ ?_ ?_;(omega);(omega))|refine z13 (Yq.loadB1 sg hs2 (H.memF hF) rfl rfl rfl rfl (show 4<en.length by omega) rfl) ?_|((with_reducible apply zP);exact rfl;exact rfl;exact Yq.loadB1 sg hs2 (H.memF hF) rfl rfl rfl rfl (show 4<en.length by omega) rfl)|refine yU ?_|(refine y17 ?_ ?_;all_goals intro h)|(refine y18 ?_ ?_;all_goals intro h)|(with_reducible apply zL;intro w hcl;replace H:=H.ext hcl;clear hcl)|refine y20 mixed ?_|with_reducible apply zA|fail)
    exact⟨_,_,_,_,za rfl (za rfl (za (congrArg (Value.int .i64) hw) (zAZ rfl rfl rfl))),H⟩
   ·have hl:en.length=4:=hlen
    have b:=zLI (hat 3 122 rfl)
    have hw:IntKind.i64.wrap (0 - nF en 3)=-(nF en 3):=by rw[w64 (by omega) (by omega)];omega
    repeat' (first|refine yT ?_|refine y7 sg H ?_|refine y8 sg H ?_|(refine y9 H ?_;intro b w H)|(refine y10 sg H ?_;intro b w H)|(refine y11 sg H ?_;intro w H)|refine y12 ?_|(refine y40 sg (hs2) ?_ ?_ ?_;(omega);(omega))|(refine y41 sg (hs2) ?_ ?_ ?_;(omega);(omega))|refine z13 (Yq.loadB1 sg hs2 (H.memF hF) rfl rfl rfl rfl (show 3<en.length by omega) rfl) ?_|((with_reducible apply zP);exact rfl;exact rfl;exact Yq.loadB1 sg hs2 (H.memF hF) rfl rfl rfl rfl (show 3<en.length by omega) rfl)|refine yU ?_|(refine y17 ?_ ?_;all_goals intro h)|(refine y18 ?_ ?_;all_goals intro h)|(with_reducible apply zL;intro w hcl;replace H:=H.ext hcl;clear hcl)|refine y20 mixed ?_|with_reducible apply zA|fail)
    exact⟨_,_,_,_,za rfl (za rfl (za (congrArg (Value.int .i64) hw) (zAZ rfl rfl rfl))),H⟩
   ·repeat' (first|refine yT ?_|refine y7 sg H ?_|refine y8 sg H ?_|(refine y9 H ?_;intro b w H)|(refine y10 sg H ?_;intro b w H)|(refine y11 sg H ?_;intro w H)|refine y12 ?_|refine yU ?_|(refine y17 ?_ ?_;all_goals intro h)|(refine y18 ?_ ?_;all_goals intro h)|(with_reducible apply zL;intro w hcl;replace H:=H.ext hcl;clear hcl)|refine y20 mixed ?_|with_reducible apply zA|fail)
    exact⟨_,_,_,_,za rfl (za rfl (za rfl (zAZ rfl rfl rfl))),H⟩
  ·have e6:(ek==6)=false:=beq_eq_false_iff_ne.2 (by omega)
   have e7:(ek==7)=false:=beq_eq_false_iff_ne.2 (by omega)
   have e8:(ek==8)=false:=beq_eq_false_iff_ne.2 (by omega)
   have e9:(ek==9)=false:=beq_eq_false_iff_ne.2 (by omega)
   have e13:(ek==13)=false:=beq_eq_false_iff_ne.2 (by omega)
   have e18:(ek==18)=false:=beq_eq_false_iff_ne.2 (by omega)
   have e21:(ek==21)=false:=beq_eq_false_iff_ne.2 (by omega)
   have o1:0=whM ek en:=by unfold whM;rw[if_neg (by omega),if_neg (by omega),if_neg (by omega),if_neg (by omega)]
   have o2:0=whI ek en:=by unfold whI;rw[if_neg (by omega),if_neg (by omega)]
   have o3:0=whZ ek en:=by unfold whZ;rw[if_neg (by omega),if_neg (by omega)]
   have o4:false=whV ek:=by unfold whV;rw[e13,e18,e21];rfl
   repeat' (first|refine yT ?_|refine y7 sg H ?_|refine y8 sg H ?_|(refine y9 H ?_;intro b w H)|(refine y10 sg H ?_;intro b w H)|(refine y11 sg H ?_;intro w H)|refine y12 ?_|refine yU ?_|(refine y17 ?_ ?_;all_goals(intro h;try (exfalso;first|((cases e6.symm.trans h);done)|((cases e7.symm.trans h);done)|((cases e8.symm.trans h);done)|((cases e9.symm.trans h);done)|((cases e13.symm.trans h);done)|((cases e18.symm.trans h);done)|((cases e21.symm.trans h);done))))|(refine y18 ?_ ?_;all_goals(intro h;try (exfalso;first|((cases e6.symm.trans h);done)|((cases e7.symm.trans h);done)|((cases e8.symm.trans h);done)|((cases e9.symm.trans h);done)|((cases e13.symm.trans h);done)|((cases e18.symm.trans h);done)|((cases e21.symm.trans h);done))))|(with_reducible apply zL;intro w hcl;replace H:=H.ext hcl;clear hcl)|refine y20 mixed ?_|with_reducible apply zA|(refine y23 ?_ ?_;all_goals(intro h;try (exfalso;first|((cases e6.symm.trans h);done)|((cases e7.symm.trans h);done)|((cases e8.symm.trans h);done)|((cases e9.symm.trans h);done)|((cases e13.symm.trans h);done)|((cases e18.symm.trans h);done)|((cases e21.symm.trans h);done))))|fail)
   exact⟨_,_,_,_,za rfl (za rfl (za (congrArg (Value.int .i64) o1) (zAZ (congrArg (Value.int .i64) o2) (congrArg (Value.int .i64) o3) (congrArg Value.bool o4)))),H⟩
 clear H
 rintro _ w ⟨bs,be,b5,_,rfl,H⟩
 obtain⟨e1,e2,e3,e4,e5⟩:=wf
 generalize whM ek en=m at *
 generalize whI ek en=i at *
 generalize whZ ek en=z at *
 generalize whV ek=mv at *
 have cs0:=fun w (hG:Mem w F)=>zKZ s p gs (zCq gs) 0 (by omega) w hG hs
 have ct0:=fun w (G:zH) (hG:Mem w G) (h:M⊆G)=>zKZ t pA gt (zCq gt) 0 (by omega) w hG (hsA.mono h)
 have a0:=wA 0 (by omega)
 have bs0:=zOg gs 0
 rw[show(((0:Nat):Int))=0 from rfl] at cs0 ct0 a0 bs0
 have d1:(zCQ t 0 != IntKind.i64.wrap (zCQ s 0+m))=false:=by
  rw[w64 (by omega) (by omega),a0,e1];simp
 repeat' (first|refine yT ?_|refine y7 sg H ?_|refine y8 sg H ?_|(refine y9 H ?_;intro b w H)|(refine y10 sg H ?_;intro b w H)|(refine y11 sg H ?_;intro w H)|refine y12 ?_|(refine' y30 zEg ?_ ?_;rotate_left;exact ct0 _ _ H.mem qS;intro w hcl;replace H:=H.ext hcl;clear hcl)|(refine' y31 zEg ?_ ?_;rotate_left;exact(fun _ hcl=>ct0 _ _ (H.ext hcl).mem qS))|(refine' y30 zEg ?_ ?_;rotate_left;exact cs0 _ (H.memF hF);intro w hcl;replace H:=H.ext hcl;clear hcl)|(refine' y31 zEg ?_ ?_;rotate_left;exact(fun _ hcl=>cs0 _ ((H.ext hcl).memF hF)))|refine yU ?_|(refine y17 ?_ ?_;all_goals(intro h;try (exfalso;first|((cases d1.symm.trans h);done))))|(refine y18 ?_ ?_;all_goals(intro h;try (exfalso;first|((cases d1.symm.trans h);done))))|(with_reducible apply zL;intro w hcl;replace H:=H.ext hcl;clear hcl)|refine y20 mixed ?_|with_reducible apply zA|(refine y23 ?_ ?_;all_goals(intro h;try (exfalso;first|((cases d1.symm.trans h);done))))|fail)
 refine zM [(4,4),(11,12),(97,117)] (fun k:Nat=>[(11,.int .i64 ((k+1:Nat):Int))]) (fun k w=>St w0 (cb b5 (t.cells pA) 28::cb be ((⟨ev',ek,en,et⟩:Evt).cells ⟨na,nc,ta,tc⟩) 32::cb bs (s.cells p) 28::M) w∧k≤t.insts.length) (fun k=>t.insts.length - k) 0 ⟨rfl,trivial⟩ ⟨H,zzD _⟩ ?_
 clear H
 rintro k gh w ⟨H,hk⟩
 by_cases hkl:k<t.insts.length
 ·have d2:decide (((k+1:Nat):Int)≤(t.insts.length:Int))=true:=decide_eq_true (by omega)
  have cs1:=fun w (hG:Mem w F)=>zKZ s p gs (zCq gs) (k+1) (by omega) w hG hs
  have ct1:=fun w (G:zH) (hG:Mem w G) (h:M⊆G)=>zKZ t pA gt (zCq gt) (k+1) (by omega) w hG (hsA.mono h)
  have a1:=wA (k+1) (by omega)
  have bs1:=zOg gs (k+1)
  rw[e2 (k+1) (by omega)] at a1
  by_cases hx:((k+1:Nat):Int)=i
  ·have d3:(((k+1:Nat):Int)==i)=true:=beq_iff_eq.2 hx
   have d4:(zCQ t ((k+1:Nat):Int) != IntKind.i64.wrap (zCQ s ((k+1:Nat):Int)+z))=false:=by
    rw[w64 (by omega) (by omega),a1,if_pos hx];simp
   repeat' (first|refine yT ?_|refine y7 sg H ?_|refine y8 sg H ?_|(refine y9 H ?_;intro b w H)|(refine y10 sg H ?_;intro b w H)|(refine y11 sg H ?_;intro w H)|refine y12 ?_|(refine' y30 zEg ?_ ?_;rotate_left;exact ct1 _ _ H.mem qS;intro w hcl;replace H:=H.ext hcl;clear hcl)|(refine' y31 zEg ?_ ?_;rotate_left;exact(fun _ hcl=>ct1 _ _ (H.ext hcl).mem qS))|(refine' y30 zEg ?_ ?_;rotate_left;exact cs1 _ (H.memF hF);intro w hcl;replace H:=H.ext hcl;clear hcl)|(refine' y31 zEg ?_ ?_;rotate_left;exact(fun _ hcl=>cs1 _ ((H.ext hcl).memF hF)))|refine yU ?_|(refine y17 ?_ ?_;all_goals(intro h;try (exfalso;first|((cases d2.symm.trans h);done)|((cases d3.symm.trans h);done)|((cases d4.symm.trans h);done))))|(refine y18 ?_ ?_;all_goals(intro h;try (exfalso;first|((cases d2.symm.trans h);done)|((cases d3.symm.trans h);done)|((cases d4.symm.trans h);done))))|(with_reducible apply zL;intro w hcl;replace H:=H.ext hcl;clear hcl)|refine y20 mixed ?_|with_reducible apply zA|(refine y23 ?_ ?_;all_goals(intro h;try (exfalso;first|((cases d2.symm.trans h);done)|((cases d3.symm.trans h);done)|((cases d4.symm.trans h);done))))|fail)
   exact zK (k+1) rfl ⟨zZ (by omega),trivial⟩ ⟨H,hkl⟩ (by omega)
  ·have d3:(((k+1:Nat):Int)==i)=false:=beq_eq_false_iff_ne.2 hx
   have d4:(zCQ t ((k+1:Nat):Int) != zCQ s ((k+1:Nat):Int))=false:=by
    rw[a1,if_neg hx,Int.add_zero];simp
   repeat' (first|refine yT ?_|refine y7 sg H ?_|refine y8 sg H ?_|(refine y9 H ?_;intro b w H)|(refine y10 sg H ?_;intro b w H)|(refine y11 sg H ?_;intro w H)|refine y12 ?_|(refine' y30 zEg ?_ ?_;rotate_left;exact ct1 _ _ H.mem qS;intro w hcl;replace H:=H.ext hcl;clear hcl)|(refine' y31 zEg ?_ ?_;rotate_left;exact(fun _ hcl=>ct1 _ _ (H.ext hcl).mem qS))|(refine' y30 zEg ?_ ?_;rotate_left;exact cs1 _ (H.memF hF);intro w hcl;replace H:=H.ext hcl;clear hcl)|(refine' y31 zEg ?_ ?_;rotate_left;exact(fun _ hcl=>cs1 _ ((H.ext hcl).memF hF)))|refine yU ?_|(refine y17 ?_ ?_;all_goals(intro h;try (exfalso;first|((cases d2.symm.trans h);done)|((cases d3.symm.trans h);done)|((cases d4.symm.trans h);done))))|(refine y18 ?_ ?_;all_goals(intro h;try (exfalso;first|((cases d2.symm.trans h);done)|((cases d3.symm.trans h);done)|((cases d4.symm.trans h);done))))|(with_reducible apply zL;intro w hcl;replace H:=H.ext hcl;clear hcl)|refine y20 mixed ?_|with_reducible apply zA|(refine y23 ?_ ?_;all_goals(intro h;try (exfalso;first|((cases d2.symm.trans h);done)|((cases d3.symm.trans h);done)|((cases d4.symm.trans h);done))))|fail)
   exact zK (k+1) rfl ⟨zZ (by omega),trivial⟩ ⟨H,hkl⟩ (by omega)
 have d2:decide (((k+1:Nat):Int)≤(t.insts.length:Int))=false:=decide_eq_false (by omega)
 by_cases hq:mv=false∧m=0∧z=0
 rotate_left
 ·repeat' (first|refine yT ?_|refine y7 sg H ?_|refine y8 sg H ?_|(refine y9 H ?_;intro b w H)|(refine y10 sg H ?_;intro b w H)|(refine y11 sg H ?_;intro w H)|refine y12 ?_|refine yU ?_|(refine y17 ?_ ?_;all_goals(intro h;try (exfalso;first|((cases d2.symm.trans h);done)|((exact hq ⟨‹mv=false›,bne_eq_false_iff_eq.1 ‹(m != 0)=false›,bne_eq_false_iff_eq.1 h⟩);done))))|(refine y18 ?_ ?_;all_goals(intro h;try (exfalso;first|((cases d2.symm.trans h);done)|((exact hq ⟨‹mv=false›,bne_eq_false_iff_eq.1 ‹(m != 0)=false›,bne_eq_false_iff_eq.1 h⟩);done))))|(with_reducible apply zL;intro w hcl;replace H:=H.ext hcl;clear hcl)|refine y20 mixed ?_|with_reducible apply zA|(refine y23 ?_ ?_;all_goals(intro h;try (exfalso;first|((cases d2.symm.trans h);done)|((exact hq ⟨‹mv=false›,bne_eq_false_iff_eq.1 ‹(m != 0)=false›,bne_eq_false_iff_eq.1 h⟩);done))))|fail)
  all_goals exact zQ rfl H.cl rfl
 obtain⟨rfl,rfl,rfl⟩:=hq
 have hmv:=e3 rfl rfl rfl
 repeat' (first|refine yT ?_|refine y7 sg H ?_|refine y8 sg H ?_|(refine y9 H ?_;intro b w H)|(refine y10 sg H ?_;intro b w H)|(refine y11 sg H ?_;intro w H)|refine y12 ?_|refine yU ?_|(refine y17 ?_ ?_;all_goals(intro h;try (exfalso;first|((cases d2.symm.trans h);done))))|(refine y18 ?_ ?_;all_goals(intro h;try (exfalso;first|((cases d2.symm.trans h);done))))|(with_reducible apply zL;intro w hcl;replace H:=H.ext hcl;clear hcl)|refine y20 mixed ?_|with_reducible apply zA|(refine y23 ?_ ?_;all_goals(intro h;try (exfalso;first|((cases d2.symm.trans h);done))))|fail)
 refine zM [(4,4),(13,14),(127,151)] (fun k:Nat=>[(13,.int .i64 ((k+1:Nat):Int))]) (fun k w=>St w0 (cb b5 (t.cells pA) 28::cb be ((⟨ev',ek,en,et⟩:Evt).cells ⟨na,nc,ta,tc⟩) 32::cb bs (s.cells p) 28::M) w∧k≤t.accts.length) (fun k=>t.accts.length - k) 0 ⟨rfl,trivial⟩ ⟨H,zzD _⟩ ?_
 clear H d2 hk
 have ha:=zCo gt
 rintro k gh w ⟨H,hk⟩
 by_cases hkl:k<t.accts.length
 ·have d2:decide (((k+1:Nat):Int)≤(t.accts.length:Int))=true:=decide_eq_true (by omega)
  repeat' (first|refine yT ?_|refine y7 sg H ?_|refine y8 sg H ?_|(refine y9 H ?_;intro b w H)|(refine y10 sg H ?_;intro b w H)|(refine y11 sg H ?_;intro w H)|refine y12 ?_|refine yU ?_|(refine y17 ?_ ?_;all_goals(intro h;try (exfalso;first|((cases d2.symm.trans h);done))))|(refine y18 ?_ ?_;all_goals(intro h;try (exfalso;first|((cases d2.symm.trans h);done))))|(with_reducible apply zL;intro w hcl;replace H:=H.ext hcl;clear hcl)|refine y20 mixed ?_|with_reducible apply zA|(refine y23 ?_ ?_;all_goals(intro h;try (exfalso;first|((cases d2.symm.trans h);done))))|fail)
  refine zM [(4,4),(14,14),(134,151)] (fun j:Nat=>[(14,.int .i64 (j:Int))]) (fun j w=>St w0 (cb b5 (t.cells pA) 28::cb be ((⟨ev',ek,en,et⟩:Evt).cells ⟨na,nc,ta,tc⟩) 32::cb bs (s.cells p) 28::M) w∧j≤t.insts.length+1) (fun j=>t.insts.length+1 - j) 0 ⟨rfl,trivial⟩ ⟨H,zzD _⟩ ?_
  clear H
  rintro j gj w ⟨H,hj⟩
  by_cases hjl:j≤t.insts.length
  ·have d3:decide ((j:Int)≤(t.insts.length:Int))=true:=decide_eq_true (by omega)
   have d4:(zs t.rows ((k+1:Nat):Int) (j:Int) != zs s.rows ((k+1:Nat):Int) (j:Int))=false:=by
    rw[wB hmv _ _ (by omega)];simp
   have cs1:=fun w (hG:Mem w F)=>zGI s.rows (zCq gs) ((k+1:Nat):Int) (j:Int) w hG hs.rw
   have ct1:=fun w (G:zH) (hG:Mem w G) (h:M⊆G)=>zGI t.rows (zCq gt) ((k+1:Nat):Int) (j:Int) w hG (hsA.mono h).rw
   repeat' (first|refine yT ?_|refine y7 sg H ?_|refine y8 sg H ?_|(refine y9 H ?_;intro b w H)|(refine y10 sg H ?_;intro b w H)|(refine y11 sg H ?_;intro w H)|refine y12 ?_|(refine' y30 zHA ?_ ?_;rotate_left;exact ct1 _ _ H.mem qS;intro w hcl;replace H:=H.ext hcl;clear hcl)|(refine' y31 zHA ?_ ?_;rotate_left;exact(fun _ hcl=>ct1 _ _ (H.ext hcl).mem qS))|(refine' y30 zHA ?_ ?_;rotate_left;exact cs1 _ (H.memF hF);intro w hcl;replace H:=H.ext hcl;clear hcl)|(refine' y31 zHA ?_ ?_;rotate_left;exact(fun _ hcl=>cs1 _ ((H.ext hcl).memF hF)))|refine yU ?_|(refine y17 ?_ ?_;all_goals(intro h;try (exfalso;first|((cases d3.symm.trans h);done)|((cases d4.symm.trans h);done))))|(refine y18 ?_ ?_;all_goals(intro h;try (exfalso;first|((cases d3.symm.trans h);done)|((cases d4.symm.trans h);done))))|(with_reducible apply zL;intro w hcl;replace H:=H.ext hcl;clear hcl)|refine y20 mixed ?_|with_reducible apply zA|(refine y23 ?_ ?_;all_goals(intro h;try (exfalso;first|((cases d3.symm.trans h);done)|((cases d4.symm.trans h);done))))|fail)
   exact zK (j+1) rfl ⟨zZ (by omega),trivial⟩ ⟨H,by omega⟩ (by omega)
  ·have d3:decide ((j:Int)≤(t.insts.length:Int))=false:=decide_eq_false (by omega)
   repeat' (first|refine yT ?_|refine y7 sg H ?_|refine y8 sg H ?_|(refine y9 H ?_;intro b w H)|(refine y10 sg H ?_;intro b w H)|(refine y11 sg H ?_;intro w H)|refine y12 ?_|refine yU ?_|(refine y17 ?_ ?_;all_goals(intro h;try (exfalso;first|((cases d3.symm.trans h);done))))|(refine y18 ?_ ?_;all_goals(intro h;try (exfalso;first|((cases d3.symm.trans h);done))))|(with_reducible apply zL;intro w hcl;replace H:=H.ext hcl;clear hcl)|refine y20 mixed ?_|with_reducible apply zA|(refine y23 ?_ ?_;all_goals(intro h;try (exfalso;first|((cases d3.symm.trans h);done))))|fail)
   exact zE8 (k+1) rfl ⟨zZ (by omega),trivial⟩ ⟨H,hkl⟩ (by omega)
 ·have d2:decide (((k+1:Nat):Int)≤(t.accts.length:Int))=false:=decide_eq_false (by omega)
  repeat' (first|refine yT ?_|refine y7 sg H ?_|refine y8 sg H ?_|(refine y9 H ?_;intro b w H)|(refine y10 sg H ?_;intro b w H)|(refine y11 sg H ?_;intro w H)|refine y12 ?_|refine yU ?_|(refine y17 ?_ ?_;all_goals(intro h;try (exfalso;first|((cases d2.symm.trans h);done))))|(refine y18 ?_ ?_;all_goals(intro h;try (exfalso;first|((cases d2.symm.trans h);done))))|(with_reducible apply zL;intro w hcl;replace H:=H.ext hcl;clear hcl)|refine y20 mixed ?_|with_reducible apply zA|(refine y23 ?_ ?_;all_goals(intro h;try (exfalso;first|((cases d2.symm.trans h);done))))|fail)
  exact zQ rfl H.cl rfl
end
section
open Go Go.Sk Go.RowKit Go.ChangeShapes Go.WideShapes
set_option maxRecDepth 100000 in
theorem applyWhere_calls {H:Type}{enc:TypeId × Value→H}{W:World}{args:Array Value}{ds:List (DataW H)}{p:List MemPlace}
  (hA:DataW.TrodAll enc Tryz.prog W 0 (fun _=>true) true [28,32] args.toList ds p) (hz:∀ (j:Nat) t d,([28,32]:List TypeId)[j]?=some t→ds[j]?=some d→∀ n∈d.weights Tryz.prog t,n≤reachBytes) (hv:∀ (j:Nat) t v,([28,32]:List TypeId)[j]?=some t→args[j]?=some v→Value.okWide Tryz.prog W .any 0 t v) (hL:laidMetH Tryz.prog zA4 W) :
  Calls Tryz.prog 3 args W (Ret (.bool true) W):=by
 obtain⟨v0,v1,d0,d1,r0,r1,rfl,rfl,rfl,h0,h1⟩:=zDg hA
 obtain⟨s0,p0,rfl,hM0,hA0⟩:=zFK h0 (hz 0 _ _ rfl rfl) (hv 0 _ _ rfl rfl)
 obtain⟨e1,q1,rfl,hE1,hT1⟩:=zHc h1 (hz 1 _ _ rfl rfl) (hv 1 _ _ rfl rfl)
 exact zS2 s0 p0 e1 q1 hA0.acN hA0.insN hA0.rw hT1 W (zDq W) (zG6 hL) (zG5 hL) hM0 hE1
set_option maxRecDepth 100000 in
theorem applyWhere_lifted (os:Os)(started:os.Started)(H:Type)(enc:TypeId × Value→H) :
  ReturnsInHanded {} Tryz.checked os 3 .any (fun w args=>(Rows.applyWhereSpec.pre enc Tryz.prog Tryz.f3 [] false w args∧laidMetH Tryz.prog zA4 w)∧sizedMet enc Tryz.prog Tryz.f3 (OpenSpec.ofChange Rows.applyWhereSpec) false w args)
   (Rows.applyWhereSpec.post enc Tryz.prog Tryz.f3 false true false false):=by
 refine returnsInHanded_of_change_and (C:=Tryz.checked) (X:=fun w _=>laidMetH Tryz.prog zA4 w) (fun _ _ _ hh h=>h.of_heap hh) (by kernel_rfl) started (by kernel_rfl) Tryz.func3
  (ChangeSpec.witness_shaped (enc:=enc) (C:=Tryz.checked) (os:=os) (X:=fun w _=>laidMetH Tryz.prog zA4 w) false (World.doorLaid Tryz.prog 600 os) #[.agg #[.int .i64 0,.int .i64 0,.int .i64 0,.int .i64 0,.slice none 0 0,.slice none 0 0,.slice none 0 0,.slice none 0 0,.slice none 0 0],.agg #[.int .u8 0,.int .u8 0,.slice none 0 0,.slice none 0 0]] 8 rfl (World.shaped_of_RefB (by kernel_rfl) (by kernel_rfl)) (by kernel_rfl) (by kernel_rfl) (by kernel_rfl) (zD2 os _)) ?_
 intro W base args ds gs before hval hW _ hsz hL _
 have hA:DataW.TrodAll enc Tryz.prog W 0 (fun _=>true) true [28,32] args.toList ds hW.choose:=hW.choose_spec.choose_spec.1
 refine(applyWhere_calls hA (fun j t d h1 h2=>zDr hsz (Eq.trans ?_ h1) h2) (fun j t v h1 h2=>?_) hL).mono fun e W' ⟨he,hc⟩=>?_
 ·exact congrArg (fun l:List TypeId=>l[j]?) (by kernel_rfl)
 ·refine hval j t v (Eq.trans ?_ h1) h2
  rw[← Array.getElem?_toList]
  exact congrArg (fun l:List TypeId=>l[j]?) (by kernel_rfl)
 ·have hds:∃ q,hW.choose=q:=⟨_,rfl⟩
  obtain⟨q,hq⟩:=hds
  rw[hq] at hA
  refine⟨_,he,zDp (tb:=4) (by kernel_rfl) rfl (by kernel_rfl) rfl (sg.desc rfl rfl) ?_ hW hc⟩
  clear hq
  obtain⟨v0,v1,d0,d1,r0,r1,_,rfl,_⟩:=zDg hA
  rfl
end
end Go.Proofs.YtibmaifoaajllaaGreatDoor
