/- Texts of ours, joined: the steps of the proof, or the claim's theorem. -/
import Derived.Test.YthbflajpdhgfiaaGreatDoorQd10
set_option linter.all false
set_option maxHeartbeats 16000000
namespace Go.Proofs.YthbflajpdhgfiaaGreatDoor
open Go Go.Sk Go.RowKit
attribute [local irreducible] Go.Calls
structure Light (s:Sta):Prop where
 rw:s.rows.length≤1500
 od:s.orders.length≤1500
 ac:s.accts.length≤1500
 acN:∀ k,k<s.accts.length→(ac_ s.accts k).name.size≤1500
 ins:s.insts.length≤1500
 insN:∀ k,k<s.insts.length→(in_ s.insts k).name.size≤1500
 au:s.aucs.length≤1500
 bd:∀ k,k<s.aucs.length→(s.aucs.getD k default).bids.length≤1500
def zB8 (z:Nat→Nat)(n:Nat):Nat→Nat
 | 0=>n
 | k+1=>if zB8 z n k<3000 then zB8 z n k+1+min 3000 (z k) else zB8 z n k
theorem zHW (z:Nat→Nat)(n:Nat):∀ k,zB8 z n k≤n+6001
 | 0=>by unfold zB8;omega
 | k+1=>by
   have:=zHW z n k
   unfold zB8
   split<;>omega
theorem zGO {z:Nat→Nat}{n k:Nat}:∀ {m:Nat},k≤m→¬ (k<m∧zB8 z n k<3000)→zB8 z n m=zB8 z n k
 | 0, hk, h => by obtain rfl:k=0:=by omega
                  rfl
 | m+1,hk,h=>by
   by_cases hm:k=m+1
   ·rw[hm]
   ·have ih:=zGO (z:=z) (n:=n) (k:=k) (m:=m) qO qO
    rw[zB8,ih,if_neg qO]
theorem zER (z:Nat→Nat)(n:Nat):∀ m,zB8 z n m<3000→n+m≤zB8 z n m∧∀ k,k<m→z k≤zB8 z n m
 | 0,_=>⟨zzC _,fun k hk=>absurd hk (zzE k)⟩
 | m+1,h=>by
   rw[zB8] at h ⊢
   by_cases h1:zB8 z n m<3000
   ·rw[if_pos h1] at h ⊢
    obtain⟨a,b⟩:=zER z n m h1
    refine⟨by omega,fun k hk=>?_⟩
    by_cases hkm:k=m
    ·subst hkm;omega
    ·have:=b k qO;omega
   ·rw[if_neg h1] at h;exact absurd h h1
def szA (s:Sta)(k:Nat):Nat:=(ac_ s.accts k).name.size
def szI (s:Sta)(k:Nat):Nat:=(in_ s.insts k).name.size
def szU (s:Sta)(k:Nat):Nat:=(s.aucs.getD k default).bids.length
def wA (s:Sta):Nat:=zB8 (szA s) (s.rows.length+s.orders.length) s.accts.length
def wI (s:Sta):Nat:=zB8 (szI s) (wA s) s.insts.length
def wU (s:Sta):Nat:=zB8 (szU s) (wI s) s.aucs.length
def zES (s:Sta):Int:=if (wU s:Int)<3000 then(wU s:Int) else 3000
theorem zL8 {s:Sta}(h:zES s<1500):Light s:=by
 have h0:wU s<1500:=by unfold zES at h;split at h<;>omega
 obtain⟨c1,c2⟩:=zER (szU s) (wI s) s.aucs.length (show wU s<3000 by omega)
 have e3:zB8 (szU s) (wI s) s.aucs.length=wU s:=rfl
 rw[e3] at c1 c2
 obtain⟨b1,b2⟩:=zER (szI s) (wA s) s.insts.length (show wI s<3000 by omega)
 have e2:zB8 (szI s) (wA s) s.insts.length=wI s:=rfl
 rw[e2] at b1 b2
 obtain⟨a1,a2⟩:=zER (szA s) (s.rows.length+s.orders.length) s.accts.length (show wA s<3000 by omega)
 have e1:zB8 (szA s) (s.rows.length+s.orders.length) s.accts.length=wA s:=rfl
 rw[e1] at a1 a2
 exact⟨by omega,by omega,by omega,fun k hk=>by have:szA s k≤_:=a2 k hk;unfold szA at this;omega,by omega,fun k hk=>by have:szI s k≤_:=b2 k hk;unfold szI at this;omega,by omega,fun k hk=>by have:szU s k≤_:=c2 k hk;unfold szU at this;omega⟩
theorem zKa {z:Nat→Nat}{n k m q:Nat}(hm:zB8 z n k=m)(hlt:m<3000)(hz:q=z k)(hqb:q≤140737488355328):IntKind.i64.wrap (IntKind.i64.wrap ((m:Int)+1)+if (q:Int)<3000 then(q:Int) else 3000)=((zB8 z n (k+1):Nat):Int):=by
 rw[zB8,hm,if_pos hlt,← hz,w64 (x:=(m:Int)+1) qO qO]
 split<;>rw[w64 qO qO]<;>omega
theorem zKb {k n m:Nat}(h:¬ (k<n∧m<3000))(b:Prop)(h1:decide ((k:Int)<(n:Int))=true)(h2:decide ((m:Int)<3000)=true):b:=by
 have:=zzA h1;have:=zzA h2;omega
set_option maxRecDepth 20000 in
theorem zOt {F:zC}(s:Sta)(p:SPt)(hac:∀ k,k<s.accts.length→(ac_ s.accts k).name.size≤140737488355328)(hin:∀ k,k<s.insts.length→(in_ s.insts k).name.size≤140737488355328)(w0:World)(hF:Mem w0 F)(hs:StaM F s p) :
  Calls Tryz.prog 18 [.agg (s.cells p).toArray].toArray w0 (Ret (.int .i64 (zES s)) w0):=by
 obtain⟨ha,hi,hr,ho,hu⟩:=hs
 obtain⟨hna,hca,ba,offa,csa,Ta,fra,ha⟩:=ha
 obtain⟨hni,hci,bi,offi,csi,Ti,fri,hi⟩:=hi
 obtain⟨hnr,hcr,_⟩:=hr
 obtain⟨hno,hco,_⟩:=ho
 obtain⟨⟨hnu,hcu,bu,offu,csu,Tu,fru,hu⟩,hub⟩:=hu
 have hw0:IntKind.i64.wrap ((s.rows.length:Int)+(s.orders.length:Int))=((s.rows.length+s.orders.length:Nat):Int):=by rw[w64 qO qO];omega
 have hub':∀ k,k<s.aucs.length→(s.aucs.getD k default).bids.length≤140737488355328:=fun k hk=>(hub k hk).2.1
 have hN:s.rows.length+s.orders.length≤300000000000000:=by omega
 obtain⟨N,hNe⟩:∃ N,s.rows.length+s.orders.length=N:=⟨_,rfl⟩
 rw[hNe] at hw0 hN
 refine enter [.tmp 2] Tryz.func18 rfl Tryz.ntmps18 rfl rfl ?_
 have H:=zA w0
 repeat' (first|refine yT ?_|refine y7 sg H ?_|(refine y9 H ?_;intro b w H)|refine yU ?_|with_reducible apply zB|fail)
 refine zI [(3,4),(14,35)] (fun k:Nat=>[(3,.int .i64 ((zB8 (szA s) N k:Nat):Int)),(4,.int .i64 (k:Int))]) (fun k w=>St w0 [cb _ (s.cells p) 48] w∧k≤s.accts.length) (fun k=>s.accts.length - k) 0 ⟨congrArg (Value.int .i64) hw0,rfl,trivial⟩ ⟨H,zzD _⟩ ?_
 clear H
 rintro k gh w ⟨H,hk⟩
 have hle:=zHW (szA s) N k
 obtain⟨m,hm⟩:∃ m,zB8 (szA s) N k=m:=⟨_,rfl⟩
 rw[hm] at hle ⊢
 by_cases hkl:k<s.accts.length∧m<3000
 ·have d1:decide ((k:Int)<(s.accts.length:Int))=true:=decide_eq_true qO
  have d2:decide ((m:Int)<3000)=true:=decide_eq_true qO
  repeat' (first|refine yT ?_|refine y7 sg H ?_|refine x40 sg ha ?_|refine x44 sg ha (H.memF hF) ?_|refine yU ?_|((first|refine y17 ?_ ?_|refine y23 ?_ ?_);all_goals(intro h;try (exfalso;first|((rw[d1] at h;cases h);done)|((rw[d2] at h;cases h);done))))|with_reducible apply zB|fail)
  exact zF (k+1) rfl ⟨congrArg (Value.int .i64) (zKa hm hkl.2 rfl (hac k hkl.1)),zf qO,trivial⟩ ⟨H,hkl.1⟩ qO
 have hd:=fun b=>zKb hkl b
 have e1:wA s=m:=by unfold wA;rw[hNe,zGO hk (by rw[hm];exact hkl),hm]
 clear hkl hm hk
 repeat' (first|refine yT ?_|refine y7 sg H ?_|refine yU ?_|((first|refine y17 ?_ ?_|refine y23 ?_ ?_);all_goals(intro h;try (exfalso;first|((exact hd _ ‹_› h);done))))|with_reducible apply zB|fail)
 all_goals
  clear hd
  refine zI [(3,3),(5,5),(36,57)] (fun k:Nat=>[(3,.int .i64 ((zB8 (szI s) m k:Nat):Int)),(5,.int .i64 (k:Int))]) (fun k w=>St w0 [cb _ (s.cells p) 48] w∧k≤s.insts.length) (fun k=>s.insts.length - k) 0 ⟨rfl,rfl,trivial⟩ ⟨H,zzD _⟩ ?_
  clear H
  rintro k gh w ⟨H,hk⟩
  have hle1:=zHW (szI s) m k
  obtain⟨m1,hm1⟩:∃ m1,zB8 (szI s) m k=m1:=⟨_,rfl⟩
  rw[hm1] at hle1 ⊢
  by_cases hkl:k<s.insts.length∧m1<3000
  ·have d1:decide ((k:Int)<(s.insts.length:Int))=true:=decide_eq_true qO
   have d2:decide ((m1:Int)<3000)=true:=decide_eq_true qO
   repeat' (first|refine yT ?_|refine y7 sg H ?_|refine x40 sg hi ?_|refine x44 sg hi (H.memF hF) ?_|refine yU ?_|((first|refine y17 ?_ ?_|refine y23 ?_ ?_);all_goals(intro h;try (exfalso;first|((rw[d1] at h;cases h);done)|((rw[d2] at h;cases h);done))))|with_reducible apply zB|fail)
   exact zF (k+1) rfl ⟨congrArg (Value.int .i64) (zKa hm1 hkl.2 rfl (hin k hkl.1)),zf qO,trivial⟩ ⟨H,hkl.1⟩ qO
  have hd:=fun b=>zKb hkl b
  have e2:wI s=m1:=by unfold wI;rw[e1,zGO hk (by rw[hm1];exact hkl),hm1]
  clear hkl hm1 hk
  repeat' (first|refine yT ?_|refine y7 sg H ?_|refine yU ?_|((first|refine y17 ?_ ?_|refine y23 ?_ ?_);all_goals(intro h;try (exfalso;first|((exact hd _ ‹_› h);done))))|with_reducible apply zB|fail)
  all_goals
   clear hd
   refine zI [(3,3),(6,6),(58,79)] (fun k:Nat=>[(3,.int .i64 ((zB8 (szU s) m1 k:Nat):Int)),(6,.int .i64 (k:Int))]) (fun k w=>St w0 [cb _ (s.cells p) 48] w∧k≤s.aucs.length) (fun k=>s.aucs.length - k) 0 ⟨rfl,rfl,trivial⟩ ⟨H,zzD _⟩ ?_
   clear H
   rintro k gh w ⟨H,hk⟩
   have hle2:=zHW (szU s) m1 k
   obtain⟨m2,hm2⟩:∃ m2,zB8 (szU s) m1 k=m2:=⟨_,rfl⟩
   rw[hm2] at hle2 ⊢
   by_cases hkl:k<s.aucs.length∧m2<3000
   ·have d1:decide ((k:Int)<(s.aucs.length:Int))=true:=decide_eq_true qO
    have d2:decide ((m2:Int)<3000)=true:=decide_eq_true qO
    repeat' (first|refine yT ?_|refine y7 sg H ?_|refine x40 sg hu ?_|refine x44 sg hu (H.memF hF) ?_|refine yU ?_|((first|refine y17 ?_ ?_|refine y23 ?_ ?_);all_goals(intro h;try (exfalso;first|((rw[d1] at h;cases h);done)|((rw[d2] at h;cases h);done))))|with_reducible apply zB|fail)
    exact zF (k+1) rfl ⟨congrArg (Value.int .i64) (zKa hm2 hkl.2 rfl (hub' k hkl.1)),zf qO,trivial⟩ ⟨H,hkl.1⟩ qO
   have hd:=fun b=>zKb hkl b
   have e3:wU s=m2:=by unfold wU;rw[e2,zGO hk (by rw[hm2];exact hkl),hm2]
   clear hkl hm2 hk
   repeat' (first|refine yT ?_|refine y7 sg H ?_|refine yU ?_|((first|refine y17 ?_ ?_|refine y23 ?_ ?_);all_goals(intro h;try (exfalso;first|((exact hd _ ‹_› h);done))))|fail)
   all_goals
    refine zP rfl H.cl (congrArg (Value.int .i64) ?_)
    unfold zES
    rw[e3]
    first|rfl|(split<;>omega)
theorem zOu {s:Sta}(h:zES s<1500)(hr:∀ j,j<s.rows.length→(rw_ s.rows j).wf):StaW s:=by
 have L:=zL8 h
 exact⟨by have:=L.ac;omega,fun k hk=>by have:=L.acN k hk;omega,by have:=L.ins;omega,fun k hk=>by have:=L.insN k hk;omega,hr⟩
def zOv (c:Cmd):Bool:=decide ((c.nums.length:Int)>200)||decide ((c.text.size:Int)>2000)
theorem zTH {na:Option Addr}{nc:Nat}(c:Cmd)(w0:World) :
  Calls Tryz.prog 19 [.agg (c.cells na nc).toArray].toArray w0 (Ret (.bool (zOv c)) w0):=by
 unfold zOv
 refine enter [.tmp 2] Tryz.func19 rfl Tryz.ntmps19 rfl rfl ?_
 have H:=zA w0
 cases d1:decide ((c.nums.length:Int)>200) with
 | true =>
   repeat' (first|refine yT ?_|refine y7 sg H ?_|(refine y9 H ?_;intro b w H)|refine yU ?_|(refine y17 ?_ ?_;all_goals(intro h;try (exfalso;first|((cases d1.symm.trans h);done))))|fail)
   exact zP rfl H.cl rfl
 | false =>
   repeat' (first|refine yT ?_|refine y7 sg H ?_|(refine y9 H ?_;intro b w H)|refine yU ?_|(refine y17 ?_ ?_;all_goals(intro h;try (exfalso;first|((cases d1.symm.trans h);done))))|fail)
   exact zP rfl H.cl rfl
end Go.Proofs.YthbflajpdhgfiaaGreatDoor
