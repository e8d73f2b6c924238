/- Texts of ours, joined: the steps of the proof, or the claim's theorem. -/
import Derived.LaidMore
import Derived.OpenShut
import Derived.ProofKit
import Derived.Stop.Joined
import Derived.Test.YthbflajpdhgfiaaGreatDoorChecked
import Derived.Test.YthbflajpdhgfiaaGreatDoorRows
import Derived.Test.YthbflajpdhgfiaaGreatDoorQd17
import Derived.Test.YthbflajpdhgfiaaGreatDoorQd27
import Derived.Test.YthbflajpdhgfiaaGreatDoorQd28
set_option linter.all false
set_option maxHeartbeats 16000000
namespace Go.Proofs.YthbflajpdhgfiaaGreatDoor
section
open Go Go.Sk Go.RowKit
theorem zBf {s t:Sta}{e:Evt}(hd:zN s e=(t,0)):Good s∧Good t∧EvOk e∧e.v=3∧zCE e=true∧zCG s e.kind e.nums (e.texts.getD 0 ByteArray.empty)=(t,0):=by
 obtain⟨g1,g2⟩:=zCm hd
 unfold zN at hd
 rw[if_pos (zBB.2 g1)] at hd
 unfold zAN at hd
 split at hd
 ·rename_i h1
  split at hd
  ·exact⟨g1,g2,zN9 h1.1 h1.2,h1.1,h1.2,hd⟩
  ·rename_i g;exact absurd (Prod.mk.inj hd).2 g
 ·exact absurd (Prod.mk.inj hd).2 (by decide)
theorem zUe {s:Sta}(h:Good s){i:Nat}(hi:i<s.aucs.length)(x:Pl):zo (zV (au_ s.aucs i)) x≤zo (zX s) x:=by
 have hp:=(Good.parts h).2
 have hnn:∀ y∈zX s,0≤y.2.2:=fun y hy=>Int.le_of_lt (hp y hy).1.1
 have hsp:=zIA hi
 unfold zX at hnn ⊢
 have e:zo (s.aucs.flatMap zV) x=zo ((s.aucs.take i).flatMap zV) x+(zo (zV (au_ s.aucs i)) x+zo ((s.aucs.drop (i+1)).flatMap zV) x):=by
  conv=>lhs;rw[hsp]
  rw[List.flatMap_append,List.flatMap_cons,zg,zg]
 rw[zg,e]
 have n1:=zDo (fun y hy=>hnn y (zz6 _ hy)) x
 have n2:0≤zo ((s.aucs.take i).flatMap zV) x:=zDo (fun y hy=>hnn y (zz3 _ (by
  rw[hsp,List.flatMap_append];exact zz6 _ hy))) x
 have n3:0≤zo ((s.aucs.drop (i+1)).flatMap zV) x:=zDo (fun y hy=>hnn y (zz3 _ (by
  rw[hsp,List.flatMap_append,List.flatMap_cons];exact zz3 _ (zz3 _ hy)))) x
 omega
theorem zLq (p r:List Pst)(q:Int):zBj (p++r) q=zBj p q+zBj r q:=by
 induction p with
 | nil=>simp[zBj]
 | cons x p ih=>rw[List.cons_append,zCk,zCk,ih];omega
theorem zNL {p:List Pst}(h:∀ q∈p,q.free+q.held=0)(s:Int):zBj p s=0:=by
 induction p with
 | nil=>rfl
 | cons x p ih =>
   rw[zCk,ih fun y hy=>h y (List.Mem.tail _ hy),h x (List.Mem.head _)]
   simp
theorem zIS (a:Auc):∀ q∈zAg a,q.free+q.held=0:=fun x hx=>by
 unfold zAg at hx
 rcases List.mem_append.1 hx with g|g
 ·obtain⟨b,hb,rfl⟩:=List.mem_map.1 g
  show b.amount+-b.amount=0;omega
 ·rw[List.mem_singleton] at g;subst g;show a.qty+-a.qty=0;omega
theorem zCR {n m:Int}:zu n m=true↔1≤n∧n≤m:=by simp[zu]
theorem zCK {a:Auc}(h:zAT a=true):(1≤a.seller∧a.seller≤64)∧(1≤a.inst∧a.inst≤16)∧(1≤a.qty∧a.qty≤1048576)∧(1≤a.reserve∧a.reserve≤1125899906842624)∧a.bids.length≤16∧∀ b∈a.bids,(1≤b.acct∧b.acct≤64)∧(1≤b.amount∧b.amount≤1125899906842624):=by
 have hm:=mayP.1 h
 refine⟨zCR.1 hm.seller,zCR.1 hm.inst,zCR.1 hm.qty,zCR.1 hm.reserve,hm.len16,fun b hb=>?_⟩
 obtain⟨j,hj,rfl⟩:=zH3 default hb
 have:=zEI.1 (hm.ok j hj)
 exact⟨zCR.1 this.1,zCR.1 this.2.2.1⟩
theorem zOb {q z:Int}(h1:0≤q)(h3:0≤z∧z≤1000):0≤(zBa q z).1∧(zBa q z).1≤q:=by
 have e1:q*z≤q*1000:=Int.mul_le_mul_of_nonneg_left h3.2 h1
 have e2:0≤q*z:=Int.mul_nonneg h1 h3.1
 unfold zBa
 split
 ·exact⟨Int.le_refl 0,h1⟩
 ·split
  ·exact⟨Int.le_refl 0,h1⟩
  ·show 0≤q*z / 10000∧q*z / 10000≤q
   generalize q*z=y at e1 e2
   omega
theorem zIT {s:Sta}(h:Good s){i:Nat}(hi:i<s.aucs.length):(∀ q∈zAg (au_ s.aucs i),zCb q=false)∧∀ x,(dlF (zAg (au_ s.aucs i)) x).2=-(zo (zV (au_ s.aucs i)) x)∧(dlF (zAg (au_ s.aucs i)) x).1=zo (zV (au_ s.aucs i)) x∧0≤zo (zV (au_ s.aucs i)) x:=by
 have hm:zAT (au_ s.aucs i)=true:=(zp.1 h.aucs).2.1 _ (zk hi)
 generalize au_ s.aucs i=a at *
 obtain⟨b1,b2,b3,b4,b5,b6⟩:=zCK hm
 refine⟨fun q hq=>?_,fun x=>?_⟩
 ·unfold zAg at hq
  rcases List.mem_append.1 hq with g|g
  ·obtain⟨b,hb,rfl⟩:=List.mem_map.1 g
   have:=b6 b hb
   exact zKE.2 ⟨⟨by simp only;omega,by simp only;omega⟩,by unfold zID;simp only;omega,by unfold zID;simp only;omega,fun e=>by simp only at e;omega⟩
  ·rw[List.mem_singleton] at g;subst g
   exact zKE.2 ⟨⟨by simp only;omega,by simp only;omega⟩,by unfold zID;simp only;omega,by unfold zID;simp only;omega,fun e=>by simp only at e;omega⟩
 ·have e1:=zOC a x
  have e2:=zC6 hm x
  have e3:=zR5 (zIS a) x
  have e4:0≤zo (a.bids.map bP3) x:=zDo (fun y hy=>by
   obtain⟨b,hb,rfl⟩:=List.mem_map.1 hy
   have:=(b6 b hb).2.1
   show 0≤b.amount;omega) x
  have e5:0≤(if ((a.seller,a.inst):Pl)=x then a.qty else 0):=by split<;>omega
  refine⟨by omega,by omega,by omega⟩
theorem zJH {s:Sta}(h:Good s){i:Nat}(hi:i<s.aucs.length){p:List Pst}(hl:p.length≤5)(hb:∀ q∈p,zCb q=false)(hh:∀ q∈p,q.held=0)(hs:∀ q:Nat,q<17→zBj p q=0)
  (hok:∀ x:Pl,x.1≠0→0≤(atR s.rows x).1+(dlF p x).1+zo (zV (au_ s.aucs i)) x∧(atR s.rows x).1+(atR s.rows x).2+(dlF p x).1≤1125899906842624):(zBF s.rows (p++zAg (au_ s.aucs i))).2=0:=by
 have hm:zAT (au_ s.aucs i)=true:=(zp.1 h.aucs).2.1 _ (zk hi)
 obtain⟨_,_,_,_,b5,_⟩:=zCK hm
 obtain⟨k1,k2⟩:=zIT h hi
 have hask:zAv (p++zAg (au_ s.aucs i))=0:=by
  refine zPb.2 ⟨?_,?_,fun q hq=>?_⟩
  ·unfold zAg;simp only[List.length_append,List.length_map,List.length_singleton];omega
  ·rw[List.any_eq_false]
   intro q hq
   rcases List.mem_append.1 hq with g|g
   ·rw[hb q g];decide
   ·rw[k1 q g];decide
  ·rw[zLq,hs q hq,zNL (zIS _)];rfl
 rw[zOG h.rows hask,if_pos (zPa.1.2 fun x hx=>?_)]
 by_cases h0:x.1=0
 ·unfold zAS;rw[if_pos h0]
 ·have e:zAK s.rows (p++zAg (au_ s.aucs i)) x=((atR s.rows x).1+(dlF p x).1+zo (zV (au_ s.aucs i)) x,(atR s.rows x).2 - zo (zV (au_ s.aucs i)) x):=by
   obtain⟨c1,c2,_⟩:=k2 x
   unfold zAK
   rw[zPc,c1,c2,zOD hh]
   ext<;>simp only<;>omega
  have e2:=h.held x hx
  have e3:=zUe h hi x
  have e4:=hok x h0
  have e5:=(k2 x).2.2
  rw[e]
  simp only
  rcases zDL x.1 ((atR s.rows x).1+(dlF p x).1+zo (zV (au_ s.aucs i)) x) ((atR s.rows x).2 - zo (zV (au_ s.aucs i)) x) with g|g|g
  ·exact g.1
  ·omega
  ·omega
theorem zSu {a:Auc}(h:zAT a=true){b:Bid}(hb:b∈a.bids):b.amount≤zo (zV a) (b.acct,0):=by
 obtain⟨_,_,b3,_,_,b6⟩:=zCK h
 rw[zC6 h]
 have e:=zLR (l:=a.bids.map bP3) (fun y hy=>by
  obtain⟨b,hb,rfl⟩:=List.mem_map.1 hy
  have:=(b6 b hb).2.1
  show 0≤b.amount;omega) (List.mem_map.2 ⟨b,hb,rfl⟩)
 have e5:0≤(if ((a.seller,a.inst):Pl)=((b.acct,0):Pl) then a.qty else 0):=by split<;>omega
 have e6:b.amount≤zo (a.bids.map bP3) (b.acct,0):=e
 omega
theorem zSv {a:Auc}(h:zAT a=true):a.qty≤zo (zV a) (a.seller,a.inst):=by
 obtain⟨_,_,b3,_,_,b6⟩:=zCK h
 rw[zC6 h,if_pos rfl]
 have e4:0≤zo (a.bids.map bP3) (a.seller,a.inst):=zDo (fun y hy=>by
  obtain⟨b,hb,rfl⟩:=List.mem_map.1 hy
  have:=(b6 b hb).2.1
  show 0≤b.amount;omega) _
 omega
theorem zP4 {s:Sta}(h:Good s){i:Nat}(hi:i<s.aucs.length):(zAz s i []).2=0:=by
 have hp:=zJH h hi (p:=[]) (zzD _) (fun q hq=>nomatch hq) (fun q hq=>nomatch hq) (fun q _=>rfl) (fun x hx=>by
  have g:=(zDk h.rows x).2 hx
  have e:=((zIT h hi).2 x).2.2
  simp only[dlF,List.foldl_nil];omega)
 unfold zAz zm
 simp only
 rw[if_pos hp]
 simp
theorem zUf {s:Sta}(h:Good s){i:Nat}(hi:i<s.aucs.length)(hw:(zM s (au_ s.aucs i)).2.2=true):(zAz s i (zDg (au_ s.aucs i) (zM s (au_ s.aucs i)).1 (zM s (au_ s.aucs i)).2.1)).2=0:=by
 have hm:zAT (au_ s.aucs i)=true:=(zp.1 h.aucs).2.1 _ (zk hi)
 have hn:=zAP.1 h.nums
 obtain⟨w1,w2,w3,w4,w5⟩:=zDq hw
 obtain⟨m,m1,m2,_,_,m5,m6,_⟩:=zDm hm w1
 have hb:=zk (l:=(au_ s.aucs i).bids) m1
 have hbd:=zSu hm hb
 have hq:=zSv hm
 rw[w2,w3]
 have hk:=(zIT h hi).2
 have ho:∀ q∈zDg (au_ s.aucs i) (zL (au_ s.aucs i)).1 (zBa (zL (au_ s.aucs i)).1.amount s.fee).1,q.held=0:=fun q hq=>by
  unfold zDg at hq
  simp only[List.mem_cons,List.not_mem_nil,or_false] at hq
  rcases hq with rfl|rfl|rfl|rfl|rfl<;>rfl
 have hp:(zBF s.rows (zDg (au_ s.aucs i) (zL (au_ s.aucs i)).1 (zBa (zL (au_ s.aucs i)).1.amount s.fee).1++zAg (au_ s.aucs i))).2=0:=by
  obtain⟨b1,b2,b3,b4,b5,b6⟩:=zCK hm
  have hb6:=b6 _ hb
  have f1:0≤(zBa (zL (au_ s.aucs i)).1.amount s.fee).1∧(zBa (zL (au_ s.aucs i)).1.amount s.fee).1≤(zL (au_ s.aucs i)).1.amount:=zOb qO hn.2.1
  refine zJH h hi (zzC _) (fun q hq=>?_) ho (fun q _=>?_) fun x hx=>?_
  all_goals
   generalize hA:(au_ s.aucs i)=a at *
   generalize (zBa (zL a).1.amount s.fee).1=fee at *
   rw[show a.bids.getD m default=a.bids.getD m default from rfl] at *
  ·rw[← m2] at hb6
   unfold zDg at hq
   simp only[List.mem_cons,List.not_mem_nil,or_false] at hq
   rcases hq with rfl|rfl|rfl|rfl|rfl<;>exact zKE.2 ⟨⟨by simp only;omega,by simp only;omega⟩,by unfold zID;simp only;omega,by unfold zID;simp only;omega,fun e=>rfl⟩
  ·unfold zDg
   simp only[zCk]
   have e0:zBj [] (q:Int)=0:=rfl
   rw[e0]
   repeat' split
   all_goals omega
  ·have g:=(zDk h.rows x).2 hx
   have hx2:=(hk x).2.2
   have t1:=zLV h.rows (a:=a.seller) (s:=0) qO
   have t2:=zLV h.rows (a:=(zL a).1.acct) (s:=a.inst) (by rw[m2];omega)
   rw[t1] at w4
   rw[t2] at w5
   rw[← m2] at hbd
   obtain⟨x1,x2⟩:=x
   simp only at hx
   have k1:(zL a).1.acct=x1∧(0:Int)=x2→(zL a).1.amount≤zo (zV a) (x1,x2):=by
    rintro⟨rfl,rfl⟩;omega
   have k2:a.seller=x1∧a.inst=x2→a.qty≤zo (zV a) (x1,x2):=by
    rintro⟨rfl,rfl⟩;exact hq
   have k3:a.seller=x1∧(0:Int)=x2→(atR s.rows (x1,x2)).1+(atR s.rows (x1,x2)).2+(zL a).1.amount - fee≤1125899906842624:=by
    rintro⟨rfl,rfl⟩;exact w4
   have k4:(zL a).1.acct=x1∧a.inst=x2→(atR s.rows (x1,x2)).1+(atR s.rows (x1,x2)).2+a.qty≤1125899906842624:=by
    rintro⟨rfl,rfl⟩;exact w5
   have q0:¬((0:Int)=x1∧(0:Int)=x2):=fun e=>hx e.1.symm
   unfold zDg
   have en:dlF [] (x1,x2)=(0,0):=rfl
   simp only[zBN,en]
   by_cases q1:(zL a).1.acct=x1∧(0:Int)=x2<;>by_cases q2:a.seller=x1∧a.inst=x2<;>by_cases q3:a.seller=x1∧(0:Int)=x2<;>by_cases q4:(zL a).1.acct=x1∧a.inst=x2
   all_goals
    (first|rw[if_pos q4]|rw[if_neg q4])
    (first|rw[if_pos q2]|rw[if_neg q2])
    rw[if_neg q0]
    (first|rw[if_pos q3]|rw[if_neg q3])
    (first|rw[if_pos q1]|rw[if_neg q1])
    (try have r1:=k1 q1)
    (try have r2:=k2 q2)
    (try have r3:=k3 q3)
    (try have r4:=k4 q4)
    simp only
    omega
 unfold zAz zm
 simp only
 rw[if_pos hp]
 simp
theorem zLr {s:Sta}(h:Good s){r:Row4}(hr:r∈s.rows):(-72057594037927936≤r.free∧r.free≤1125899906842624)∧0≤r.held∧r.held≤1125899906842624:=by
 have h1:=zIH h.rows (zAH r)
 rw[zGA (zEr h.rows) hr] at h1
 exact h1
theorem zOc {s:Sta}(h:Good s):WfR s:=fun j hj=>by
 have:=zLr h (show rw_ s.rows j∈s.rows from zz _ hj)
 unfold Row4.wf Z64
 omega
theorem zLs {s:Sta}(h:Good s):R64 s.rows:=fun r hr=>by
 have:=zLr h hr
 omega
theorem zSw {l:List Row4}(h:zAY l=true):l.length≤1105:=by
 rw[← zN3 h]
 unfold mkR
 refine Nat.le_trans (List.length_filterMap_le _ _) ?_
 decide +kernel
theorem zDR {s:Sta}(h:Good s):LtS s:=by
 have h1:=zLW h
 have h2:=zLX h
 have h3:=zSw h.rows
 obtain⟨h4,_,_⟩:=zAO.1 h.ords
 obtain⟨h5,h6,_⟩:=zp.1 h.aucs
 refine⟨by omega,by omega,by omega,by omega,by omega,fun k hk=>?_⟩
 have:=(zCK (h6 _ (zk hk))).2.2.2.2.1
 omega
theorem zOd {s:Sta}(h:Good s):AuB s:=by
 have hn:=zAP.1 h.nums
 obtain⟨_,h6,_⟩:=zp.1 h.aucs
 refine⟨zLs h,hn.2.1,fun j hj=>?_,fun j hj=>?_,fun j hj y hy=>?_⟩
 ·have hm:zAT (au_ s.aucs j)=true:=h6 _ (zk hj)
  cases hw:(zL (au_ s.aucs j)).2 with
  | false=>rw[zRr hw];exact⟨Int.le_refl _,by decide⟩
  | true =>
    obtain⟨m,m1,_,_,_,m5,m6,_⟩:=zDm hm hw
    obtain⟨_,_,_,b4,_,b6⟩:=zCK hm
    have:=b6 _ (zk m1)
    omega
 ·have hm:zAT (au_ s.aucs j)=true:=h6 _ (zk hj)
  have:=(zCK hm).2.2.1
  omega
 ·have:=((zCK (h6 _ (zk hj))).2.2.2.2.2 y hy).2
  omega
theorem zP5 {s:Sta}(h:Good s):∀ j,j<s.insts.length→1≤(in_ s.insts j).tick:=fun j hj=>((zB2.1 h.insts).2.1 _ (show in_ s.insts j∈s.insts from zz _ hj)).1
theorem top_in (a:Auc):(zAD a).1=Bid.zero∨(zAD a).1∈a.bids:=by
 unfold zAD
 split
 ·exact .inl rfl
 ·rename_i g
  have hl:=zD4 a.bids a.bids.length
  have e:zCL a.bids a.bids.length=hi a.bids:=rfl
  rw[e] at hl
  simp only[Bool.or_eq_true,decide_eq_true_eq,not_or] at g
  exact .inr (zk qO)
theorem zSx {s:Sta}(h:Good s):∀ j,j<s.aucs.length→0≤(zAD (au_ s.aucs j)).1.amount∧(zAD (au_ s.aucs j)).1.amount≤1125899906842624:=fun j hj=>by
 rcases top_in (au_ s.aucs j) with e|e
 ·rw[e];exact⟨Int.le_refl _,by decide⟩
 ·have:=((zCK ((zp.1 h.aucs).2.1 _ (zk hj))).2.2.2.2.2 _ e).2
  omega
theorem zSy (a:Auc)(y:Bid)(h:a.bids.length≤16):(zU a y).1.bids.length≤100000:=by
 unfold zU
 split
 ·exact zzD _
 split
 ·exact zzD _
 split
 ·exact zzD _
 split
 ·exact zzD _
 show(zGX a y).1.length≤100000
 unfold zGX
 split
 ·unfold zCP
  split
  ·exact zzD _
  split
  ·exact zzD _
  ·show(a.bids++[y]).length≤100000
   rw[List.length_append,List.length_singleton];omega
 ·unfold zCx
  split
  ·exact zzD _
  ·show 1≤100000;decide
theorem zP6 {s:Sta}(h:Good s)(y:Bid):∀ j,j<s.aucs.length→(zU (au_ s.aucs j) y).1.bids.length≤100000:=fun j hj=>zSy _ _ (zCK ((zp.1 h.aucs).2.1 _ (zk hj))).2.2.2.2.1
end
section
open Go Go.Sk Go.RowKit
attribute [local irreducible] Go.Calls
section
attribute [local semireducible] Yq
theorem Yq.arrIx {P:Program}(S:Sig P){o:Oper}{e:Env}{w:World}{t E:TypeId}{n:Nat}{ti te:TI}{x i:Operand}{cs:Array Value}{k:IntKind}{q:Int}{j:Nat}{v:Value}(ho:o.op=.index t x i)(hx:ev e x=.agg cs)(hi:ev e i=.int k q)(ht:lk S.tab t=some ti)(htd:ti.d=.array n E)(he:lk S.tab E=some te)(hsz:te.size=1)(hna:zBS te.d=false)(hj:q.toNat=j)(h0:0≤q)(h1:q<n)(hv:cs.toList[j]?=some v):Yq P o e w v:=by
 intro w' _
 have hu:=S.run_und ht w'
 rw[htd] at hu
 have hp:=zDx S he cs (j*te.size) (v:=v) (by rw[hna,hsz,Nat.mul_one];exact hv) w'
 subst hj
 simp only[execOp,ho,Instr.index,hx,hi,asIntOf,hu,Sem.run_bind,Sem.run_pure,Result.andThen_ok,S.run_size he,if_pos (And.intro h0 h1),hp]
end
def kFs:List Nat:=[113,114,115,116,117,118,119,120,121,122,
 123,124,125,126,127,128,129,130,131,132,133,134,135]
def kArr:List Value:=.nilFunc::kFs.map fun f=>.func (.func f) #[] #[]
theorem c_does (w0:World):Calls Tryz.prog 80 [].toArray w0 (Ret (.agg kArr.toArray) w0):=by
 refine enter [.cell 0 143] Tryz.func80 rfl Tryz.ntmps80 rfl rfl ?_
 have H:=zA w0
 repeat' (first|refine yT ?_|(refine y10 sg H ?_;intro b w H)|refine yU ?_|fail)
 refine zd rfl rfl (Yq.buildR (cs:=kArr.toArray) sg rfl rfl rfl rfl (by kernel_rfl)) ?_
 repeat' (first|refine yT ?_|(refine y11 sg H ?_;intro w H)|refine yU ?_|fail)
 exact zA5 (vs:=[_]) ⟨zy sg rfl H.mem (zz2 _) rfl rfl,trivial⟩ H.cl rfl
def kF (k:Int):Nat:=kFs.getD (k - 1).toNat 0
section
variable {F:zC}{bm:Nat}{s:Sta}{p:SPt}{na:Option Addr}{nc:Nat}{Ma Mi Mu R:zC}
theorem zOe {w0 w:World}(e:Evt)(he:EvOk e)(h:Good s)(hP:PriM F)(H:St w0 (mkL bm (mkc s p e.nums na nc (e.texts.getD 0 ByteArray.empty)) Ma Mi Mu R) w)(hC:Cps s p Ma Mi Mu R)(hF:Mem w0 F)(hN:Ints F na nc e.nums) :
  Ent Tryz.prog (kF e.kind)∧kArr[e.kind.toNat]?=some (.func (.func (kF e.kind)) #[] #[])∧Calls Tryz.prog (kF e.kind) [.pointer (some ⟨bm,0,none⟩)].toArray w (zi (zBw bm e.nums na nc (e.texts.getD 0 ByteArray.empty) (zCG s e.kind e.nums (e.texts.getD 0 ByteArray.empty))) w0):=by
 have hLt:=zDR h
 have hW:=zOc h
 have hB:=zOd h
 have hT:=zP5 h
 have hn:=zAP.1 h.nums
 have htop:=zSx h
 have htake:=zP6 h
 have hat:=fun(i c:Nat) (hc:(zMm e.kind)[i]?=some c)=>he.at i hc
 have hlen:=he.len
 have hkk:=he.kind
 obtain⟨v,k,n,tx⟩:=e
 simp only at hat hkk hlen H hN ⊢
 generalize tx.getD 0 ByteArray.empty=t at *
 clear he
 rcases kinds hkk with rfl|rfl|rfl|rfl|rfl|rfl|rfl|rfl|rfl|rfl|rfl|rfl|rfl|rfl|rfl|rfl|rfl|rfl|rfl|rfl|rfl|rfl|rfl
 ·exact⟨ent113,rfl,zSZ hLt (Nat.le_of_eq hlen.symm) H hC hF hN⟩
 ·exact⟨ent114,rfl,zSc hLt (Nat.le_of_eq hlen.symm) (by have:=zH5 (hat 0 97 rfl);omega) H hC hF hN⟩
 ·exact⟨ent115,rfl,zSg hLt (Nat.le_of_eq hlen.symm) H hC hF hN⟩
 ·exact⟨ent116,rfl,zSe (Nat.le_of_eq hlen.symm) (by have:=zDn (hat 0 105 rfl);omega) hLt H hC hF hN⟩
 ·exact⟨ent117,rfl,zPx (Nat.le_of_eq hlen.symm) (by have:=zDn (hat 0 105 rfl);omega) hLt H hC hF hN⟩
 ·exact⟨ent118,rfl,zLi hLt hW (Nat.le_of_eq hlen.symm) (by have:=zG5 (hat 1 109 rfl);omega) H hC hF hN⟩
 ·exact⟨ent119,rfl,zLj hLt hW (Nat.le_of_eq hlen.symm) (by have:=zG5 (hat 1 109 rfl);omega) H hC hF hN⟩
 ·exact⟨ent120,rfl,zSX hLt hW (Nat.le_of_eq hlen.symm) (by have:=zDn (hat 1 105 rfl);omega) (by have:=zGG (hat 2 113 rfl);omega) H hC hF hN⟩
 ·exact⟨ent121,rfl,zM9 hLt hW (Nat.le_of_eq hlen.symm) (by have:=zDn (hat 1 105 rfl);omega) (by have:=zGG (hat 2 113 rfl);omega) H hC hF hN⟩
 ·exact⟨ent122,rfl,zSY (Nat.le_of_eq hlen.symm) H hC hF hN⟩
 ·exact⟨ent123,rfl,zSl hLt hW (Nat.le_of_eq hlen.symm) (by have:=zDn (hat 2 105 rfl);omega) (by have:=zRw (hat 3 115 rfl);omega) (by have:=zOA (hat 4 112 rfl);omega) hT qO H hC hF hN⟩
 ·exact⟨ent124,rfl,zLn hLt hW (Nat.le_of_eq hlen.symm) H hC hF hN⟩
 ·exact⟨ent125,rfl,zSt h hLt hW (Nat.le_of_eq hlen.symm) (by have:=zOA (hat 2 112 rfl);omega) (by have:=zGG (hat 3 113 rfl);omega) (by have:=bnd_z (hat 4 122 rfl);omega) hP H hC hF hN⟩
 ·exact⟨ent126,rfl,zP2 (by have:=zGG (hat 3 113 rfl);omega) hLt hW (Nat.le_of_eq hlen.symm) (by have:=zDn (hat 2 105 rfl);omega) hT qO H hC hF hN⟩
 ·exact⟨ent127,rfl,zSp (Nat.le_of_eq hlen.symm) (by have:=zG5 (hat 2 109 rfl);omega) htop (htake _) hLt hW H hC hF hN⟩
 ·exact⟨ent128,rfl,zSn (by have:=zGG (hat 3 113 rfl);omega) hLt hW (Nat.le_of_eq hlen.symm) (by have:=zDn (hat 2 105 rfl);omega) hT qO H hC hF hN⟩
 ·exact⟨ent129,rfl,c_bid (Nat.le_of_eq hlen.symm) (by have:=zG5 (hat 2 109 rfl);omega) htop (htake _) hLt hW H hC hF hN⟩
 ·exact⟨ent130,rfl,c_sold hB (Nat.le_of_eq hlen.symm) hLt hW H hC hF hN⟩
 ·exact⟨ent131,rfl,zSr hB (Nat.le_of_eq hlen.symm) hLt hW H hC hF hN⟩
 ·exact⟨ent132,rfl,zUX h.aucs hLt (Nat.le_of_eq hlen.symm) H hC hF hN⟩
 ·exact⟨ent133,rfl,zIi hLt hW (Nat.le_of_eq hlen.symm) (by have:=zG5 (hat 2 109 rfl);omega) H hC hF hN⟩
 ·exact⟨ent134,rfl,zPw hLt (Nat.le_of_eq hlen.symm) (by have:=zH5 (hat 0 97 rfl);omega) H hC hF hN⟩
 ·exact⟨ent135,rfl,zSf (Nat.le_of_eq hlen.symm) (by have:=zDn (hat 0 105 rfl);omega) hLt H hC hF hN⟩
end
end
section
open Go Go.Sk Go.RowKit
attribute [local irreducible] Go.Calls
def StC (r:Sta × Int)(M:zC)(v:Value):Prop:=∃ p Ma Mi Mu R,v=.tuple #[.agg (r.1.cells p).toArray,.int .i64 r.2]∧M=Ma++(Mi++(Mu++R))∧Cps r.1 p Ma Mi Mu R
theorem cps_z:Cps zCz SPt.n0 [] [] [] []:=⟨zTP _ _ _,zTP _ _ _,SlA.nil,SlA.nil,zTP _ _ _,fun j hj=>absurd hj (zzE _)⟩
theorem zOf (e:Int):StC (zCz,e) [] (.tuple #[.agg (zCz.cells SPt.n0).toArray,.int .i64 e]):=⟨SPt.n0,[],[],[],[],rfl,rfl,cps_z⟩
theorem zOg {s:Sta}{e:Evt}(h:¬(e.v=3∧zCE e=true)):zAN s e=(zCz,4):=by unfold zAN;rw[if_neg h]
section
variable {F:zC}{s:Sta}{p:SPt}
theorem zLt (g:Good s)(e:Evt)(q:EPt)(hE:zGZ e)(w0:World)(hF:Mem w0 F)(hP:PriM F)(hK:KinM F)(hs:StaM F s p)(hM:EvtM F e q) :
  Calls Tryz.prog 43 [.agg (s.cells p).toArray,.agg (e.cells q).toArray].toArray w0 (zi (StC (zAN s e)) w0):=by
 have hmay:=fun w h1=>zN1 e q hE (F:=F) w h1 hK hM
 by_cases h0:e.v=3
 rotate_left
 ·have d0:(e.v != 3)=true:=by simpa using h0
  rw[zOg (fun h=>h0 h.1)]
  refine enter [.cell 4 48,.tmp 5] Tryz.func43 rfl Tryz.ntmps43 rfl rfl ?_
  have H:=zA w0
  repeat' (first|refine yT ?_|refine y7 sg H ?_|(refine y9 H ?_;intro b w H)|(refine y10 sg H ?_;intro b w H)|(refine y11 sg H ?_;intro w H)|refine yU ?_|(refine y17 ?_ ?_;all_goals(intro h;try (exfalso;first|((cases d0.symm.trans h);done))))|fail)
  exact zq (vs:=[_,_]) (M:=[]) ⟨zy sg rfl H.mem (zz2 _) rfl rfl,zb rfl,trivial⟩ (H.sub (zz9 _)) (zOf 4)
 have d0:(e.v != 3)=false:=by simpa using h0
 cases h1:zCE e with
 | false =>
   have d1:(!zCE e)=true:=by rw[h1];rfl
   rw[zOg (fun h=>by rw[h1] at h;cases h.2)]
   refine enter [.cell 4 48,.tmp 5] Tryz.func43 rfl Tryz.ntmps43 rfl rfl ?_
   have H:=zA w0
   repeat' (first|refine yT ?_|refine y7 sg H ?_|(refine y9 H ?_;intro b w H)|(refine y10 sg H ?_;intro b w H)|(refine y11 sg H ?_;intro w H)|(refine' y30 zNh ?_ ?_;rotate_left;exact hmay _ (H.memF hF);refine w2 H ?_;clear H;intro w H)|refine yU ?_|((first|refine y17 ?_ ?_|refine y23 ?_ ?_);all_goals(intro h;try (exfalso;first|((cases d0.symm.trans h);done)|((cases d1.symm.trans h);done))))|fail)
   exact zq (vs:=[_,_]) (M:=[]) ⟨zy sg rfl H.mem (zz2 _) rfl rfl,zb rfl,trivial⟩ (H.sub (zz9 _)) (zOf 4)
 | true =>
 have d1:(!zCE e)=false:=by rw[h1];rfl
 have ev:=zN9 h0 h1
 have hLt:=zDR g
 have eP:zAN s e=if (zCG s e.kind e.nums (e.texts.getD 0 ByteArray.empty)).2=0 then zCG s e.kind e.nums (e.texts.getD 0 ByteArray.empty) else(zCz,(zCG s e.kind e.nums (e.texts.getD 0 ByteArray.empty)).2):=by unfold zAN;rw[if_pos ⟨h0,h1⟩]
 rw[eP]
 clear eP
 refine enter [.cell 4 48,.tmp 5] Tryz.func43 rfl Tryz.ntmps43 rfl rfl ?_
 have H:=zA w0
 with_reducible apply zDu
 refine CW.cutT (fun en w=>∃ b2 b3 b4 en',en=ovl [(2,.pointer (some ⟨b2,0,none⟩)),(3,.pointer (some ⟨b3,0,none⟩)),(4,.pointer (some ⟨b4,0,none⟩))] en'∧St w0 [cb b4 zIM 48,cb b3 (e.cells q) 33,cb b2 (s.cells p) 48] w) ?_ ?_
 ·repeat' (first|refine yT ?_|(refine y9 H ?_;intro b w H)|(refine y10 sg H ?_;intro b w H)|refine yU ?_|fail)
  exact⟨_,_,_,_,zA0 rfl rfl rfl,H⟩
 clear H
 rintro _ w ⟨b2,b3,b4,en',rfl,H⟩
 repeat' (first|refine yT ?_|refine y7 sg H ?_|(refine' y30 zNh ?_ ?_;rotate_left;exact hmay _ (H.memF hF);refine w2 H ?_;clear H;intro w H)|refine yU ?_|(refine y17 ?_ ?_;all_goals(intro h;try (exfalso;first|((cases d0.symm.trans h);done))))|fail)
 refine CW.condF (congrArg Value.bool d1) ?_
 have H0:=H
 have hF1:=H.all hF
 have hF2:=H.memF hF
 clear H
 obtain⟨hn2,hc2,bt,offt,cst,Tt,frt,hst⟩:=hM.texts
 obtain⟨w1,rfl⟩:∃ w1,w1=w:=⟨w,rfl⟩
 have H:=zA w1
 repeat' (first|refine yT ?_|(refine y9 H ?_;intro b w H)|(refine CW.regionL mixed 7 (H.memF hF1) [] ?_ ?_;exact rfl;refine w2 H ?_;clear H;intro w H;have qh:=H.memF hF1;refine' l1 0 qh ?_ ?_;rotate_left;(exact z3 sg);refine lT sg 2 qh ?_;refine' l1 3 qh ?_ ?_;rotate_left;(exact z3 sg))|((with_reducible apply RL.nil);decide +kernel)|(refine lT sg 4 (H.memF hF1) ?_)|(refine lT sg 6 (H.memF hF1) ?_)|refine l2 1 ?_|refine l2 5 ?_|(refine l5 (H.memF hF1) ?_)|(refine' y32 ent42 ?_ ?_;rotate_left;exact zSV s p hLt _ (H.memF hF1) (hs.mono (zz8 _ _));intro v M w hR hS;replace H:=H.addR hS;clear hS;(try simp only[List.cons_append,List.nil_append] at H);obtain⟨p1,Ma,Mi,Mu,R,rfl,rfl,hC⟩:=hR)|refine z13 (zH sg rfl rfl (H.memF hF1) (zz5 _ (zz2 _)) rfl rfl) ?_|refine yU ?_|fail)
 refine CW.cutT (fun en w=>∃ en',en=ovl [(3,.pointer (some ⟨b3,0,none⟩)),(4,.pointer (some ⟨b4,0,none⟩)),(6,.pointer (some ⟨b,0,none⟩))] en'∧St w1 (mkL b (mkc s p1 e.nums q.na q.nc (e.texts.getD 0 ByteArray.empty)) Ma Mi Mu R) w) ?_ ?_
 ·by_cases ht:0<e.texts.length
  ·refine CW.condT (congrArg Value.bool (decide_eq_true (show(e.texts.length:Int)>0 by omega))) ?_
   repeat' (first|refine yT ?_|(refine y11 sg H ?_;intro w H)|refine z13 (zH sg rfl rfl (H.memF hF1) (zz5 _ (zz2 _)) rfl rfl) ?_|refine x40 sg hst ?_|refine z13 (Yq.loadB1 sg hst (H.memF hF2) rfl rfl rfl rfl ht rfl) ?_|refine yU ?_|fail)
   exact⟨_,zA0 rfl rfl rfl,H⟩
  ·refine CW.condF (congrArg Value.bool (decide_eq_false (show ¬(e.texts.length:Int)>0 by omega))) ?_
   repeat' (first|refine yU ?_|fail)
   have e0:e.texts.getD 0 ByteArray.empty=ByteArray.empty:=by
    rw[List.getD_eq_getElem?_getD,List.getElem?_eq_none qO];rfl
   rw[e0]
   exact⟨_,zA0 rfl rfl rfl,H⟩
 clear H
 rintro _ w ⟨en2',rfl,H⟩
 have hek:=ev.kind
 obtain⟨hent,hkA,_⟩:=zOe e ev g hP H hC hF2 hM.nums
 repeat' (first|refine yT ?_|(refine CW.regionL mixed 7 (H.memF hF1) [] ?_ ?_;exact rfl;refine w2 H ?_;clear H;intro w H;have qh:=H.memF hF1;refine lT sg 1 qh ?_;refine' l1 2 qh ?_ ?_;rotate_left;(exact z3 sg);refine lT sg 4 qh ?_)|((with_reducible apply RL.nil);decide +kernel)|(refine' l1 3 (H.memF hF1) ?_ ?_;rotate_left;(exact(fun w2 _=>Yq.arrIx sg rfl rfl rfl rfl rfl rfl rfl rfl (Eq.refl e.kind.toNat) qO qO hkA)))|(refine lT sg 6 (H.memF hF1) ?_)|refine l2 0 ?_|refine l2 5 ?_|(refine l5 (H.memF hF1) ?_)|(refine' y30 ent80 ?_ ?_;rotate_left;exact c_does _;refine w2 H ?_;clear H;intro w H)|(refine za rfl rfl (En.clo hent rfl rfl rfl rfl) (zOe e ev g hP H hC hF2 hM.nums).2.2 ?_;rintro _ M w ⟨rfl,hR2⟩ H2;clear H;have H:=H2;clear H2)|refine yU ?_|fail)
 clear hent hkA
 generalize zCG s e.kind e.nums (e.texts.getD 0 ByteArray.empty)=r at *
 have H9:=H0.addR H
 clear H
 have H:=H9
 clear H9 H0 hF1
 by_cases h7:r.2=0
 rotate_left
 ·have d7:(r.2 != 0)=true:=by simpa using h7
  rw[if_neg h7]
  simp only[List.cons_append,List.nil_append] at H
  refine CW.condT (congrArg Value.bool d7) ?_
  repeat' (first|refine yT ?_|(refine y11 sg H ?_;intro w H)|refine yU ?_|fail)
  exact zq (vs:=[_,_]) (M:=[]) ⟨zy sg rfl H.mem (zz2 _) rfl rfl,zb rfl,trivial⟩ (H.sub (zz9 _)) (zOf _)
 have d7:(r.2 != 0)=false:=by simpa using h7
 rw[if_pos h7]
 obtain⟨p2,Ma2,Mi2,Mu2,R2,rfl,hC2⟩:=hR2 h7
 simp only[List.cons_append,List.nil_append] at H
 refine CW.condF (congrArg Value.bool d7) ?_
 repeat' (first|refine yT ?_|refine y7 sg H ?_|(refine y11 sg H ?_;intro w H)|refine yU ?_|fail)
 exact zq (vs:=[_,_]) (M:=Ma2++(Mi2++(Mu2++R2))) ⟨zy sg rfl H.mem (zz2 _) rfl rfl,zb rfl,trivial⟩ (H.sub ((zz7 _ _).trans ((zz7 _ _).trans ((zz7 _ _).trans (zz7 _ _))))) ⟨p2,Ma2,Mi2,Mu2,R2,by rw[h7];rfl,rfl,hC2⟩
end
end
section
open Go Go.Sk Go.RowKit
attribute [local irreducible] Go.Calls
theorem zIU {l:List Evt}{j:Nat}(h:j<l.length):ev_ l j∈l:=by
 unfold ev_;rw[List.getD_eq_getElem?_getD,List.getElem?_eq_getElem h];exact List.getElem_mem h
end
section
open Go Go.Sk Go.RowKit
attribute [local irreducible] Go.Calls
section
variable {F:zC}{s:Sta}{p:SPt}
theorem zLu (hW:StaW s)(e:Evt)(q:EPt)(hE:zGZ e)(w0:World)(hF:Mem w0 F)(hP:PriM F)(hK:KinM F)(hs:StaM F s p)(hM:EvtM F e q) :
  Calls Tryz.prog 27 [.agg (s.cells p).toArray,.agg (e.cells q).toArray].toArray w0 (zi (StC (zN s e)) w0):=by
 have hmay:=fun w h1=>zDG s p hW w (F:=F) h1 hs
 cases h0:zCY s with
 | false =>
   have d0:(!zCY s)=true:=by rw[h0];rfl
   have eP:zN s e=(zCz,4):=by unfold zN;rw[h0];rfl
   rw[eP]
   refine enter [.cell 4 48,.tmp 5] Tryz.func27 rfl Tryz.ntmps27 rfl rfl ?_
   have H:=zA w0
   repeat' (first|refine yT ?_|refine y7 sg H ?_|(refine y9 H ?_;intro b w H)|(refine y10 sg H ?_;intro b w H)|(refine y11 sg H ?_;intro w H)|(refine' y30 zDd ?_ ?_;rotate_left;exact hmay _ (H.memF hF);refine w2 H ?_;clear H;intro w H)|refine yU ?_|(refine y23 ?_ ?_;all_goals(intro h;try (exfalso;first|((cases d0.symm.trans h);done))))|fail)
   exact zq (vs:=[_,_]) (M:=[]) ⟨zy sg rfl H.mem (zz2 _) rfl rfl,zb rfl,trivial⟩ (H.sub (zz9 _)) (zOf 4)
 | true =>
   have d0:(!zCY s)=false:=by rw[h0];rfl
   have g:=zBB.1 h0
   have eP:zN s e=zAN s e:=by unfold zN;rw[if_pos h0]
   rw[eP]
   refine enter [.cell 4 48,.tmp 5] Tryz.func27 rfl Tryz.ntmps27 rfl rfl ?_
   have H:=zA w0
   repeat' (first|refine yT ?_|refine y7 sg H ?_|(refine y9 H ?_;intro b w H)|(refine y10 sg H ?_;intro b w H)|(refine y11 sg H ?_;intro w H)|(refine' y30 zDd ?_ ?_;rotate_left;exact hmay _ (H.memF hF);refine w2 H ?_;clear H;intro w H)|(refine' y32 ent43 ?_ ?_;rotate_left;exact zLt g e q hE _ (H.memF hF) hP hK hs hM;intro v M w hR hS;replace H:=H.addR hS;clear hS;(try simp only[List.cons_append,List.nil_append] at H);obtain⟨p2,Ma,Mi,Mu,R,rfl,rfl,hC⟩:=hR)|refine yU ?_|(refine y23 ?_ ?_;all_goals(intro h;try (exfalso;first|((cases d0.symm.trans h);done))))|fail)
   exact zq (vs:=[_,_]) (M:=Ma++(Mi++(Mu++R))) ⟨zy sg rfl H.mem (zz2 _) rfl rfl,zb rfl,trivial⟩ (H.sub ((zz7 _ _).trans ((zz7 _ _).trans (zz7 _ _)))) ⟨p2,Ma,Mi,Mu,R,rfl,rfl,hC⟩
def AllR (r:Sta × Int × Int)(M:zC)(v:Value):Prop:=∃ p Ma Mi Mu R,v=.tuple #[.agg (r.1.cells p).toArray,.int .i64 r.2.1,.int .i64 r.2.2]∧M=Ma++(Mi++(Mu++R))∧Cps r.1 p Ma Mi Mu R
theorem all_z (k e:Int):AllR (zCz,k,e) [] (.tuple #[.agg (zCz.cells SPt.n0).toArray,.int .i64 k,.int .i64 e]):=⟨SPt.n0,[],[],[],[],rfl,rfl,cps_z⟩
structure AI where
 k:Nat
 c:Sta
 p:SPt
 Ma:zC
 Mi:zC
 Mu:zC
 R:zC
theorem zP7 {s c:Sta}{l:List Evt}{k:Nat}{i:Int}(hk:k<l.length)(h:zBA s (l.take k) 0=(c,i,0)):zBA s (l.take (k+1)) 0=if (zAN c (ev_ l k)).2=0 then((zAN c (ev_ l k)).1,i+1,0) else(zCz,i,(zAN c (ev_ l k)).2):=by
 have e:l.take (k+1)=l.take k++[ev_ l k]:=by
  rw[List.take_succ_eq_append_getElem hk];unfold ev_;simp[List.getElem?_eq_getElem hk]
 rw[e,zKD,h,if_pos rfl,all_cons]
 split
 ·rfl
 ·rfl
theorem zNM {a:Option Addr}{cap:Nat}(hW:StaW s)(l:List Evt)(q:Nat→EPt)(hT:∀ e∈l,zGZ e)(w0:World)(hF:Mem w0 F)(hP:PriM F)(hK:KinM F)(hs:StaM F s p)(hM:EvsM F a cap l q) :
  Calls Tryz.prog 21 [.agg (s.cells p).toArray,.slice a l.length cap].toArray w0 (zi (AllR (zDi s l)) w0):=by
 have hmay:=fun w h1=>zDG s p hW w (F:=F) h1 hs
 cases h0:zCY s with
 | false =>
   have d0:(!zCY s)=true:=by rw[h0];rfl
   have eP:zDi s l=(zCz,0,4):=by unfold zDi;rw[h0];rfl
   rw[eP]
   refine enter [.cell 4 48,.tmp 5,.tmp 6] Tryz.func21 rfl Tryz.ntmps21 rfl rfl ?_
   have H:=zA w0
   repeat' (first|refine yT ?_|refine y7 sg H ?_|(refine y9 H ?_;intro b w H)|(refine y10 sg H ?_;intro b w H)|(refine y11 sg H ?_;intro w H)|(refine' y30 zDd ?_ ?_;rotate_left;exact hmay _ (H.memF hF);refine w2 H ?_;clear H;intro w H)|refine yU ?_|(refine y23 ?_ ?_;all_goals(intro h;try (exfalso;first|((cases d0.symm.trans h);done))))|fail)
   exact zq (vs:=[_,_,_]) (M:=[]) ⟨zy sg rfl H.mem (zz2 _) rfl rfl,zb rfl,zb rfl,trivial⟩ (H.sub (zz9 _)) (all_z 0 4)
 | true =>
 have d0:(!zCY s)=false:=by rw[h0];rfl
 have g:=zBB.1 h0
 have eP:zDi s l=zBA s l 0:=by unfold zDi;rw[if_pos h0]
 rw[eP]
 obtain⟨⟨hnl,hcl,bl,offl,csl,Tl,frl,hsl⟩,hev⟩:=hM
 refine enter [.cell 4 48,.tmp 5,.tmp 6] Tryz.func21 rfl Tryz.ntmps21 rfl rfl ?_
 have H:=zA w0
 repeat' (first|refine yT ?_|refine y7 sg H ?_|(refine y9 H ?_;intro b w H)|(refine y10 sg H ?_;intro b w H)|(refine' y30 zDd ?_ ?_;rotate_left;exact hmay _ (H.memF hF);refine w2 H ?_;clear H;intro w H)|refine yU ?_|fail)
 refine CW.condF (congrArg Value.bool d0) ?_
 repeat' (first|refine yT ?_|refine y7 sg H ?_|(refine y11 sg H ?_;intro w H)|(refine' y32 ent42 ?_ ?_;rotate_left;exact zSV s p (zDR g) _ (H.memF hF) hs;intro v M w hR hS;replace H:=H.addR hS;clear hS;(try simp only[List.cons_append,List.nil_append] at H);obtain⟨p1,Ma,Mi,Mu,R,rfl,rfl,hC⟩:=hR)|refine yU ?_|with_reducible apply zB|fail)
 rename_i b2 _ _ _ _ _ _
 refine zI [(5,10),(19,36)] (fun x:AI=>[(19,.int .i64 (x.k:Int))]) (fun x w=>x.k≤l.length∧zBA s (l.take x.k) 0=(x.c,(x.k:Int),0)∧Good x.c∧Cps x.c x.p x.Ma x.Mi x.Mu x.R∧St w0 (cb b zIM 48::cb b2 (x.c.cells x.p) 48::(x.Ma++(x.Mi++(x.Mu++x.R)))) w) (fun x=>l.length - x.k) ⟨0,s,p1,Ma,Mi,Mu,R⟩ ⟨rfl,trivial⟩ ⟨zzD _,rfl,g,hC,H⟩ ?_
 clear H hC
 rintro⟨k,c,pc,Ma,Mi,Mu,R⟩ gh w ⟨hk,hal,gc,hC,H⟩
 simp only at hk hal gc hC H ⊢
 repeat' (first|refine yT ?_|refine yU ?_|fail)
 refine zD rfl (fun h=>?_) (fun h=>?_)
 ·have hlt:k<l.length:=by have:=zzA h;omega
  clear h
  have hsn:=zP7 hlt hal
  have hhap:=fun w (L:zC) (hG:Mem w (L++F)) (hsub:(Ma++(Mi++(Mu++R)))⊆L)=>zLt (p:=pc) gc (ev_ l k) (q k) (hT _ (zIU hlt)) w hG (hP.mono (zz8 _ _)) (hK.mono (zz8 _ _)) ((hC.sta (zDR gc)).mono fun x hx=>zz6 _ (hsub hx)) ((hev k hlt).mono (zz8 _ _))
  repeat' (first|refine yT ?_|refine y7 sg H ?_|(refine y10 sg H ?_;intro b w H)|(refine y11 sg H ?_;intro w H)|refine x40 sg hsl ?_|refine x42 sg hsl (H.memF hF) ?_|(refine' y32 ent43 ?_ ?_;rotate_left;exact hhap _ _ (H.all hF) (fun p hp=>by repeat (first|exact hp|apply zz4));intro v M w hR hS;replace H:=H.addR hS;clear hS;(try simp only[List.cons_append,List.nil_append] at H);obtain⟨p2,Ma2,Mi2,Mu2,R2,rfl,rfl,hC2⟩:=hR)|refine yU ?_|with_reducible apply zB|fail)
  have hgood:(zAN c (ev_ l k)).2=0→Good (zAN c (ev_ l k)).1:=fun e=>zIC gc (Prod.ext rfl e)
  generalize zAN c (ev_ l k)=r at *
  by_cases h7:r.2=0
  ·have d7:(r.2 != 0)=false:=by simpa using h7
   rw[if_pos h7] at hsn
   refine CW.condF (congrArg Value.bool d7) ?_
   repeat' (first|refine yT ?_|refine y7 sg H ?_|(refine y11 sg H ?_;intro w H)|refine yU ?_|fail)
   refine zF ⟨k+1,r.1,p2,Ma2,Mi2,Mu2,R2⟩ rfl ⟨zf qO,trivial⟩ ⟨hlt,by rw[hsn];simp only[Int.natCast_add];rfl,hgood h7,hC2,H.sub (List.Sublist.cons _ (List.Sublist.cons _ (List.Sublist.cons_cons _ (List.Sublist.cons_cons _ (List.sublist_append_right _ _)))))⟩ (by show l.length - (k+1)<l.length - k;omega)
  ·have d7:(r.2 != 0)=true:=by simpa using h7
   rw[if_neg h7] at hsn
   have hend:zBA s l 0=(zCz,(k:Int),r.2):=by
    have e:l=l.take (k+1)++l.drop (k+1):=(List.take_append_drop _ _).symm
    rw[e,zKD,hsn,if_neg h7]
   rw[hend]
   refine CW.condT (congrArg Value.bool d7) ?_
   repeat' (first|refine yT ?_|(refine y11 sg H ?_;intro w H)|refine yU ?_|fail)
   exact zq (vs:=[_,_,_]) (M:=[]) ⟨zy sg rfl H.mem qB rfl rfl,zb rfl,zb rfl,trivial⟩ (H.sub (zz9 _)) (all_z _ _)
 ·obtain rfl:k=l.length:=by have:=zzB h;omega
  clear h
  rw[List.take_length] at hal
  rw[hal]
  repeat' (first|refine yT ?_|refine y7 sg H ?_|(refine y11 sg H ?_;intro w H)|refine yU ?_|fail)
  exact zq (vs:=[_,_,_]) (M:=Ma++(Mi++(Mu++R))) ⟨zy sg rfl H.mem (zz2 _) rfl rfl,zb rfl,zb rfl,trivial⟩ (H.sub ((zz7 _ _).trans (zz7 _ _))) ⟨pc,Ma,Mi,Mu,R,rfl,rfl,hC⟩
end
end
section
open Go Go.Sk Go.RowKit Go.ChangeShapes Go.WideShapes
abbrev zC9:List (String × DataW Unit):=[("souk/book.prices",Rows.laid_souk_book_prices),("souk/schema.kinds",Rows.laid_souk_schema_kinds),("souk/schema.commands",Rows.laid_souk_schema_commands)]
theorem zEN {P:Program}{W:World}{n:String}{g:Nat}{cs:Array Value}(hg:P.globalNamed n=some g)(hv:W.var? P n=some cs):∃ T fr,(g,Obj.cells cs T fr)∈zEi W:=by
 simp only[World.var?,hg,Option.bind_some] at hv
 split at hv
 ·rename_i cs' T fr e
  cases hv
  exact⟨T,fr,zHc e⟩
 ·cases hv
section
variable {H:Type}{enc:TypeId × Value→H}{P:Program}{w:World}{base:Nat}{sp:Nat→Bool}{held:Bool}
theorem zHT {fuel:Nat}{t:TypeId}{cs:List Value}{x:DataW H × List MemPlace}{l:List UInt8}(ht:P.underlying t=some .string)(h:DataW.trod enc P w base sp held fuel t cs=some x)(hx:x.1=.lit (.string l)):cs=[.string ⟨l.toArray⟩]:=by
 obtain⟨s,rfl,rfl,_⟩:=DataW.trod_string ht h
 simp only[DataW.lit.injEq,Lit.string.injEq] at hx
 subst hx
 rfl
theorem zSz {fuel:Nat}{t:TypeId}{cs:List Value}{x:DataW H × List MemPlace}{b:Bool}(ht:P.underlying t=some .bool)(h:DataW.trod enc P w base sp held fuel t cs=some x)(hx:x.1=.lit (.bool b)):cs=[.bool b]:=by
 obtain⟨s,rfl,rfl⟩:=DataW.trod_bool ht h
 simp only[DataW.lit.injEq,Lit.bool.injEq] at hx
 subst hx
 rfl
theorem zUg {fuel:Nat}{t:TypeId}{ps rs:Array TypeId}{vd:Bool}{cs:List Value}{x:DataW H × List MemPlace}(ht:P.underlying t=some (.func ps rs vd))(h:DataW.trod enc P w base sp held fuel t cs=some x)(hx:x.1=.nil):cs=[.nilFunc]:=by
 cases fuel with
 | zero=>simp[DataW.trod] at h
 | succ m =>
   unfold DataW.trod at h
   rw[ht] at h
   split at h<;>simp_all
   obtain⟨_,rfl⟩:=h
   simp at hx
end
def kDat (r:KRow):DataW Unit:=.agg [.lit (.string (r.name.map UInt8.ofNat)),.agg [.lit (.string (r.f1.map UInt8.ofNat)),.lit (.string (r.f2.map UInt8.ofNat)),.lit (.string (r.f3.map UInt8.ofNat))],.lit (.bool r.text)]
theorem zP8:(Rows.laid_souk_schema_kinds:DataW Unit)=.agg ((List.range 23).map fun i=>kDat (zHw i)):=by kernel_rfl
set_option maxRecDepth 20000 in
theorem zJI {w:World}{held:Bool}{fuel:Nat}{cs:List Value}{x:DataW Unit × List MemPlace}(r:KRow)(h:DataW.trod (fun _=>()) Tryz.prog w 0 (fun _=>true) held fuel 188 cs=some x)(hx:x.1=kDat r):cs=r.cells:=by
 obtain⟨xs,n,rfl,rfl,hl,hn,hel⟩:=DataW.trod_struct (sg.desc rfl rfl) h
 have hc:Tryz.prog.cellsOf 188=5:=sg.ncells rfl rfl
 have hs:Tryz.prog.cellsOf 9=1:=sg.ncells rfl rfl
 have ha:Tryz.prog.cellsOf 186=3:=sg.ncells rfl rfl
 have hb:Tryz.prog.cellsOf 4=1:=sg.ncells rfl rfl
 rw[hc] at hl
 match cs,hl with
 | [c0,c1,c2,c3,c4],_ =>
 match xs,hn with
 | [x0,x1,x2],_ =>
 have h0:=hel 0 _ rfl
 have h1:=hel 1 _ rfl
 have h2:=hel 2 _ rfl
 simp only[kDat,List.map_cons,List.map_nil,DataW.agg.injEq,List.cons.injEq,and_true] at hx
 obtain⟨e0,e1,e2⟩:=hx
 have k0:=zHT (sg.desc rfl rfl) h0 e0
 have k2:=zSz (sg.desc rfl rfl) h2 e2
 obtain⟨ys,n',_,rfl,_,hn',hel'⟩:=DataW.trod_array (sg.desc rfl rfl) h1
 match ys,hn' with
 | [y0,y1,y2],_ =>
 simp only[List.map_cons,List.map_nil,DataW.agg.injEq,List.cons.injEq,and_true] at e1
 obtain⟨f0,f1,f2⟩:=e1
 have l0:=zHT (sg.desc rfl rfl) (hel' 0 (by decide)) f0
 have l1:=zHT (sg.desc rfl rfl) (hel' 1 (by decide)) f1
 have l2:=zHT (sg.desc rfl rfl) (hel' 2 (by decide)) f2
 simp[hs,ha,hb] at k0 k2 l0 l1 l2
 subst k0 k2 l0 l1 l2
 rfl
theorem gKin:Tryz.prog.globalNamed "souk/schema.kinds"=some 2:=by kernel_rfl
theorem gPri:Tryz.prog.globalNamed "souk/book.prices"=some 0:=by kernel_rfl
theorem tKin:(Tryz.prog.globals[2]?).map (·.type)=some 232:=by kernel_rfl
theorem tPri:(Tryz.prog.globals[0]?).map (·.type)=some 132:=by kernel_rfl
theorem zS0:(Rows.laid_souk_schema_commands:DataW Unit)=.agg ((List.range 20).map fun i=>kDat (zHG i)):=by kernel_rfl
theorem gCom:Tryz.prog.globalNamed "souk/schema.commands"=some 1:=by kernel_rfl
theorem tCom:(Tryz.prog.globals[1]?).map (·.type)=some 229:=by kernel_rfl
theorem zOh {W:World}(h:laidMetH Tryz.prog zC9 W):laidMet Tryz.prog [("souk/schema.kinds",Rows.laid_souk_schema_kinds),("souk/schema.commands",Rows.laid_souk_schema_commands)] W:=by
 have e1:(zC9.filter fun x=>x.2.handleName?.isSome)=[("souk/book.prices",Rows.laid_souk_book_prices)]:=by kernel_rfl
 have e2:(zC9.filter fun x=>x.2.handleName?.isNone)=[("souk/schema.kinds",Rows.laid_souk_schema_kinds),("souk/schema.commands",Rows.laid_souk_schema_commands)]:=by kernel_rfl
 unfold laidMetH at h
 rw[e1,e2] at h
 exact h.1
set_option maxRecDepth 20000 in
theorem zS1 {W:World}(h:laidMetH Tryz.prog zC9 W):KinM (zEi W):=by
 have hm:=zOh h
 obtain⟨ps,⟨g,t,cs,f,p,q,hg,ht,hv,hd,_,_⟩,_⟩:=hm
 obtain rfl:=Option.some.inj (gKin.symm.trans hg)
 obtain rfl:=Option.some.inj (tKin.symm.trans ht)
 obtain⟨T,fr,hb⟩:=zEN gKin hv
 obtain⟨xs,m,rfl,hx,hl,hn,hel⟩:=DataW.trod_array (sg.desc rfl rfl) hd
 have hc:Tryz.prog.cellsOf 188=5:=sg.ncells rfl rfl
 have hC:Tryz.prog.cellsOf 232=115:=sg.ncells rfl rfl
 rw[hC] at hl
 rw[zP8] at hx
 simp only[Prod.mk.injEq,DataW.agg.injEq] at hx
 refine⟨cs.toList,T,fr,fun _=>⟨rfl,hb,fun j hj=>⟨by rw[hl];omega,?_⟩⟩⟩
 have h1:=hel j hj
 rw[hc] at h1
 rw[Nat.zero_add]
 have hjx:j<xs.length:=by omega
 rw[List.getElem?_eq_getElem hjx] at h1
 refine zJI (zHw j) h1 ?_
 have:=congrArg (fun l:List (DataW Unit)=>l[j]?) hx.1
 simp only[List.getElem?_map,List.getElem?_range hj,List.getElem?_eq_getElem hjx,Option.map_some,Option.some.injEq] at this
 exact this.symm
set_option maxRecDepth 20000 in
theorem zS2 {W:World}(h:laidMetH Tryz.prog zC9 W):ComM (zEi W):=by
 have hm:=zOh h
 obtain⟨ps,⟨_,_,_,_,_,_,_,_,_,_,hk,_⟩,_⟩:=hm
 obtain⟨g,t,cs,f,p,q,hg,ht,hv,hd,_,_⟩:=hk
 obtain rfl:=Option.some.inj (gCom.symm.trans hg)
 obtain rfl:=Option.some.inj (tCom.symm.trans ht)
 obtain⟨T,fr,hb⟩:=zEN gCom hv
 obtain⟨xs,m,rfl,hx,hl,hn,hel⟩:=DataW.trod_array (sg.desc rfl rfl) hd
 have hc:Tryz.prog.cellsOf 188=5:=sg.ncells rfl rfl
 have hC:Tryz.prog.cellsOf 229=100:=sg.ncells rfl rfl
 rw[hC] at hl
 rw[zS0] at hx
 simp only[Prod.mk.injEq,DataW.agg.injEq] at hx
 refine⟨cs.toList,T,fr,fun _=>⟨rfl,hb,fun j hj=>⟨by rw[hl];omega,?_⟩⟩⟩
 have h1:=hel j hj
 rw[hc] at h1
 rw[Nat.zero_add]
 have hjx:j<xs.length:=by omega
 rw[List.getElem?_eq_getElem hjx] at h1
 refine zJI (zHG j) h1 ?_
 have:=congrArg (fun l:List (DataW Unit)=>l[j]?) hx.1
 simp only[List.getElem?_map,List.getElem?_range hj,List.getElem?_eq_getElem hjx,Option.map_some,Option.some.injEq] at this
 exact this.symm
set_option maxRecDepth 20000 in
theorem zS3 {W:World}(h:laidMetH Tryz.prog zC9 W):PriM (zEi W):=by
 obtain⟨g,t,cs,f,p,hg,ht,hv,hd⟩:=h.funcs (n:="souk/book.prices") (List.mem_cons_self ..)
 obtain rfl:=Option.some.inj (gPri.symm.trans hg)
 obtain rfl:=Option.some.inj (tPri.symm.trans ht)
 obtain⟨T,fr,hb⟩:=zEN gPri hv
 have hd':DataW.trod (funcToken Tryz.prog) Tryz.prog W 0 (fun _=>true) true f 132 cs.toList=some (.agg [.nil,.held [115,111,117,107,47,98,111,111,107,46,112,114,105,99,101,115,36,49],.held [115,111,117,107,47,98,111,111,107,46,112,114,105,99,101,115,36,50]],p):=hd
 obtain⟨xs,m,rfl,hx,hl,hn,hel⟩:=DataW.trod_array (sg.desc rfl rfl) hd'
 have hc:Tryz.prog.cellsOf 120=1:=sg.ncells rfl rfl
 have hC:Tryz.prog.cellsOf 132=3:=sg.ncells rfl rfl
 rw[hC] at hl
 match xs,hn with
 | [x0,x1,x2],_ =>
 simp only[Prod.mk.injEq,List.map_cons,List.map_nil,DataW.agg.injEq,List.cons.injEq,and_true] at hx
 obtain⟨⟨e0,e1,e2⟩,_⟩:=hx
 obtain⟨csl⟩:=cs
 match csl,hl with
 | [c0,c1,c2],_ =>
 have h0:=hel 0 (by decide)
 have h1:=hel 1 (by decide)
 have h2:=hel 2 (by decide)
 rw[hc] at h0 h1 h2
 have k0:=zUg (sg.desc rfl rfl) h0 e0.symm
 obtain⟨y1,z1⟩:=x1
 obtain⟨y2,z2⟩:=x2
 subst e1 e2
 have k1:c1=_:=func_of_trod (f0:=297) (v:=c1) (sg.desc rfl rfl) (by kernel_rfl) h1
 have k2:c2=_:=func_of_trod (f0:=298) (v:=c2) (sg.desc rfl rfl) (by kernel_rfl) h2
 simp at k0
 subst k0 k1 k2
 refine⟨_,T,fr,fun _=>⟨rfl,hb,fun j hj=>?_⟩⟩
 match j,hj with
 | 0,_=>exact⟨by simp,rfl⟩
 | 1,_=>exact⟨by simp,rfl⟩
 | 2,_=>exact⟨by simp,rfl⟩
section
variable {H:Type}{enc:TypeId × Value→H}{w:World}
set_option maxRecDepth 20000 in
theorem rz_cmd {cs:List Value}(h:Rz enc Tryz.prog w 28 cs):∃ x:Cmd × CPt,cs=x.1.cells x.2.1 x.2.2∧Ints (zEi w) x.2.1 x.2.2 x.1.nums∧zDr x.1:=by
 have h:=h.struct (sg.desc rfl rfl) (by kernel_rfl)
 obtain⟨x0,cs,rfl,b0,h⟩:=h.int (sg.desc rfl rfl) (sg.ncells rfl rfl)
 obtain⟨a2,n2,c2,cs,rfl,h2,h⟩:=h.slice (sg.desc rfl rfl) (sg.ncells rfl rfl) (sg.ncells rfl rfl) (sg.nbytes rfl rfl)
 obtain⟨t,cs,rfl,bt,h⟩:=h.string (sg.desc rfl rfl) (sg.ncells rfl rfl)
 obtain rfl:=h.nil
 obtain⟨l2,rfl,m2,_⟩:=h2.named (el:=fun x:Int=>[.int .i64 x]) (fun _=>rz_i64)
 have b0:=wf_u8 b0
 exact⟨⟨⟨x0,l2,t⟩,(a2,c2)⟩,rfl,m2,⟨by simp only;omega,bt⟩⟩
set_option maxRecDepth 20000 in
theorem zOi {v:Value}{d:DataW H}{p:List MemPlace}(h:DataW.Trod enc Tryz.prog w 0 (fun _=>true) true 28 v d p)(hz:∀ n∈d.weights Tryz.prog 28,n≤reachBytes)(hv:Value.okWide Tryz.prog w .any 0 28 v) :
  ∃ (c:Cmd) (a:Option Addr) (cap:Nat),v=.agg (c.cells a cap).toArray∧Ints (zEi w) a cap c.nums∧zDr c:=by
 obtain⟨cs,rfl,_⟩:=Go.WideShapes.okWide_struct (sg.desc rfl rfl) hv
 obtain⟨⟨c,a,cap⟩,e,hM,hA⟩:=rz_cmd (Rz.of h hz)
 refine⟨c,a,cap,?_,hM,hA⟩
 have:cs.toList=c.cells a cap:=e
 rw[← this]
end
end
section
open Go Go.Sk Go.RowKit Go.ChangeShapes Go.WideShapes
section
variable {H:Type}{enc:TypeId × Value→H}{P:Program}{w:World}{base:Nat}{spare:Nat→Bool}{held:Bool}{t0 t1 t2 t3 t4:TypeId}{args:Array Value}{ds:List (DataW H)}{ps:List MemPlace}
theorem zHU (h:DataW.TrodAll enc P w base spare held [t0,t1] args.toList ds ps) :
  ∃ v0 v1 d0 d1 p0 p1,args=#[v0,v1]∧ds=[d0,d1]∧ps=p0++p1∧DataW.Trod enc P w base spare held t0 v0 d0 p0∧DataW.Trod enc P w base spare held t1 v1 d1 p1:=by
 obtain⟨v0,_,d0,_,p0,_,e,rfl,rfl,h0,h⟩:=trodAll_cons h
 obtain⟨v1,_,d1,_,p1,_,rfl,rfl,rfl,h1,h⟩:=trodAll_cons h
 obtain⟨rfl,rfl,rfl⟩:=trodAll_nil h
 exact⟨v0,v1,d0,d1,p0,p1,by cases args;simp_all,rfl,by simp,h0,h1⟩
end
set_option maxRecDepth 100000 in
theorem zLv (os:Os)(args:Array Value):laidMetH Tryz.prog zC9 ((World.doorLaid Tryz.prog 600 os).forCall (fun _ _=>0) ⟨#[],args,[]⟩).memory :=
 laidMetH_of_parts3 (fuel:=8) (laidMet_of_run' 8 (by kernel_rfl) (by kernel_rfl)) (by kernel_rfl) (by kernel_rfl)
end
end Go.Proofs.YthbflajpdhgfiaaGreatDoor
