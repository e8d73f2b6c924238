/- Texts of ours, joined: the steps of the proof, or the claim's theorem. -/
import Derived.LaidMore
import Derived.OpenShut
import Derived.ProofKit
import Derived.Test.YtejhijhnlogikaaGreatDoorRows
import Derived.Test.YtejhijhnlogikaaGreatDoorMc23
set_option linter.all false
set_option maxHeartbeats 16000000
namespace Go.Proofs.YtejhijhnlogikaaGreatDoor
section
open Go Go.Sk Go.RowKit Go.Proofs.Tryz
theorem zVN {s:Sta}(h:Good s){i:Nat}(hi:i<s.aucs.length)(x:Pl):zp (zU (au_ s.aucs i)) x≤zp (zV s) x:=by
 have hp:=(Good.parts h).2
 have hnn:∀ y∈zV s,0≤y.2.2:=fun y hy=>Int.le_of_lt (hp y hy).1.1
 have hsp:=zIQ hi
 unfold zV at hnn ⊢
 have e:zp (s.aucs.flatMap zU) x=zp ((s.aucs.take i).flatMap zU) x+(zp (zU (au_ s.aucs i)) x+zp ((s.aucs.drop (i+1)).flatMap zU) x):=by
  conv=>lhs;rw[hsp]
  rw[List.flatMap_append,List.flatMap_cons,ze,ze]
 rw[ze,e]
 have n1:=zDt (fun y hy=>hnn y (zz6 _ hy)) x
 have n2:0≤zp ((s.aucs.take i).flatMap zU) x:=zDt (fun y hy=>hnn y (zz3 _ (by
  rw[hsp,List.flatMap_append];exact zz6 _ hy))) x
 have n3:0≤zp ((s.aucs.drop (i+1)).flatMap zU) x:=zDt (fun y hy=>hnn y (zz3 _ (by
  rw[hsp,List.flatMap_append,List.flatMap_cons];exact zz3 _ (zz3 _ hy)))) x
 omega
theorem zMC (p r:List Pst)(q:Int):zBo (p++r) q=zBo p q+zBo r q:=by
 induction p with
 | nil=>simp[zBo]
 | cons x p ih=>rw[List.cons_append,zCs,zCs,ih];omega
theorem zNo {p:List Pst}(h:∀ q∈p,q.free+q.held=0)(s:Int):zBo p s=0:=by
 induction p with
 | nil=>rfl
 | cons x p ih =>
   rw[zCs,ih fun y hy=>h y (List.Mem.tail _ hy),h x (List.Mem.head _)]
   simp
theorem zIg (a:Auc):∀ q∈zAi a,q.free+q.held=0:=fun x hx=>by
 unfold zAi at hx
 rcases List.mem_append.1 hx with g|g
 ·obtain⟨b,hb,rfl⟩:=List.mem_map.1 g
  show b.amount+-b.amount=0;omega
 ·rw[List.mem_singleton] at g;subst g;show a.qty+-a.qty=0;omega
theorem zCX {n m:Int}:zu n m=true↔1≤n∧n≤m:=by simp[zu]
theorem zCY {a:Auc}(h:zAU a=true):(1≤a.seller∧a.seller≤64)∧(1≤a.inst∧a.inst≤16)∧(1≤a.qty∧a.qty≤1048576)∧(1≤a.reserve∧a.reserve≤1125899906842624)∧a.bids.length≤16∧∀ b∈a.bids,(1≤b.acct∧b.acct≤64)∧(1≤b.amount∧b.amount≤1125899906842624):=by
 have hm:=mayP.1 h
 refine⟨zCX.1 hm.seller,zCX.1 hm.inst,zCX.1 hm.qty,zCX.1 hm.reserve,hm.len16,fun b hb=>?_⟩
 obtain⟨j,hj,rfl⟩:=zIJ default hb
 have:=zER.1 (hm.ok j hj)
 exact⟨zCX.1 this.1,zCX.1 this.2.2.1⟩
theorem zO4 {q z:Int}(h1:0≤q)(h3:0≤z∧z≤1000):0≤(zBh q z).1∧(zBh q z).1≤q:=by
 have e1:q*z≤q*1000:=Int.mul_le_mul_of_nonneg_left h3.2 h1
 have e2:0≤q*z:=Int.mul_nonneg h1 h3.1
 unfold zBh
 split
 ·exact⟨Int.le_refl 0,h1⟩
 ·split
  ·exact⟨Int.le_refl 0,h1⟩
  ·show 0≤q*z / 10000∧q*z / 10000≤q
   generalize q*z=y at e1 e2
   omega
theorem zIh {s:Sta}(h:Good s){i:Nat}(hi:i<s.aucs.length):(∀ q∈zAi (au_ s.aucs i),zCj q=false)∧∀ x,(dlF (zAi (au_ s.aucs i)) x).2=-(zp (zU (au_ s.aucs i)) x)∧(dlF (zAi (au_ s.aucs i)) x).1=zp (zU (au_ s.aucs i)) x∧0≤zp (zU (au_ s.aucs i)) x:=by
 have hm:zAU (au_ s.aucs i)=true:=(zw.1 h.aucs).2.1 _ (zj hi)
 generalize au_ s.aucs i=a at *
 obtain⟨b1,b2,b3,b4,b5,b6⟩:=zCY hm
 refine⟨fun q hq=>?_,fun x=>?_⟩
 ·unfold zAi at hq
  rcases List.mem_append.1 hq with g|g
  ·obtain⟨b,hb,rfl⟩:=List.mem_map.1 g
   have:=b6 b hb
   exact zKV.2 ⟨⟨by simp only;omega,by simp only;omega⟩,by unfold zIS;simp only;omega,by unfold zIS;simp only;omega,fun e=>by simp only at e;omega⟩
  ·rw[List.mem_singleton] at g;subst g
   exact zKV.2 ⟨⟨by simp only;omega,by simp only;omega⟩,by unfold zIS;simp only;omega,by unfold zIS;simp only;omega,fun e=>by simp only at e;omega⟩
 ·have e1:=zOg a x
  have e2:=zDH hm x
  have e3:=zSe (zIg a) x
  have e4:0≤zp (a.bids.map bP3) x:=zDt (fun y hy=>by
   obtain⟨b,hb,rfl⟩:=List.mem_map.1 hy
   have:=(b6 b hb).2.1
   show 0≤b.amount;omega) x
  have e5:0≤(if ((a.seller,a.inst):Pl)=x then a.qty else 0):=by split<;>omega
  refine⟨by omega,by omega,by omega⟩
theorem zJa {s:Sta}(h:Good s){i:Nat}(hi:i<s.aucs.length){p:List Pst}(hl:p.length≤5)(hb:∀ q∈p,zCj q=false)(hh:∀ q∈p,q.held=0)(hs:∀ q:Nat,q<17→zBo p q=0)
  (hok:∀ x:Pl,x.1≠0→0≤(atR s.rows x).1+(dlF p x).1+zp (zU (au_ s.aucs i)) x∧(atR s.rows x).1+(atR s.rows x).2+(dlF p x).1≤1125899906842624):(zBJ s.rows (p++zAi (au_ s.aucs i))).2=0:=by
 have hm:zAU (au_ s.aucs i)=true:=(zw.1 h.aucs).2.1 _ (zj hi)
 obtain⟨_,_,_,_,b5,_⟩:=zCY hm
 obtain⟨k1,k2⟩:=zIh h hi
 have hask:zA1 (p++zAi (au_ s.aucs i))=0:=by
  refine zPw.2 ⟨?_,?_,fun q hq=>?_⟩
  ·unfold zAi;simp only[List.length_append,List.length_map,List.length_singleton];omega
  ·rw[List.any_eq_false]
   intro q hq
   rcases List.mem_append.1 hq with g|g
   ·rw[hb q g];decide
   ·rw[k1 q g];decide
  ·rw[zMC,hs q hq,zNo (zIg _)];rfl
 rw[zOl h.rows hask,if_pos (zPv.1.2 fun x hx=>?_)]
 by_cases h0:x.1=0
 ·unfold zAT;rw[if_pos h0]
 ·have e:zAI s.rows (p++zAi (au_ s.aucs i)) x=((atR s.rows x).1+(dlF p x).1+zp (zU (au_ s.aucs i)) x,(atR s.rows x).2 - zp (zU (au_ s.aucs i)) x):=by
   obtain⟨c1,c2,_⟩:=k2 x
   unfold zAI
   rw[zPx,c1,c2,zOh hh]
   ext<;>simp only<;>omega
  have e2:=h.held x hx
  have e3:=zVN h hi x
  have e4:=hok x h0
  have e5:=(k2 x).2.2
  rw[e]
  simp only
  rcases zDS x.1 ((atR s.rows x).1+(dlF p x).1+zp (zU (au_ s.aucs i)) x) ((atR s.rows x).2 - zp (zU (au_ s.aucs i)) x) with g|g|g
  ·exact g.1
  ·omega
  ·omega
theorem zTN {a:Auc}(h:zAU a=true){b:Bid}(hb:b∈a.bids):b.amount≤zp (zU a) (b.acct,0):=by
 obtain⟨_,_,b3,_,_,b6⟩:=zCY h
 rw[zDH h]
 have e:=zLo (l:=a.bids.map bP3) (fun y hy=>by
  obtain⟨b,hb,rfl⟩:=List.mem_map.1 hy
  have:=(b6 b hb).2.1
  show 0≤b.amount;omega) (List.mem_map.2 ⟨b,hb,rfl⟩)
 have e5:0≤(if ((a.seller,a.inst):Pl)=((b.acct,0):Pl) then a.qty else 0):=by split<;>omega
 have e6:b.amount≤zp (a.bids.map bP3) (b.acct,0):=e
 omega
theorem zTO {a:Auc}(h:zAU a=true):a.qty≤zp (zU a) (a.seller,a.inst):=by
 obtain⟨_,_,b3,_,_,b6⟩:=zCY h
 rw[zDH h,if_pos rfl]
 have e4:0≤zp (a.bids.map bP3) (a.seller,a.inst):=zDt (fun y hy=>by
  obtain⟨b,hb,rfl⟩:=List.mem_map.1 hy
  have:=(b6 b hb).2.1
  show 0≤b.amount;omega) _
 omega
theorem zQP {s:Sta}(h:Good s){i:Nat}(hi:i<s.aucs.length):(zAv s i []).2=0:=by
 have hp:=zJa h hi (p:=[]) (zzD _) (fun q hq=>nomatch hq) (fun q hq=>nomatch hq) (fun q _=>rfl) (fun x hx=>by
  have g:=(zDq h.rows x).2 hx
  have e:=((zIh h hi).2 x).2.2
  simp only[dlF,List.foldl_nil];omega)
 unfold zAv zh
 simp only
 rw[if_pos hp]
 simp
theorem zVO {s:Sta}(h:Good s){i:Nat}(hi:i<s.aucs.length)(hw:(zM s (au_ s.aucs i)).2.2=true):(zAv s i (zDn (au_ s.aucs i) (zM s (au_ s.aucs i)).1 (zM s (au_ s.aucs i)).2.1)).2=0:=by
 have hm:zAU (au_ s.aucs i)=true:=(zw.1 h.aucs).2.1 _ (zj hi)
 have hn:=zAM.1 h.nums
 obtain⟨w1,w2,w3,w4,w5⟩:=zDv hw
 obtain⟨m,m1,m2,_,_,m5,m6,_⟩:=zFM hm w1
 have hb:=zj (l:=(au_ s.aucs i).bids) m1
 have hbd:=zTN hm hb
 have hq:=zTO hm
 rw[w2,w3]
 have hk:=(zIh h hi).2
 have ho:∀ q∈zDn (au_ s.aucs i) (zL (au_ s.aucs i)).1 (zBh (zL (au_ s.aucs i)).1.amount s.fee).1,q.held=0:=fun q hq=>by
  unfold zDn at hq
  simp only[List.mem_cons,List.not_mem_nil,or_false] at hq
  rcases hq with rfl|rfl|rfl|rfl|rfl<;>rfl
 have hp:(zBJ s.rows (zDn (au_ s.aucs i) (zL (au_ s.aucs i)).1 (zBh (zL (au_ s.aucs i)).1.amount s.fee).1++zAi (au_ s.aucs i))).2=0:=by
  obtain⟨b1,b2,b3,b4,b5,b6⟩:=zCY hm
  have hb6:=b6 _ hb
  have f1:0≤(zBh (zL (au_ s.aucs i)).1.amount s.fee).1∧(zBh (zL (au_ s.aucs i)).1.amount s.fee).1≤(zL (au_ s.aucs i)).1.amount:=zO4 qO hn.2.1
  refine zJa h hi (zzC _) (fun q hq=>?_) ho (fun q _=>?_) fun x hx=>?_
  all_goals
   generalize hA:(au_ s.aucs i)=a at *
   generalize (zBh (zL a).1.amount s.fee).1=fee at *
   rw[show a.bids.getD m default=a.bids.getD m default from rfl] at *
  ·rw[← m2] at hb6
   unfold zDn at hq
   simp only[List.mem_cons,List.not_mem_nil,or_false] at hq
   rcases hq with rfl|rfl|rfl|rfl|rfl<;>exact zKV.2 ⟨⟨by simp only;omega,by simp only;omega⟩,by unfold zIS;simp only;omega,by unfold zIS;simp only;omega,fun e=>rfl⟩
  ·unfold zDn
   simp only[zCs]
   have e0:zBo [] (q:Int)=0:=rfl
   rw[e0]
   repeat' split
   all_goals omega
  ·have g:=(zDq h.rows x).2 hx
   have hx2:=(hk x).2.2
   have t1:=zLs h.rows (a:=a.seller) (s:=0) qO
   have t2:=zLs h.rows (a:=(zL a).1.acct) (s:=a.inst) (by rw[m2];omega)
   rw[t1] at w4
   rw[t2] at w5
   rw[← m2] at hbd
   obtain⟨x1,x2⟩:=x
   simp only at hx
   have k1:(zL a).1.acct=x1∧(0:Int)=x2→(zL a).1.amount≤zp (zU a) (x1,x2):=by
    rintro⟨rfl,rfl⟩;omega
   have k2:a.seller=x1∧a.inst=x2→a.qty≤zp (zU a) (x1,x2):=by
    rintro⟨rfl,rfl⟩;exact hq
   have k3:a.seller=x1∧(0:Int)=x2→(atR s.rows (x1,x2)).1+(atR s.rows (x1,x2)).2+(zL a).1.amount - fee≤1125899906842624:=by
    rintro⟨rfl,rfl⟩;exact w4
   have k4:(zL a).1.acct=x1∧a.inst=x2→(atR s.rows (x1,x2)).1+(atR s.rows (x1,x2)).2+a.qty≤1125899906842624:=by
    rintro⟨rfl,rfl⟩;exact w5
   have q0:¬((0:Int)=x1∧(0:Int)=x2):=fun e=>hx e.1.symm
   unfold zDn
   have en:dlF [] (x1,x2)=(0,0):=rfl
   simp only[zBU,en]
   by_cases q1:(zL a).1.acct=x1∧(0:Int)=x2<;>by_cases q2:a.seller=x1∧a.inst=x2<;>by_cases q3:a.seller=x1∧(0:Int)=x2<;>by_cases q4:(zL a).1.acct=x1∧a.inst=x2
   all_goals
    (first|rw[if_pos q4]|rw[if_neg q4])
    (first|rw[if_pos q2]|rw[if_neg q2])
    rw[if_neg q0]
    (first|rw[if_pos q3]|rw[if_neg q3])
    (first|rw[if_pos q1]|rw[if_neg q1])
    (try have r1:=k1 q1)
    (try have r2:=k2 q2)
    (try have r3:=k3 q3)
    (try have r4:=k4 q4)
    simp only
    omega
 unfold zAv zh
 simp only
 rw[if_pos hp]
 simp
theorem zMD {s:Sta}(h:Good s){r:Row4}(hr:r∈s.rows):(-72057594037927936≤r.free∧r.free≤1125899906842624)∧0≤r.held∧r.held≤1125899906842624:=by
 have h1:=zIV h.rows (zAE r)
 rw[zGD (zEy h.rows) hr] at h1
 exact h1
theorem zO5 {s:Sta}(h:Good s):WfR s:=fun j hj=>by
 have:=zMD h (show rw_ s.rows j∈s.rows from zAP _ hj)
 unfold Row4.wf Z64
 omega
theorem zIi {s:Sta}(h:Good s):R64 s.rows:=fun r hr=>by
 have:=zMD h hr
 omega
theorem zTP {l:List Row4}(h:zAZ l=true):l.length≤1105:=by
 rw[← zOX h]
 unfold mkR
 refine Nat.le_trans (List.length_filterMap_le _ _) ?_
 decide +kernel
theorem zCd {s:Sta}(h:Good s):LtS s:=by
 have h1:=zLt h
 have h2:=zIT h
 have h3:=zTP h.rows
 obtain⟨h4,_,_⟩:=zAK.1 h.ords
 obtain⟨h5,h6,_⟩:=zw.1 h.aucs
 refine⟨by omega,by omega,by omega,by omega,by omega,fun k hk=>?_⟩
 have:=(zCY (h6 _ (zj hk))).2.2.2.2.1
 omega
theorem zO6 {s:Sta}(h:Good s):AuB s:=by
 have hn:=zAM.1 h.nums
 obtain⟨_,h6,_⟩:=zw.1 h.aucs
 refine⟨zIi h,hn.2.1,fun j hj=>?_,fun j hj=>?_,fun j hj y hy=>?_⟩
 ·have hm:zAU (au_ s.aucs j)=true:=h6 _ (zj hj)
  cases hw:(zL (au_ s.aucs j)).2 with
  | false=>rw[zSQ hw];exact⟨Int.le_refl _,by decide⟩
  | true =>
    obtain⟨m,m1,_,_,_,m5,m6,_⟩:=zFM hm hw
    obtain⟨_,_,_,b4,_,b6⟩:=zCY hm
    have:=b6 _ (zj m1)
    omega
 ·have hm:zAU (au_ s.aucs j)=true:=h6 _ (zj hj)
  have:=(zCY hm).2.2.1
  omega
 ·have:=((zCY (h6 _ (zj hj))).2.2.2.2.2 y hy).2
  omega
theorem zQQ {s:Sta}(h:Good s):∀ j,j<s.insts.length→1≤(in_ s.insts j).tick:=fun j hj=>((zB8.1 h.insts).2.1 _ (show in_ s.insts j∈s.insts from zAP _ hj)).1
theorem top_in (a:Auc):(zAO a).1=Bid.zero∨(zAO a).1∈a.bids:=by
 unfold zAO
 split
 ·exact .inl rfl
 ·rename_i g
  have hl:=zEA a.bids a.bids.length
  have e:zCT a.bids a.bids.length=hi a.bids:=rfl
  rw[e] at hl
  simp only[Bool.or_eq_true,decide_eq_true_eq,not_or] at g
  exact .inr (zj qO)
theorem zTQ {s:Sta}(h:Good s):∀ j,j<s.aucs.length→0≤(zAO (au_ s.aucs j)).1.amount∧(zAO (au_ s.aucs j)).1.amount≤1125899906842624:=fun j hj=>by
 rcases top_in (au_ s.aucs j) with e|e
 ·rw[e];exact⟨Int.le_refl _,by decide⟩
 ·have:=((zCY ((zw.1 h.aucs).2.1 _ (zj hj))).2.2.2.2.2 _ e).2
  omega
theorem zTR (a:Auc)(y:Bid)(h:a.bids.length≤16):(zS a y).1.bids.length≤100000:=by
 unfold zS
 split
 ·exact zzD _
 split
 ·exact zzD _
 split
 ·exact zzD _
 split
 ·exact zzD _
 show(zGj a y).1.length≤100000
 unfold zGj
 split
 ·unfold zCV
  split
  ·exact zzD _
  split
  ·exact zzD _
  ·show(a.bids++[y]).length≤100000
   rw[List.length_append,List.length_singleton];omega
 ·unfold zC5
  split
  ·exact zzD _
  ·show 1≤100000;decide
theorem zQR {s:Sta}(h:Good s)(y:Bid):∀ j,j<s.aucs.length→(zS (au_ s.aucs j) y).1.bids.length≤100000:=fun j hj=>zTR _ _ (zCY ((zw.1 h.aucs).2.1 _ (zj hj))).2.2.2.2.1
end
section
open Go Go.Sk Go.RowKit Go.Proofs.Tryz
attribute [local irreducible] Go.Calls
section
attribute [local semireducible] Yq
theorem Yq.arrIx {P:Program}(S:Sig P){o:Oper}{e:Env}{w:World}{t E:TypeId}{n:Nat}{ti te:TI}{x i:Operand}{cs:Array Value}{k:IntKind}{q:Int}{j:Nat}{v:Value}(ho:o.op=.index t x i)(hx:ev e x=.agg cs)(hi:ev e i=.int k q)(ht:lk S.tab t=some ti)(htd:ti.d=.array n E)(he:lk S.tab E=some te)(hsz:te.size=1)(hna:zBZ te.d=false)(hj:q.toNat=j)(h0:0≤q)(h1:q<n)(hv:cs.toList[j]?=some v):Yq P o e w v:=by
 intro w' _
 have hu:=S.run_und ht w'
 rw[htd] at hu
 have hp:=zD2 S he cs (j*te.size) (v:=v) (by rw[hna,hsz,Nat.mul_one];exact hv) w'
 subst hj
 simp only[execOp,ho,Instr.index,hx,hi,asIntOf,hu,Sem.run_bind,Sem.run_pure,Result.andThen_ok,S.run_size he,if_pos (And.intro h0 h1),hp]
end
def kFs:List Nat:=[152,153,154,155,156,157,158,159,160,161,
 162,163,164,165,166,167,168,169,170,171,172,173,174]
def kArr:List Value:=.nilFunc::kFs.map fun f=>.func (.func f) #[] #[]
theorem c_does (w0:World):Calls prog 119 [].toArray w0 (Ret (.agg kArr.toArray) w0):=by
 refine eN func119 ntmps119 ?_
 have H:=zA w0
 repeat' (first|refine yW ?_|(refine yB ?_;intro b w H)|fail)
 refine zb rfl rfl (Yq.buildR (cs:=kArr.toArray) sg rfl rfl rfl rfl (by kernel_rfl)) ?_
 repeat' (first|refine yW ?_|(refine y11 sg H ?_;intro w H)|fail)
 exact zA7 (vs:=[_]) ⟨zm sg rfl H.mem (zz2 _) rfl rfl,trivial⟩ H.cl rfl
def kF (k:Int):Nat:=kFs.getD (k - 1).toNat 0
section
variable {F:zB}{bm:Nat}{s:Sta}{p:SPt}{na:Option Addr}{nc:Nat}{Ma Mi Mu R:zB}
theorem zO7 {w0 w:World}(e:Evt)(he:EvOk e)(h:Good s)(hP:PriM F)(H:St w0 (mkL bm (mkc s p e.nums na nc (e.texts.getD 0 ByteArray.empty)) Ma Mi Mu R) w)(hC:Cps s p Ma Mi Mu R)(hF:Mem w0 F)(hN:Ints F na nc e.nums) :
  Ent prog (kF e.kind)∧kArr[e.kind.toNat]?=some (.func (.func (kF e.kind)) #[] #[])∧Calls prog (kF e.kind) [.pointer (some ⟨bm,0,none⟩)].toArray w (zf (zB2 bm e.nums na nc (e.texts.getD 0 ByteArray.empty) (zBv s e.kind e.nums (e.texts.getD 0 ByteArray.empty))) w0):=by
 have hLt:=zCd h
 have hW:=zO5 h
 have hB:=zO6 h
 have hT:=zQQ h
 have hn:=zAM.1 h.nums
 have htop:=zTQ h
 have htake:=zQR h
 have hat:=fun(i c:Nat) (hc:(zNF e.kind)[i]?=some c)=>he.at i hc
 have hlen:=he.len
 have hkk:=he.kind
 obtain⟨v,k,n,tx⟩:=e
 simp only at hat hkk hlen H hN ⊢
 generalize tx.getD 0 ByteArray.empty=t at *
 clear he
 rcases kinds hkk with rfl|rfl|rfl|rfl|rfl|rfl|rfl|rfl|rfl|rfl|rfl|rfl|rfl|rfl|rfl|rfl|rfl|rfl|rfl|rfl|rfl|rfl|rfl
 ·exact⟨ent152,rfl,zS2 hLt (Nat.le_of_eq hlen.symm) H hC hF hN⟩
 ·exact⟨ent153,rfl,zS5 hLt (Nat.le_of_eq hlen.symm) (by have:=zIL (hat 0 97 rfl);omega) H hC hF hN⟩
 ·exact⟨ent154,rfl,zS9 hLt (Nat.le_of_eq hlen.symm) H hC hF hN⟩
 ·exact⟨ent155,rfl,zS7 (Nat.le_of_eq hlen.symm) (by have:=zDs (hat 0 105 rfl);omega) hLt H hC hF hN⟩
 ·exact⟨ent156,rfl,zQI (Nat.le_of_eq hlen.symm) (by have:=zDs (hat 0 105 rfl);omega) hLt H hC hF hN⟩
 ·exact⟨ent157,rfl,zL4 hLt hW (Nat.le_of_eq hlen.symm) (by have:=zHH (hat 1 109 rfl);omega) H hC hF hN⟩
 ·exact⟨ent158,rfl,zL5 hLt hW (Nat.le_of_eq hlen.symm) (by have:=zHH (hat 1 109 rfl);omega) H hC hF hN⟩
 ·exact⟨ent159,rfl,zS0 hLt hW (Nat.le_of_eq hlen.symm) (by have:=zDs (hat 1 105 rfl);omega) (by have:=zGL (hat 2 113 rfl);omega) H hC hF hN⟩
 ·exact⟨ent160,rfl,zNc hLt hW (Nat.le_of_eq hlen.symm) (by have:=zDs (hat 1 105 rfl);omega) (by have:=zGL (hat 2 113 rfl);omega) H hC hF hN⟩
 ·exact⟨ent161,rfl,zS1 (Nat.le_of_eq hlen.symm) H hC hF hN⟩
 ·exact⟨ent162,rfl,zTE hLt hW (Nat.le_of_eq hlen.symm) (by have:=zDs (hat 2 105 rfl);omega) (by have:=zSV (hat 3 115 rfl);omega) (by have:=zOe (hat 4 112 rfl);omega) hT qO H hC hF hN⟩
 ·exact⟨ent163,rfl,zL9 hLt hW (Nat.le_of_eq hlen.symm) H hC hF hN⟩
 ·exact⟨ent164,rfl,zTM h hLt hW (Nat.le_of_eq hlen.symm) (by have:=zOe (hat 2 112 rfl);omega) (by have:=zGL (hat 3 113 rfl);omega) (by have:=bnd_z (hat 4 122 rfl);omega) hP H hC hF hN⟩
 ·exact⟨ent165,rfl,zQN (by have:=zGL (hat 3 113 rfl);omega) hLt hW (Nat.le_of_eq hlen.symm) (by have:=zDs (hat 2 105 rfl);omega) hT qO H hC hF hN⟩
 ·exact⟨ent166,rfl,zTI (Nat.le_of_eq hlen.symm) (by have:=zHH (hat 2 109 rfl);omega) htop (htake _) hLt hW H hC hF hN⟩
 ·exact⟨ent167,rfl,zTG (by have:=zGL (hat 3 113 rfl);omega) hLt hW (Nat.le_of_eq hlen.symm) (by have:=zDs (hat 2 105 rfl);omega) hT qO H hC hF hN⟩
 ·exact⟨ent168,rfl,c_bid (Nat.le_of_eq hlen.symm) (by have:=zHH (hat 2 109 rfl);omega) htop (htake _) hLt hW H hC hF hN⟩
 ·exact⟨ent169,rfl,c_sold hB (Nat.le_of_eq hlen.symm) hLt hW H hC hF hN⟩
 ·exact⟨ent170,rfl,zTK hB (Nat.le_of_eq hlen.symm) hLt hW H hC hF hN⟩
 ·exact⟨ent171,rfl,zVG h.aucs hLt (Nat.le_of_eq hlen.symm) H hC hF hN⟩
 ·exact⟨ent172,rfl,zIz hLt hW (Nat.le_of_eq hlen.symm) (by have:=zHH (hat 2 109 rfl);omega) H hC hF hN⟩
 ·exact⟨ent173,rfl,zQH hLt (Nat.le_of_eq hlen.symm) (by have:=zIL (hat 0 97 rfl);omega) H hC hF hN⟩
 ·exact⟨ent174,rfl,zS8 (Nat.le_of_eq hlen.symm) (by have:=zDs (hat 0 105 rfl);omega) hLt H hC hF hN⟩
end
end
section
open Go Go.Sk Go.RowKit Go.Proofs.Tryz
attribute [local irreducible] Go.Calls
def StC (r:Sta × Int)(M:zB)(v:Value):Prop:=∃ p Ma Mi Mu R,v=.tuple #[.agg (r.1.cells p).toArray,.int .i64 r.2]∧M=Ma++(Mi++(Mu++R))∧Cps r.1 p Ma Mi Mu R
theorem cps_z:Cps zCp SPt.n0 [] [] [] []:=⟨zUB _ _ _,zUB _ _ _,SlA.nil,SlA.nil,zUB _ _ _,fun j hj=>absurd hj (zzE _)⟩
theorem zO8 (e:Int):StC (zCp,e) [] (.tuple #[.agg (zCp.cells SPt.n0).toArray,.int .i64 e]):=⟨SPt.n0,[],[],[],[],rfl,rfl,cps_z⟩
theorem zO9 {s:Sta}{e:Evt}(h:¬(e.v=3∧zAm e=true)):zAH s e=(zCp,4):=by unfold zAH;rw[if_neg h]
section
variable {F:zB}{s:Sta}{p:SPt}
theorem zME (g:Good s)(e:Evt)(q:EPt)(hE:zCq e)(w0:World)(hF:Mem w0 F)(hP:PriM F)(hK:KinM F)(hs:StaM F s p)(hM:EvtM F e q) :
  Calls prog 80 [.agg (s.cells p).toArray,.agg (e.cells q).toArray].toArray w0 (zf (StC (zAH s e)) w0):=by
 have hmay:=fun w h1=>zHX e q hE (F:=F) w h1 hK hM
 by_cases h0:e.v=3
 rotate_left
 ·have d0:(e.v != 3)=true:=by simpa using h0
  rw[zO9 (fun h=>h0 h.1)]
  refine eN func80 ntmps80 ?_
  have H:=zA w0
  repeat' (first|refine yW ?_|(refine yB ?_;intro b w H)|(refine y11 sg H ?_;intro w H)|fail)
  exact zi (vs:=[_,_]) (M:=[]) ⟨zm sg rfl H.mem (zz2 _) rfl rfl,zW rfl,trivial⟩ (H.sub (zz9 _)) (zO8 4)
 have d0:(e.v != 3)=false:=by simpa using h0
 cases h1:zAm e with
 | false =>
   have d1:(!zAm e)=true:=by rw[h1];rfl
   rw[zO9 (fun h=>by rw[h1] at h;cases h.2)]
   refine eN func80 ntmps80 ?_
   have H:=zA w0
   repeat' (first|refine yW ?_|(refine yB ?_;intro b w H)|(refine y11 sg H ?_;intro w H)|(refine c0 zHA ?_;refine⟨_,hmay _ (H.memF hF),?_⟩;clear H;intro w H)|fail)
   exact zi (vs:=[_,_]) (M:=[]) ⟨zm sg rfl H.mem (zz2 _) rfl rfl,zW rfl,trivial⟩ (H.sub (zz9 _)) (zO8 4)
 | true =>
 have d1:(!zAm e)=false:=by rw[h1];rfl
 have ev:=zOd h0 h1
 have hLt:=zCd g
 have eP:zAH s e=if (zBv s e.kind e.nums (e.texts.getD 0 ByteArray.empty)).2=0 then zBv s e.kind e.nums (e.texts.getD 0 ByteArray.empty) else(zCp,(zBv s e.kind e.nums (e.texts.getD 0 ByteArray.empty)).2):=by unfold zAH;rw[if_pos ⟨h0,h1⟩]
 rw[eP]
 clear eP
 refine eN func80 ntmps80 ?_
 have H:=zA w0
 with_reducible apply zCP
 refine CW.cutT (fun en w=>∃ b2 b3 b4 en',en=ovl [(2,.pointer (some ⟨b2,0,none⟩)),(3,.pointer (some ⟨b3,0,none⟩)),(4,.pointer (some ⟨b4,0,none⟩))] en'∧St w0 [cb b4 zIa 40,cb b3 (e.cells q) 61,cb b2 (s.cells p) 40] w) ?_ ?_
 ·repeat' (first|refine yX ?_|(refine yB ?_;intro b w H)|fail)
  exact⟨_,_,_,_,zBG rfl rfl rfl,H⟩
 clear H
 rintro _ w ⟨b2,b3,b4,en',rfl,H⟩
 repeat' (first|refine yX ?_|(refine c0 zHA ?_;refine⟨_,hmay _ (H.memF hF),?_⟩;clear H;intro w H)|fail)
 refine CW.condF (congrArg Value.bool d1) ?_
 have H0:=H
 have hF1:=H.all hF
 have hF2:=H.memF hF
 clear H
 obtain⟨hn2,hc2,bt,offt,cst,Tt,frt,hst⟩:=hM.texts
 obtain⟨w1,rfl⟩:∃ w1,w1=w:=⟨w,rfl⟩
 have H:=zA w1
 repeat' (first|refine yX ?_|(refine yB ?_;intro b w H)|(refine CW.regionL mixed 7 (H.memF hF1) [] ?_ ?_;exact rfl;refine wQ H ?_;clear H;intro w H;have qh:=H.memF hF1;refine' l1 0 qh ?_ ?_;rotate_left;(exact z3 sg);refine lT sg 2 qh ?_;refine' l1 3 qh ?_ ?_;rotate_left;(exact z3 sg))|refine lN ?_|(refine lT sg 4 (H.memF hF1) ?_)|(refine lT sg 6 (H.memF hF1) ?_)|refine l2 1 ?_|refine l2 5 ?_|(refine l5 (H.memF hF1) ?_)|(refine f0 zQ4 ?_;refine⟨_,zNa s p hLt _ (H.memF hF1) (hs.mono (zz8 _ _)),?_⟩;clear H;intro v M w hR H;(try simp only[zca,zcb] at H);obtain⟨p1,Ma,Mi,Mu,R,rfl,rfl,hC⟩:=hR)|refine z13 (zH sg rfl rfl (H.memF hF1) (zz5 _ (zz2 _)) rfl rfl) ?_|fail)
 refine CW.cutT (fun en w=>∃ en',en=ovl [(3,.pointer (some ⟨b3,0,none⟩)),(4,.pointer (some ⟨b4,0,none⟩)),(6,.pointer (some ⟨b,0,none⟩))] en'∧St w1 (mkL b (mkc s p1 e.nums q.na q.nc (e.texts.getD 0 ByteArray.empty)) Ma Mi Mu R) w) ?_ ?_
 ·by_cases ht:0<e.texts.length
  ·refine CW.condT (congrArg Value.bool (decide_eq_true (show(e.texts.length:Int)>0 by omega))) ?_
   repeat' (first|refine yX ?_|(refine y11 sg H ?_;intro w H)|refine z13 (zH sg rfl rfl (H.memF hF1) (zz5 _ (zz2 _)) rfl rfl) ?_|refine x40 sg hst ?_|refine z13 (Yq.loadB1 sg hst (H.memF hF2) rfl rfl rfl rfl ht rfl) ?_|fail)
   exact⟨_,zBG rfl rfl rfl,H⟩
  ·refine CW.condF (congrArg Value.bool (decide_eq_false (show ¬(e.texts.length:Int)>0 by omega))) ?_
   repeat' (first|refine yX ?_|fail)
   have e0:e.texts.getD 0 ByteArray.empty=ByteArray.empty:=by
    rw[List.getD_eq_getElem?_getD,List.getElem?_eq_none qO];rfl
   rw[e0]
   exact⟨_,zBG rfl rfl rfl,H⟩
 clear H
 rintro _ w ⟨en2',rfl,H⟩
 have hek:=ev.kind
 obtain⟨hent,hkA,_⟩:=zO7 e ev g hP H hC hF2 hM.nums
 repeat' (first|refine yX ?_|(refine CW.regionL mixed 7 (H.memF hF1) [] ?_ ?_;exact rfl;refine wQ H ?_;clear H;intro w H;have qh:=H.memF hF1;refine lT sg 1 qh ?_;refine' l1 2 qh ?_ ?_;rotate_left;(exact z3 sg);refine lT sg 4 qh ?_)|refine lN ?_|(refine' l1 3 (H.memF hF1) ?_ ?_;rotate_left;(exact(fun w2 _=>Yq.arrIx sg rfl rfl rfl rfl rfl rfl rfl rfl (Eq.refl e.kind.toNat) qO qO hkA)))|(refine lT sg 6 (H.memF hF1) ?_)|refine l2 0 ?_|refine l2 5 ?_|(refine l5 (H.memF hF1) ?_)|(refine c0 ent119 ?_;refine⟨_,c_does _,?_⟩;clear H;intro w H)|(refine zY rfl rfl (En.clo hent rfl rfl rfl rfl) (zO7 e ev g hP H hC hF2 hM.nums).2.2 ?_;rintro _ M w ⟨rfl,hR2⟩ H2;clear H;have H:=H2;clear H2)|fail)
 clear hent hkA
 generalize zBv s e.kind e.nums (e.texts.getD 0 ByteArray.empty)=r at *
 have H9:=H0.addR H
 clear H
 have H:=H9
 clear H9 H0 hF1
 by_cases h7:r.2=0
 rotate_left
 ·have d7:(r.2 != 0)=true:=by simpa using h7
  rw[if_neg h7]
  simp only[zca,zcb] at H
  refine CW.condT (congrArg Value.bool d7) ?_
  repeat' (first|refine yX ?_|(refine y11 sg H ?_;intro w H)|fail)
  exact zi (vs:=[_,_]) (M:=[]) ⟨zm sg rfl H.mem (zz2 _) rfl rfl,zW rfl,trivial⟩ (H.sub (zz9 _)) (zO8 _)
 have d7:(r.2 != 0)=false:=by simpa using h7
 rw[if_pos h7]
 obtain⟨p2,Ma2,Mi2,Mu2,R2,rfl,hC2⟩:=hR2 h7
 simp only[zca,zcb] at H
 refine CW.condF (congrArg Value.bool d7) ?_
 repeat' (first|refine yX ?_|(refine y11 sg H ?_;intro w H)|fail)
 exact zi (vs:=[_,_]) (M:=Ma2++(Mi2++(Mu2++R2))) ⟨zm sg rfl H.mem (zz2 _) rfl rfl,zW rfl,trivial⟩ (H.sub ((zz7 _ _).trans ((zz7 _ _).trans ((zz7 _ _).trans (zz7 _ _))))) ⟨p2,Ma2,Mi2,Mu2,R2,by rw[h7];rfl,rfl,hC2⟩
end
end
section
open Go Go.Sk Go.RowKit Go.Proofs.Tryz
attribute [local irreducible] Go.Calls
theorem zKn {l:List Evt}{j:Nat}(h:j<l.length):ev_ l j∈l:=by
 unfold ev_;rw[List.getD_eq_getElem?_getD,List.getElem?_eq_getElem h];exact List.getElem_mem h
theorem mem_ev {l:List Evt}{e:Evt}(h:e∈l):∃ j,j<l.length∧e=ev_ l j:=by
 obtain⟨j,hj,rfl⟩:=List.getElem_of_mem h
 exact⟨j,hj,by unfold ev_;rw[List.getD_eq_getElem?_getD,List.getElem?_eq_getElem hj];rfl⟩
end
section
open Go Go.Sk Go.RowKit Go.Proofs.Tryz
attribute [local irreducible] Go.Calls
section
variable {F:zB}{s:Sta}{p:SPt}
theorem zTS (hW:StaW s)(e:Evt)(q:EPt)(hE:zCq e)(w0:World)(hF:Mem w0 F)(hP:PriM F)(hK:KinM F)(hs:StaM F s p)(hM:EvtM F e q) :
  Calls prog 115 [.agg (s.cells p).toArray,.agg (e.cells q).toArray].toArray w0 (zf (StC (zN s e)) w0):=by
 have hmay:=fun w h1=>zCn s p hW w (F:=F) h1 hs
 cases h0:zCU s with
 | false =>
   have d0:(!zCU s)=true:=by rw[h0];rfl
   have eP:zN s e=(zCp,4):=by unfold zN;rw[h0];rfl
   rw[eP]
   refine eN func115 ntmps115 ?_
   have H:=zA w0
   repeat' (first|refine yW ?_|(refine yB ?_;intro b w H)|(refine y11 sg H ?_;intro w H)|(refine c0 zDk ?_;refine⟨_,hmay _ (H.memF hF),?_⟩;clear H;intro w H)|fail)
   exact zi (vs:=[_,_]) (M:=[]) ⟨zm sg rfl H.mem (zz2 _) rfl rfl,zW rfl,trivial⟩ (H.sub (zz9 _)) (zO8 4)
 | true =>
   have d0:(!zCU s)=false:=by rw[h0];rfl
   have g:=zAp.1 h0
   have eP:zN s e=zAH s e:=by unfold zN;rw[if_pos h0]
   rw[eP]
   refine eN func115 ntmps115 ?_
   have H:=zA w0
   repeat' (first|refine yW ?_|(refine yB ?_;intro b w H)|(refine y11 sg H ?_;intro w H)|(refine c0 zDk ?_;refine⟨_,hmay _ (H.memF hF),?_⟩;clear H;intro w H)|(refine f0 ent80 ?_;refine⟨_,zME g e q hE _ (H.memF hF) hP hK hs hM,?_⟩;clear H;intro v M w hR H;(try simp only[zca,zcb] at H);obtain⟨p2,Ma,Mi,Mu,R,rfl,rfl,hC⟩:=hR)|fail)
   exact zi (vs:=[_,_]) (M:=Ma++(Mi++(Mu++R))) ⟨zm sg rfl H.mem (zz2 _) rfl rfl,zW rfl,trivial⟩ (H.sub ((zz7 _ _).trans ((zz7 _ _).trans (zz7 _ _)))) ⟨p2,Ma,Mi,Mu,R,rfl,rfl,hC⟩
def AllR (r:Sta × Int × Int)(M:zB)(v:Value):Prop:=∃ p Ma Mi Mu R,v=.tuple #[.agg (r.1.cells p).toArray,.int .i64 r.2.1,.int .i64 r.2.2]∧M=Ma++(Mi++(Mu++R))∧Cps r.1 p Ma Mi Mu R
theorem all_z (k e:Int):AllR (zCp,k,e) [] (.tuple #[.agg (zCp.cells SPt.n0).toArray,.int .i64 k,.int .i64 e]):=⟨SPt.n0,[],[],[],[],rfl,rfl,cps_z⟩
structure AI where
 k:Nat
 c:Sta
 p:SPt
 Ma:zB
 Mi:zB
 Mu:zB
 R:zB
theorem zQS {s c:Sta}{l:List Evt}{k:Nat}{i:Int}(hk:k<l.length)(h:zAt s (l.take k) 0=(c,i,0)):zAt s (l.take (k+1)) 0=if (zAH c (ev_ l k)).2=0 then((zAH c (ev_ l k)).1,i+1,0) else(zCp,i,(zAH c (ev_ l k)).2):=by
 have e:l.take (k+1)=l.take k++[ev_ l k]:=by
  rw[List.take_succ_eq_append_getElem hk];unfold ev_;simp[List.getElem?_eq_getElem hk]
 rw[e,zKU,h,if_pos rfl,all_cons]
 split
 ·rfl
 ·rfl
theorem zTT {a:Option Addr}{cap:Nat}(hW:StaW s)(l:List Evt)(q:Nat→EPt)(hT:∀ e∈l,zCq e)(w0:World)(hF:Mem w0 F)(hP:PriM F)(hK:KinM F)(hs:StaM F s p)(hM:EvsM F a cap l q) :
  Calls prog 39 [.agg (s.cells p).toArray,.slice a l.length cap].toArray w0 (zf (AllR (zCg s l)) w0):=by
 have hmay:=fun w h1=>zCn s p hW w (F:=F) h1 hs
 cases h0:zCU s with
 | false =>
   have d0:(!zCU s)=true:=by rw[h0];rfl
   have eP:zCg s l=(zCp,0,4):=by unfold zCg;rw[h0];rfl
   rw[eP]
   refine eN func39 ntmps39 ?_
   have H:=zA w0
   repeat' (first|refine yW ?_|(refine yB ?_;intro b w H)|(refine y11 sg H ?_;intro w H)|(refine c0 zDk ?_;refine⟨_,hmay _ (H.memF hF),?_⟩;clear H;intro w H)|fail)
   exact zi (vs:=[_,_,_]) (M:=[]) ⟨zm sg rfl H.mem (zz2 _) rfl rfl,zW rfl,zW rfl,trivial⟩ (H.sub (zz9 _)) (all_z 0 4)
 | true =>
 have d0:(!zCU s)=false:=by rw[h0];rfl
 have g:=zAp.1 h0
 have eP:zCg s l=zAt s l 0:=by unfold zCg;rw[if_pos h0]
 rw[eP]
 obtain⟨⟨hnl,hcl,bl,offl,csl,Tl,frl,hsl⟩,hev⟩:=hM
 refine eN func39 ntmps39 ?_
 have H:=zA w0
 repeat' (first|refine yX ?_|(refine yB ?_;intro b w H)|(refine c0 zDk ?_;refine⟨_,hmay _ (H.memF hF),?_⟩;clear H;intro w H)|fail)
 refine CW.condF (congrArg Value.bool d0) ?_
 repeat' (first|refine yX ?_|(refine y11 sg H ?_;intro w H)|(refine f0 zQ4 ?_;refine⟨_,zNa s p (zCd g) _ (H.memF hF) hs,?_⟩;clear H;intro v M w hR H;(try simp only[zca,zcb] at H);obtain⟨p1,Ma,Mi,Mu,R,rfl,rfl,hC⟩:=hR)|with_reducible apply zC|fail)
 rename_i b2 _ _ _ _ _ _
 refine zI [(5,10),(19,36)] (fun x:AI=>[(19,.int .i64 (x.k:Int))]) (fun x w=>x.k≤l.length∧zAt s (l.take x.k) 0=(x.c,(x.k:Int),0)∧Good x.c∧Cps x.c x.p x.Ma x.Mi x.Mu x.R∧St w0 (cb b zIa 40::cb b2 (x.c.cells x.p) 40::(x.Ma++(x.Mi++(x.Mu++x.R)))) w) (fun x=>l.length - x.k) ⟨0,s,p1,Ma,Mi,Mu,R⟩ ⟨rfl,trivial⟩ ⟨zzD _,rfl,g,hC,H⟩ ?_
 clear H hC
 rintro⟨k,c,pc,Ma,Mi,Mu,R⟩ gh w ⟨hk,hal,gc,hC,H⟩
 simp only at hk hal gc hC H ⊢
 repeat' (first|refine yX ?_|fail)
 refine zD rfl (fun h=>?_) (fun h=>?_)
 ·have hlt:k<l.length:=by have:=zzA h;omega
  clear h
  have hsn:=zQS hlt hal
  have hhap:=fun w (L:zB) (hG:Mem w (L++F)) (hsub:(Ma++(Mi++(Mu++R)))⊆L)=>zME (p:=pc) gc (ev_ l k) (q k) (hT _ (zKn hlt)) w hG (hP.mono (zz8 _ _)) (hK.mono (zz8 _ _)) ((hC.sta (zCd gc)).mono fun x hx=>zz6 _ (hsub hx)) ((hev k hlt).mono (zz8 _ _))
  repeat' (first|refine yX ?_|(refine yB ?_;intro b w H)|(refine y11 sg H ?_;intro w H)|refine x40 sg hsl ?_|refine x42 sg hsl (H.memF hF) ?_|(refine f0 ent80 ?_;refine⟨_,hhap _ _ (H.all hF) (fun p hp=>by repeat (first|exact hp|apply zz4)),?_⟩;clear H;intro v M w hR H;(try simp only[zca,zcb] at H);obtain⟨p2,Ma2,Mi2,Mu2,R2,rfl,rfl,hC2⟩:=hR)|with_reducible apply zC|fail)
  have hgood:(zAH c (ev_ l k)).2=0→Good (zAH c (ev_ l k)).1:=fun e=>zET gc (Prod.ext rfl e)
  generalize zAH c (ev_ l k)=r at *
  by_cases h7:r.2=0
  ·have d7:(r.2 != 0)=false:=by simpa using h7
   rw[if_pos h7] at hsn
   refine CW.condF (congrArg Value.bool d7) ?_
   repeat' (first|refine yX ?_|(refine y11 sg H ?_;intro w H)|fail)
   refine zF ⟨k+1,r.1,p2,Ma2,Mi2,Mu2,R2⟩ rfl ⟨zd qO,trivial⟩ ⟨hlt,by rw[hsn];simp only[Int.natCast_add];rfl,hgood h7,hC2,H.sub (List.Sublist.cons _ (List.Sublist.cons _ (List.Sublist.cons_cons _ (List.Sublist.cons_cons _ (List.sublist_append_right _ _)))))⟩ (by show l.length - (k+1)<l.length - k;omega)
  ·have d7:(r.2 != 0)=true:=by simpa using h7
   rw[if_neg h7] at hsn
   have hend:zAt s l 0=(zCp,(k:Int),r.2):=by
    have e:l=l.take (k+1)++l.drop (k+1):=(List.take_append_drop _ _).symm
    rw[e,zKU,hsn,if_neg h7]
   rw[hend]
   refine CW.condT (congrArg Value.bool d7) ?_
   repeat' (first|refine yX ?_|(refine y11 sg H ?_;intro w H)|fail)
   exact zi (vs:=[_,_,_]) (M:=[]) ⟨zm sg rfl H.mem qB rfl rfl,zW rfl,zW rfl,trivial⟩ (H.sub (zz9 _)) (all_z _ _)
 ·obtain rfl:k=l.length:=by have:=zzB h;omega
  clear h
  rw[List.take_length] at hal
  rw[hal]
  repeat' (first|refine yX ?_|(refine y11 sg H ?_;intro w H)|fail)
  exact zi (vs:=[_,_,_]) (M:=Ma++(Mi++(Mu++R))) ⟨zm sg rfl H.mem (zz2 _) rfl rfl,zW rfl,zW rfl,trivial⟩ (H.sub ((zz7 _ _).trans (zz7 _ _))) ⟨pc,Ma,Mi,Mu,R,rfl,rfl,hC⟩
end
end
section
open Go Go.Sk Go.RowKit Go.ChangeShapes Go.WideShapes Go.Proofs.Tryz
abbrev zE9:List (String × DataW Unit):=[("souk/book.prices",Rows.laid_souk_book_prices),("souk/schema.kinds",Rows.laid_souk_schema_kinds),("souk/schema.commands",Rows.laid_souk_schema_commands)]
theorem zEX {P:Program}{W:World}{n:String}{g:Nat}{cs:Array Value}(hg:P.globalNamed n=some g)(hv:W.var? P n=some cs):∃ T fr,(g,Obj.cells cs T fr)∈zFf W:=by
 simp only[World.var?,hg,Option.bind_some] at hv
 split at hv
 ·rename_i cs' T fr e
  cases hv
  exact⟨T,fr,zHq e⟩
 ·cases hv
section
variable {H:Type}{enc:TypeId × Value→H}{P:Program}{w:World}{base:Nat}{sp:Nat→Bool}{held:Bool}
theorem zHe {fuel:Nat}{t:TypeId}{cs:List Value}{x:DataW H × List MemPlace}{l:List UInt8}(ht:P.underlying t=some .string)(h:DataW.trod enc P w base sp held fuel t cs=some x)(hx:x.1=.lit (.string l)):cs=[.string ⟨l.toArray⟩]:=by
 obtain⟨s,rfl,rfl,_⟩:=DataW.trod_string ht h
 simp only[DataW.lit.injEq,Lit.string.injEq] at hx
 subst hx
 rfl
theorem zTU {fuel:Nat}{t:TypeId}{cs:List Value}{x:DataW H × List MemPlace}{b:Bool}(ht:P.underlying t=some .bool)(h:DataW.trod enc P w base sp held fuel t cs=some x)(hx:x.1=.lit (.bool b)):cs=[.bool b]:=by
 obtain⟨s,rfl,rfl⟩:=DataW.trod_bool ht h
 simp only[DataW.lit.injEq,Lit.bool.injEq] at hx
 subst hx
 rfl
theorem zVP {fuel:Nat}{t:TypeId}{ps rs:Array TypeId}{vd:Bool}{cs:List Value}{x:DataW H × List MemPlace}(ht:P.underlying t=some (.func ps rs vd))(h:DataW.trod enc P w base sp held fuel t cs=some x)(hx:x.1=.nil):cs=[.nilFunc]:=by
 cases fuel with
 | zero=>simp[DataW.trod] at h
 | succ m =>
   unfold DataW.trod at h
   rw[ht] at h
   split at h<;>simp_all
   obtain⟨_,rfl⟩:=h
   simp at hx
end
def kDat (r:KRow):DataW Unit:=.agg [.lit (.string (r.name.map UInt8.ofNat)),.agg [.lit (.string (r.f1.map UInt8.ofNat)),.lit (.string (r.f2.map UInt8.ofNat)),.lit (.string (r.f3.map UInt8.ofNat))],.lit (.bool r.text)]
theorem zQT:(Rows.laid_souk_schema_kinds:DataW Unit)=.agg ((List.range 23).map fun i=>kDat (zIB i)):=by kernel_rfl
set_option maxRecDepth 20000 in
theorem zJb {w:World}{held:Bool}{fuel:Nat}{cs:List Value}{x:DataW Unit × List MemPlace}(r:KRow)(h:DataW.trod (fun _=>()) prog w 0 (fun _=>true) held fuel 153 cs=some x)(hx:x.1=kDat r):cs=r.cells:=by
 obtain⟨xs,n,rfl,rfl,hl,hn,hel⟩:=DataW.trod_struct (sg.desc rfl rfl) h
 have hc:prog.cellsOf 153=5:=sg.ncells rfl rfl
 have hs:prog.cellsOf 9=1:=sg.ncells rfl rfl
 have ha:prog.cellsOf 151=3:=sg.ncells rfl rfl
 have hb:prog.cellsOf 4=1:=sg.ncells rfl rfl
 rw[hc] at hl
 match cs,hl with
 | [c0,c1,c2,c3,c4],_ =>
 match xs,hn with
 | [x0,x1,x2],_ =>
 have h0:=hel 0 _ rfl
 have h1:=hel 1 _ rfl
 have h2:=hel 2 _ rfl
 simp only[kDat,List.map_cons,List.map_nil,DataW.agg.injEq,List.cons.injEq,and_true] at hx
 obtain⟨e0,e1,e2⟩:=hx
 have k0:=zHe (sg.desc rfl rfl) h0 e0
 have k2:=zTU (sg.desc rfl rfl) h2 e2
 obtain⟨ys,n',_,rfl,_,hn',hel'⟩:=DataW.trod_array (sg.desc rfl rfl) h1
 match ys,hn' with
 | [y0,y1,y2],_ =>
 simp only[List.map_cons,List.map_nil,DataW.agg.injEq,List.cons.injEq,and_true] at e1
 obtain⟨f0,f1,f2⟩:=e1
 have l0:=zHe (sg.desc rfl rfl) (hel' 0 (by decide)) f0
 have l1:=zHe (sg.desc rfl rfl) (hel' 1 (by decide)) f1
 have l2:=zHe (sg.desc rfl rfl) (hel' 2 (by decide)) f2
 simp[hs,ha,hb] at k0 k2 l0 l1 l2
 subst k0 k2 l0 l1 l2
 rfl
theorem gKin:prog.globalNamed "souk/schema.kinds"=some 1:=by kernel_rfl
theorem gPri:prog.globalNamed "souk/book.prices"=some 0:=by kernel_rfl
theorem tKin:(prog.globals[1]?).map (·.type)=some 197:=by kernel_rfl
theorem tPri:(prog.globals[0]?).map (·.type)=some 95:=by kernel_rfl
theorem zTV:(Rows.laid_souk_schema_commands:DataW Unit)=.agg ((List.range 20).map fun i=>kDat (zHQ i)):=by kernel_rfl
theorem gCom:prog.globalNamed "souk/schema.commands"=some 2:=by kernel_rfl
theorem tCom:(prog.globals[2]?).map (·.type)=some 291:=by kernel_rfl
theorem zPA {W:World}(h:laidMetH prog zE9 W):laidMet prog [("souk/schema.kinds",Rows.laid_souk_schema_kinds),("souk/schema.commands",Rows.laid_souk_schema_commands)] W:=by
 have e1:(zE9.filter fun x=>x.2.handleName?.isSome)=[("souk/book.prices",Rows.laid_souk_book_prices)]:=by kernel_rfl
 have e2:(zE9.filter fun x=>x.2.handleName?.isNone)=[("souk/schema.kinds",Rows.laid_souk_schema_kinds),("souk/schema.commands",Rows.laid_souk_schema_commands)]:=by kernel_rfl
 unfold laidMetH at h
 rw[e1,e2] at h
 exact h.1
set_option maxRecDepth 20000 in
theorem kin_of {W:World}(h:laidMetH prog zE9 W):KinM (zFf W):=by
 have hm:=zPA h
 obtain⟨ps,⟨g,t,cs,f,p,q,hg,ht,hv,hd,_,_⟩,_⟩:=hm
 obtain rfl:=Option.some.inj (gKin.symm.trans hg)
 obtain rfl:=Option.some.inj (tKin.symm.trans ht)
 obtain⟨T,fr,hb⟩:=zEX gKin hv
 obtain⟨xs,m,rfl,hx,hl,hn,hel⟩:=DataW.trod_array (sg.desc rfl rfl) hd
 have hc:prog.cellsOf 153=5:=sg.ncells rfl rfl
 have hC:prog.cellsOf 197=115:=sg.ncells rfl rfl
 rw[hC] at hl
 rw[zQT] at hx
 simp only[Prod.mk.injEq,DataW.agg.injEq] at hx
 refine⟨cs.toList,T,fr,fun _=>⟨rfl,hb,fun j hj=>⟨by rw[hl];omega,?_⟩⟩⟩
 have h1:=hel j hj
 rw[hc] at h1
 rw[Nat.zero_add]
 have hjx:j<xs.length:=by omega
 rw[List.getElem?_eq_getElem hjx] at h1
 refine zJb (zIB j) h1 ?_
 have:=congrArg (fun l:List (DataW Unit)=>l[j]?) hx.1
 simp only[List.getElem?_map,List.getElem?_range hj,List.getElem?_eq_getElem hjx,Option.map_some,Option.some.injEq] at this
 exact this.symm
set_option maxRecDepth 20000 in
theorem com_of {W:World}(h:laidMetH prog zE9 W):ComM (zFf W):=by
 have hm:=zPA h
 obtain⟨ps,⟨_,_,_,_,_,_,_,_,_,_,hk,_⟩,_⟩:=hm
 obtain⟨g,t,cs,f,p,q,hg,ht,hv,hd,_,_⟩:=hk
 obtain rfl:=Option.some.inj (gCom.symm.trans hg)
 obtain rfl:=Option.some.inj (tCom.symm.trans ht)
 obtain⟨T,fr,hb⟩:=zEX gCom hv
 obtain⟨xs,m,rfl,hx,hl,hn,hel⟩:=DataW.trod_array (sg.desc rfl rfl) hd
 have hc:prog.cellsOf 153=5:=sg.ncells rfl rfl
 have hC:prog.cellsOf 291=100:=sg.ncells rfl rfl
 rw[hC] at hl
 rw[zTV] at hx
 simp only[Prod.mk.injEq,DataW.agg.injEq] at hx
 refine⟨cs.toList,T,fr,fun _=>⟨rfl,hb,fun j hj=>⟨by rw[hl];omega,?_⟩⟩⟩
 have h1:=hel j hj
 rw[hc] at h1
 rw[Nat.zero_add]
 have hjx:j<xs.length:=by omega
 rw[List.getElem?_eq_getElem hjx] at h1
 refine zJb (zHQ j) h1 ?_
 have:=congrArg (fun l:List (DataW Unit)=>l[j]?) hx.1
 simp only[List.getElem?_map,List.getElem?_range hj,List.getElem?_eq_getElem hjx,Option.map_some,Option.some.injEq] at this
 exact this.symm
set_option maxRecDepth 20000 in
theorem pri_of {W:World}(h:laidMetH prog zE9 W):PriM (zFf W):=by
 obtain⟨g,t,cs,f,p,hg,ht,hv,hd⟩:=h.funcs (n:="souk/book.prices") (List.mem_cons_self ..)
 obtain rfl:=Option.some.inj (gPri.symm.trans hg)
 obtain rfl:=Option.some.inj (tPri.symm.trans ht)
 obtain⟨T,fr,hb⟩:=zEX gPri hv
 have hd':DataW.trod (funcToken prog) prog W 0 (fun _=>true) true f 95 cs.toList=some (.agg [.nil,.held [115,111,117,107,47,98,111,111,107,46,112,114,105,99,101,115,36,49],.held [115,111,117,107,47,98,111,111,107,46,112,114,105,99,101,115,36,50]],p):=hd
 obtain⟨xs,m,rfl,hx,hl,hn,hel⟩:=DataW.trod_array (sg.desc rfl rfl) hd'
 have hc:prog.cellsOf 91=1:=sg.ncells rfl rfl
 have hC:prog.cellsOf 95=3:=sg.ncells rfl rfl
 rw[hC] at hl
 match xs,hn with
 | [x0,x1,x2],_ =>
 simp only[Prod.mk.injEq,List.map_cons,List.map_nil,DataW.agg.injEq,List.cons.injEq,and_true] at hx
 obtain⟨⟨e0,e1,e2⟩,_⟩:=hx
 obtain⟨csl⟩:=cs
 match csl,hl with
 | [c0,c1,c2],_ =>
 have h0:=hel 0 (by decide)
 have h1:=hel 1 (by decide)
 have h2:=hel 2 (by decide)
 rw[hc] at h0 h1 h2
 have k0:=zVP (sg.desc rfl rfl) h0 e0.symm
 obtain⟨y1,z1⟩:=x1
 obtain⟨y2,z2⟩:=x2
 subst e1 e2
 have k1:c1=_:=func_of_trod (f0:=331) (v:=c1) (sg.desc rfl rfl) (by kernel_rfl) h1
 have k2:c2=_:=func_of_trod (f0:=332) (v:=c2) (sg.desc rfl rfl) (by kernel_rfl) h2
 simp at k0
 subst k0 k1 k2
 refine⟨_,T,fr,fun _=>⟨rfl,hb,fun j hj=>?_⟩⟩
 match j,hj with
 | 0,_=>exact⟨by simp,rfl⟩
 | 1,_=>exact⟨by simp,rfl⟩
 | 2,_=>exact⟨by simp,rfl⟩
section
variable {H:Type}{enc:TypeId × Value→H}{w:World}
set_option maxRecDepth 20000 in
theorem rz_cmd {cs:List Value}(h:Rz enc prog w 29 cs):∃ x:Cmd × CPt,cs=x.1.cells x.2.1 x.2.2∧Ints (zFf w) x.2.1 x.2.2 x.1.nums∧zIy x.1:=by
 have h:=h.struct (sg.desc rfl rfl) (by kernel_rfl)
 obtain⟨x0,cs,rfl,b0,h⟩:=h.int (sg.desc rfl rfl) (sg.ncells rfl rfl)
 obtain⟨a2,n2,c2,cs,rfl,h2,h⟩:=h.slice (sg.desc rfl rfl) (sg.ncells rfl rfl) (sg.ncells rfl rfl) (sg.nbytes rfl rfl)
 obtain⟨t,cs,rfl,bt,h⟩:=h.string (sg.desc rfl rfl) (sg.ncells rfl rfl)
 obtain rfl:=h.nil
 obtain⟨l2,rfl,m2,_⟩:=h2.named (el:=fun x:Int=>[.int .i64 x]) (fun _=>rz_i64)
 have b0:=wf_u8 b0
 exact⟨⟨⟨x0,l2,t⟩,(a2,c2)⟩,rfl,m2,⟨by simp only;omega,bt⟩⟩
end
end
end Go.Proofs.YtejhijhnlogikaaGreatDoor
