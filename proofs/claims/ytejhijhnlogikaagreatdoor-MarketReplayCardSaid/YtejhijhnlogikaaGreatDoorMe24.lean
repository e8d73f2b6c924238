/- Steps of the proof. -/
import Derived.LaidMore
import Derived.OpenShut
import Derived.ProofKit
import Derived.Test.YtejhijhnlogikaaGreatDoorRows
import Derived.Test.YtejhijhnlogikaaGreatDoorMe23
set_option linter.all false
set_option maxHeartbeats 16000000
namespace Go.Proofs.YtejhijhnlogikaaGreatDoor
section
open Go Go.Sk Go.RowKit Go.Proofs.Tryz
attribute [local irreducible] Go.Calls
theorem zXP {s:Sta}(h:Good s){i:Nat}(hi:i<s.aucs.length)(x:Pl):zm (zS (au_ s.aucs i)) x<=zm (zT s) x:=by{
have hp:=(Good.parts h).2;have hnn:∀ y∈zT s,0<=y.2.2:=fun y hy=>Int.le_of_lt (hp y hy).1.1;have hsp:=zJV hi;unfold zT at hnn ⊢;have e:zm (s.aucs.flatMap zS) x=zm ((s.aucs.take i).flatMap zS) x+(zm (zS (au_ s.aucs i)) x+zm ((s.aucs.drop (i+1)).flatMap zS) x):=by
 conv=>lhs;rw[hsp]
 rw[yy9,List.flatMap_cons,zd,zd]
rw[zd,e];have n1:=zEG (fun y hy=>hnn y (zz6 _ hy)) x
have n2:0<=zm ((s.aucs.take i).flatMap zS) x:=zEG (fun y hy=>hnn y (zz3 _ (by
 rw[hsp,yy9];exact zz6 _ hy))) x
have n3:0<=zm ((s.aucs.drop (i+1)).flatMap zS) x:=zEG (fun y hy=>hnn y (zz3 _ (by
 rw[hsp,yy9,List.flatMap_cons];exact zz3 _ (zz3 _ hy)))) x
omega}
theorem zNf (p r:List Pst)(q:Int):zBx (p++r) q=zBx p q+zBx r q:=by{
induction p with
| nil=>simp[zBx]
| cons x p ih=>rw[List.cons_append,zC7,zC7,ih];omega}
theorem zPR {p:List Pst}(h:∀ q∈p,q.free+q.held=0)(s:Int):zBx p s=0:=by{
induction p with
| nil=>rfl
| cons x p ih =>
  rw[zC7,ih fun y hy=>h y (List.Mem.tail _ hy),h x (List.Mem.head _)];simp}
theorem zJl (a:Auc):∀ q∈zAj a,q.free+q.held=0:=fun x hx=>by{
unfold zAj at hx;rcases List.mem_append.1 hx with g|g
.obtain⟨b,hb,rfl⟩:=List.mem_map.1 g;show b.amount+-b.amount=0;omega
.rw[yyd] at g;subst g;show a.qty+-a.qty=0;omega}
theorem zCj {n m:Int}:zp n m=true↔1<=n/\n<=m:=by simp[zp]
theorem zCk {a:Auc}(h:zAS a=true):(1<=a.seller/\a.seller<=64)/\(1<=a.inst/\a.inst<=16)/\(1<=a.qty/\a.qty<=1048576)/\(1<=a.reserve/\a.reserve<=1125899906842624)/\a.bids.length<=16/\∀ b∈a.bids,(1<=b.acct/\b.acct<=64)/\(1<=b.amount/\b.amount<=1125899906842624):=by have hm:=mayP.1 h;refine⟨zCj.1 hm.seller,zCj.1 hm.inst,zCj.1 hm.qty,zCj.1 hm.reserve,hm.len16,fun b hb=>?_⟩;obtain⟨j,hj,rfl⟩:=zJO default hb;have:=zEs.1 (hm.ok j hj);exact⟨zCj.1 this.1,zCj.1 this.2.2.1⟩
theorem zQm {q z:Int}(h1:0<=q)(h3:0<=z/\z<=1000):0<=(zBq q z).1/\(zBq q z).1<=q:=by{
have e1:q*z<=q*1000:=Int.mul_le_mul_of_nonneg_left h3.2 h1;have e2:0<=q*z:=Int.mul_nonneg h1 h3.1;unfold zBq;split
.exact⟨Int.le_refl 0,h1⟩
.split
 .exact⟨Int.le_refl 0,h1⟩
 .show 0<=q*z / 10000/\q*z / 10000<=q;generalize q*z=y at e1 e2;omega}
theorem zJm {s:Sta}(h:Good s){i:Nat}(hi:i<s.aucs.length):(∀ q∈zAj (au_ s.aucs i),zCw q=false)/\∀ x,(dlF (zAj (au_ s.aucs i)) x).2=-(zm (zS (au_ s.aucs i)) x)/\(dlF (zAj (au_ s.aucs i)) x).1=zm (zS (au_ s.aucs i)) x/\0<=zm (zS (au_ s.aucs i)) x:=by{
have hm:zAS (au_ s.aucs i)=true:=(zs.1 h.aucs).2.1 _ (zi hi);generalize au_ s.aucs i=a at *;obtain⟨b1,b2,b3,b4,b5,b6⟩:=zCk hm;refine⟨fun q hq=>?_,fun x=>?_⟩
.unfold zAj at hq;rcases List.mem_append.1 hq with g|g
 .obtain⟨b,hb,rfl⟩:=List.mem_map.1 g;have:=b6 b hb;exact zL0.2 ⟨⟨by simp only;omega,by simp only;omega⟩,by unfold zJX;simp only;omega,by unfold zJX;simp only;omega,fun e=>by simp only at e;omega⟩
 .rw[yyd] at g;subst g;exact zL0.2 ⟨⟨by simp only;omega,by simp only;omega⟩,by unfold zJX;simp only;omega,by unfold zJX;simp only;omega,fun e=>by simp only at e;omega⟩
.have e1:=zQM a x;have e2:=zDZ hm x;have e3:=zUc (zJl a) x
 have e4:0<=zm (a.bids.map bP3) x:=zEG (fun y hy=>by
  obtain⟨b,hb,rfl⟩:=List.mem_map.1 hy;have:=(b6 b hb).2.1
  show 0<=b.amount;omega) x
 have e5:0<=(if ((a.seller,a.inst):Pl)=x then a.qty else 0):=by split<;>omega
 refine⟨by omega,by omega,by omega⟩}
theorem zKt {s:Sta}(h:Good s){i:Nat}(hi:i<s.aucs.length){p:List Pst}(hl:p.length<=5)(hb:∀ q∈p,zCw q=false)(hh:∀ q∈p,q.held=0)(hs:∀ q:Nat,q<17->zBx p q=0)
  (hok:∀ x:Pl,x.1≠0->0<=(atR s.rows x).1+(dlF p x).1+zm (zS (au_ s.aucs i)) x/\(atR s.rows x).1+(atR s.rows x).2+(dlF p x).1<=1125899906842624):(zBR s.rows (p++zAj (au_ s.aucs i))).2=0:=by{
have hm:zAS (au_ s.aucs i)=true:=(zs.1 h.aucs).2.1 _ (zi hi);obtain⟨_,_,_,_,b5,_⟩:=zCk hm;obtain⟨k1,k2⟩:=zJm h hi;have hask:zA5 (p++zAj (au_ s.aucs i))=0:=by
 refine zRq.2 ⟨?_,?_,fun q hq=>?_⟩
 .unfold zAj;simp only[yy4,yyp,yyo];omega
 .rw[List.any_eq_false];intro q hq;rcases List.mem_append.1 hq with g|g
  .rw[hb q g];decide
  .rw[k1 q g];decide
 .rw[zNf,hs q hq,zPR (zJl _)];rfl
rw[zQR h.rows hask,if_pos (zRp.1.2 fun x hx=>?_)];by_cases h0:x.1=0
.unfold zAR;rw[if_pos h0]
.have e:zAH s.rows (p++zAj (au_ s.aucs i)) x=((atR s.rows x).1+(dlF p x).1+zm (zS (au_ s.aucs i)) x,(atR s.rows x).2 - zm (zS (au_ s.aucs i)) x):=by obtain⟨c1,c2,_⟩:=k2 x;unfold zAH;rw[zRr,c1,c2,zQN hh];ext<;>simp only<;>omega
 have e2:=h.held x hx;have e3:=zXP h hi x;have e4:=hok x h0;have e5:=(k2 x).2.2;rw[e];simp only;rcases zDo x.1 ((atR s.rows x).1+(dlF p x).1+zm (zS (au_ s.aucs i)) x) ((atR s.rows x).2 - zm (zS (au_ s.aucs i)) x) with g|g|g
 .exact g.1
 .omega
 .omega}
theorem zVM {a:Auc}(h:zAS a=true){b:Bid}(hb:b∈a.bids):b.amount<=zm (zS a) (b.acct,0):=by{
obtain⟨_,_,b3,_,_,b6⟩:=zCk h;rw[zDZ h]
have e:=zNG (l:=a.bids.map bP3) (fun y hy=>by
 obtain⟨b,hb,rfl⟩:=List.mem_map.1 hy;have:=(b6 b hb).2.1
 show 0<=b.amount;omega) (List.mem_map.2 ⟨b,hb,rfl⟩)
have e5:0<=(if ((a.seller,a.inst):Pl)=((b.acct,0):Pl) then a.qty else 0):=by split<;>omega
have e6:b.amount<=zm (a.bids.map bP3) (b.acct,0):=e;omega}
theorem zVN {a:Auc}(h:zAS a=true):a.qty<=zm (zS a) (a.seller,a.inst):=by{
obtain⟨_,_,b3,_,_,b6⟩:=zCk h;rw[zDZ h,if_pos rfl]
have e4:0<=zm (a.bids.map bP3) (a.seller,a.inst):=zEG (fun y hy=>by
 obtain⟨b,hb,rfl⟩:=List.mem_map.1 hy;have:=(b6 b hb).2.1
 show 0<=b.amount;omega) _
omega}
theorem zSJ {s:Sta}(h:Good s){i:Nat}(hi:i<s.aucs.length):(zAz s i []).2=0:=by{
have hp:=zKt h hi (p:=[]) (zzD _) (fun q hq=>nomatch hq) (fun q hq=>nomatch hq) (fun q _=>rfl) (fun x hx=>by
 have g:=(zED h.rows x).2 hx;have e:=((zJm h hi).2 x).2.2
 simp only[dlF,List.foldl_nil];omega)
unfold zAz zf;simp only;rw[if_pos hp];simp}
theorem zXQ {s:Sta}(h:Good s){i:Nat}(hi:i<s.aucs.length)(hw:(zI s (au_ s.aucs i)).2.2=true):(zAz s i (zEA (au_ s.aucs i) (zI s (au_ s.aucs i)).1 (zI s (au_ s.aucs i)).2.1)).2=0:=by{
have hm:zAS (au_ s.aucs i)=true:=(zs.1 h.aucs).2.1 _ (zi hi);have hn:=zAL.1 h.nums;obtain⟨w1,w2,w3,w4,w5⟩:=zEI hw;obtain⟨m,m1,m2,_,_,m5,m6,_⟩:=zF2 hm w1;have hb:=zi (l:=(au_ s.aucs i).bids) m1;have hbd:=zVM hm hb;have hq:=zVN hm;rw[w2,w3];have hk:=(zJm h hi).2;have ho:∀ q∈zEA (au_ s.aucs i) (zH (au_ s.aucs i)).1 (zBq (zH (au_ s.aucs i)).1.amount s.fee).1,q.held=0:=fun q hq=>by unfold zEA at hq;simp only[List.mem_cons,List.not_mem_nil,or_false] at hq;rcases hq with rfl|rfl|rfl|rfl|rfl<;>rfl
have hp:(zBR s.rows (zEA (au_ s.aucs i) (zH (au_ s.aucs i)).1 (zBq (zH (au_ s.aucs i)).1.amount s.fee).1++zAj (au_ s.aucs i))).2=0:=by
 obtain⟨b1,b2,b3,b4,b5,b6⟩:=zCk hm;have hb6:=b6 _ hb;have f1:0<=(zBq (zH (au_ s.aucs i)).1.amount s.fee).1/\(zBq (zH (au_ s.aucs i)).1.amount s.fee).1<=(zH (au_ s.aucs i)).1.amount:=zQm qO hn.2.1;refine zKt h hi (zzC _) (fun q hq=>?_) ho (fun q _=>?_) fun x hx=>?_
 all_goals
  generalize hA:(au_ s.aucs i)=a at *;generalize (zBq (zH a).1.amount s.fee).1=fee at *;rw[show a.bids.getD m default=a.bids.getD m default from rfl] at *
 .rw[<- m2] at hb6;unfold zEA at hq;simp only[List.mem_cons,List.not_mem_nil,or_false] at hq;rcases hq with rfl|rfl|rfl|rfl|rfl<;>exact zL0.2 ⟨⟨by simp only;omega,by simp only;omega⟩,by unfold zJX;simp only;omega,by unfold zJX;simp only;omega,fun e=>rfl⟩
 .unfold zEA;simp only[zC7];have e0:zBx [] (q:Int)=0:=rfl;rw[e0];repeat' split
  all_goals omega
 .have g:=(zED h.rows x).2 hx;have hx2:=(hk x).2.2;have t1:=zNK h.rows (a:=a.seller) (s:=0) qO;have t2:=zNK h.rows (a:=(zH a).1.acct) (s:=a.inst) (by rw[m2];omega);rw[t1] at w4;rw[t2] at w5;rw[<- m2] at hbd;obtain⟨x1,x2⟩:=x;simp only at hx;have k1:(zH a).1.acct=x1/\(0:Int)=x2->(zH a).1.amount<=zm (zS a) (x1,x2):=by rintro⟨rfl,rfl⟩;omega
  have k2:a.seller=x1/\a.inst=x2->a.qty<=zm (zS a) (x1,x2):=by rintro⟨rfl,rfl⟩;exact hq
  have k3:a.seller=x1/\(0:Int)=x2->(atR s.rows (x1,x2)).1+(atR s.rows (x1,x2)).2+(zH a).1.amount - fee<=1125899906842624:=by rintro⟨rfl,rfl⟩;exact w4
  have k4:(zH a).1.acct=x1/\a.inst=x2->(atR s.rows (x1,x2)).1+(atR s.rows (x1,x2)).2+a.qty<=1125899906842624:=by rintro⟨rfl,rfl⟩;exact w5
  have q0:¬((0:Int)=x1/\(0:Int)=x2):=fun e=>hx e.1.symm;unfold zEA;have en:dlF [] (x1,x2)=(0,0):=rfl;simp only[zBb,en];by_cases q1:(zH a).1.acct=x1/\(0:Int)=x2<;>by_cases q2:a.seller=x1/\a.inst=x2<;>by_cases q3:a.seller=x1/\(0:Int)=x2<;>by_cases q4:(zH a).1.acct=x1/\a.inst=x2
  all_goals
   (first|rw[if_pos q4]|rw[if_neg q4]);(first|rw[if_pos q2]|rw[if_neg q2]);rw[if_neg q0];(first|rw[if_pos q3]|rw[if_neg q3]);(first|rw[if_pos q1]|rw[if_neg q1]);(try have r1:=k1 q1);(try have r2:=k2 q2);(try have r3:=k3 q3);(try have r4:=k4 q4);simp only;omega
unfold zAz zf;simp only;rw[if_pos hp];simp}
theorem zNg {s:Sta}(h:Good s){r:Row4}(hr:r∈s.rows):(-72057594037927936<=r.free/\r.free<=1125899906842624)/\0<=r.held/\r.held<=1125899906842624:=by have h1:=zJZ h.rows (zAD r);rw[zG0 (zFa h.rows) hr] at h1;exact h1
theorem zQn {s:Sta}(h:Good s):WfR s:=fun j hj=>by have:=zNg h (show rw_ s.rows j∈s.rows from zAP _ hj);unfold Row4.wf Z64;omega
theorem zJn {s:Sta}(h:Good s):R64 s.rows:=fun r hr=>by have:=zNg h hr;omega
theorem zVO {l:List Row4}(h:zAZ l=true):l.length<=1105:=by rw[<- zQD h];unfold mkR;refine Nat.le_trans (List.length_filterMap_le _ _) ?_;decide +kernel
theorem zBJ {s:Sta}(h:Good s):LtS s:=by have h1:=zNL h;have h2:=zNM h;have h3:=zVO h.rows;obtain⟨h4,_,_⟩:=zAK.1 h.ords;obtain⟨h5,h6,_⟩:=zs.1 h.aucs;refine⟨by omega,by omega,by omega,by omega,by omega,fun k hk=>?_⟩;have:=(zCk (h6 _ (zi hk))).2.2.2.2.1;omega
theorem zQo {s:Sta}(h:Good s):AuB s:=by{
have hn:=zAL.1 h.nums;obtain⟨_,h6,_⟩:=zs.1 h.aucs;refine⟨zJn h,hn.2.1,fun j hj=>?_,fun j hj=>?_,fun j hj y hy=>?_⟩
.have hm:zAS (au_ s.aucs j)=true:=h6 _ (zi hj);cases hw:(zH (au_ s.aucs j)).2 with
 | false=>rw[zUO hw];exact⟨Int.le_refl _,by decide⟩
 | true =>
   obtain⟨m,m1,_,_,_,m5,m6,_⟩:=zF2 hm hw;obtain⟨_,_,_,b4,_,b6⟩:=zCk hm;have:=b6 _ (zi m1);omega
.have hm:zAS (au_ s.aucs j)=true:=h6 _ (zi hj);have:=(zCk hm).2.2.1;omega
.have:=((zCk (h6 _ (zi hj))).2.2.2.2.2 y hy).2;omega}
theorem zSK {s:Sta}(h:Good s):∀ j,j<s.insts.length->1<=(in_ s.insts j).tick:=fun j hj=>((zCK.1 h.insts).2.1 _ (show in_ s.insts j∈s.insts from zAP _ hj)).1
theorem top_in (a:Auc):(zAN a).1=Bid.zero\/(zAN a).1∈a.bids:=by{
unfold zAN;split
.exact .inl rfl
.rename_i g;have hl:=zEa a.bids a.bids.length;have e:zCg a.bids a.bids.length=hi a.bids:=rfl;rw[e] at hl;simp only[Bool.or_eq_true,decide_eq_true_eq,not_or] at g;exact .inr (zi qO)}
theorem zVP {s:Sta}(h:Good s):∀ j,j<s.aucs.length->0<=(zAN (au_ s.aucs j)).1.amount/\(zAN (au_ s.aucs j)).1.amount<=1125899906842624:=fun j hj=>by{
rcases top_in (au_ s.aucs j) with e|e
.rw[e];exact⟨Int.le_refl _,by decide⟩
.have:=((zCk ((zs.1 h.aucs).2.1 _ (zi hj))).2.2.2.2.2 _ e).2;omega}
theorem zVQ (a:Auc)(y:Bid)(h:a.bids.length<=16):(zN a y).1.bids.length<=100000:=by{
unfold zN;split
.exact zzD _
split
.exact zzD _
split
.exact zzD _
split
.exact zzD _
show(zHh a y).1.length<=100000;unfold zHh;split
.unfold zCh;split
 .exact zzD _
 split
 .exact zzD _
 .show(a.bids++[y]).length<=100000;rw[yy4,yyo];omega
.unfold zDN;split
 .exact zzD _
 .show 1<=100000;decide}
theorem zSL {s:Sta}(h:Good s)(y:Bid):∀ j,j<s.aucs.length->(zN (au_ s.aucs j) y).1.bids.length<=100000:=fun j hj=>zVQ _ _ (zCk ((zs.1 h.aucs).2.1 _ (zi hj))).2.2.2.2.1
end
section
open Go Go.Sk Go.RowKit Go.Proofs.Tryz
attribute [local irreducible] Go.Calls
section
attribute [local semireducible] Yq
theorem Yq.arrIx {P:Program}(S:Sig P){o:Oper}{e:Env}{w:World}{t E:TypeId}{n:Nat}{ti te:TI}{x i:Operand}{cs:Array Value}{k:IntKind}{q:Int}{j:Nat}{v:Value}(ho:o.op=.index t x i)(hx:ev e x=.agg cs)(hi:ev e i=.int k q)(ht:lk S.tab t=some ti)(htd:ti.d=.array n E)(he:lk S.tab E=some te)(hsz:te.size=1)(hna:zBP te.d=false)(hj:q.toNat=j)(h0:0<=q)(h1:q<n)(hv:cs.toList[j]?=some v):Yq P o e w v:=by intro w' _;have hu:=S.run_und ht w';rw[htd] at hu;have hp:=zC3 S he cs (j*te.size) (v:=v) (by rw[hna,hsz,Nat.mul_one];exact hv) w';subst hj;simp only[execOp,ho,Instr.index,hx,hi,asIntOf,hu,Sem.run_bind,Sem.run_pure,Result.andThen_ok,S.run_size he,if_pos (And.intro h0 h1),hp]
end
def kFs:List Nat:=[152,153,154,155,156,157,158,159,160,161,
 162,163,164,165,166,167,168,169,170,171,172,173,174]
def kArr:List Value:=.nilFunc::kFs.map fun f=>.func (.func f) #[] #[]
theorem c_does (w0:World):Cr 119 [] (.agg kArr.toArray) w0:=by refine eS func119 ntmps119 fun H=>?_;(repeat' first|refine yW ?_|(refine yB ?_;intro b w H)|fail);refine za rfl rfl (Yq.buildR (cs:=kArr.toArray) sg rfl rfl rfl rfl (by kernel_rfl)) ?_;(repeat' first|refine yW ?_|(refine y11 sg H ?_;intro w H)|fail);exact zAv (vs:=[_]) ⟨zg sg rfl H.mem (zz2 _) rfl rfl,trivial⟩ H.cl rfl
def kF (k:Int):Nat:=kFs.getD (k - 1).toNat 0
section
variable {F:zA}{bm:Nat}{s:Sta}{p:SPt}{na:OA}{nc:Nat}{Ma Mi Mu R:zA}
theorem zQp {w0 w:World}(e:Evt)(he:EvOk e)(h:Good s)(hP:PriM F)(H:St w0 (mkL bm (mkc s p e.nums na nc (e.texts.getD 0 ByteArray.empty)) Ma Mi Mu R) w)(hC:Cps s p Ma Mi Mu R)(hF:Mem w0 F)(hN:Ints F na nc e.nums) :
  Ent prog (kF e.kind)/\kArr[e.kind.toNat]?=some (.func (.func (kF e.kind)) #[] #[])/\Calls prog (kF e.kind) [(pt bm)].toArray w (zZ (zCE bm e.nums na nc (e.texts.getD 0 ByteArray.empty) (zB6 s e.kind e.nums (e.texts.getD 0 ByteArray.empty))) w0):=by{
have hLt:=zBJ h;have hW:=zQn h;have hB:=zQo h;have hT:=zSK h;have hn:=zAL.1 h.nums;have htop:=zVP h;have htake:=zSL h;have hat:=fun(i c:Nat) (hc:(zOr e.kind)[i]?=some c)=>he.at i hc;have hlen:=he.len;have hkk:=he.kind;obtain⟨v,k,n,tx⟩:=e;simp only at hat hkk hlen H hN ⊢;generalize tx.getD 0 ByteArray.empty=t at *;clear he;rcases kinds hkk with rfl|rfl|rfl|rfl|rfl|rfl|rfl|rfl|rfl|rfl|rfl|rfl|rfl|rfl|rfl|rfl|rfl|rfl|rfl|rfl|rfl|rfl|rfl
.exact⟨ent152,rfl,zU1 hLt (Nat.le_of_eq hlen.symm) H hC hF hN⟩
.exact⟨ent153,rfl,zU4 hLt (Nat.le_of_eq hlen.symm) (by have:=zJQ (hat 0 97 rfl);omega) H hC hF hN⟩
.exact⟨ent154,rfl,zU8 hLt (Nat.le_of_eq hlen.symm) H hC hF hN⟩
.exact⟨ent155,rfl,zU6 (Nat.le_of_eq hlen.symm) (by have:=zEF (hat 0 105 rfl);omega) hLt H hC hF hN⟩
.exact⟨ent156,rfl,zSC (Nat.le_of_eq hlen.symm) (by have:=zEF (hat 0 105 rfl);omega) hLt H hC hF hN⟩
.exact⟨ent157,rfl,zNX hLt hW (Nat.le_of_eq hlen.symm) (by have:=zIH (hat 1 109 rfl);omega) H hC hF hN⟩
.exact⟨ent158,rfl,zNY hLt hW (Nat.le_of_eq hlen.symm) (by have:=zIH (hat 1 109 rfl);omega) H hC hF hN⟩
.exact⟨ent159,rfl,zUz hLt hW (Nat.le_of_eq hlen.symm) (by have:=zEF (hat 1 105 rfl);omega) (by have:=zG8 (hat 2 113 rfl);omega) H hC hF hN⟩
.exact⟨ent160,rfl,zPE hLt hW (Nat.le_of_eq hlen.symm) (by have:=zEF (hat 1 105 rfl);omega) (by have:=zG8 (hat 2 113 rfl);omega) H hC hF hN⟩
.exact⟨ent161,rfl,zU0 (Nat.le_of_eq hlen.symm) H hC hF hN⟩
.exact⟨ent162,rfl,zVD hLt hW (Nat.le_of_eq hlen.symm) (by have:=zEF (hat 2 105 rfl);omega) (by have:=zUT (hat 3 115 rfl);omega) (by have:=zQK (hat 4 112 rfl);omega) hT qO H hC hF hN⟩
.exact⟨ent163,rfl,zNc hLt hW (Nat.le_of_eq hlen.symm) H hC hF hN⟩
.exact⟨ent164,rfl,zVL h hLt hW (Nat.le_of_eq hlen.symm) (by have:=zQK (hat 2 112 rfl);omega) (by have:=zG8 (hat 3 113 rfl);omega) (by have:=bnd_z (hat 4 122 rfl);omega) hP H hC hF hN⟩
.exact⟨ent165,rfl,zSH (by have:=zG8 (hat 3 113 rfl);omega) hLt hW (Nat.le_of_eq hlen.symm) (by have:=zEF (hat 2 105 rfl);omega) hT qO H hC hF hN⟩
.exact⟨ent166,rfl,zVH (Nat.le_of_eq hlen.symm) (by have:=zIH (hat 2 109 rfl);omega) htop (htake _) hLt hW H hC hF hN⟩
.exact⟨ent167,rfl,zVF (by have:=zG8 (hat 3 113 rfl);omega) hLt hW (Nat.le_of_eq hlen.symm) (by have:=zEF (hat 2 105 rfl);omega) hT qO H hC hF hN⟩
.exact⟨ent168,rfl,c_bid (Nat.le_of_eq hlen.symm) (by have:=zIH (hat 2 109 rfl);omega) htop (htake _) hLt hW H hC hF hN⟩
.exact⟨ent169,rfl,c_sold hB (Nat.le_of_eq hlen.symm) hLt hW H hC hF hN⟩
.exact⟨ent170,rfl,zVJ hB (Nat.le_of_eq hlen.symm) hLt hW H hC hF hN⟩
.exact⟨ent171,rfl,zXI h.aucs hLt (Nat.le_of_eq hlen.symm) H hC hF hN⟩
.exact⟨ent172,rfl,zKE hLt hW (Nat.le_of_eq hlen.symm) (by have:=zIH (hat 2 109 rfl);omega) H hC hF hN⟩
.exact⟨ent173,rfl,zSB hLt (Nat.le_of_eq hlen.symm) (by have:=zJQ (hat 0 97 rfl);omega) H hC hF hN⟩
.exact⟨ent174,rfl,zU7 (Nat.le_of_eq hlen.symm) (by have:=zEF (hat 0 105 rfl);omega) hLt H hC hF hN⟩}
end
end
section
open Go Go.Sk Go.RowKit Go.Proofs.Tryz
attribute [local irreducible] Go.Calls
def StC (r:Sta × Int)(M:zA)(v:Value):Prop:=∃ p Ma Mi Mu R,v=.tuple #[.agg (r.1.cells p).toArray,.int .i64 r.2]/\M=Ma++(Mi++(Mu++R))/\Cps r.1 p Ma Mi Mu R
theorem cps_z:Cps zBg SPt.n0 [] [] [] []:=⟨zWD _ _ _,zWD _ _ _,SlA.nil,SlA.nil,zWD _ _ _,fun j hj=>absurd hj (zzE _)⟩
theorem zQq (e:Int):StC (zBg,e) [] (.tuple #[.agg (zBg.cells SPt.n0).toArray,.int .i64 e]):=⟨SPt.n0,[],[],[],[],rfl,rfl,cps_z⟩
theorem zQr {s:Sta}{e:Evt}(h:¬(e.v=3/\zk e=true)):zAG s e=(zBg,4):=by unfold zAG;rw[if_neg h]
section
variable {F:zA}{s:Sta}{p:SPt}
theorem zNh (g:Good s)(e:Evt)(q:EPt)(hE:zAr e)(w0:World)(hF:Mem w0 F)(hP:PriM F)(hK:KinM F)(hs:StaM F s p)(hM:EvtM F e q) :
  Cf 80 [.agg (s.cells p).toArray,.agg (e.cells q).toArray] (StC (zAG s e)) w0:=by{
have hmay:=fun w h1=>zEo e q hE (F:=F) w h1 hK hM;by_cases h0:e.v=3;rotate_left
.have d0:(e.v != 3)=true:=by simpa using h0
 rw[zQr (fun h=>h0 h.1)];refine eS func80 ntmps80 fun H=>?_;(repeat' first|refine yW ?_|(refine yB ?_;intro b w H)|(refine y11 sg H ?_;intro w H)|fail);exact zc (vs:=[_,_]) (M:=[]) ⟨zg sg rfl H.mem (zz2 _) rfl rfl,zP rfl,trivial⟩ (H.sub (zz9 _)) (zQq 4)
have d0:(e.v != 3)=false:=by simpa using h0
cases h1:zk e with
| false =>
  have d1:(!zk e)=true:=by rw[h1];rfl
  rw[zQr (fun h=>by rw[h1] at h;cases h.2)];refine eS func80 ntmps80 fun H=>?_;(repeat' first|refine yW ?_|(refine yB ?_;intro b w H)|(refine y11 sg H ?_;intro w H)|(refine c0 zD7 ?_;refine⟨_,hmay _ (H.memF hF),?_⟩;clear H;intro w H)|fail);exact zc (vs:=[_,_]) (M:=[]) ⟨zg sg rfl H.mem (zz2 _) rfl rfl,zP rfl,trivial⟩ (H.sub (zz9 _)) (zQq 4)
| true =>
have d1:(!zk e)=false:=by rw[h1];rfl
have ev:=zQJ h0 h1;have hLt:=zBJ g;have eP:zAG s e=if (zB6 s e.kind e.nums (e.texts.getD 0 ByteArray.empty)).2=0 then zB6 s e.kind e.nums (e.texts.getD 0 ByteArray.empty) else(zBg,(zB6 s e.kind e.nums (e.texts.getD 0 ByteArray.empty)).2):=by unfold zAG;rw[if_pos ⟨h0,h1⟩]
rw[eP];clear eP;refine eS func80 ntmps80 fun H=>?_
with_reducible apply zCQ
refine CW.cutT (fun en w=>∃ b2 b3 b4 en',en=ovl [(2,(pt b2)),(3,(pt b3)),(4,(pt b4))] en'/\St w0 [cb b4 zJe 40,cb b3 (e.cells q) 61,cb b2 (s.cells p) 40] w) ?_ ?_
·(repeat' first|refine yX ?_|(refine yB ?_;intro b w H)|fail);exact⟨_,_,_,_,zA2 rfl rfl rfl,H⟩
clear H;rintro _ w ⟨b2,b3,b4,en',rfl,H⟩;(repeat' first|refine yX ?_|(refine c0 zD7 ?_;refine⟨_,hmay _ (H.memF hF),?_⟩;clear H;intro w H)|fail);refine CW.condF (congrArg Value.bool d1) ?_;have H0:=H;have hF1:=H.all hF;have hF2:=H.memF hF;clear H;obtain⟨hn2,hc2,bt,offt,cst,Tt,frt,hst⟩:=hM.texts;obtain⟨w1,rfl⟩:∃ w1,w1=w:=⟨w,rfl⟩;have H:=zBm w1;(repeat' first|refine yX ?_|(refine yB ?_;intro b w H)|(refine CW.regionL mixed 7 (H.memF hF1) [] ?_ ?_;exact rfl;refine wQ H ?_;clear H;intro w H;have qh:=H.memF hF1;refine' l1 0 qh ?_ ?_;rotate_left;(exact z3 sg);refine lT sg 2 qh ?_;refine' l1 3 qh ?_ ?_;rotate_left;(exact z3 sg))|refine lN ?_|(refine lT sg 4 (H.memF hF1) ?_)|(refine lT sg 6 (H.memF hF1) ?_)|refine l2 1 ?_|refine l2 5 ?_|(refine l5 (H.memF hF1) ?_)|(refine f0 zMc ?_;refine⟨_,zJf s p hLt _ (H.memF hF1) (hs.mono (zz8 _ _)),?_⟩;clear H;intro v M w hR H;(try simp only[zca,zcb] at H);obtain⟨p1,Ma,Mi,Mu,R,rfl,rfl,hC⟩:=hR)|refine z13 (zF sg rfl rfl (H.memF hF1) (zz5 _ (zz2 _)) rfl rfl) ?_|fail);refine CW.cutT (fun en w=>∃ en',en=ovl [(3,(pt b3)),(4,(pt b4)),(6,(pt b))] en'/\St w1 (mkL b (mkc s p1 e.nums q.na q.nc (e.texts.getD 0 ByteArray.empty)) Ma Mi Mu R) w) ?_ ?_
.by_cases ht:0<e.texts.length
 .refine CW.condT (congrArg Value.bool (yyb (show(e.texts.length:Int)>0 by omega))) ?_;(repeat' first|refine yX ?_|(refine y11 sg H ?_;intro w H)|refine z13 (zF sg rfl rfl (H.memF hF1) (zz5 _ (zz2 _)) rfl rfl) ?_|refine x40 sg hst ?_|refine z13 (zLB sg hst (H.memF hF2) ht) ?_|fail);exact⟨_,zA2 rfl rfl rfl,H⟩
 .refine CW.condF (congrArg Value.bool (yyc (show ¬(e.texts.length:Int)>0 by omega))) ?_;(repeat' first|refine yX ?_|fail);have e0:e.texts.getD 0 ByteArray.empty=ByteArray.empty:=by rw[yy2,List.getElem?_eq_none qO];rfl
  rw[e0];exact⟨_,zA2 rfl rfl rfl,H⟩
clear H;rintro _ w ⟨en2',rfl,H⟩;have hek:=ev.kind;obtain⟨hent,hkA,_⟩:=zQp e ev g hP H hC hF2 hM.nums;(repeat' first|refine yX ?_|(refine CW.regionL mixed 7 (H.memF hF1) [] ?_ ?_;exact rfl;refine wQ H ?_;clear H;intro w H;have qh:=H.memF hF1;refine lT sg 1 qh ?_;refine' l1 2 qh ?_ ?_;rotate_left;(exact z3 sg);refine lT sg 4 qh ?_)|refine lN ?_|(refine' l1 3 (H.memF hF1) ?_ ?_;rotate_left;(exact(fun w2 _=>Yq.arrIx sg rfl rfl rfl rfl rfl rfl rfl rfl (Eq.refl e.kind.toNat) qO qO hkA)))|(refine lT sg 6 (H.memF hF1) ?_)|refine l2 0 ?_|refine l2 5 ?_|(refine l5 (H.memF hF1) ?_)|(refine c0 ent119 ?_;refine⟨_,c_does _,?_⟩;clear H;intro w H)|(refine zW rfl rfl (En.clo hent rfl rfl rfl rfl) (zQp e ev g hP H hC hF2 hM.nums).2.2 ?_;rintro _ M w ⟨rfl,hR2⟩ H2;clear H;have H:=H2;clear H2)|fail);clear hent hkA;generalize zB6 s e.kind e.nums (e.texts.getD 0 ByteArray.empty)=r at *;have H9:=H0.addR H;clear H;have H:=H9;clear H9 H0 hF1;by_cases h7:r.2=0;rotate_left
.have d7:(r.2 != 0)=true:=by simpa using h7
 rw[if_neg h7];simp only[zca,zcb] at H;refine CW.condT (congrArg Value.bool d7) ?_;(repeat' first|refine yX ?_|(refine y11 sg H ?_;intro w H)|fail);exact zc (vs:=[_,_]) (M:=[]) ⟨zg sg rfl H.mem (zz2 _) rfl rfl,zP rfl,trivial⟩ (H.sub (zz9 _)) (zQq _)
have d7:(r.2 != 0)=false:=by simpa using h7
rw[if_pos h7];obtain⟨p2,Ma2,Mi2,Mu2,R2,rfl,hC2⟩:=hR2 h7;simp only[zca,zcb] at H;refine CW.condF (congrArg Value.bool d7) ?_;(repeat' first|refine yX ?_|(refine y11 sg H ?_;intro w H)|fail);exact zc (vs:=[_,_]) (M:=Ma2++(Mi2++(Mu2++R2))) ⟨zg sg rfl H.mem (zz2 _) rfl rfl,zP rfl,trivial⟩ (H.sub ((zz7 _ _).trans ((zz7 _ _).trans ((zz7 _ _).trans (zz7 _ _))))) ⟨p2,Ma2,Mi2,Mu2,R2,by rw[h7];rfl,rfl,hC2⟩}
end
end
section
open Go Go.Sk Go.RowKit Go.Proofs.Tryz
attribute [local irreducible] Go.Calls
theorem zDc {l:List Evt}{j:Nat}(h:j<l.length):ev_ l j∈l:=by unfold ev_;rw[yy2,yy1 h];exact List.getElem_mem h
theorem mem_ev {l:List Evt}{e:Evt}(h:e∈l):∃ j,j<l.length/\e=ev_ l j:=by obtain⟨j,hj,rfl⟩:=List.getElem_of_mem h;exact⟨j,hj,by unfold ev_;rw[yy2,yy1 hj];rfl⟩
end
section
open Go Go.Sk Go.RowKit Go.Proofs.Tryz
attribute [local irreducible] Go.Calls
section
variable {F:zA}{s:Sta}{p:SPt}
theorem zVR (hW:StaW s)(e:Evt)(q:EPt)(hE:zAr e)(w0:World)(hF:Mem w0 F)(hP:PriM F)(hK:KinM F)(hs:StaM F s p)(hM:EvtM F e q) :
  Cf 115 [.agg (s.cells p).toArray,.agg (e.cells q).toArray] (StC (zM s e)) w0:=by{
have hmay:=fun w h1=>zCm s p hW w (F:=F) h1 hs;cases h0:zCP s with
| false =>
  have d0:(!zCP s)=true:=by rw[h0];rfl
  have eP:zM s e=(zBg,4):=by unfold zM;rw[h0];rfl
  rw[eP];refine eS func115 ntmps115 fun H=>?_;(repeat' first|refine yW ?_|(refine yB ?_;intro b w H)|(refine y11 sg H ?_;intro w H)|(refine c0 zCz ?_;refine⟨_,hmay _ (H.memF hF),?_⟩;clear H;intro w H)|fail);exact zc (vs:=[_,_]) (M:=[]) ⟨zg sg rfl H.mem (zz2 _) rfl rfl,zP rfl,trivial⟩ (H.sub (zz9 _)) (zQq 4)
| true =>
  have d0:(!zCP s)=false:=by rw[h0];rfl
  have g:=zAl.1 h0;have eP:zM s e=zAG s e:=by unfold zM;rw[if_pos h0]
  rw[eP];refine eS func115 ntmps115 fun H=>?_;(repeat' first|refine yW ?_|(refine yB ?_;intro b w H)|(refine y11 sg H ?_;intro w H)|(refine c0 zCz ?_;refine⟨_,hmay _ (H.memF hF),?_⟩;clear H;intro w H)|(refine f0 ent80 ?_;refine⟨_,zNh g e q hE _ (H.memF hF) hP hK hs hM,?_⟩;clear H;intro v M w hR H;(try simp only[zca,zcb] at H);obtain⟨p2,Ma,Mi,Mu,R,rfl,rfl,hC⟩:=hR)|fail);exact zc (vs:=[_,_]) (M:=Ma++(Mi++(Mu++R))) ⟨zg sg rfl H.mem (zz2 _) rfl rfl,zP rfl,trivial⟩ (H.sub ((zz7 _ _).trans ((zz7 _ _).trans (zz7 _ _)))) ⟨p2,Ma,Mi,Mu,R,rfl,rfl,hC⟩}
def AllR (r:Sta × Int × Int)(M:zA)(v:Value):Prop:=∃ p Ma Mi Mu R,v=.tuple #[.agg (r.1.cells p).toArray,.int .i64 r.2.1,.int .i64 r.2.2]/\M=Ma++(Mi++(Mu++R))/\Cps r.1 p Ma Mi Mu R
theorem all_z (k e:Int):AllR (zBg,k,e) [] (.tuple #[.agg (zBg.cells SPt.n0).toArray,.int .i64 k,.int .i64 e]):=⟨SPt.n0,[],[],[],[],rfl,rfl,cps_z⟩
structure AI where
 k:Nat
 c:Sta
 p:SPt
 Ma:zA
 Mi:zA
 Mu:zA
 R:zA
theorem zSM {s c:Sta}{l:List Evt}{k:Nat}{i:Int}(hk:k<l.length)(h:zAx s (l.take k) 0=(c,i,0)):zAx s (l.take (k+1)) 0=if (zAG c (ev_ l k)).2=0 then((zAG c (ev_ l k)).1,i+1,0) else(zBg,i,(zAG c (ev_ l k)).2):=by{
have e:l.take (k+1)=l.take k++[ev_ l k]:=by rw[yyj hk];unfold ev_;simp[yy1 hk]
rw[e,zLz,h,if_pos rfl,all_cons];split
.rfl
.rfl}
theorem zVS {a:OA}{cap:Nat}(hW:StaW s)(l:List Evt)(q:Nat->EPt)(hT:∀ e∈l,zAr e)(w0:World)(hF:Mem w0 F)(hP:PriM F)(hK:KinM F)(hs:StaM F s p)(hM:EvsM F a cap l q) :
  Cf 39 [.agg (s.cells p).toArray,.slice a l.length cap] (AllR (zCs s l)) w0:=by{
have hmay:=fun w h1=>zCm s p hW w (F:=F) h1 hs;cases h0:zCP s with
| false =>
  have d0:(!zCP s)=true:=by rw[h0];rfl
  have eP:zCs s l=(zBg,0,4):=by unfold zCs;rw[h0];rfl
  rw[eP];refine eS func39 ntmps39 fun H=>?_;(repeat' first|refine yW ?_|(refine yB ?_;intro b w H)|(refine y11 sg H ?_;intro w H)|(refine c0 zCz ?_;refine⟨_,hmay _ (H.memF hF),?_⟩;clear H;intro w H)|fail);exact zc (vs:=[_,_,_]) (M:=[]) ⟨zg sg rfl H.mem (zz2 _) rfl rfl,zP rfl,zP rfl,trivial⟩ (H.sub (zz9 _)) (all_z 0 4)
| true =>
have d0:(!zCP s)=false:=by rw[h0];rfl
have g:=zAl.1 h0;have eP:zCs s l=zAx s l 0:=by unfold zCs;rw[if_pos h0]
rw[eP];obtain⟨⟨hnl,hcl,bl,offl,csl,Tl,frl,hsl⟩,hev⟩:=hM;refine eS func39 ntmps39 fun H=>?_;(repeat' first|refine yX ?_|(refine yB ?_;intro b w H)|(refine c0 zCz ?_;refine⟨_,hmay _ (H.memF hF),?_⟩;clear H;intro w H)|fail);refine CW.condF (congrArg Value.bool d0) ?_;(repeat' first|refine yX ?_|(refine y11 sg H ?_;intro w H)|(refine f0 zMc ?_;refine⟨_,zJf s p (zBJ g) _ (H.memF hF) hs,?_⟩;clear H;intro v M w hR H;(try simp only[zca,zcb] at H);obtain⟨p1,Ma,Mi,Mu,R,rfl,rfl,hC⟩:=hR)|fail);rename_i b2 _ _ _ _ _ _;refine zD [(5,10),(19,36)] (fun x:AI=>[(19,.int .i64 (x.k:Int))]) (fun x w=>x.k<=l.length/\zAx s (l.take x.k) 0=(x.c,(x.k:Int),0)/\Good x.c/\Cps x.c x.p x.Ma x.Mi x.Mu x.R/\St w0 (cb b zJe 40::cb b2 (x.c.cells x.p) 40::(x.Ma++(x.Mi++(x.Mu++x.R)))) w) (fun x=>l.length - x.k) ⟨0,s,p1,Ma,Mi,Mu,R⟩ ⟨rfl,trivial⟩ ⟨zzD _,rfl,g,hC,H⟩ ?_;clear H hC;rintro⟨k,c,pc,Ma,Mi,Mu,R⟩ gh w ⟨hk,hal,gc,hC,H⟩;simp only at hk hal gc hC H ⊢;(repeat' first|refine yX ?_|fail);refine zB rfl (fun h=>?_) (fun h=>?_)
.have hlt:k<l.length:=by have:=zzA h;omega
 clear h;have hsn:=zSM hlt hal;have hhap:=fun w (L:zA) (hG:Mem w (L++F)) (hsub:(Ma++(Mi++(Mu++R)))⊆L)=>zNh (p:=pc) gc (ev_ l k) (q k) (hT _ (zDc hlt)) w hG (hP.mono (zz8 _ _)) (hK.mono (zz8 _ _)) ((hC.sta (zBJ gc)).mono fun x hx=>zz6 _ (hsub hx)) ((hev k hlt).mono (zz8 _ _));(repeat' first|refine yX ?_|(refine yB ?_;intro b w H)|(refine y11 sg H ?_;intro w H)|refine x40 sg hsl ?_|refine x42 sg hsl (H.memF hF) ?_|(refine f0 ent80 ?_;refine⟨_,hhap _ _ (H.all hF) (fun p hp=>by repeat (first|exact hp|apply zz4)),?_⟩;clear H;intro v M w hR H;(try simp only[zca,zcb] at H);obtain⟨p2,Ma2,Mi2,Mu2,R2,rfl,rfl,hC2⟩:=hR)|fail);have hgood:(zAG c (ev_ l k)).2=0->Good (zAG c (ev_ l k)).1:=fun e=>zEu gc (Prod.ext rfl e);generalize zAG c (ev_ l k)=r at *;by_cases h7:r.2=0
 .have d7:(r.2 != 0)=false:=by{simpa using h7};rw[if_pos h7] at hsn
  refine CW.condF (congrArg Value.bool d7) ?_;(repeat' first|refine yX ?_|(refine y11 sg H ?_;intro w H)|fail);refine zC ⟨k+1,r.1,p2,Ma2,Mi2,Mu2,R2⟩ rfl ⟨zU qO,trivial⟩ ⟨hlt,by rw[hsn];simp only[Int.natCast_add];rfl,hgood h7,hC2,H.sub (yy6 _ (yy6 _ (yy5 _ (yy5 _ (yyx _ _)))))⟩ (by show l.length - (k+1)<l.length - k;omega)
 .have d7:(r.2 != 0)=true:=by{simpa using h7};rw[if_neg h7] at hsn
  have hend:zAx s l 0=(zBg,(k:Int),r.2):=by have e:l=l.take (k+1)++l.drop (k+1):=(List.take_append_drop _ _).symm;rw[e,zLz,hsn,if_neg h7]
  rw[hend];refine CW.condT (congrArg Value.bool d7) ?_;(repeat' first|refine yX ?_|(refine y11 sg H ?_;intro w H)|fail);exact zc (vs:=[_,_,_]) (M:=[]) ⟨zg sg rfl H.mem qB rfl rfl,zP rfl,zP rfl,trivial⟩ (H.sub (zz9 _)) (all_z _ _)
.obtain rfl:k=l.length:=by have:=zzB h;omega
 clear h;rw[List.take_length] at hal;rw[hal];(repeat' first|refine yX ?_|(refine y11 sg H ?_;intro w H)|fail);exact zc (vs:=[_,_,_]) (M:=Ma++(Mi++(Mu++R))) ⟨zg sg rfl H.mem (zz2 _) rfl rfl,zP rfl,zP rfl,trivial⟩ (H.sub ((zz7 _ _).trans (zz7 _ _))) ⟨pc,Ma,Mi,Mu,R,rfl,rfl,hC⟩}
end
end
section
open Go Go.Sk Go.RowKit Go.ChangeShapes Go.WideShapes Go.Proofs.Tryz
attribute [local irreducible] Go.Calls
abbrev zBN:List (String × DataW Unit):=[("souk/book.prices",Rows.laid_souk_book_prices),("souk/schema.kinds",Rows.laid_souk_schema_kinds),("souk/schema.commands",Rows.laid_souk_schema_commands)]
theorem zEy {P:Program}{W:World}{n:String}{g:Nat}{cs:Array Value}(hg:P.globalNamed n=some g)(hv:W.var? P n=some cs):∃ T fr,(g,Obj.cells cs T fr)∈zDD W:=by{
simp only[World.var?,hg,Option.bind_some] at hv;split at hv
.rename_i cs' T fr e;cases hv;exact⟨T,fr,zIw e⟩
.cases hv}
section
variable {H:Type}{enc:TypeId × Value->H}{P:Program}{w:World}{base:Nat}{sp:Nat->Bool}{held:Bool}
theorem zIm {fuel:Nat}{t:TypeId}{cs:List Value}{x:DataW H × List MemPlace}{l:List UInt8}(ht:P.underlying t=some .string)(h:DataW.trod enc P w base sp held fuel t cs=some x)(hx:x.1=.lit (.string l)):cs=[.string ⟨l.toArray⟩]:=by obtain⟨s,rfl,rfl,_⟩:=DataW.trod_string ht h;simp only[DataW.lit.injEq,Lit.string.injEq] at hx;subst hx;rfl
theorem zVT {fuel:Nat}{t:TypeId}{cs:List Value}{x:DataW H × List MemPlace}{b:Bool}(ht:P.underlying t=some .bool)(h:DataW.trod enc P w base sp held fuel t cs=some x)(hx:x.1=.lit (.bool b)):cs=[.bool b]:=by obtain⟨s,rfl,rfl⟩:=DataW.trod_bool ht h;simp only[DataW.lit.injEq,Lit.bool.injEq] at hx;subst hx;rfl
theorem zXR {fuel:Nat}{t:TypeId}{ps rs:Array TypeId}{vd:Bool}{cs:List Value}{x:DataW H × List MemPlace}(ht:P.underlying t=some (.func ps rs vd))(h:DataW.trod enc P w base sp held fuel t cs=some x)(hx:x.1=.nil):cs=[.nilFunc]:=by{
cases fuel with
| zero=>simp[DataW.trod] at h
| succ m =>
  unfold DataW.trod at h;rw[ht] at h;split at h<;>simp_all;obtain⟨_,rfl⟩:=h;simp at hx}
end
def kDat (r:KRow):DataW Unit:=.agg [.lit (.string (r.name.map UInt8.ofNat)),.agg [.lit (.string (r.f1.map UInt8.ofNat)),.lit (.string (r.f2.map UInt8.ofNat)),.lit (.string (r.f3.map UInt8.ofNat))],.lit (.bool r.text)]
theorem zSN:(Rows.laid_souk_schema_kinds:DataW Unit)=.agg ((List.range 23).map fun i=>kDat (zJG i)):=by kernel_rfl
set_option maxRecDepth 20000 in
theorem zKu {w:World}{held:Bool}{fuel:Nat}{cs:List Value}{x:DataW Unit × List MemPlace}(r:KRow)(h:DataW.trod (fun _=>()) prog w 0 (fun _=>true) held fuel 153 cs=some x)(hx:x.1=kDat r):cs=r.cells:=by{
obtain⟨xs,n,rfl,rfl,hl,hn,hel⟩:=DataW.trod_struct (sg.desc rfl rfl) h;have hc:prog.cellsOf 153=5:=sg.ncells rfl rfl;have hs:prog.cellsOf 9=1:=sg.ncells rfl rfl;have ha:prog.cellsOf 151=3:=sg.ncells rfl rfl;have hb:prog.cellsOf 4=1:=sg.ncells rfl rfl;rw[hc] at hl;match cs,hl with
| [c0,c1,c2,c3,c4],_ =>
match xs,hn with
| [x0,x1,x2],_ =>
have h0:=hel 0 _ rfl;have h1:=hel 1 _ rfl;have h2:=hel 2 _ rfl;simp only[kDat,List.map_cons,List.map_nil,DataW.agg.injEq,List.cons.injEq,and_true] at hx;obtain⟨e0,e1,e2⟩:=hx;have k0:=zIm (sg.desc rfl rfl) h0 e0;have k2:=zVT (sg.desc rfl rfl) h2 e2;obtain⟨ys,n',_,rfl,_,hn',hel'⟩:=DataW.trod_array (sg.desc rfl rfl) h1;match ys,hn' with
| [y0,y1,y2],_ =>
simp only[List.map_cons,List.map_nil,DataW.agg.injEq,List.cons.injEq,and_true] at e1;obtain⟨f0,f1,f2⟩:=e1;have l0:=zIm (sg.desc rfl rfl) (hel' 0 (by decide)) f0;have l1:=zIm (sg.desc rfl rfl) (hel' 1 (by decide)) f1;have l2:=zIm (sg.desc rfl rfl) (hel' 2 (by decide)) f2;simp[hs,ha,hb] at k0 k2 l0 l1 l2;subst k0 k2 l0 l1 l2;rfl}
theorem gKin:prog.globalNamed "souk/schema.kinds"=some 1:=by kernel_rfl
theorem gPri:prog.globalNamed "souk/book.prices"=some 0:=by kernel_rfl
theorem tKin:(prog.globals[1]?).map (·.type)=some 197:=by kernel_rfl
theorem tPri:(prog.globals[0]?).map (·.type)=some 95:=by kernel_rfl
theorem zVU:(Rows.laid_souk_schema_commands:DataW Unit)=.agg ((List.range 20).map fun i=>kDat (zIU i)):=by kernel_rfl
theorem gCom:prog.globalNamed "souk/schema.commands"=some 2:=by kernel_rfl
theorem tCom:(prog.globals[2]?).map (·.type)=some 291:=by kernel_rfl
theorem zQs {W:World}(h:laidMetH prog zBN W):laidMet prog [("souk/schema.kinds",Rows.laid_souk_schema_kinds),("souk/schema.commands",Rows.laid_souk_schema_commands)] W:=by{
have e1:(zBN.filter fun x=>x.2.handleName?.isSome)=[("souk/book.prices",Rows.laid_souk_book_prices)]:=by kernel_rfl
have e2:(zBN.filter fun x=>x.2.handleName?.isNone)=[("souk/schema.kinds",Rows.laid_souk_schema_kinds),("souk/schema.commands",Rows.laid_souk_schema_commands)]:=by kernel_rfl
unfold laidMetH at h;rw[e1,e2] at h;exact h.1}
set_option maxRecDepth 20000 in
theorem zJo {W:World}(h:laidMetH prog zBN W):KinM (zDD W):=by
 have hm:=zQs h;obtain⟨ps,⟨g,t,cs,f,p,q,hg,ht,hv,hd,_,_⟩,_⟩:=hm;obtain rfl:=Option.some.inj (gKin.symm.trans hg);obtain rfl:=Option.some.inj (tKin.symm.trans ht);obtain⟨T,fr,hb⟩:=zEy gKin hv;obtain⟨xs,m,rfl,hx,hl,hn,hel⟩:=DataW.trod_array (sg.desc rfl rfl) hd;have hc:prog.cellsOf 153=5:=sg.ncells rfl rfl;have hC:prog.cellsOf 197=115:=sg.ncells rfl rfl;rw[hC] at hl;rw[zSN] at hx;simp only[Prod.mk.injEq,DataW.agg.injEq] at hx;refine⟨cs.toList,T,fr,fun _=>⟨rfl,hb,fun j hj=>⟨by rw[hl];omega,?_⟩⟩⟩;have h1:=hel j hj;rw[hc] at h1;rw[yyv];have hjx:j<xs.length:=by omega
 rw[yy1 hjx] at h1;refine zKu (zJG j) h1 ?_;have:=congrArg (fun l:List (DataW Unit)=>l[j]?) hx.1;simp only[List.getElem?_map,List.getElem?_range hj,yy1 hjx,Option.map_some,Option.some.injEq] at this;exact this.symm
set_option maxRecDepth 20000 in
theorem zJp {W:World}(h:laidMetH prog zBN W):ComM (zDD W):=by
 have hm:=zQs h;obtain⟨ps,⟨_,_,_,_,_,_,_,_,_,_,hk,_⟩,_⟩:=hm;obtain⟨g,t,cs,f,p,q,hg,ht,hv,hd,_,_⟩:=hk;obtain rfl:=Option.some.inj (gCom.symm.trans hg);obtain rfl:=Option.some.inj (tCom.symm.trans ht);obtain⟨T,fr,hb⟩:=zEy gCom hv;obtain⟨xs,m,rfl,hx,hl,hn,hel⟩:=DataW.trod_array (sg.desc rfl rfl) hd;have hc:prog.cellsOf 153=5:=sg.ncells rfl rfl;have hC:prog.cellsOf 291=100:=sg.ncells rfl rfl;rw[hC] at hl;rw[zVU] at hx;simp only[Prod.mk.injEq,DataW.agg.injEq] at hx;refine⟨cs.toList,T,fr,fun _=>⟨rfl,hb,fun j hj=>⟨by rw[hl];omega,?_⟩⟩⟩;have h1:=hel j hj;rw[hc] at h1;rw[yyv];have hjx:j<xs.length:=by omega
 rw[yy1 hjx] at h1;refine zKu (zIU j) h1 ?_;have:=congrArg (fun l:List (DataW Unit)=>l[j]?) hx.1;simp only[List.getElem?_map,List.getElem?_range hj,yy1 hjx,Option.map_some,Option.some.injEq] at this;exact this.symm
set_option maxRecDepth 20000 in
theorem zJq {W:World}(h:laidMetH prog zBN W):PriM (zDD W):=by{
obtain⟨g,t,cs,f,p,hg,ht,hv,hd⟩:=h.funcs (n:="souk/book.prices") (List.mem_cons_self ..);obtain rfl:=Option.some.inj (gPri.symm.trans hg);obtain rfl:=Option.some.inj (tPri.symm.trans ht);obtain⟨T,fr,hb⟩:=zEy gPri hv;have hd':DataW.trod (funcToken prog) prog W 0 (fun _=>true) true f 95 cs.toList=some (.agg [.nil,.held [115,111,117,107,47,98,111,111,107,46,112,114,105,99,101,115,36,49],.held [115,111,117,107,47,98,111,111,107,46,112,114,105,99,101,115,36,50]],p):=hd;obtain⟨xs,m,rfl,hx,hl,hn,hel⟩:=DataW.trod_array (sg.desc rfl rfl) hd';have hc:prog.cellsOf 91=1:=sg.ncells rfl rfl;have hC:prog.cellsOf 95=3:=sg.ncells rfl rfl;rw[hC] at hl;match xs,hn with
| [x0,x1,x2],_ =>
simp only[Prod.mk.injEq,List.map_cons,List.map_nil,DataW.agg.injEq,List.cons.injEq,and_true] at hx;obtain⟨⟨e0,e1,e2⟩,_⟩:=hx;obtain⟨csl⟩:=cs;match csl,hl with
| [c0,c1,c2],_ =>
have h0:=hel 0 (by decide);have h1:=hel 1 (by decide);have h2:=hel 2 (by decide);rw[hc] at h0 h1 h2;have k0:=zXR (sg.desc rfl rfl) h0 e0.symm;obtain⟨y1,z1⟩:=x1;obtain⟨y2,z2⟩:=x2;subst e1 e2;have k1:c1=_:=func_of_trod (f0:=331) (v:=c1) (sg.desc rfl rfl) (by kernel_rfl) h1;have k2:c2=_:=func_of_trod (f0:=332) (v:=c2) (sg.desc rfl rfl) (by kernel_rfl) h2;simp at k0;subst k0 k1 k2;refine⟨_,T,fr,fun _=>⟨rfl,hb,fun j hj=>?_⟩⟩;match j,hj with
| 0,_=>exact⟨by simp,rfl⟩
| 1,_=>exact⟨by simp,rfl⟩
| 2,_=>exact⟨by simp,rfl⟩}
section
variable {H:Type}{enc:TypeId × Value->H}{w:World}
set_option maxRecDepth 20000 in
theorem zVV {cs:List Value}(h:Rz enc prog w 29 cs):∃ x:Cmd × CPt,cs=x.1.cells x.2.1 x.2.2/\Ints (zDD w) x.2.1 x.2.2 x.1.nums/\zGG x.1:=by have h:=h.struct (sg.desc rfl rfl) (by kernel_rfl);obtain⟨x0,cs,rfl,b0,h⟩:=h.int (sg.desc rfl rfl) (sg.ncells rfl rfl);obtain⟨a2,n2,c2,cs,rfl,h2,h⟩:=h.slice (sg.desc rfl rfl) (sg.ncells rfl rfl) (sg.ncells rfl rfl) (sg.nbytes rfl rfl);obtain⟨t,cs,rfl,bt,h⟩:=h.string (sg.desc rfl rfl) (sg.ncells rfl rfl);obtain rfl:=h.nil;obtain⟨l2,rfl,m2,_⟩:=h2.named (el:=fun x:Int=>[.int .i64 x]) (fun _=>zUd);have b0:=zNN b0;exact⟨⟨⟨x0,l2,t⟩,(a2,c2)⟩,rfl,m2,⟨by simp only;omega,bt⟩⟩
end
end
end Go.Proofs.YtejhijhnlogikaaGreatDoor
