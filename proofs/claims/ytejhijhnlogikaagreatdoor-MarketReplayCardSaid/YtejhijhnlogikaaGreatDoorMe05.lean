/- Steps of the proof. -/
import Derived.ChangeKeysEq
import Derived.Test.YtejhijhnlogikaaGreatDoorMe04
set_option linter.all false
set_option maxHeartbeats 16000000
namespace Go.Sk
open Go Go.RowKit
section
attribute [local semireducible] Yq OX OW QX QW RA
variable {P:Program}(S:Sig P){o:Oper}{e:Env}{w:World}
theorem Yq.ixP {t E:TypeId}{x i:Operand}{b off n j:Nat}{k:IntKind}{q:Int}{ti te:TI}(hj:q.toNat=j)(h0:0<=q)(h1:q<n)(ho:o.op=.indexAddr t x i)
  (hx:ev e x=.pointer (some ⟨b,off,none⟩)) (hi:ev e i=.int k q) (ht:lk S.tab t=some ti) (htd:ti.d=.array n E) (he:lk S.tab E=some te):Yq P o e w (.pointer (some ⟨b,off+j*te.size,none⟩)):=by intro w' _;have hu:=S.run_und ht w';rw[htd] at hu;simp only[execOp,ho,Instr.indexAt,hx,hi,asIntOf,hu,Instr.sureAddr,Sem.run_bind,Sem.run_pure,Result.andThen_ok,h0,h1,and_self,if_true,S.run_size he,zAA,hj]
def cellsOf (el:Nat->List Value)(n:Nat):List Value:=(List.range n).flatMap el
theorem zRI {t E:TypeId}{ti te:TI}{n:Nat}{q:IntKind}(ht:lk S.tab t=some ti)(htd:ti.d=.array n E)(he:lk S.tab E=some te)(hed:te.d=.int q)(hsz:te.size=1){k:IntKind}(f g:Nat->Int)(w:World) :
  (Op.equalIn 10000 t (.agg ((List.range n).map fun j=>Value.int k (f j)).toArray) (.agg ((List.range n).map fun j=>Value.int k (g j)).toArray)).run P w=.ok ((List.range n).all fun j=>f j==g j) w:=by{
have hu:=S.run_und ht w;rw[htd] at hu;have hs:=S.run_size he w;rw[hsz] at hs;have hue:=S.und he;rw[hed] at hue;obtain⟨fi,hf1,hf2,_⟩:=S.inf he;have hc:P.cellsOf E=1:=by unfold Program.cellsOf;rw[hf1];simp[hf2,hsz]
have hut:=S.und ht;rw[htd] at hut;rw[show(10000:Nat)=9999+1 from rfl,run_equalIn_array w 9999 _ _ hut hf1,hc]
have hp:∀ (h:Nat->Int) (i:Nat),i<n->(part E ((List.range n).map fun j=>Value.int k (h j)).toArray (i*1)).run P w=.ok (.int k (h i)) w:=fun h i hi =>
 zC3 S he _ _ (by rw[show zBP te.d=false by rw[hed];rfl];simp[hi]) w
have hE:∀ i,(Op.equalIn 9999 E (.int k (f i)) (.int k (g i))).run P w=.ok (f i==g i) w:=fun i=>run_equalIn_int w 9998 E _ _ _ _ hue;have key:∀ (is:List Nat),(∀ i∈is,i<n)->(Op.eqItems 9999 E 1 ((List.range n).map fun j=>Value.int k (f j)).toArray ((List.range n).map fun j=>Value.int k (g j)).toArray is).run P w=.ok (is.all fun j=>f j==g j) w:=by
 intro is;induction is with
 | nil=>intro _;rfl
 | cons i is ih =>
   intro hi;have ih:=ih fun x hx=>hi x (zz4 _ hx);have h0:=hi i (zz2 _);simp only[Op.eqItems,Sem.run_bind,hp f i h0,hp g i h0,hE,Result.andThen_ok,List.all_cons];by_cases hfg:f i=g i
   .simpa [hfg] using ih
   .simp[hfg]
exact key _ fun i hi=>List.mem_range.1 hi}
theorem Yq.build0 {t E:TypeId}{n:Nat}{ti te:TI}(ho:o.op=.build t #[])(ht:lk S.tab t=some ti)(htd:ti.d=.array n E)(he:lk S.tab E=some te):Yq P o e w (.agg ti.zero.toArray):=by
 intro w' _;have hu:=S.run_und ht w';rw[htd] at hu;obtain⟨f,h1,_,h3⟩:=S.inf ht;obtain⟨zv,hz1,hz2⟩:=Option.map_eq_some_iff.1 h3;have hzv:(zeroValue t).run P w'=.ok zv w':=by simp[zeroValue,typeInfo,h1,hz1]
 simp[execOp,ho,Instr.build,hu,hzv,hz2,S.run_size he,Instr.fill]
def zFG (k:IntKind)(n:Nat)(f:Nat->Int):List Value:=(List.range n).map fun j=>Value.int k (f j)
theorem zGp (k:IntKind)(n:Nat)(f:Nat->Int):(zFG k n f).length=n:=by simp[zFG]
theorem zGq {k:IntKind}{n j:Nat}(f:Nat->Int)(h:j<n):(zFG k n f)[j]?=some (.int k (f j)):=by simp[zFG,h]
def updI (f:Nat->Int)(j:Nat)(v:Int):Nat->Int:=fun i=>if i=j then v else f i
theorem zWN {k:IntKind}{n j:Nat}(f:Nat->Int)(v:Int)(h:j<n):wr (zFG k n f) (0+j*1) [.int k v]=zFG k n (updI f j v):=by{
apply List.ext_getElem?;intro i;rw[zFN (by rw[zGp];simp;omega)];simp only[yyo,Nat.mul_one,yyv];by_cases hi:i=j
.subst hi;rw[if_pos (by omega),zGq _ h,Nat.sub_self];simp[updI]
.rw[if_neg (by omega)];rcases Nat.lt_or_ge i n with g|g
 .rw[zGq _ g,zGq _ g];simp[updI,hi]
 .rw[List.getElem?_eq_none (by rw[zGp];exact g),List.getElem?_eq_none (by rw[zGp];exact g)]}
theorem Yq.loadA {M:zA}{t:TypeId}{x:Operand}{b n j:Nat}{T:TypeId}{k:IntKind}{f:Nat->Int}{ti:TI}(hM:Mem w M)(hm:cb b (zFG k n f) T∈M)(hj:j<n)(ho:o.op=.load t x)(hx:ev e x=.pointer (some ⟨b,0+j*1,none⟩))(ht:lk S.tab t=some ti)(hag:zBP ti.d=false):Yq P o e w (.int k (f j)):=by refine Yq.load S ho hx hM hm ht ?_;unfold ldv;rw[hag];simp only[cond_false];rw[Nat.mul_one,yyv];exact zGq f hj
theorem Yq.eqlA {t E:TypeId}{x y:Operand}{yT:TypeId}{n:Nat}{k q:IntKind}{f g:Nat->Int}{ti te:TI}(eg:P.eqGuardType P.depth t=false)(hx:ev e x=.agg (zFG k n f).toArray)(hy:ev e y=.agg (zFG k n g).toArray)
  (ho:o.op=.binOp .eql t x y yT) (ht:lk S.tab t=some ti) (htd:ti.d=.array n E) (he:lk S.tab E=some te) (hed:te.d=.int q) (hsz:te.size=1):Yq P o e w (.bool ((List.range n).all fun j=>f j==g j)):=by
 refine Yq.of fun w'=>?_;have hr:=zRI S ht htd he hed hsz (k:=k) f g w';have h2:(binOp .eql t (.agg (zFG k n f).toArray) (.agg (zFG k n g).toArray)).run P w'=.ok (.bool ((List.range n).all fun j=>f j==g j)) w':=by rw[run_eql_struct];unfold zFG;rw[hr];rfl
 simp only[execOp,ho,hx,hy,Sem.run_bind,run_eqGuard_agg w' _ _ _ _ _ _ eg,Result.andThen_ok,h2,Sem.run_pure]
end
section
variable {P:Program}{n:Nw}{ops:Array Oper}{Q:zAM}{o:Oper}{rest:List Oper}{L:List (Nat × Value)}{b0:Env}{w:World}(S:Sig P)
theorem OX.storeA {w0:World}{G G':zA}{t:TypeId}{x y:Operand}{b m j:Nat}{T:TypeId}{k:IntKind}{f:Nat->Int}{v:Int}{ti:TI}(H:St w0 G w)(hj:j<m)(hu:Up b (.cells (zFG k m f).toArray T (0,0)) (.cells (zFG k m (updI f j v)).toArray T (0,0)) G G')
  (kk:∀ w',St w0 G' w'->OW P n ops Q rest (ovl L b0) w') (ho:o.op=.store t x y:=by exact rfl) (hd:o.dst=none:=by exact rfl)
  (hx:ev (ovl L b0) x=.pointer (some ⟨b,0+j*1,none⟩):=by exact rfl) (hy:ev (ovl L b0) y=.int k v:=by exact rfl) (ht:lk S.tab t=some ti:=by exact rfl) (hsz:ti.size=1:=by exact rfl):OX P n ops Q o rest (ovl L b0) w:=by rw[<- zWN (k:=k) f v hj] at hu;exact OX.storeX S H ho hd hx hy (v:=.int k v) (vs:=[.int k v]) rfl ht (by rw[hsz];rfl) hu (by rw[zGp];simp;omega) (by intro u hu;rw[yyd] at hu;subst hu;rfl) kk
end
end Go.Sk
namespace Go.Proofs.YtejhijhnlogikaaGreatDoor
open Go Go.Sk Go.RowKit Tryz
attribute [local irreducible] Go.Calls
def zCf (a s:Int):Bool:=decide (0<=a)&&decide (a<=64)&&decide (0<=s)&&decide (s<=16)
theorem zDG (a s:Int):zCf a s=true↔(0<=a/\a<=64/\0<=s/\s<=16):=by simp only[zCf,yy3,decide_eq_true_eq];omega
def plc2 (a s:Int):List Value:=[.int .i64 a,.int .i64 s]
theorem zLT (a s:Int)(w0:World):Cr 237 [.agg (plc2 a s).toArray] (.bool (zCf a s)) w0:=by{
refine eS func237 ntmps237 fun H=>?_;(repeat' first|refine yW ?_|(refine yB ?_;intro b w H)|(refine y17 ?_ ?_;all_goals intro h)|fail);all_goals simp only[decide_eq_true_eq,yyy,ge_iff_le] at *
all_goals first
 | exact zG rfl H.cl (congrArg Value.bool (by unfold zCf;simp only[*,decide_true,decide_false,Bool.true_and,Bool.and_true,Bool.false_and,Bool.and_false]))}
def orF (x y:Int):Int:=if x=0 then y else x
theorem zTh {b:Nat}{T:TypeId}{fr:Nat × Nat}{F:zA}(x y:Int)(w0:World)(hF:Mem w0 F)(hm:(b,Obj.cells [Value.int .i64 x,Value.int .i64 y].toArray T fr)∈F) :
  Cr 139 [.slice (some ⟨b,0,none⟩) 2 2] (.int .i64 (orF x y)) w0:=by{
have hs:SlB F 1 (some ⟨b,0,none⟩) 2 b 0 [.int .i64 x,.int .i64 y] T fr (fun j=>[.int .i64 (if j=0 then x else y)]):=fun _=>⟨rfl,hm,fun j hj=>by
 have:j=0\/j=1:=by omega
 rcases this with rfl|rfl<;>exact⟨by simp,rfl⟩⟩
refine eS func139 ntmps139 fun H=>?_;(repeat' first|refine yX ?_|fail);refine zD [(2,2),(5,5),(8,16)] (fun k:Nat=>[(8,.int .i64 (k:Int))]) (fun k w=>k<=2/\(0<k->x=0)/\(1<k->y=0)/\St w0 [] w) (fun k=>2 - k) 0 ⟨rfl,trivial⟩ ⟨zzD _,fun h=>absurd h qO,fun h=>absurd h qO,H⟩ ?_;clear H;rintro k gh w ⟨hk,h1,h2,H⟩;(repeat' first|refine yX ?_|fail);refine zB rfl (fun h=>?_) (fun h=>?_)
.have hlt:k<2:=by have:=zzA h;omega
 clear h;(repeat' first|refine yX ?_|refine x40 sg hs ?_|(refine y46 sg (hs) ((H.memF hF)) ?_ ?_;(omega))|fail);refine zB rfl (fun h=>?_) (fun h=>?_)
 ·(repeat' first|refine yX ?_|fail);have h:¬ (if k=0 then x else y)=0:=by{simpa using h};refine zG rfl H.cl (congrArg (Value.int .i64) ?_)
  rcases(show k=0\/k=1 by omega) with rfl|rfl
  .rw[if_pos rfl] at h ⊢;unfold orF;rw[if_neg h]
  .rw[if_neg qO];unfold orF;rw[if_pos (h1 qO)]
 .have h:(if k=0 then x else y)=0:=by{simpa using h};(repeat' first|refine yX ?_|fail)
  refine zC (k+1) rfl ⟨zU qO,trivial⟩ ⟨hlt,fun _=>?_,fun g=>?_,H⟩ qO
  .rcases(show k=0\/k=1 by omega) with rfl|rfl
   .rw[if_pos rfl] at h;exact h
   .exact h1 qO
  .obtain rfl:k=1:=by{omega};rw[if_neg qO] at h;exact h
.obtain rfl:k=2:=by have:=zzB h;omega
 (repeat' first|refine yX ?_|fail);exact zG rfl H.cl (congrArg (Value.int .i64) (by unfold orF;rw[h1 qO,if_pos rfl,h2 qO]))}
def zOW (a s b t:Int):Int:=orF (zCO a b) (zCO s t)
theorem zPy (a s b t:Int):zOW a s b t<0↔(a<b\/a=b/\s<t):=by
 unfold zOW orF zCO;repeat' split
 all_goals omega
theorem zTi (a s b t:Int)(w0:World):Cr 238 [.agg (plc2 a s).toArray,.agg (plc2 b t).toArray] (.int .i64 (zOW a s b t)) w0:=by refine eS func238 ntmps238 fun H=>?_;(repeat' first|refine yS ?_|(refine yB ?_;intro b w H)|refine y12 ?_|(refine CW.regionR mixed ?_;refine wQ H ?_;clear H;intro w H;(with_reducible apply RW.quiet 10);exact rfl;decide +kernel;simp only[List.append_eq,List.cons_append,List.nil_append,List.take_succ_cons,List.take_zero,List.drop_zero])|(refine q0 ent267 ?_;refine⟨_,fun _ hcl=>zOS _ _ _,?_⟩)|(refine c0 zOH ?_;refine⟨_,zTh _ _ _ (H.mem) (zz2 _),?_⟩;clear H;intro w H)|refine yU ?_|(refine qN H ?_;clear H;intro w H)|fail);exact zG rfl H.cl rfl
def zAR (acct free held:Int):Int:=if acct=0 then 0 else if free<0\/held<0 then 47 else if free>1125899906842624\/held>1125899906842624\/free+held>1125899906842624 then 41 else 0
theorem zPz (a s f d:Int)(w0:World)(hf1:-9223372036854775808<=f)(hf2:f<=9223372036854775807)(hd1:-9223372036854775808<=d)(hd2:d<=9223372036854775807) :
  Cr 239 [.agg #[.int .i64 a,.int .i64 s,.int .i64 f,.int .i64 d]] (.int .i64 (zAR a f d)) w0:=by{
refine eS func239 ntmps239 fun H=>?_;(repeat' first|refine yW ?_|(refine yB ?_;intro b w H)|(refine y17 ?_ ?_;all_goals intro h)|(refine y23 ?_ ?_;all_goals intro h)|fail);all_goals simp only[decide_eq_true_eq,yyy,ge_iff_le,gt_iff_lt,beq_iff_eq,yyq,ne_eq] at *
all_goals try rw[w64 qO qO] at h
all_goals exact zG rfl H.cl (congrArg (Value.int .i64) (by unfold zAR;(repeat' split)<;>omega))}
def zTj (r:Row4):Bool:=zCf r.acct r.asset&&!(r.free==0&&r.held==0)&&(if r.acct=0 then r.held==0 else decide (0<=r.free)&&decide (0<=r.held)&&decide (r.free+r.held<=1125899906842624))
def zFB (r:Row4):Prop:=(0<=r.acct/\r.acct<=64/\0<=r.asset/\r.asset<=16)/\¬ (r.free=0/\r.held=0)/\(r.acct=0->r.held=0)/\(r.acct≠0->0<=r.free/\0<=r.held/\r.free+r.held<=1125899906842624)
theorem zKQ (r:Row4):zTj r=true↔zFB r:=by{
unfold zTj zFB;rw[yy3,yy3,zDG];by_cases h:r.acct=0
.simp[h];omega
.simp[h];omega}
def ltR (a b:Row4):Bool:=decide (a.acct<b.acct)||(decide (a.acct=b.acct)&&decide (a.asset<b.asset))
def LtR (a b:Row4):Prop:=a.acct<b.acct\/a.acct=b.acct/\a.asset<b.asset
theorem zWO (a b:Row4):ltR a b=true↔LtR a b:=by simp[ltR,LtR]
def smR (l:List Row4)(a:Int):Nat->Int
 | 0=>0
 | k+1=>smR l a k+if (rw_ l k).asset=a then(rw_ l k).free+(rw_ l k).held else 0
def zP0 (l:List Row4)(k:Nat):Bool:=zTj (rw_ l k)&&(k==0||ltR (rw_ l (k - 1)) (rw_ l k))
def zAZ (l:List Row4):Bool:=(List.range l.length).all (fun k=>zP0 l k)&&(List.range 17).all fun a=>smR l (a:Nat) l.length==0
def RowsP (l:List Row4)(k:Nat):Prop:=∀ j,j<k->zFB (rw_ l j)/\(j=0\/LtR (rw_ l (j - 1)) (rw_ l j))
theorem zKR {l:List Row4}{k:Nat}:zP0 l k=true↔zFB (rw_ l k)/\(k=0\/LtR (rw_ l (k - 1)) (rw_ l k)):=by unfold zP0;rw[yy3,zKQ,Bool.or_eq_true,zWO];simp
theorem zBw {l:List Row4}:zAZ l=true↔RowsP l l.length/\∀ a:Nat,a<17->smR l a l.length=0:=by unfold zAZ RowsP;rw[yy3,yye,yye];simp only[yy8,zKR,beq_iff_eq]
theorem RowsP.succ {l:List Row4}{k:Nat}(h:RowsP l k)(h1:zFB (rw_ l k))(h2:k=0\/LtR (rw_ l (k - 1)) (rw_ l k)):RowsP l (k+1):=fun j hj=>by{
rcases(show j<k\/j=k by omega) with g|rfl
.exact h j g
.exact⟨h1,h2⟩}
theorem RowsP.lt {l:List Row4}{k:Nat}(h:RowsP l k):∀ {i j:Nat},i<j->j<k->LtR (rw_ l i) (rw_ l j):=by{
intro i j hij;induction j with
| zero=>omega
| succ j ih =>
  intro hj;have h2:=(h (j+1) hj).2.resolve_left qO;rw[Nat.add_sub_cancel] at h2;rcases(show i=j\/i<j by omega) with rfl|g
  .exact h2
  .have h1:=ih g qO;unfold LtR at *;omega}
def zR (l:List Row4)(a:Int):Nat->Int
 | 0=>0
 | k+1=>zR l a k+if (rw_ l k).asset=a/\(rw_ l k).acct=0 then(rw_ l k).free else 0
def pR (l:List Row4)(a:Int):Nat->Int
 | 0=>0
 | k+1=>pR l a k+if (rw_ l k).asset=a/\(rw_ l k).acct≠0 then(rw_ l k).free+(rw_ l k).held else 0
theorem zFx {l:List Row4}{a:Int}:∀ {k:Nat},RowsP l k->smR l a k=zR l a k+pR l a k
 | 0,_=>rfl
 | k+1,h=>by
   have ih:=zFx (a:=a) (fun j hj=>h j qO:RowsP l k)
   have hg:=(h k (Nat.lt_succ_self k)).1.2.2.1
   simp only[smR,zR,pR,ih]
   by_cases h1:(rw_ l k).asset=a
   .by_cases h2:(rw_ l k).acct=0
    .have:=hg h2;simp[h1,h2,this];omega
    .simp[h1,h2];omega
   .simp[h1]
theorem zP1 {l:List Row4}{a:Int}:∀ {k:Nat},RowsP l k->∃ m:Int,0<=m/\m<=64/\0<=pR l a k/\pR l a k<=1125899906842624*m/\(m=0\/∃ j,j<k/\(rw_ l j).acct=m/\(rw_ l j).asset=a)
 | 0,_=>⟨0,by omega,by omega,by simp[pR],by simp[pR],.inl rfl⟩
 | k+1,h=>by
   obtain⟨m,m1,m2,m3,m4,m5⟩:=zP1 (a:=a) (fun j hj=>h j qO:RowsP l k)
   have hg:=(h k (Nat.lt_succ_self k)).1
   simp only[pR]
   by_cases h1:(rw_ l k).asset=a/\(rw_ l k).acct≠0
   .rw[if_pos h1]
    obtain⟨g1,g2,g3⟩:=hg.2.2.2 h1.2
    have hlt:m<(rw_ l k).acct:=by
     rcases m5 with rfl|⟨j,j1,j2,j3⟩
     .have:=hg.1.1;omega
     .have:=h.lt j1 (Nat.lt_succ_self k)
      unfold LtR at this
      omega
    exact⟨(rw_ l k).acct,by omega,hg.1.2.1,by omega,by omega,.inr ⟨k,Nat.lt_succ_self k,rfl,h1.1⟩⟩
   .rw[if_neg h1]
    exact⟨m,m1,m2,by omega,by omega,m5.imp_right fun⟨j,j1,j2⟩=>⟨j,by omega,j2⟩⟩
theorem zR_no {l:List Row4}{a:Int}:∀ {k:Nat},(∀ j,j<k->¬ ((rw_ l j).asset=a/\(rw_ l j).acct=0))->zR l a k=0
 | 0,_=>rfl
 | k+1,h=>by
   simp only[zR]
   rw[zR_no (fun j hj=>h j qO),if_neg (h k (Nat.lt_succ_self k))];rfl
theorem zLU {l:List Row4}{a:Int}{n j:Nat}(h:RowsP l n)(hj:j<n)(h1:(rw_ l j).asset=a)(h2:(rw_ l j).acct=0):∀ {k:Nat},k<=n->zR l a k=if j<k then(rw_ l j).free else 0
 | 0,_=>by simp[zR]
 | k+1,hk=>by
   have ih:=zLU h hj h1 h2 (k:=k) qO
   simp only[zR,ih]
   rcases(show k<j\/k=j\/j<k by omega) with g|rfl|g
   .have:¬ ((rw_ l k).asset=a/\(rw_ l k).acct=0):=fun⟨q1,q2⟩=>by
     have:=h.lt g hj
     unfold LtR at this
     omega
    rw[if_neg this,if_neg qO,if_neg qO];rfl
   .rw[if_neg qO,if_pos ⟨h1,h2⟩,if_pos qO];omega
   .have:¬ ((rw_ l k).asset=a/\(rw_ l k).acct=0):=fun⟨q1,q2⟩=>by
     have:=h.lt g qO
     unfold LtR at this
     omega
    rw[if_pos g,if_neg this,if_pos qO];omega
theorem zWP {l:List Row4}(hl:zAZ l=true){a:Nat}(ha:a<17){k:Nat}(hk:k<=l.length):-72057594037927936<=smR l a k/\smR l a k<=72057594037927936:=by{
obtain⟨h,h0⟩:=zBw.1 hl;have hk2:RowsP l k:=fun j hj=>h j qO;obtain⟨m,m1,m2,m3,m4,_⟩:=zP1 (a:=a) h;obtain⟨m',p1,p2,p3,p4,_⟩:=zP1 (a:=a) hk2;have e1:=zFx (a:=a) h;have e2:=zFx (a:=a) hk2;rw[h0 a ha] at e1;by_cases hz:∃ j,j<l.length/\(rw_ l j).asset=a/\(rw_ l j).acct=0
.obtain⟨j,j1,j2,j3⟩:=hz;have z1:=zLU h j1 j2 j3 (zzC _);have z2:=zLU h j1 j2 j3 hk;rw[if_pos j1] at z1;split at z2<;>omega
.have z2:zR l a k=0:=zR_no fun j hj hh=>hz ⟨j,by omega,hh.1,hh.2⟩;omega}
theorem zRJ {l:List Row4}(hl:zAZ l=true){j:Nat}(hj:j<l.length)(h0:(rw_ l j).acct=0):-72057594037927936<=(rw_ l j).free/\(rw_ l j).free<=0:=by
 obtain⟨h,h1⟩:=zBw.1 hl;have hg:=(h j hj).1.1;have ha:(rw_ l j).asset=(((rw_ l j).asset.toNat:Nat):Int):=by omega
 obtain⟨m,m1,m2,m3,m4,_⟩:=zP1 (a:=(rw_ l j).asset) h;have e1:=zFx (a:=(rw_ l j).asset) h;have z1:=zLU h hj rfl h0 (zzC _);rw[if_pos hj] at z1;have:=h1 (rw_ l j).asset.toNat qO;rw[<- ha] at this;omega
def zLV (z:Int):List Value:=[.int .i64 (z / 18446744073709551616),.int .u64 (z % 18446744073709551616)]
theorem zRK (x y:Int)(hx:0<=x)(hy:0<=y)(w:World):(callFunc 202 [Value.int .u64 x,Value.int .u64 y,Value.int .u64 0].toArray).run prog w =
  .ok (.value (.tuple #[.int .u64 ((x+y+0) % 18446744073709551616),.int .u64 ((x+y+0) / 18446744073709551616)])) w:=by rw[run_callFunc_extern (e:=add64Entry) func202 (by kernel_rfl) (by kernel_rfl) (by kernel_rfl) (by kernel_rfl)];rw[run_add64 x y 0 hx hy (Int.le_refl 0) qO];rfl
theorem u64w (n:Int):IntKind.u64.wrap n=n % 18446744073709551616:=rfl
theorem shr63 (n:Int):n.fdiv (2 ^ min 63 IntKind.i64.bits)=n / 9223372036854775808:=by
 have:((2:Int) ^ min 63 IntKind.i64.bits)=9223372036854775808:=by decide
 rw[this,Int.fdiv_eq_ediv_of_nonneg _ qO]
theorem zRL (z n:Int)(h1:-1267650600228229401496703205376<=z)(h2:z<=1267650600228229401496703205376)(h3:-9223372036854775808<=n)(h4:n<=9223372036854775807) :
  IntKind.i64.wrap (IntKind.i64.wrap (z / 18446744073709551616+n.fdiv (2 ^ min 63 IntKind.i64.bits))+IntKind.i64.wrap ((z % 18446744073709551616+IntKind.u64.wrap n+0) / 18446744073709551616))=(z+n) / 18446744073709551616:=by rw[shr63,u64w,w64 (x:=z / 18446744073709551616+n / 9223372036854775808) qO qO,w64 (x:=(z % 18446744073709551616+n % 18446744073709551616+0) / 18446744073709551616) qO qO,w64 qO qO];omega
theorem zTk (z n:Int):(z % 18446744073709551616+IntKind.u64.wrap n+0) % 18446744073709551616=(z+n) % 18446744073709551616:=by rw[u64w];omega
theorem c_plus (z n:Int)(w0:World)(h1:-1267650600228229401496703205376<=z)(h2:z<=1267650600228229401496703205376)(h3:-9223372036854775808<=n)(h4:n<=9223372036854775807) :
  Cr 143 [.agg (zLV z).toArray,.int .i64 n] (.agg (zLV (z+n)).toArray) w0:=by refine eS func143 ntmps143 fun H=>?_;(repeat' first|refine yW ?_|(refine yB ?_;intro b w H)|(refine y11 sg H ?_;intro w H)|refine z13 (Yq.ext rfl rfl (zRK (z % 18446744073709551616) (IntKind.u64.wrap n) qO (by rw[u64w];omega))) ?_|fail);refine zAv (vs:=[_]) ⟨zg sg rfl H.mem (zz2 _) rfl rfl,trivial⟩ H.cl ?_;rw[zRL z n h1 h2 h3 h4,zTk];rfl
def zDH (l:List Int):Nat->Int
 | 0=>0
 | k+1=>zDH l k+l.getD k 0
def iel (l:List Int)(j:Nat):List Value:=[.int .i64 (l.getD j 0)]
def Ints (F:zA)(a:OA)(cap:Nat)(l:List Int):Prop:=SlA F 1 a l.length cap (iel l)
def I64 (l:List Int):Prop:=∀ j,-9223372036854775808<=l.getD j 0/\l.getD j 0<=9223372036854775807
theorem zTl (l:List Int)(h:I64 l)(k:Nat):-9223372036854775808*k<=zDH l k/\zDH l k<=9223372036854775807*k:=by{
induction k with
| zero=>exact⟨by simp[zDH],by simp[zDH]⟩
| succ k ih=>have:=h k;simp only[zDH];constructor<;>omega}
def zCH (z:Int):Int × Int:=if z>4611686018427387904\/z < -4611686018427387904 then(0,41) else(z,0)
theorem zRM (z:Int)(h:¬ (-9223372036854775808<=z/\z<=9223372036854775807)):zCH z=(0,41):=by rw[zCH,if_pos qO]
theorem vlow (z:Int):(z / 18446744073709551616=(IntKind.i64.wrap (z % 18446744073709551616)).fdiv (2 ^ min 63 IntKind.i64.bits)↔-9223372036854775808<=z/\z<=9223372036854775807) /\
  ((-9223372036854775808<=z/\z<=9223372036854775807)->IntKind.i64.wrap (z % 18446744073709551616)=z):=by{
rw[shr63,IntKind.wrap_i64];constructor
.constructor<;>intro h<;>omega
.intro h;omega}
theorem c_told (z:Int)(w0:World) :
  Cr 144 [.agg (zLV z).toArray] (.tuple #[.int .i64 (zCH z).1,.int .i64 (zCH z).2]) w0:=by{
refine eS func144 ntmps144 fun H=>?_;(repeat' first|refine yW ?_|(refine yB ?_;intro b w H)|(refine y17 ?_ ?_;all_goals intro h)|(refine y23 ?_ ?_;all_goals intro h)|fail)
.rw[zRM z (fun h1=>by rw[(vlow z).1.2 h1] at h;simp at h)];exact zFL rfl rfl H.cl rfl
all_goals
 have hz:=(vlow z).1.1 (by simpa using ‹(z / 18446744073709551616 != (IntKind.i64.wrap (z % 18446744073709551616)).fdiv (2 ^ min 63 IntKind.i64.bits))=false›);have hv:=(vlow z).2 hz;simp only[hv] at *
.exact zFL rfl rfl H.cl (by rw[zCH,if_pos (.inl (of_decide_eq_true h))])
.exact zFL rfl rfl H.cl (by rw[zCH,if_pos (.inr (of_decide_eq_true h))])
.refine zFL rfl rfl H.cl ?_;rw[zCH,if_neg (fun hc=>hc.elim (fun h3=>absurd h3 (of_decide_eq_false ‹decide (z>4611686018427387904)=false›)) (fun h3=>absurd h3 (of_decide_eq_false ‹decide (z < -4611686018427387904)=false›)))]}
theorem c_Sum {a:OA}{cap:Nat}(l:List Int)(hl:I64 l)(hlen:l.length<=1048576){F:zA}(w0:World)(hF:Mem w0 F)(hs:Ints F a cap l) :
  Cr 110 [.slice a l.length cap] (.tuple #[.int .i64 (zCH (zDH l l.length)).1,.int .i64 (zCH (zDH l l.length)).2]) w0:=by{
obtain⟨hn,hc,b0,off,cs,T,fr,hs⟩:=hs;refine eS func110 ntmps110 fun H=>?_;(repeat' first|refine yX ?_|(refine yB ?_;intro b w H)|fail);refine zD [(6,6),(9,16)] (fun k:Nat=>[(9,.int .i64 (k:Int))]) (fun k w=>k<=l.length/\St w0 [cb _ (zLV (zDH l k)) 204] w) (fun k=>l.length - k) 0 ⟨rfl,trivial⟩ ⟨zzD _,H⟩ ?_;clear H;rintro k g w ⟨hk,H⟩;have hb:=zTl l hl k;have hb2:=hl k;(repeat' first|refine yX ?_|fail);refine zB rfl (fun h=>?_) (fun h=>?_)
.have hlt:k<l.length:=by simpa using h
 (repeat' first|refine yW ?_|(refine y11 sg H ?_;intro w H)|refine x40 sg hs ?_|refine z13 (zLB sg hs (H.memF hF) hlt) ?_|(refine c0 ent143 ?_;refine⟨_,c_plus (zDH l k) (l.getD k 0) _ qO qO hb2.1 hb2.2,?_⟩;clear H;intro w H)|fail);refine zC (k+1) rfl ⟨zU qO,trivial⟩ ⟨hlt,H⟩ qO
.have hkn:k=l.length:=by simp at h;omega
 subst hkn;(repeat' first|refine yW ?_|(refine c0 ent144 ?_;refine⟨_,c_told (zDH l l.length) _,?_⟩;clear H;intro w H)|fail);exact zFL rfl rfl H.cl rfl}
def zOX (a b:Int):Int × Int:=zCH (a+b)
theorem Ints.two {F:zA}{b:Nat}{x y:Int}{T:TypeId}{fr:Nat × Nat}(h:(b,Obj.cells [Value.int .i64 x,Value.int .i64 y].toArray T fr)∈F):Ints F (some ⟨b,0,none⟩) 2 [x,y] :=
 ⟨zzC _,(by show 2<=140737488355328;omega),b,0,_,T,fr,fun _=>⟨rfl,h,fun j hj=>by
  have:j=0\/j=1:=by simp at hj;omega
  rcases this with rfl|rfl<;>exact⟨by simp,rfl⟩⟩⟩
theorem c_Add (x y:Int)(w0:World)(h1:-9223372036854775808<=x)(h2:x<=9223372036854775807)(h3:-9223372036854775808<=y)(h4:y<=9223372036854775807) :
  Cr 76 [.int .i64 x,.int .i64 y] (.tuple #[.int .i64 (zOX x y).1,.int .i64 (zOX x y).2]) w0:=by{
have hI:I64 [x,y]:=by
 intro j;rcases j with _|_|j
 .exact⟨h1,h2⟩
 .exact⟨h3,h4⟩
 .simp
have e:zDH [x,y] [x,y].length=x+y:=by simp[zDH]
refine eS func76 ntmps76 fun H=>?_;(repeat' first|refine yW ?_|(refine yB ?_;intro b w H)|(refine c0 zTB ?_;refine⟨_,c_Sum [x,y] hI (by show 2<=1048576;omega) _ (H.mem) (Ints.two (zz2 _)),?_⟩;clear H;intro w H)|fail);refine zFL rfl rfl H.cl ?_;rw[e];rfl}
def zP2 (F:zA)(a:OA)(cap:Nat)(l:List Row4):Prop:=SlA F 4 a l.length cap (rwl l)
def Z64 (x:Int):Prop:=-9223372036854775808<=x/\x<=9223372036854775807
def Row4.wf (r:Row4):Prop:=Z64 r.free/\Z64 r.held
theorem eg294:prog.eqGuardType prog.depth 279=false:=by kernel_rfl
def zKS (l:List Row4)(k:Nat):Int:=if k=0 then -1 else(rw_ l (k - 1)).acct
def zKT (l:List Row4)(k:Nat):Int:=if k=0 then 0 else(rw_ l (k - 1)).asset
theorem zTm {l:List Row4}{k:Nat}(h:zFB (rw_ l k)):zOW (zKS l k) (zKT l k) (rw_ l k).acct (rw_ l k).asset<0↔(k=0\/LtR (rw_ l (k - 1)) (rw_ l k)):=by{
rw[zPy];unfold zKS zKT LtR;have:=h.1.1;split
.rename_i h0;subst h0;simp;omega
.rename_i h0;simp[h0]}
theorem Ints3 {F:zA}{b:Nat}{x y z:Int}{T:TypeId}{fr:Nat × Nat}(h:(b,Obj.cells [Value.int .i64 x,Value.int .i64 y,Value.int .i64 z].toArray T fr)∈F):Ints F (some ⟨b,0,none⟩) 3 [x,y,z] :=
 ⟨zzC _,(by show 3<=140737488355328;omega),b,0,_,T,fr,fun _=>⟨rfl,h,fun j hj=>by
  have:j=0\/j=1\/j=2:=by simp at hj;omega
  rcases this with rfl|rfl|rfl<;>exact⟨by simp,rfl⟩⟩⟩
theorem zGr (l:List Row4)(a:Int)(k:Nat):smR l a (k+1)=if (rw_ l k).asset=a then smR l a k+((rw_ l k).free+(rw_ l k).held) else smR l a k:=by simp only[smR];split<;>omega
theorem zOY {r:Row4}(h:zFB r):zAR r.acct r.free r.held=0:=by obtain⟨h1,h2,h3,h4⟩:=h;unfold zAR;(repeat' split)<;>omega
theorem zWQ {r:Row4}(h1:zCf r.acct r.asset=true)(h2:zAR r.acct r.free r.held=0)(h3:¬ (r.free=0/\r.held=0))(h4:r.acct=0->r.held=0):zFB r:=by{
refine⟨(zDG _ _).1 h1,h3,h4,fun h0=>?_⟩;unfold zAR at h2;rw[if_neg h0] at h2;split at h2
.omega
.split at h2<;>omega}
theorem zP3 {l:List Row4}(h:zAZ l=true->False):false=zAZ l:=by{
cases hq:zAZ l with
| false=>rfl
| true=>exact(h hq).elim}
set_option maxRecDepth 20000 in
theorem zLW {a:OA}{cap:Nat}(l:List Row4)(hw:∀ j,j<l.length->(rw_ l j).wf){F:zA}(w0:World)(hF:Mem w0 F)(hs:zP2 F a cap l) :
  Cr 180 [.slice a l.length cap] (.bool (zAZ l)) w0:=by{
obtain⟨hnc,hcb,b0,off,cs,T,fr,hs⟩:=hs;refine eS func180 ntmps180 fun H=>?_;(repeat' first|refine yX ?_|(refine yB ?_;intro b w H)|(refine y11 sg H ?_;intro w H)|fail);have H:=(show St w0 [cb _ (zFG .i64 17 fun _=>0) 279,cb _ (plc2 (-1) 0) 278] w from H)
refine zD [(2,2),(6,9),(13,89)] (fun k:Nat=>[(13,.int .i64 (k:Int))])
 (fun k w=>k<=l.length/\RowsP l k/\(∀ j,j<k->(rw_ l j).acct=0->(rw_ l j).free<=0)/\(∀ j:Nat,j<17->-4611686018427387904<=smR l j k/\smR l j k<=4611686018427387904) /\
  St w0 [cb _ (zFG .i64 17 fun j=>smR l (j:Nat) k) 279,cb _ (plc2 (zKS l k) (zKT l k)) 278] w) (fun k=>l.length - k) 0 ⟨rfl,trivial⟩
 ⟨zzD _,fun j hj=>absurd hj (zzE _),fun j hj=>absurd hj (zzE _),fun j _=>by simp[smR],H⟩ ?_
clear H;rintro k gh w ⟨hk,hP,hz,hb,H⟩;(repeat' first|refine yX ?_|fail);refine zB rfl (fun h=>?_) (fun h=>?_)
.have hlt:k<l.length:=by have:=zzA h;omega
 clear h;obtain⟨⟨hf1,hf2⟩,hd1,hd2⟩:=hw k hlt;have hgd:=zKQ (rw_ l k);have hcmp:=zTm (l:=l) (k:=k);have hgi:=zDG (rw_ l k).acct (rw_ l k).asset;have hfacts:zAZ l=true->zFB (rw_ l k)/\zOW (zKS l k) (zKT l k) (rw_ l k).acct (rw_ l k).asset<0/\zCf (rw_ l k).acct (rw_ l k).asset=true/\zAR (rw_ l k).acct (rw_ l k).free (rw_ l k).held=0/\((rw_ l k).acct=0->(rw_ l k).free<=0):=fun q=>by obtain⟨g,o⟩:=(zBw.1 q).1 k hlt;exact⟨g,(hcmp g).2 o,hgi.2 g.1,zOY g,fun h0=>(zRJ q hlt h0).2⟩
 generalize hq:(rw_ l k).asset.toNat=q
 have sum:∀ {F:zA} {b:Nat} {w:World},(rw_ l k).asset=(q:Int)->q<17->Mem w (cb b [.int .i64 (smR l q k),.int .i64 (rw_ l k).free,.int .i64 (rw_ l k).held] 2::F) ->
   Cr 110 [.slice (some ⟨b,0,none⟩) 3 3] (.tuple #[.int .i64 (zCH (smR l q (k+1))).1,.int .i64 (zCH (smR l q (k+1))).2]) w:=fun hqa hq hM=>by
  have:=c_Sum [smR l q k,(rw_ l k).free,(rw_ l k).held] (fun j=>by
   have:=hb q hq;rcases j with _|_|_|j
   .exact⟨by show _<=smR l q k;omega,by show smR l q k<=_;omega⟩
   .exact⟨hf1,hf2⟩
   .exact⟨hd1,hd2⟩
   .simp) (by show 3<=1048576;omega) _ hM (Ints3 (zz2 _))
  have e:zDH [smR l q k,(rw_ l k).free,(rw_ l k).held] [smR l q k,(rw_ l k).free,(rw_ l k).held].length=smR l q (k+1):=by rw[zGr,if_pos hqa];simp[zDH];omega
  rw[e] at this;exact this
 (repeat' first|refine yW ?_|(refine yB ?_;intro b w H)|(refine y11 sg H ?_;intro w H)|refine x40 sg hs ?_|refine x42 sg hs (H.memF hF) ?_|(refine c0 zLP ?_;refine⟨_,zLT (rw_ l k).acct (rw_ l k).asset _,?_⟩;clear H;intro w H)|(refine c0 zTQ ?_;refine⟨_,zTi (zKS l k) (zKT l k) (rw_ l k).acct (rw_ l k).asset _,?_⟩;clear H;intro w H)|(refine c0 zTR ?_;refine⟨_,zPz (rw_ l k).acct (rw_ l k).asset (rw_ l k).free (rw_ l k).held _ hf1 hf2 hd1 hd2,?_⟩;clear H;intro w H)|(refine y17 ?_ ?_;all_goals intro h)|(refine y23 ?_ ?_;all_goals intro h)|fail);all_goals simp only[Bool.not_eq_true',Bool.not_eq_false',decide_eq_true_eq,yyy,beq_iff_eq,yyq,bne_iff_ne,ne_eq,bne_eq_false_iff_eq] at *
 all_goals try exact zG rfl H.cl (congrArg Value.bool (zP3 fun q=>by
  obtain⟨g,f2,f3,f4,f5⟩:=hfacts q
  first
   | omega
   | (cases f3.symm.trans ‹zCf _ _=false›)
   | (obtain⟨g1,g2,g3,g4⟩:=g;omega)))
 all_goals try (exfalso;omega)
 all_goals
  have hthere:=hgi.1 ‹zCf (rw_ l k).acct (rw_ l k).asset=true›;have hG:zFB (rw_ l k):=zWQ ‹_› ‹_› qO (fun h0=>by omega);have hL:=(hcmp hG).1 qO;have hz0:(rw_ l k).acct=0->(rw_ l k).free<=0:=fun h0=>by{omega};have hqa:(rw_ l k).asset=(q:Int):=by omega
  have hq17:q<17:=by{omega};clear hfacts hcmp hgi
  have hS:¬ (zCH (smR l q (k+1))).2=0->zAZ l=true->False:=fun h0 hr=>by have:=zWP hr hq17 (k:=k+1) qO;unfold zCH at h0;rw[if_neg qO] at h0;exact h0 rfl
  have hT:(zCH (smR l q (k+1))).2=0->(zCH (smR l q (k+1))).1=smR l q (k+1)/\-4611686018427387904<=smR l q (k+1)/\smR l q (k+1)<=4611686018427387904:=fun h0=>by
   unfold zCH at h0 ⊢;split at h0
   .exact absurd h0 (by decide)
   .rename_i hn;rw[if_neg hn];exact⟨rfl,by omega,by omega⟩
  (repeat' first|refine yS ?_|refine y12 ?_|(refine CW.regionR mixed ?_;refine wQ H ?_;clear H;intro w H;(with_reducible apply RW.quiet 8);exact rfl;decide +kernel;simp only[List.append_eq,List.cons_append,List.nil_append,List.take_succ_cons,List.take_zero,List.drop_zero])|((with_reducible apply RW.quiet (k:=10) 15);exact rfl;decide +kernel;simp only[List.append_eq,List.cons_append,List.nil_append,List.take_succ_cons,List.take_zero,List.drop_succ_cons,List.drop_zero])|(refine zAp rfl rfl (Yq.ixP sg (n:=17) hq qO qO rfl rfl rfl rfl rfl rfl) ?_)|(refine zAp rfl rfl (Yq.loadA sg (f:=fun j=>smR l (j:Nat) k) H.mem (by repeat (first|exact zz2 _|apply zz5)) hq17 rfl rfl rfl rfl) ?_)|(refine yB ?_;intro b w H)|(refine c0 zTB ?_;refine⟨_,sum hqa hq17 H.mem,?_⟩;clear H;intro w H)|refine yU ?_|(refine qN H ?_;clear H;intro w H)|fail);refine zB rfl (fun h=>?_) (fun h=>?_)
  ·(repeat' first|refine yX ?_|fail);exact zG rfl H.cl (congrArg Value.bool (zP3 (hS (by simpa using h))))
  .obtain⟨t1,t2,t3⟩:=hT (by simpa using h);rw[t1];(repeat' first|refine yX ?_|(refine za rfl rfl (Yq.ixP sg (n:=17) hq qO qO rfl rfl rfl rfl rfl rfl) ?_)|(refine OX.storeA sg (m:=17) (f:=fun j=>smR l (j:Nat) k) H hq17 (by repeat (first|exact Up.here|apply Up.there)) ?_;intro w H)|fail);have ea:zFG .i64 17 (updI (fun j=>smR l (j:Nat) k) q (smR l q (k+1)))=zFG .i64 17 (fun j=>smR l (j:Nat) (k+1)):=List.map_congr_left fun j hj=>by
    show Value.int _ (if j=q then _ else _)=_;by_cases hj2:j=q
    .subst hj2;rw[if_pos rfl]
    .rw[if_neg hj2];show Value.int .i64 (smR l (j:Nat) k)=Value.int .i64 (smR l (j:Nat) (k+1));rw[zGr,if_neg qO]
   rw[ea] at H;have el:plc2 (zKS l (k+1)) (zKT l (k+1))=[.int .i64 (rw_ l k).acct,.int .i64 (rw_ l k).asset]:=rfl;refine zC (k+1) rfl ⟨zU qO,trivial⟩ ⟨hlt,hP.succ hG hL,fun j hj=>?_,fun j hj=>?_,?_⟩ qO
   .rcases(show j<k\/j=k by omega) with g|rfl
    .exact hz j g
    .exact hz0
   .rw[zGr];split
    .rename_i he;obtain rfl:j=q:=by{omega};rw[zGr,if_pos he] at t2 t3
     exact⟨t2,t3⟩
    .exact hb j hj
   .rw[el];exact H.sub (yy6 _ (yy6 _ (yy6 _ (yy7 _))))
.obtain rfl:k=l.length:=by have:=zzB h;omega
 clear h;(repeat' first|refine yX ?_|(refine za rfl rfl (Yq.build0 sg rfl rfl rfl rfl) ?_)|(refine za rfl rfl (Yq.eqlA sg (n:=17) (f:=fun j=>smR l (j:Nat) l.length) (g:=fun _=>0) eg294 rfl rfl rfl rfl rfl rfl rfl rfl) ?_)|fail);refine zG rfl H.cl (congrArg Value.bool ?_);unfold zAZ;rw[(List.all_eq_true.2 fun j hj=>zKR.2 (hP j (List.mem_range.1 hj)):(List.range l.length).all (fun k=>zP0 l k)=true),Bool.true_and]}
theorem und26:prog.underlying 136=some (.struct (prog.fieldsOf 136)):=by kernel_rfl
theorem fs26:(prog.fieldsOf 136).toList=[⟨ "Acct",3,0,false,"","",0⟩,⟨ "Amount",2,1,false,"","",8⟩]:=by kernel_rfl
theorem st26:prog.stoodInHeld 136=false:=by kernel_rfl
theorem eg26:prog.eqGuardType prog.depth 136=false:=by kernel_rfl
theorem zRN (c d:Bid)(w:World):(Op.equalIn 10000 136 (.agg c.cells.toArray) (.agg d.cells.toArray)).run prog w=.ok (c==d) w:=by{
rw[show(10000:Nat)=9999+1 from rfl,run_equalIn_struct w 9999 _ _ _ und26 st26,fs26];have p0:∀ (b:Bid) (w:World),(part 3 b.cells.toArray 0).run prog w=.ok (.int .i64 b.acct) w:=fun b w=>zC3 sg (ti:=⟨.int .i64,1,[.int .i64 0],8⟩) rfl _ _ rfl w;have p1:∀ (b:Bid) (w:World),(part 2 b.cells.toArray 1).run prog w=.ok (.int .i64 b.amount) w:=fun b w=>zC3 sg (ti:=⟨.int .i64,1,[.int .i64 0],8⟩) rfl _ _ rfl w;have q3:∀ (x y:Int) (w:World),(Op.equalIn 9999 3 (.int .i64 x) (.int .i64 y)).run prog w=.ok (x==y) w:=fun x y w=>run_equalIn_int w 9998 _ .i64 .i64 x y underlying3;have q2:∀ (x y:Int) (w:World),(Op.equalIn 9999 2 (.int .i64 x) (.int .i64 y)).run prog w=.ok (x==y) w:=fun x y w=>run_equalIn_int w 9998 _ .i64 .i64 x y underlying2;have n0:("Acct"≠"_"):=by decide
have n1:("Amount"≠"_"):=by decide
simp only[Op.eqFields,n0,n1,ne_eq,not_false_eq_true,if_true,Sem.run_bind,p0,q3,Result.andThen_ok];obtain⟨a,b⟩:=c;obtain⟨x,y⟩:=d;simp only[];by_cases h1:a=x
.by_cases h2:b=y
 .simp[h1,h2,p1,q2]
 .simp[h1,h2,p1,q2]
.simp[h1]}
theorem Yq.neqBid {o:Oper}{e:Env}{w:World}{x y:Operand}{yT:TypeId}(c d:Bid)(ho:o.op=.binOp .neq 136 x y yT)(hx:nf (ev e x)=some (.agg c.cells.toArray))(hy:nf (ev e y)=some (.agg d.cells.toArray)) :
  Yq prog o e w (.bool (!(c==d))):=by have hx:=zCR hx;have hy:=zCR hy;refine Yq.of fun w'=>?_;simp only[execOp,ho,hx,hy,Sem.run_bind,run_eqGuard_agg w' _ _ _ _ _ _ eg26,Result.andThen_ok,run_neq_struct,zRN,Sem.run_pure]
theorem zOZ {a a':OA}{cap cap':Nat}(l l':List Bid){F:zA}(w0:World)(hF:Mem w0 F)(hs:Bids F a cap l)(hs':Bids F a' cap' l') :
  Cr 98 [.slice a l.length cap,.slice a' l'.length cap'] (.bool (decide (l=l'))) w0:=by{
obtain⟨hn,hc,b,off,cs,T,fr,hs⟩:=hs;obtain⟨hn',hc',b',off',cs',T',fr',hs'⟩:=hs';refine eS func98 ntmps98 fun H=>?_;(repeat' first|refine yX ?_|fail);refine zB rfl (fun h=>?_) (fun h=>?_)
·(repeat' first|refine yX ?_|fail)
 exact zG rfl H.cl (by
  have:l≠l':=fun he=>by subst he;simp at h
  simp[this])
.have hlen:l.length=l'.length:=by simp at h;omega
 (repeat' first|refine yX ?_|fail);refine zD [(4,5),(13,25)] (fun k:Nat=>[(13,.int .i64 (k:Int))]) (fun k w=>k<=l.length/\(∀ j,j<k->l.getD j default=l'.getD j default)/\St w0 [] w) (fun k=>l.length - k) 0 ⟨rfl,trivial⟩ ⟨zzD _,fun j hj=>by omega,H⟩ ?_;clear H;rintro k g w ⟨hk,hpk,H⟩;(repeat' first|refine yX ?_|fail);refine zB rfl (fun h=>?_) (fun h=>?_)
 .have hlt:k<l.length:=by{simpa using h};(repeat' first|refine yX ?_|refine x41 sg hs ?_|(refine y41 sg (hs') ?_ ?_ ?_;(omega);(omega))|refine x43 sg hs (H.memF hF) ?_|(refine y43 sg (hs') ((H.memF hF)) ?_ ?_;(omega))|(refine zAp rfl rfl (Yq.neqBid (l.getD k default) (l'.getD k default) rfl rfl rfl) ?_)|(refine qN H ?_;clear H;intro w H)|refine y20 mixed ?_|fail)
  refine zB rfl (fun h2=>?_) (fun h2=>?_)
  ·(repeat' first|refine yX ?_|fail)
   exact zG rfl H.cl (by
    have:l≠l':=fun he=>by subst he;simp at h2
    simp[this])
  ·(repeat' first|refine yX ?_|fail);refine zC (k+1) rfl ⟨zU qO,trivial⟩ ⟨hlt,fun j hj=>?_,H⟩ qO;by_cases hj':j=k
   .rw[hj'];simpa using h2
   .exact hpk j qO
 ·(repeat' first|refine yX ?_|fail);have hkn:k=l.length:=by simp at h;omega
  subst hkn
  exact zG rfl H.cl (by
   have:l=l':=List.ext_getElem hlen fun j h1 h2=>by have:=hpk j h1;simpa [List.getD,h1,h2] using this
   simp[this])}
def zCg (l:List Bid):Nat->Int
 | 0=>-1
 | k+1=>if zCg l k<0\/(l.getD k default).amount>(l.getD (zCg l k).toNat default).amount then(k:Int) else zCg l k
def hi (l:List Bid):Int:=zCg l l.length
theorem zEa (l:List Bid)(k:Nat):-1<=zCg l k/\zCg l k<k:=by{
induction k with
| zero=>exact⟨by simp[zCg],by simp[zCg]⟩
| succ k ih=>rw[zCg];split<;>constructor<;>omega}
theorem zKU {a:OA}{cap:Nat}(l:List Bid){F:zA}(w0:World)(hF:Mem w0 F)(hs:Bids F a cap l) :
  Cr 273 [.slice a l.length cap] (.int .i64 (hi l)) w0:=by{
obtain⟨hn,hc,b,off,cs,T,fr,hs⟩:=hs;refine eS func273 ntmps273 fun H=>?_;(repeat' first|refine yX ?_|fail);refine zD [(3,5),(8,26)] (fun k:Nat=>[(8,.int .i64 (k:Int)),(3,.int .i64 (zCg l k))]) (fun k w=>k<=l.length/\St w0 [] w) (fun k=>l.length - k) 0 ⟨rfl,rfl,trivial⟩ ⟨zzD _,H⟩ ?_;clear H;rintro k g w ⟨hk,H⟩;have hb:=zEa l k;(repeat' first|refine yX ?_|fail);refine zB rfl (fun h=>?_) (fun h=>?_)
.have hlt:k<l.length:=by simpa using h
 (repeat' first|refine yX ?_|(refine yB ?_;intro b w H)|(refine y11 sg H ?_;intro w H)|refine x40 sg hs ?_|(refine y41 sg (hs) ?_ ?_ ?_;(simp at h;omega);(omega))|refine x42 sg hs (H.memF hF) ?_|(refine y45 sg (hs) ((H.memF hF)) ?_ ?_;(simp at h;omega))|(refine y18 ?_ ?_;all_goals intro h)|(refine qN H ?_;clear H;intro w H)|refine y20 mixed ?_|fail)
 .refine zC (k+1) rfl ⟨zU qO,?_,trivial⟩ ⟨hlt,H.sub (zz9 _)⟩ qO;show Value.int .i64 (k:Int)=_;rw[zCg,if_pos (.inl (of_decide_eq_true h))]
 .refine zB rfl (fun h2=>?_) (fun h2=>?_)
  ·(repeat' first|refine yX ?_|fail);refine zC (k+1) rfl ⟨zU qO,?_,trivial⟩ ⟨hlt,H.sub (zz9 _)⟩ qO;show Value.int .i64 (k:Int)=_;rw[zCg,if_pos (.inr (of_decide_eq_true h2))]
  ·(repeat' first|refine yX ?_|fail);refine zC (k+1) rfl ⟨zU qO,?_,trivial⟩ ⟨hlt,H.sub (zz9 _)⟩ qO;show Value.int .i64 (zCg l k)=_;rw[zCg,if_neg (fun hc=>hc.elim (fun h3=>by simp at h;omega) (fun h3=>of_decide_eq_false h2 h3))]
.have hkn:k=l.length:=by simp at h;omega
 subst hkn;(repeat' first|refine yX ?_|fail);exact zG rfl H.cl rfl}
def zBf (x:Auc)(j:Nat):Bool :=
 !zp (x.bids.getD j default).acct 64||(x.bids.getD j default).acct==x.seller||!zp (x.bids.getD j default).amount 1125899906842624 ||
  decide (idx (fun i=>(x.bids.getD i default).acct==(x.bids.getD j default).acct) j >= 0)
def zCT (x:Auc):Bool:=decide (idx (zBf x) x.bids.length<0)
theorem Bids.cut {F:zA}{a:OA}{cap n b off:Nat}{cs:List Value}{T:TypeId}{fr:Nat × Nat}{el:Nat->List Value}(h1:n<=cap)(h2:n<=140737488355328)(h:SlB F 2 a n b off cs T fr el){m:Nat}(hm:m<=n):SlA F 2 a m cap el :=
 ⟨by omega,by omega,b,off,cs,T,fr,h.cut hm⟩
theorem zTn {a:OA}{cap:Nat}(x:Auc){F:zA}(w0:World)(hF:Mem w0 F)(hs:Bids F a cap x.bids) :
  Cr 130 [.agg (x.cells a cap).toArray] (.bool (zCT x)) w0:=by{
obtain⟨hn,hc,b0,off,cs,T,fr,hs⟩:=hs;refine eS func130 ntmps130 fun H=>?_;(repeat' first|refine yX ?_|(refine yB ?_;intro b w H)|fail);refine zD [(2,5),(9,40)] (fun k:Nat=>[(9,.int .i64 (k:Int))]) (fun k w=>k<=x.bids.length/\(∀ j,j<k->zBf x j=false)/\St w0 [cb b (x.cells a cap) 86] w) (fun k=>x.bids.length - k) 0 ⟨rfl,trivial⟩ ⟨zzD _,fun j hj=>by omega,H⟩ ?_;clear H;rintro k g w ⟨hk,hpk,H⟩;(repeat' first|refine yX ?_|fail);refine zB rfl (fun h=>?_) (fun h=>?_)
.have hlt:k<x.bids.length:=by simpa using h
 (repeat' first|refine yW ?_|(refine yB ?_;intro b w H)|(refine y11 sg H ?_;intro w H)|refine x40 sg hs ?_|refine x42 sg hs (H.memF hF) ?_|(refine c0 zIy ?_;refine⟨_,zD8 _ _ _,?_⟩;clear H;intro w H)|(refine c0 zHa ?_;refine⟨_,zCe _ _ _,?_⟩;clear H;intro w H)|(refine za rfl rfl (Yq.sliceHi sg rfl rfl rfl rfl rfl rfl (zz1 _) qO qO) ?_)|(refine OX.call rfl rfl (En.fn zOI rfl rfl) (zDx (caps:=[(pt _)]) (fun i=>(x.bids.getD i default).acct==(x.bids.getD k default).acct) _ (H.all hF) (Bids.cut hn hc (hs.mono (zz8 _ _)) (Nat.le_of_lt hlt)) ent190 (fun j hj w hw=>zWH (x.bids.getD j default) (x.bids.getD k default) 136 _ _ _ (H.ext hw).mem (zz2 _))) ?_;refine wQ H ?_;clear H;intro w H)|(refine y17 ?_ ?_;all_goals intro h)|(refine y23 ?_ ?_;all_goals intro h)|fail)
 all_goals first
  | exact zG rfl H.cl (by
    have hbad:zBf x k=true:=by simp only[zBf, *];simp
    rw[zCT,zBv hlt hpk hbad];simp)
  | (refine zC (k+1) rfl ⟨zU qO,trivial⟩ ⟨hlt,fun j hj=>?_,H.sub (zz7 _ _)⟩ qO
     by_cases hj':j=k
     .have hbad:zBf x k=false:=by simp only[zBf, *];simp
      rw[hj'];exact hbad
     .exact hpk j qO)
·(repeat' first|refine yX ?_|fail);have hkn:k=x.bids.length:=by simp at h;omega
 subst hkn;exact zG rfl H.cl (by rw[zCT,zA8 hpk];rfl)}
end Go.Proofs.YtejhijhnlogikaaGreatDoor
