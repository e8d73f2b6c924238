/- Texts of ours, joined: the steps of the proof, or the claim's theorem. -/
import Derived.ChangeKeysEq
import Derived.Test.YtibmaifoaajllaaGreatDoorQa05
set_option linter.unusedSimpArgs false
set_option linter.unusedVariables false
set_option maxHeartbeats 16000000
namespace Go.Proofs.YtibmaifoaajllaaGreatDoor
open Go Go.Sk Go.RowKit
attribute [local irreducible] Go.Calls
theorem zFl {p q:Int}(h1:1≤p)(h2:p≤1073741824)(h3:1≤q)(h4:q≤1048576):1≤p*q∧p*q≤1125899906842624:=by
 have a:=Int.mul_le_mul h1 h3 (by omega) (by omega)
 have b:=Int.mul_le_mul h2 h4 (by omega) (by omega)
 constructor<;>omega
def zT (o:Odr):Int × Int:=if zu o=true then(if o.side=1 then(0,o.price*o.left) else(o.inst,o.left)) else(0,0)
theorem zJm (o:Odr)(w0:World):Calls Tryz.prog 92 [.agg o.cells.toArray].toArray w0 (Ret (.tuple #[.int .i64 (zT o).1,.int .i64 (zT o).2]) w0):=by
 have hp:=zAi o
 refine enter [.tmp 2,.tmp 3] Tryz.func92 rfl Tryz.ntmps92 rfl rfl ?_
 have H:=zB w0
 repeat' (first|refine yT ?_|refine y7 sg H ?_|refine y8 sg H ?_|(refine y9 H ?_;intro b w H)|(refine' y30 zEa ?_ ?_;rotate_left;exact zBK o _;intro w hcl;replace H:=H.ext hcl;clear hcl)|refine yU ?_|(with_reducible apply zL;intro w hcl;replace H:=H.ext hcl;clear hcl)|refine y20 mixed ?_|with_reducible apply zA|(refine y23 ?_ ?_;all_goals intro h)|fail)
 all_goals simp only[Bool.not_eq_true',Bool.not_eq_false',beq_iff_eq,beq_eq_false_iff_ne,ne_eq] at *
 all_goals first
  | (have hm:¬ zu o=true:=by rw[‹zu o=false›];decide
     exact zFg rfl rfl H.cl (by unfold zT;rw[if_neg hm]))
  | (have hm:=‹zu o=true›
     obtain⟨_,_,_,_,⟨q1,q2⟩,q3,q4⟩:=hp.1 hm
     obtain⟨b1,b2⟩:=zFl q1 q2 q3 q4
     refine zFg rfl rfl H.cl ?_
     unfold zT
     rw[if_pos hm]
     first
      | (rw[if_pos ‹_›,w64 (by omega) (by omega)])
      | rw[if_neg ‹_›])
theorem zMG (x y:Odr)(w0:World):Calls Tryz.prog 62 [.agg x.cells.toArray,.agg y.cells.toArray].toArray w0 (Ret (.int .i64 (zCB x.id y.id)) w0):=by
 refine enter [.tmp 4] Tryz.func62 rfl Tryz.ntmps62 rfl rfl ?_
 have H:=zB w0
 repeat' (first|refine yT ?_|refine y7 sg H ?_|(refine y9 H ?_;intro b w H)|(refine' y30 zKn ?_ ?_;rotate_left;exact zDu _ _ _;intro w hcl;replace H:=H.ext hcl;clear hcl)|refine yU ?_|fail)
 exact zQ rfl H.cl rfl
theorem zTK (o:Odr)(w0:World):Calls Tryz.prog 61 [.agg o.cells.toArray].toArray w0 (Ret (.bool (!zu o)) w0):=by
 refine enter [.tmp 2] Tryz.func61 rfl Tryz.ntmps61 rfl rfl ?_
 have H:=zB w0
 repeat' (first|refine yT ?_|refine y7 sg H ?_|(refine y9 H ?_;intro b w H)|(refine' y30 zEa ?_ ?_;rotate_left;exact zBK o _;intro w hcl;replace H:=H.ext hcl;clear hcl)|refine yU ?_|fail)
 exact zQ rfl H.cl rfl
theorem zTL (x y:Int):decide (zCB x y ≥ 0)=decide (y≤x):=by
 unfold zCB
 split
 ·simp;omega
 ·split<;>simp<;>omega
theorem zAo {a:Option Addr}{cap:Nat}(l:List Odr){F:zH}(w0:World)(hF:Mem w0 F)(hs0:Ords F a cap l) :
  Calls Tryz.prog 37 [.slice a l.length cap].toArray w0 (Ret (.bool (zd l)) w0):=by
 obtain⟨hnc,hcb,b0,off,cs,T,fr,hs⟩:=id hs0
 have cont:∀ {w:World},Mem w F→Calls Tryz.prog 60 [.slice a l.length cap,.func (.func 61) #[] #[]].toArray w (Ret (.bool (decide (idx (fun j=>!zu (od_ l j)) l.length ≥ 0))) w):=fun hF =>
  zDk (caps:=[]) (fun j=>!zu (od_ l j)) _ hF hs0 ent61 (fun j _ w _=>zTK (od_ l j) w)
 have hno:idx (fun j=>!zu (od_ l j)) l.length ≥ 0→zd l=true→False:=fun h q=>by
  rcases zY (fun j=>!zu (od_ l j)) l.length with ⟨k,hk,_,hb,_⟩|⟨_,hx⟩
  ·have:=((zAk.1 q).2 k hk).1
   rw[(zAi _).2 this] at hb;cases hb
  ·omega
 have hyes:¬ idx (fun j=>!zu (od_ l j)) l.length ≥ 0→∀ j,j<l.length→zAm (od_ l j):=fun h j hj=>by
  rcases zY (fun j=>!zu (od_ l j)) l.length with ⟨k,_,_,_,hx⟩|⟨ha,_⟩
  ·omega
  ·have:=ha j hj
   exact(zAi _).1 (by simpa using this)
 refine enter [.tmp 2] Tryz.func37 rfl Tryz.ntmps37 rfl rfl ?_
 have H:=zB w0
 repeat' (first|refine yT ?_|(refine' y30 zNZ ?_ ?_;rotate_left;exact cont (H.memF hF);intro w hcl;replace H:=H.ext hcl;clear hcl)|refine yU ?_|(refine y17 ?_ ?_;all_goals intro h)|fail)
 ·exact zQ rfl H.cl (congrArg Value.bool (zMF fun q=>by have:=(zAk.1 q).1;have:=zzA h;omega))
 have h128:l.length≤128:=by have:=zzB h;omega
 refine zJ rfl (fun h2=>?_) (fun h2=>?_)
 ·repeat' (first|refine yT ?_|refine yU ?_|fail)
  exact zQ rfl H.cl (congrArg Value.bool (zMF (hno (zzA h2))))
 have hall:=hyes (zzB h2)
 clear hno hyes cont h h2
 have hmin:(if ((l.length:Nat):Int)<1 then((l.length:Nat):Int) else 1)=((min 1 l.length:Nat):Int):=by split<;>omega
 repeat' (first|refine yT ?_|refine yU ?_|fail)
 rw[hmin]
 repeat' (first|refine yT ?_|(refine zf rfl rfl (Yq.sliceLo sg rfl rfl rfl rfl rfl rfl (zz1 _) (by omega) (by omega)) ?_)|refine yU ?_|with_reducible apply zA|fail)
 refine zM [(2,3),(17,31)] (fun k:Nat=>[(17,.int .i64 (k:Int))]) (fun k w=>k≤l.length - min 1 l.length∧OrdP l (k+min 1 l.length)∧St w0 [] w) (fun k=>l.length - k) 0 ⟨rfl,trivial⟩ ⟨zzD _,fun j hj=>⟨hall j (by omega),.inl (by omega)⟩,H⟩ ?_
 clear H
 rintro k gh w ⟨hk,hP,H⟩
 repeat' (first|refine yT ?_|refine yU ?_|fail)
 refine zJ rfl (fun h=>?_) (fun h=>?_)
 ·have hlt:k+1<l.length:=by have:=zzA h;omega
  clear h
  have hm1:min 1 l.length=1:=by omega
  rw[hm1] at hP
  have hq:IntKind.i64.wrap ((k:Int)+1)=((k+1:Nat):Int):=by rw[w64 (by omega) (by omega)];omega
  repeat' (first|refine yT ?_|(refine zP rfl rfl (zF sg hs rfl rfl rfl rfl rfl rfl rfl ((congrArg Int.toNat hq).trans (zz1 _)) (by rw[hq];omega) (by rw[hq];omega)) ?_)|(refine y41 sg (hs) ?_ ?_ ?_;(omega);(omega))|(refine y43 sg (hs) ((H.memF hF)) ?_ ?_;(omega))|(refine' y31 zQM ?_ ?_;rotate_left;exact(fun _ hcl=>zMG (od_ l k) (od_ l (k+1)) _))|refine yU ?_|(with_reducible apply zL;intro w hcl;replace H:=H.ext hcl;clear hcl)|refine y20 mixed ?_|with_reducible apply zA|fail)
  rw[zTL]
  refine zJ rfl (fun h=>?_) (fun h=>?_)
  ·repeat' (first|refine yT ?_|refine yU ?_|fail)
   exact zQ rfl H.cl (congrArg Value.bool (zMF fun q=>by
    have:=((zAk.1 q).2 (k+1) hlt).2
    have h:=zzA h
    rw[Nat.add_sub_cancel] at this
    omega))
  ·have h:=zzB h
   repeat' (first|refine yT ?_|refine yU ?_|fail)
   refine zK (k+1) rfl ⟨zZ (by omega),trivial⟩ ⟨by omega,?_,H⟩ (by omega)
   rw[hm1]
   exact hP.succ (hall _ hlt) (.inr (by rw[Nat.add_sub_cancel];omega))
 ·have hkn:k+min 1 l.length=l.length:=by have:=zzB h;omega
  rw[hkn] at hP
  repeat' (first|refine yT ?_|refine yU ?_|fail)
  exact zQ rfl H.cl (congrArg Value.bool (zAk.2 ⟨h128,hP⟩).symm)
end Go.Proofs.YtibmaifoaajllaaGreatDoor
namespace Go.Sk
open Go Go.RowKit
section
attribute [local semireducible] Yq OX OW QX QW RA
variable {P:Program}(S:Sig P){o:Oper}{e:Env}{w:World}
theorem Yq.ixP {t E:TypeId}{x i:Operand}{b off n j:Nat}{k:IntKind}{q:Int}{ti te:TI}(hj:q.toNat=j)(h0:0≤q)(h1:q<n)(ho:o.op=.indexAddr t x i)
  (hx:ev e x=.pointer (some ⟨b,off,none⟩)) (hi:ev e i=.int k q) (ht:lk S.tab t=some ti) (htd:ti.d=.array n E) (he:lk S.tab E=some te):Yq P o e w (.pointer (some ⟨b,off+j*te.size,none⟩)):=by
 intro w' _
 have hu:=S.run_und ht w'
 rw[htd] at hu
 simp only[execOp,ho,Instr.indexAt,hx,hi,asIntOf,hu,Instr.sureAddr,Sem.run_bind,Sem.run_pure,Result.andThen_ok,h0,h1,and_self,if_true,S.run_size he,zz,hj]
def cellsOf (el:Nat→List Value)(n:Nat):List Value:=(List.range n).flatMap el
theorem zOq {t E:TypeId}{ti te:TI}{n:Nat}{q:IntKind}(ht:lk S.tab t=some ti)(htd:ti.d=.array n E)(he:lk S.tab E=some te)(hed:te.d=.int q)(hsz:te.size=1){k:IntKind}(f g:Nat→Int)(w:World) :
  (Op.equalIn 10000 t (.agg ((List.range n).map fun j=>Value.int k (f j)).toArray) (.agg ((List.range n).map fun j=>Value.int k (g j)).toArray)).run P w=.ok ((List.range n).all fun j=>f j==g j) w:=by
 have hu:=S.run_und ht w
 rw[htd] at hu
 have hs:=S.run_size he w
 rw[hsz] at hs
 have hue:=S.und he
 rw[hed] at hue
 obtain⟨fi,hf1,hf2,_⟩:=S.inf he
 have hc:P.cellsOf E=1:=by unfold Program.cellsOf;rw[hf1];simp[hf2,hsz]
 have hut:=S.und ht
 rw[htd] at hut
 rw[show(10000:Nat)=9999+1 from rfl,run_equalIn_array w 9999 _ _ hut hf1,hc]
 have hp:∀ (h:Nat→Int) (i:Nat),i<n→(part E ((List.range n).map fun j=>Value.int k (h j)).toArray (i*1)).run P w=.ok (.int k (h i)) w:=fun h i hi =>
  zC0 S he _ _ (by rw[show zB6 te.d=false by rw[hed];rfl];simp[hi]) w
 have hE:∀ i,(Op.equalIn 9999 E (.int k (f i)) (.int k (g i))).run P w=.ok (f i==g i) w:=fun i=>run_equalIn_int w 9998 E _ _ _ _ hue
 have key:∀ (is:List Nat),(∀ i∈is,i<n)→(Op.eqItems 9999 E 1 ((List.range n).map fun j=>Value.int k (f j)).toArray ((List.range n).map fun j=>Value.int k (g j)).toArray is).run P w=.ok (is.all fun j=>f j==g j) w:=by
  intro is
  induction is with
  | nil=>intro _;rfl
  | cons i is ih =>
    intro hi
    have ih:=ih fun x hx=>hi x (zz4 _ hx)
    have h0:=hi i (zz2 _)
    simp only[Op.eqItems,Sem.run_bind,hp f i h0,hp g i h0,hE,Result.andThen_ok,List.all_cons]
    by_cases hfg:f i=g i
    ·simpa [hfg] using ih
    ·simp[hfg]
 exact key _ fun i hi=>List.mem_range.1 hi
theorem Yq.build0 {t E:TypeId}{n:Nat}{ti te:TI}(ho:o.op=.build t #[])(ht:lk S.tab t=some ti)(htd:ti.d=.array n E)(he:lk S.tab E=some te):Yq P o e w (.agg ti.zero.toArray):=by
 intro w' _
 have hu:=S.run_und ht w'
 rw[htd] at hu
 obtain⟨f,h1,_,h3⟩:=S.inf ht
 obtain⟨zv,hz1,hz2⟩:=Option.map_eq_some_iff.1 h3
 have hzv:(zeroValue t).run P w'=.ok zv w':=by simp[zeroValue,typeInfo,h1,hz1]
 simp[execOp,ho,Instr.build,hu,hzv,hz2,S.run_size he,Instr.fill]
def zEi (k:IntKind)(n:Nat)(f:Nat→Int):List Value:=(List.range n).map fun j=>Value.int k (f j)
theorem zF5 (k:IntKind)(n:Nat)(f:Nat→Int):(zEi k n f).length=n:=by simp[zEi]
theorem zF6 {k:IntKind}{n j:Nat}(f:Nat→Int)(h:j<n):(zEi k n f)[j]?=some (.int k (f j)):=by simp[zEi,h]
def updI (f:Nat→Int)(j:Nat)(v:Int):Nat→Int:=fun i=>if i=j then v else f i
theorem zTM {k:IntKind}{n j:Nat}(f:Nat→Int)(v:Int)(h:j<n):wr (zEi k n f) (0+j*1) [.int k v]=zEi k n (updI f j v):=by
 apply List.ext_getElem?
 intro i
 rw[zEn (by rw[zF5];simp;omega)]
 simp only[List.length_singleton,Nat.mul_one,Nat.zero_add]
 by_cases hi:i=j
 ·subst hi
  rw[if_pos (by omega),zF6 _ h,Nat.sub_self]
  simp[updI]
 ·rw[if_neg (by omega)]
  rcases Nat.lt_or_ge i n with g|g
  ·rw[zF6 _ g,zF6 _ g];simp[updI,hi]
  ·rw[List.getElem?_eq_none (by rw[zF5];exact g),List.getElem?_eq_none (by rw[zF5];exact g)]
theorem Yq.loadA {M:zH}{t:TypeId}{x:Operand}{b n j:Nat}{T:TypeId}{k:IntKind}{f:Nat→Int}{ti:TI}(hM:Mem w M)(hm:cb b (zEi k n f) T∈M)(hj:j<n)(ho:o.op=.load t x)(hx:ev e x=.pointer (some ⟨b,0+j*1,none⟩))(ht:lk S.tab t=some ti)(hag:zB6 ti.d=false):Yq P o e w (.int k (f j)):=by
 refine Yq.load S ho hx hM hm ht ?_
 unfold ldv
 rw[hag]
 simp only[cond_false]
 rw[Nat.mul_one,Nat.zero_add]
 exact zF6 f hj
theorem Yq.eqlA {t E:TypeId}{x y:Operand}{yT:TypeId}{n:Nat}{k q:IntKind}{f g:Nat→Int}{ti te:TI}(eg:P.eqGuardType P.depth t=false)(hx:ev e x=.agg (zEi k n f).toArray)(hy:ev e y=.agg (zEi k n g).toArray)
  (ho:o.op=.binOp .eql t x y yT) (ht:lk S.tab t=some ti) (htd:ti.d=.array n E) (he:lk S.tab E=some te) (hed:te.d=.int q) (hsz:te.size=1):Yq P o e w (.bool ((List.range n).all fun j=>f j==g j)):=by
 refine Yq.of fun w'=>?_
 have hr:=zOq S ht htd he hed hsz (k:=k) f g w'
 have h2:(binOp .eql t (.agg (zEi k n f).toArray) (.agg (zEi k n g).toArray)).run P w'=.ok (.bool ((List.range n).all fun j=>f j==g j)) w':=by
  rw[run_eql_struct]
  unfold zEi
  rw[hr];rfl
 simp only[execOp,ho,hx,hy,Sem.run_bind,run_eqGuard_agg w' _ _ _ _ _ _ eg,Result.andThen_ok,h2,Sem.run_pure]
end
section
variable {P:Program}{n:Nw}{ops:Array Oper}{Q:zAX}{o:Oper}{rest:List Oper}{L:List (Nat × Value)}{b0:Env}{w:World}(S:Sig P)
theorem OX.storeA {w0:World}{G G':zH}{t:TypeId}{x y:Operand}{b m j:Nat}{T:TypeId}{k:IntKind}{f:Nat→Int}{v:Int}{ti:TI}(H:St w0 G w)(hj:j<m)(hu:Up b (.cells (zEi k m f).toArray T (0,0)) (.cells (zEi k m (updI f j v)).toArray T (0,0)) G G')
  (kk:∀ w',St w0 G' w'→OW P n ops Q rest (ovl L b0) w') (ho:o.op=.store t x y:=by exact rfl) (hd:o.dst=none:=by exact rfl)
  (hx:ev (ovl L b0) x=.pointer (some ⟨b,0+j*1,none⟩):=by exact rfl) (hy:ev (ovl L b0) y=.int k v:=by exact rfl) (ht:lk S.tab t=some ti:=by exact rfl) (hsz:ti.size=1:=by exact rfl):OX P n ops Q o rest (ovl L b0) w:=by
 rw[← zTM (k:=k) f v hj] at hu
 exact OX.storeX S H ho hd hx hy (v:=.int k v) (vs:=[.int k v]) rfl ht (by rw[hsz];rfl) hu (by rw[zF5];simp;omega) (by intro u hu;rw[List.mem_singleton] at hu;subst hu;rfl) kk
end
end Go.Sk
namespace Go.Proofs.YtibmaifoaajllaaGreatDoor
open Go Go.Sk Go.RowKit
def zCX (a s:Int):Bool:=decide (0≤a)&&decide (a≤64)&&decide (0≤s)&&decide (s≤16)
theorem zC9 (a s:Int):zCX a s=true↔(0≤a∧a≤64∧0≤s∧s≤16):=by
 simp only[zCX,Bool.and_eq_true,decide_eq_true_eq];omega
def plc2 (a s:Int):List Value:=[.int .i64 a,.int .i64 s]
theorem zJn (a s:Int)(w0:World):Calls Tryz.prog 213 [.agg (plc2 a s).toArray].toArray w0 (Ret (.bool (zCX a s)) w0):=by
 refine enter [.tmp 2] Tryz.func213 rfl Tryz.ntmps213 rfl rfl ?_
 have H:=zB w0
 repeat' (first|refine yT ?_|refine y7 sg H ?_|(refine y9 H ?_;intro b w H)|refine yU ?_|(refine y17 ?_ ?_;all_goals intro h)|fail)
 all_goals simp only[decide_eq_true_eq,decide_eq_false_iff_not,ge_iff_le] at *
 all_goals first
  | exact zQ rfl H.cl (congrArg Value.bool (by unfold zCX;simp only[*,decide_true,decide_false,Bool.true_and,Bool.and_true,Bool.false_and,Bool.and_false]))
def orF (x y:Int):Int:=if x=0 then y else x
theorem zQx {b:Nat}{T:TypeId}{fr:Nat × Nat}{F:zH}(x y:Int)(w0:World)(hF:Mem w0 F)(hm:(b,Obj.cells [Value.int .i64 x,Value.int .i64 y].toArray T fr)∈F) :
  Calls Tryz.prog 121 [.slice (some ⟨b,0,none⟩) 2 2].toArray w0 (Ret (.int .i64 (orF x y)) w0):=by
 have hs:SlB F 1 (some ⟨b,0,none⟩) 2 b 0 [.int .i64 x,.int .i64 y] T fr (fun j=>[.int .i64 (if j=0 then x else y)]):=fun _=>⟨rfl,hm,fun j hj=>by
  have:j=0∨j=1:=by omega
  rcases this with rfl|rfl<;>exact⟨by simp,rfl⟩⟩
 refine enter [.tmp 2] Tryz.func121 rfl Tryz.ntmps121 rfl rfl ?_
 have H:=zB w0
 repeat' (first|refine yT ?_|refine yU ?_|with_reducible apply zA|fail)
 refine zM [(2,2),(5,5),(8,16)] (fun k:Nat=>[(8,.int .i64 (k:Int))]) (fun k w=>k≤2∧(0<k→x=0)∧(1<k→y=0)∧St w0 [] w) (fun k=>2 - k) 0 ⟨rfl,trivial⟩ ⟨zzD _,fun h=>absurd h (by omega),fun h=>absurd h (by omega),H⟩ ?_
 clear H
 rintro k gh w ⟨hk,h1,h2,H⟩
 repeat' (first|refine yT ?_|refine yU ?_|fail)
 refine zJ rfl (fun h=>?_) (fun h=>?_)
 ·have hlt:k<2:=by have:=zzA h;omega
  clear h
  repeat' (first|refine yT ?_|(refine y40 sg (hs) ?_ ?_ ?_;(omega);(omega))|(refine y46 sg (hs) ((H.memF hF)) ?_ ?_;(omega))|refine yU ?_|with_reducible apply zA|fail)
  refine zJ rfl (fun h=>?_) (fun h=>?_)
  ·repeat' (first|refine yT ?_|refine yU ?_|fail)
   have h:¬ (if k=0 then x else y)=0:=by simpa using h
   refine zQ rfl H.cl (congrArg (Value.int .i64) ?_)
   rcases(show k=0∨k=1 by omega) with rfl|rfl
   ·rw[if_pos rfl] at h ⊢;unfold orF;rw[if_neg h]
   ·rw[if_neg (by omega)];unfold orF;rw[if_pos (h1 (by omega))]
  ·have h:(if k=0 then x else y)=0:=by simpa using h
   repeat' (first|refine yT ?_|refine yU ?_|fail)
   refine zK (k+1) rfl ⟨zZ (by omega),trivial⟩ ⟨hlt,fun _=>?_,fun g=>?_,H⟩ (by omega)
   ·rcases(show k=0∨k=1 by omega) with rfl|rfl
    ·rw[if_pos rfl] at h;exact h
    ·exact h1 (by omega)
   ·obtain rfl:k=1:=by omega
    rw[if_neg (by omega)] at h;exact h
 ·obtain rfl:k=2:=by have:=zzB h;omega
  repeat' (first|refine yT ?_|refine yU ?_|fail)
  exact zQ rfl H.cl (congrArg (Value.int .i64) (by unfold orF;rw[h1 (by omega),if_pos rfl,h2 (by omega)]))
def zMH (a s b t:Int):Int:=orF (zCB a b) (zCB s t)
theorem zNb (a s b t:Int):zMH a s b t<0↔(a<b∨a=b∧s<t):=by
 unfold zMH orF zCB
 repeat' split
 all_goals omega
theorem zQy (a s b t:Int)(w0:World):Calls Tryz.prog 214 [.agg (plc2 a s).toArray,.agg (plc2 b t).toArray].toArray w0 (Ret (.int .i64 (zMH a s b t)) w0):=by
 refine enter [.tmp 4] Tryz.func214 rfl Tryz.ntmps214 rfl rfl ?_
 have H:=zB w0
 repeat' (first|refine yT ?_|refine y8 sg H ?_|(refine y9 H ?_;intro b w H)|refine y12 ?_|(refine CW.regionR mixed ?_;intro w hcl;replace H:=H.ext hcl;clear hcl;(with_reducible apply RW.quiet 10);exact rfl;decide +kernel;simp only[List.append_eq,List.cons_append,List.nil_append,List.take_succ_cons,List.take_zero,List.drop_zero])|(refine' y31 ent225 ?_ ?_;rotate_left;exact(fun _ hcl=>zME _ _ _))|(refine z14 sg H ?_;intro b w H)|(refine' y30 zL6 ?_ ?_;rotate_left;exact zQx _ _ _ (H.mem) (zz2 _);intro w hcl;replace H:=H.ext hcl;clear hcl)|refine yU ?_|(with_reducible apply zL;intro w hcl;replace H:=H.ext hcl;clear hcl)|fail)
 exact zQ rfl H.cl rfl
def zAN (acct free held:Int):Int:=if acct=0 then 0 else if free<0∨held<0 then 47 else if free>1125899906842624∨held>1125899906842624∨free+held>1125899906842624 then 41 else 0
theorem zNc (a s f d:Int)(w0:World)(hf1:-9223372036854775808≤f)(hf2:f≤9223372036854775807)(hd1:-9223372036854775808≤d)(hd2:d≤9223372036854775807) :
  Calls Tryz.prog 215 [.agg #[.int .i64 a,.int .i64 s,.int .i64 f,.int .i64 d]].toArray w0 (Ret (.int .i64 (zAN a f d)) w0):=by
 refine enter [.tmp 2] Tryz.func215 rfl Tryz.ntmps215 rfl rfl ?_
 have H:=zB w0
 repeat' (first|refine yT ?_|refine y7 sg H ?_|(refine y9 H ?_;intro b w H)|refine yU ?_|(refine y17 ?_ ?_;all_goals intro h)|with_reducible apply zA|(refine y23 ?_ ?_;all_goals intro h)|fail)
 all_goals simp only[decide_eq_true_eq,decide_eq_false_iff_not,ge_iff_le,gt_iff_lt,beq_iff_eq,beq_eq_false_iff_ne,ne_eq] at *
 all_goals try rw[w64 (by omega) (by omega)] at h
 all_goals exact zQ rfl H.cl (congrArg (Value.int .i64) (by unfold zAN;(repeat' split)<;>omega))
def zQz (r:Row4):Bool:=zCX r.acct r.asset&&!(r.free==0&&r.held==0)&&(if r.acct=0 then r.held==0 else decide (0≤r.free)&&decide (0≤r.held)&&decide (r.free+r.held≤1125899906842624))
def zEb (r:Row4):Prop:=(0≤r.acct∧r.acct≤64∧0≤r.asset∧r.asset≤16)∧¬ (r.free=0∧r.held=0)∧(r.acct=0→r.held=0)∧(r.acct≠0→0≤r.free∧0≤r.held∧r.free+r.held≤1125899906842624)
theorem zIv (r:Row4):zQz r=true↔zEb r:=by
 unfold zQz zEb
 rw[Bool.and_eq_true,Bool.and_eq_true,zC9]
 by_cases h:r.acct=0
 ·simp[h];omega
 ·simp[h];omega
def ltR (a b:Row4):Bool:=decide (a.acct<b.acct)||(decide (a.acct=b.acct)&&decide (a.asset<b.asset))
def LtR (a b:Row4):Prop:=a.acct<b.acct∨a.acct=b.acct∧a.asset<b.asset
theorem zTN (a b:Row4):ltR a b=true↔LtR a b:=by simp[ltR,LtR]
def smR (l:List Row4)(a:Int):Nat→Int
 | 0=>0
 | k+1=>smR l a k+if (rw_ l k).asset=a then(rw_ l k).free+(rw_ l k).held else 0
def zNd (l:List Row4)(k:Nat):Bool:=zQz (rw_ l k)&&(k==0||ltR (rw_ l (k - 1)) (rw_ l k))
def zAJ (l:List Row4):Bool:=(List.range l.length).all (fun k=>zNd l k)&&(List.range 17).all fun a=>smR l (a:Nat) l.length==0
def RowsP (l:List Row4)(k:Nat):Prop:=∀ j,j<k→zEb (rw_ l j)∧(j=0∨LtR (rw_ l (j - 1)) (rw_ l j))
theorem zIw {l:List Row4}{k:Nat}:zNd l k=true↔zEb (rw_ l k)∧(k=0∨LtR (rw_ l (k - 1)) (rw_ l k)):=by
 unfold zNd
 rw[Bool.and_eq_true,zIv,Bool.or_eq_true,zTN]
 simp
theorem zBN {l:List Row4}:zAJ l=true↔RowsP l l.length∧∀ a:Nat,a<17→smR l a l.length=0:=by
 unfold zAJ RowsP
 rw[Bool.and_eq_true,List.all_eq_true,List.all_eq_true]
 simp only[List.mem_range,zIw,beq_iff_eq]
theorem RowsP.succ {l:List Row4}{k:Nat}(h:RowsP l k)(h1:zEb (rw_ l k))(h2:k=0∨LtR (rw_ l (k - 1)) (rw_ l k)):RowsP l (k+1):=fun j hj=>by
 rcases(show j<k∨j=k by omega) with g|rfl
 ·exact h j g
 ·exact⟨h1,h2⟩
theorem RowsP.lt {l:List Row4}{k:Nat}(h:RowsP l k):∀ {i j:Nat},i<j→j<k→LtR (rw_ l i) (rw_ l j):=by
 intro i j hij
 induction j with
 | zero=>omega
 | succ j ih =>
   intro hj
   have h2:=(h (j+1) hj).2.resolve_left (by omega)
   rw[Nat.add_sub_cancel] at h2
   rcases(show i=j∨i<j by omega) with rfl|g
   ·exact h2
   ·have h1:=ih g (by omega)
    unfold LtR at *
    omega
def zR (l:List Row4)(a:Int):Nat→Int
 | 0=>0
 | k+1=>zR l a k+if (rw_ l k).asset=a∧(rw_ l k).acct=0 then(rw_ l k).free else 0
def pR (l:List Row4)(a:Int):Nat→Int
 | 0=>0
 | k+1=>pR l a k+if (rw_ l k).asset=a∧(rw_ l k).acct≠0 then(rw_ l k).free+(rw_ l k).held else 0
theorem zFA {l:List Row4}{a:Int}:∀ {k:Nat},RowsP l k→smR l a k=zR l a k+pR l a k
 | 0,_=>rfl
 | k+1,h=>by
   have ih:=zFA (a:=a) (fun j hj=>h j (by omega):RowsP l k)
   have hg:=(h k (Nat.lt_succ_self k)).1.2.2.1
   simp only[smR,zR,pR,ih]
   by_cases h1:(rw_ l k).asset=a
   ·by_cases h2:(rw_ l k).acct=0
    ·have:=hg h2;simp[h1,h2,this];omega
    ·simp[h1,h2];omega
   ·simp[h1]
theorem zNe {l:List Row4}{a:Int}:∀ {k:Nat},RowsP l k→∃ m:Int,0≤m∧m≤64∧0≤pR l a k∧pR l a k≤1125899906842624*m∧(m=0∨∃ j,j<k∧(rw_ l j).acct=m∧(rw_ l j).asset=a)
 | 0,_=>⟨0,by omega,by omega,by simp[pR],by simp[pR],.inl rfl⟩
 | k+1,h=>by
   obtain⟨m,m1,m2,m3,m4,m5⟩:=zNe (a:=a) (fun j hj=>h j (by omega):RowsP l k)
   have hg:=(h k (Nat.lt_succ_self k)).1
   simp only[pR]
   by_cases h1:(rw_ l k).asset=a∧(rw_ l k).acct≠0
   ·rw[if_pos h1]
    obtain⟨g1,g2,g3⟩:=hg.2.2.2 h1.2
    have hlt:m<(rw_ l k).acct:=by
     rcases m5 with rfl|⟨j,j1,j2,j3⟩
     ·have:=hg.1.1;omega
     ·have:=h.lt j1 (Nat.lt_succ_self k)
      unfold LtR at this
      omega
    exact⟨(rw_ l k).acct,by omega,hg.1.2.1,by omega,by omega,.inr ⟨k,Nat.lt_succ_self k,rfl,h1.1⟩⟩
   ·rw[if_neg h1]
    exact⟨m,m1,m2,by omega,by omega,m5.imp_right fun⟨j,j1,j2⟩=>⟨j,by omega,j2⟩⟩
theorem zR_no {l:List Row4}{a:Int}:∀ {k:Nat},(∀ j,j<k→¬ ((rw_ l j).asset=a∧(rw_ l j).acct=0))→zR l a k=0
 | 0,_=>rfl
 | k+1,h=>by
   simp only[zR]
   rw[zR_no (fun j hj=>h j (by omega)),if_neg (h k (Nat.lt_succ_self k))];rfl
theorem zJo {l:List Row4}{a:Int}{n j:Nat}(h:RowsP l n)(hj:j<n)(h1:(rw_ l j).asset=a)(h2:(rw_ l j).acct=0):∀ {k:Nat},k≤n→zR l a k=if j<k then(rw_ l j).free else 0
 | 0,_=>by simp[zR]
 | k+1,hk=>by
   have ih:=zJo h hj h1 h2 (k:=k) (by omega)
   simp only[zR,ih]
   rcases(show k<j∨k=j∨j<k by omega) with g|rfl|g
   ·have:¬ ((rw_ l k).asset=a∧(rw_ l k).acct=0):=fun⟨q1,q2⟩=>by
     have:=h.lt g hj
     unfold LtR at this
     omega
    rw[if_neg this,if_neg (by omega),if_neg (by omega)];rfl
   ·rw[if_neg (by omega),if_pos ⟨h1,h2⟩,if_pos (by omega)];omega
   ·have:¬ ((rw_ l k).asset=a∧(rw_ l k).acct=0):=fun⟨q1,q2⟩=>by
     have:=h.lt g (by omega)
     unfold LtR at this
     omega
    rw[if_pos g,if_neg this,if_pos (by omega)];omega
theorem zTO {l:List Row4}(hl:zAJ l=true){a:Nat}(ha:a<17){k:Nat}(hk:k≤l.length):-72057594037927936≤smR l a k∧smR l a k≤72057594037927936:=by
 obtain⟨h,h0⟩:=zBN.1 hl
 have hk2:RowsP l k:=fun j hj=>h j (by omega)
 obtain⟨m,m1,m2,m3,m4,_⟩:=zNe (a:=a) h
 obtain⟨m',p1,p2,p3,p4,_⟩:=zNe (a:=a) hk2
 have e1:=zFA (a:=a) h
 have e2:=zFA (a:=a) hk2
 rw[h0 a ha] at e1
 by_cases hz:∃ j,j<l.length∧(rw_ l j).asset=a∧(rw_ l j).acct=0
 ·obtain⟨j,j1,j2,j3⟩:=hz
  have z1:=zJo h j1 j2 j3 (zzC _)
  have z2:=zJo h j1 j2 j3 hk
  rw[if_pos j1] at z1
  split at z2<;>omega
 ·have z2:zR l a k=0:=zR_no fun j hj hh=>hz ⟨j,by omega,hh.1,hh.2⟩
  omega
theorem zOr {l:List Row4}(hl:zAJ l=true){j:Nat}(hj:j<l.length)(h0:(rw_ l j).acct=0):-72057594037927936≤(rw_ l j).free∧(rw_ l j).free≤0:=by
 obtain⟨h,h1⟩:=zBN.1 hl
 have hg:=(h j hj).1.1
 have ha:(rw_ l j).asset=(((rw_ l j).asset.toNat:Nat):Int):=by omega
 obtain⟨m,m1,m2,m3,m4,_⟩:=zNe (a:=(rw_ l j).asset) h
 have e1:=zFA (a:=(rw_ l j).asset) h
 have z1:=zJo h hj rfl h0 (zzC _)
 rw[if_pos hj] at z1
 have:=h1 (rw_ l j).asset.toNat (by omega)
 rw[← ha] at this
 omega
end Go.Proofs.YtibmaifoaajllaaGreatDoor
