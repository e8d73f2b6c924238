/- Steps of the proof. -/
import Derived.Laws.MakeOwn
import Derived.Laws.StructEq
import Derived.Test.YtejhijhnlogikaaGreatDoorMe03
set_option linter.all false
set_option maxHeartbeats 16000000
namespace Go.Proofs.YtejhijhnlogikaaGreatDoor
open Go Go.Sk Go.RowKit Tryz
def zCO (x y:Int):Int:=if x<y then -1 else if x>y then 1 else 0
theorem zGn (x y:Int):decide (zCO x y<0)=decide (x<y):=by{
unfold zCO;split
.simp[*]
.split<;>simp[*]}
theorem zWI (x:Int)(w:World):Cr 90 [.int .i64 x] (.bool false) w:=by refine eS func90 ntmps90 fun H=>?_;(repeat' first|refine yW ?_|fail);exact zG rfl H.cl (by simp)
theorem zD9 (x y:Int)(w:World):Cr 49 [.int .i64 x,.int .i64 y] (.int .i64 (zCO x y)) w:=by
 refine eS func49 ntmps49 fun H=>?_;(repeat' first|refine yW ?_|(refine c0 ent90 ?_;refine⟨_,zWI _ _,?_⟩;clear H;intro w H)|(refine y23 ?_ ?_;all_goals intro h)|fail);all_goals simp only[decide_eq_true_eq,yyy] at *
 all_goals exact zG rfl H.cl (congrArg (Value.int .i64) (by unfold zCO;split<;>(try split)<;>omega))
theorem zTc (x:Int)(w:World):Cr 283 [.int .i64 x] (.bool false) w:=by refine eS func283 ntmps283 fun H=>?_;(repeat' first|refine yW ?_|fail);exact zG rfl H.cl (by simp)
theorem zOS (x y:Int)(w:World):Cr 267 [.int .i64 x,.int .i64 y] (.int .i64 (zCO x y)) w:=by
 refine eS func267 ntmps267 fun H=>?_;(repeat' first|refine yW ?_|(refine c0 ent283 ?_;refine⟨_,zTc _ _,?_⟩;clear H;intro w H)|(refine y23 ?_ ?_;all_goals intro h)|fail);all_goals simp only[decide_eq_true_eq,yyy] at *
 all_goals exact zG rfl H.cl (congrArg (Value.int .i64) (by unfold zCO;split<;>(try split)<;>omega))
end Go.Proofs.YtejhijhnlogikaaGreatDoor
namespace Go.Sk
section
open Go Go.RowKit
section
attribute [local semireducible] OX OW QX QW RA
variable {P:Program}{n:Nw}{ops:Array Oper}{Q:zAM}{o:Oper}{rest:List Oper}{L:List (Nat × Value)}{b0:Env}{w:World}(S:Sig P)
end
section
variable {P:Program}{n:Nw}{ops:Array Oper}{Q:zAM}{K:Env->World->Prop}{o:Oper}{rest:List Oper}{L:List (Nat × Value)}{b:Env}{w:World}(S:Sig P)
theorem y46 {F:zA}{a:OA}{m b' off:Nat}{cs:List Value}{T:TypeId}{fr:Nat × Nat}{el:Nat->List Value}{d:Nat}{t:TypeId}{x:Operand}{j:Nat}{ti:TI}{v:Value}(hs:SlB F 1 a m b' off cs T fr el)(hM:Mem w F)(hj:j<m)
  (kk:OW P n ops Q rest (ovl ((d,v)::L) b) w) (hd:o.dst=some d:=by exact rfl) (hlt:Nat.blt d n.n=true:=by exact rfl) (ho:o.op=.load t x:=by exact rfl) (hx:ev (ovl L b) x=.pointer (some ⟨b',off+j*1,none⟩):=by exact rfl) (ht:lk S.tab t=some ti:=by exact rfl) (hag:zBP ti.d=false:=by exact rfl) (hv:(match (el j)[0]? with|some v=>nf v|none=>none)=some v:=by exact rfl):OX P n ops Q o rest (ovl L b) w :=
 za hd hlt (Yq.loadB1 S hs hM ho hx ht hag hj hv) kk
end
end
section
open Go Go.RowKit
def eqV:Value->Value->Option Bool
 | .int k a,.int k' b=>bif kEq k k' then some (a==b) else none
 | .bool a,.bool b=>some (a==b)
 | .string a,.string b=>some (a.toList==b.toList)
 | _,_=>none
def zGo:TypeDesc->Value->Bool
 | .int _,.int _ _=>true
 | .bool,.bool _=>true
 | .string,.string _=>true
 | _,_=>false
def eqF (ty:Tab)(cs ds:List Value):List Field->Option Bool
 | []=>some true
 | f::r=>match lk ty f.type,cs[f.offset]?,ds[f.offset]? with
   | some ti,some x,some y=>bif zGo ti.d x&&zGo ti.d y then
     (match eqV x y,eqF ty cs ds r with
     | some b,some b'=>some (b&&b')
     | _,_=>none)
     else none
   | _,_,_=>none
theorem zMh {d:TypeDesc}{x:Value}(h:zGo d x=true):zBP d=false:=by cases d<;>cases x<;>first|rfl|cases h
section
variable {P:Program}(S:Sig P)
theorem zOT {t:TypeId}{ti:TI}(ht:lk S.tab t=some ti){x y:Value}{b:Bool}(hx:zGo ti.d x=true)(hy:zGo ti.d y=true)(h:eqV x y=some b)(d:Nat)(w:World):(Op.equalIn (d+1) t x y).run P w=.ok b w:=by{
have hu:=S.und ht;cases hd:ti.d<;>rw[hd] at hx hy hu<;>cases x<;>simp only[zGo] at hx<;>try (cases hx;done)
all_goals cases y<;>simp only[zGo] at hy<;>try (cases hy;done)
all_goals simp only[eqV] at h
.cases h;exact run_equalIn_bool w d t _ _ hu
.rename_i k' k a k2 b2;cases hk:kEq k k2 with
 | false=>rw[hk] at h;cases h
 | true =>
   rw[hk] at h;cases h;obtain rfl:k=k2:=zzA hk;exact run_equalIn_int w d t _ _ _ _ hu
.cases h;exact run_equalIn_string w d t _ _ hu}
theorem zTd (cs ds:List Value)(d:Nat)(w:World):∀ (fs:List Field) (r:Bool),fs.all (fun f=>f.name != "_")=true->eqF S.tab cs ds fs=some r->(Op.eqFields (d+1) cs.toArray ds.toArray fs).run P w=.ok r w
 | [],r,_,h=>by cases h;rfl
 | f::fs,r,hn,h=>by
   simp only[List.all_cons,yy3,bne_iff_ne,ne_eq] at hn
   unfold eqF at h
   split at h
   .rename_i ti x y ht hx hy
    cases hf:(zGo ti.d x&&zGo ti.d y) with
    | false=>rw[hf] at h;cases h
    | true =>
      rw[hf] at h
      simp only[yy3] at hf
      simp only[cond_true] at h
      split at h
      .rename_i b b' hb hb'
       cases h
       have p1:=zC3 S ht cs.toArray f.offset (v:=x) (by rw[zMh hf.1];simpa using hx) w
       have p2:=zC3 S ht ds.toArray f.offset (v:=y) (by rw[zMh hf.1];simpa using hy) w
       have e:=zOT S ht hf.1 hf.2 hb d w
       have ih:=zTd cs ds d w fs b' (by simpa using hn.2) hb'
       simp only[Op.eqFields,hn.1,ne_eq,not_false_eq_true,if_true,Sem.run_bind,p1,p2,e,Result.andThen_ok]
       cases b
       .rfl
       .simpa using ih
      .cases h
   .cases h
theorem zLR {t:TypeId}{ti:TI}{fs:Array Field}(ht:lk S.tab t=some ti)(htd:ti.d=.struct fs)(st:P.stoodInHeld t=false)(hn:fs.toList.all (fun f=>f.name != "_")=true){cs ds:List Value}{r:Bool}(h:eqF S.tab cs ds fs.toList=some r)(w:World) :
  (Op.equalIn 10000 t (.agg cs.toArray) (.agg ds.toArray)).run P w=.ok r w:=by
 have hu:=S.und ht;rw[htd] at hu;have hf:P.fieldsOf t=fs:=by unfold Program.fieldsOf;rw[hu]
 have h2:=run_equalIn_struct (P:=P) w 9999 t cs.toArray ds.toArray (by rw[hf];exact hu) st;rw[hf] at h2;exact h2.trans (zTd S cs ds 9998 w fs.toList r hn h)
theorem zIW {o:Oper}{e:Env}{w:World}{t:TypeId}{x y:Operand}{yT:TypeId}{ti:TI}{fs:Array Field}{cs ds:List Value}{r:Bool}(st:P.stoodInHeld t=false)(eg:P.eqGuardType P.depth t=false)
  (ho:o.op=.binOp .neq t x y yT) (hx:nf (ev e x)=some (.agg cs.toArray)) (hy:nf (ev e y)=some (.agg ds.toArray)) (ht:lk S.tab t=some ti) (htd:ti.d=.struct fs) (hn:fs.toList.all (fun f=>f.name != "_")=true) (h:eqF S.tab cs ds fs.toList=some r):Yq P o e w (.bool (!r)):=by have hx:=zCR hx;have hy:=zCR hy;refine Yq.of fun w'=>?_;simp only[execOp,ho,hx,hy,Sem.run_bind,run_eqGuard_agg w' _ _ _ _ _ _ eg,Result.andThen_ok,run_neq_struct,zLR S ht htd st hn h,Sem.run_pure]
end
end
section
open Go Go.RowKit
def zHc (s:ByteArray)(j:Nat):Nat:=(s.data.getD j 0).toNat
section
attribute [local semireducible] Yq
variable {P:Program}(S:Sig P){o:Oper}{e:Env}{w:World}
def bytesOf (l:List Nat):ByteArray:=⟨(l.map fun n=>UInt8.ofNat n).toArray⟩
end
end
end Go.Sk
namespace Go.Proofs.YtejhijhnlogikaaGreatDoor
open Go Go.Sk Go.RowKit Tryz
attribute [local irreducible] Go.Calls
structure Ac where
 name:ByteArray
 opn:Bool
 deriving Inhabited
def Ac.cells (x:Ac):List Value:=[.string x.name,.bool x.opn]
structure Ins where
 name:ByteArray
 tick:Int
 halted:Bool
 deriving Inhabited
def Ins.cells (x:Ins):List Value:=[.string x.name,.int .i64 x.tick,.bool x.halted]
structure Row4 where
 acct:Int
 asset:Int
 free:Int
 held:Int
 deriving DecidableEq,Inhabited
def Row4.cells (x:Row4):List Value:=[.int .i64 x.acct,.int .i64 x.asset,.int .i64 x.free,.int .i64 x.held]
structure Odr where
 id:Int
 acct:Int
 inst:Int
 side:Int
 price:Int
 left:Int
 deriving DecidableEq,Inhabited
def Odr.cells (x:Odr):List Value:=[.int .i64 x.id,.int .i64 x.acct,.int .i64 x.inst,.int .u8 x.side,.int .i64 x.price,.int .i64 x.left]
def ac_ (l:List Ac)(j:Nat):Ac:=l.getD j default
def in_ (l:List Ins)(j:Nat):Ins:=l.getD j default
def rw_ (l:List Row4)(j:Nat):Row4:=l.getD j default
def od_ (l:List Odr)(j:Nat):Odr:=l.getD j default
def acl (l:List Ac)(j:Nat):List Value:=(ac_ l j).cells
def ing (l:List Ins)(j:Nat):List Value:=(in_ l j).cells
def rwl (l:List Row4)(j:Nat):List Value:=(rw_ l j).cells
def odl (l:List Odr)(j:Nat):List Value:=(od_ l j).cells
def okB (n:Nat):Bool:=(decide (97<=n)&&decide (n<=122))||(decide (48<=n)&&decide (n<=57))||n==45||n==95
def zMi (s:ByteArray)(k:Nat):Bool:=(List.range k).all fun j=>okB (zHc s j)
def zAE (s:ByteArray):Bool:=decide (1<=s.size)&&decide (s.size<=24)&&zMi s s.size
theorem zRG (s:ByteArray)(k:Nat):zMi s (k+1)=(zMi s k&&okB (zHc s k)):=by unfold zMi;rw[yys,List.all_append];simp
theorem zTe {s:ByteArray}{k n:Nat}(h:okB (zHc s k)=false)(hk:k<n):zMi s n=false:=by unfold zMi;rw[List.all_eq_false];exact⟨k,List.mem_range.2 hk,by simp[h]⟩
theorem zWJ (n:Nat):okB n=true↔((97<=n/\n<=122)\/(48<=n/\n<=57)\/n=45\/n=95):=by simp only[okB,Bool.or_eq_true,yy3,decide_eq_true_eq,beq_iff_eq];omega
def zI1 (n m:Int):Bool:=decide (1<=n)&&decide (n<=m)
theorem c_betw (n m:Int)(w:World):Cr 96 [.int .i64 n,.int .i64 m] (.bool (zI1 n m)) w:=by
 refine eS func96 ntmps96 fun H=>?_;(repeat' first|refine yW ?_|(refine y17 ?_ ?_;all_goals intro h)|fail);all_goals simp only[decide_eq_true_eq,yyy,ge_iff_le] at *
 all_goals exact zG rfl H.cl (congrArg Value.bool (by unfold zI1;simp only[*,decide_true,decide_false,Bool.true_and,Bool.and_true,Bool.false_and,Bool.and_false]))
theorem zWK (n m:Int)(w:World):Cr 97 [.int .i64 n,.int .i64 m] (.bool (zI1 n m)) w:=by
 refine eS func97 ntmps97 fun H=>?_;(repeat' first|refine yW ?_|(refine y17 ?_ ?_;all_goals intro h)|fail);all_goals simp only[decide_eq_true_eq,yyy,ge_iff_le] at *
 all_goals exact zG rfl H.cl (congrArg Value.bool (by unfold zI1;simp only[*,decide_true,decide_false,Bool.true_and,Bool.and_true,Bool.false_and,Bool.and_false]))
def zt (o:Odr):Bool:=zI1 o.id 1099511627776&&zI1 o.acct 64&&zI1 o.inst 16&&(o.side==1||o.side==2)&&zI1 o.price 1073741824&&zI1 o.left 1048576
theorem zTf (n m:Int):zI1 n m=true↔(1<=n/\n<=m):=by simp[zI1]
def zAV (o:Odr):Prop:=(1<=o.id/\o.id<=1099511627776)/\(1<=o.acct/\o.acct<=64)/\(1<=o.inst/\o.inst<=16)/\(o.side=1\/o.side=2)/\(1<=o.price/\o.price<=1073741824)/\(1<=o.left/\o.left<=1048576)
theorem zAi (o:Odr):zt o=true↔zAV o:=by unfold zt zAV;simp only[yy3,Bool.or_eq_true,zTf,beq_iff_eq,and_assoc]
theorem zBa (o:Odr)(w0:World):Cr 51 [.agg o.cells.toArray] (.bool (zt o)) w0:=by refine eS func51 ntmps51 fun H=>?_;(repeat' first|refine yW ?_|(refine yB ?_;intro b w H)|(refine c0 ent97 ?_;refine⟨_,zWK _ _ _,?_⟩;clear H;intro w H)|(refine c0 ent96 ?_;refine⟨_,c_betw _ _ _,?_⟩;clear H;intro w H)|(refine y17 ?_ ?_;all_goals intro h)|fail);all_goals exact zG rfl H.cl (congrArg Value.bool (by unfold zt;simp only[*,Bool.true_and,Bool.and_true,Bool.false_and,Bool.and_false,Bool.true_or,Bool.false_or,Bool.or_true,Bool.or_false]))
def zTg (l:List Odr)(k:Nat):Bool:=!zt (od_ l k)||(decide (0<k)&&decide ((od_ l k).id<=(od_ l (k - 1)).id))
def zb (l:List Odr):Bool:=decide (l.length<=128)&&(List.range l.length).all fun k=>!zTg l k
def Ords (F:zA)(a:OA)(cap:Nat)(l:List Odr):Prop:=SlA F 6 a l.length cap (odl l)
def OrdP (l:List Odr)(k:Nat):Prop:=∀ j,j<k->zAV (od_ l j)/\(j=0\/(od_ l (j - 1)).id<(od_ l j).id)
theorem zRH {l:List Odr}{k:Nat}:zTg l k=false↔zAV (od_ l k)/\(k=0\/(od_ l (k - 1)).id<(od_ l k).id):=by unfold zTg;rw[Bool.or_eq_false_iff,Bool.not_eq_false',zAi];simp only[Bool.and_eq_false_iff,yyy];exact and_congr_right fun _=>by omega
theorem zAk {l:List Odr}:zb l=true↔l.length<=128/\OrdP l l.length:=by unfold zb OrdP;rw[yy3,decide_eq_true_eq,yye];simp only[yy8,Bool.not_eq_true',zRH]
theorem OrdP.succ {l:List Odr}{k:Nat}(h:OrdP l k)(h1:zAV (od_ l k))(h2:k=0\/(od_ l (k - 1)).id<(od_ l k).id):OrdP l (k+1):=fun j hj=>by{
rcases(show j<k\/j=k by omega) with g|rfl
.exact h j g
.exact⟨h1,h2⟩}
theorem zOU {l:List Odr}(h:zb l=true->False):false=zb l:=by{
cases hq:zb l with
| false=>rfl
| true=>exact(h hq).elim}
theorem zGX {p q:Int}(h1:1<=p)(h2:p<=1073741824)(h3:1<=q)(h4:q<=1048576):1<=p*q/\p*q<=1125899906842624:=by have a:=Int.mul_le_mul h1 h3 qO qO;have b:=Int.mul_le_mul h2 h4 qO qO;constructor<;>omega
def zV (o:Odr):Int × Int:=if zt o=true then(if o.side=1 then(0,o.price*o.left) else(o.inst,o.left)) else(0,0)
theorem zLS (o:Odr)(w0:World):Cr 219 [.agg o.cells.toArray] (.tuple #[.int .i64 (zV o).1,.int .i64 (zV o).2]) w0:=by{
have hp:=zAi o;refine eS func219 ntmps219 fun H=>?_;(repeat' first|refine yW ?_|(refine yB ?_;intro b w H)|(refine c0 zFA ?_;refine⟨_,zBa o _,?_⟩;clear H;intro w H)|(refine qN H ?_;clear H;intro w H)|refine y20 mixed ?_|(refine y23 ?_ ?_;all_goals intro h)|fail);all_goals simp only[Bool.not_eq_true',Bool.not_eq_false',beq_iff_eq,yyq,ne_eq] at *
all_goals first
 | (have hm:¬ zt o=true:=by rw[‹zt o=false›];decide
    exact zFL rfl rfl H.cl (by unfold zV;rw[if_neg hm]))
 | (have hm:=‹zt o=true›
    obtain⟨_,_,_,_,⟨q1,q2⟩,q3,q4⟩:=hp.1 hm;obtain⟨b1,b2⟩:=zGX q1 q2 q3 q4;refine zFL rfl rfl H.cl ?_;unfold zV;rw[if_pos hm]
    first
     | (rw[if_pos ‹_›,w64 qO qO])
     | rw[if_neg ‹_›])}
theorem zOV (x y:Odr)(w0:World):Cr 135 [.agg x.cells.toArray,.agg y.cells.toArray] (.int .i64 (zCO x.id y.id)) w0:=by refine eS func135 ntmps135 fun H=>?_;(repeat' first|refine yW ?_|(refine yB ?_;intro b w H)|(refine c0 zMd ?_;refine⟨_,zD9 _ _ _,?_⟩;clear H;intro w H)|fail);exact zG rfl H.cl rfl
theorem zWL (o:Odr)(w0:World):Cr 134 [.agg o.cells.toArray] (.bool (!zt o)) w0:=by refine eS func134 ntmps134 fun H=>?_;(repeat' first|refine yW ?_|(refine yB ?_;intro b w H)|(refine c0 zFA ?_;refine⟨_,zBa o _,?_⟩;clear H;intro w H)|fail);exact zG rfl H.cl rfl
theorem zWM (x y:Int):decide (zCO x y >= 0)=decide (y<=x):=by{
unfold zCO;split
.simp;omega
.split<;>simp<;>omega}
theorem zAo {a:OA}{cap:Nat}(l:List Odr){F:zA}(w0:World)(hF:Mem w0 F)(hs0:Ords F a cap l) :
  Cr 91 [.slice a l.length cap] (.bool (zb l)) w0:=by{
obtain⟨hnc,hcb,b0,off,cs,T,fr,hs⟩:=id hs0
have cont:∀ {w:World},Mem w F->Cr 133 [.slice a l.length cap,.func (.func 134) #[] #[]] (.bool (decide (idx (fun j=>!zt (od_ l j)) l.length >= 0))) w:=fun hF =>
 zDy (caps:=[]) (fun j=>!zt (od_ l j)) _ hF hs0 ent134 (fun j _ w _=>zWL (od_ l j) w)
have hno:idx (fun j=>!zt (od_ l j)) l.length >= 0->zb l=true->False:=fun h q=>by
 rcases zX (fun j=>!zt (od_ l j)) l.length with ⟨k,hk,_,hb,_⟩|⟨_,hx⟩
 .have:=((zAk.1 q).2 k hk).1;rw[(zAi _).2 this] at hb;cases hb
 .omega
have hyes:¬ idx (fun j=>!zt (od_ l j)) l.length >= 0->∀ j,j<l.length->zAV (od_ l j):=fun h j hj=>by
 rcases zX (fun j=>!zt (od_ l j)) l.length with ⟨k,_,_,_,hx⟩|⟨ha,_⟩
 .omega
 .have:=ha j hj;exact(zAi _).1 (by simpa using this)
refine eS func91 ntmps91 fun H=>?_;(repeat' first|refine yX ?_|(refine c0 zLH ?_;refine⟨_,cont (H.memF hF),?_⟩;clear H;intro w H)|(refine y17 ?_ ?_;all_goals intro h)|fail)
.exact zG rfl H.cl (congrArg Value.bool (zOU fun q=>by have:=(zAk.1 q).1;have:=zzA h;omega))
have h128:l.length<=128:=by have:=zzB h;omega
refine zB rfl (fun h2=>?_) (fun h2=>?_)
·(repeat' first|refine yX ?_|fail);exact zG rfl H.cl (congrArg Value.bool (zOU (hno (zzA h2))))
have hall:=hyes (zzB h2);clear hno hyes cont h h2;have hmin:(if ((l.length:Nat):Int)<1 then((l.length:Nat):Int) else 1)=((min 1 l.length:Nat):Int):=by split<;>omega
(repeat' first|refine yX ?_|fail);rw[hmin];(repeat' first|refine yX ?_|(refine za rfl rfl (Yq.sliceLo sg rfl rfl rfl rfl rfl rfl (zz1 _) qO qO) ?_)|fail);refine zD [(2,3),(17,31)] (fun k:Nat=>[(17,.int .i64 (k:Int))]) (fun k w=>k<=l.length - min 1 l.length/\OrdP l (k+min 1 l.length)/\St w0 [] w) (fun k=>l.length - k) 0 ⟨rfl,trivial⟩ ⟨zzD _,fun j hj=>⟨hall j qO,.inl qO⟩,H⟩ ?_;clear H;rintro k gh w ⟨hk,hP,H⟩;(repeat' first|refine yX ?_|fail);refine zB rfl (fun h=>?_) (fun h=>?_)
.have hlt:k+1<l.length:=by have:=zzA h;omega
 clear h;have hm1:min 1 l.length=1:=by omega
 rw[hm1] at hP;have hq:IntKind.i64.wrap ((k:Int)+1)=((k+1:Nat):Int):=by rw[w64 qO qO];omega
 (repeat' first|refine yX ?_|(refine zAp rfl rfl (zIX sg hs ((congrArg Int.toNat hq).trans (zz1 _)) (by rw[hq];omega) (by rw[hq];omega)) ?_)|refine x41 sg hs ?_|refine x43 sg hs (H.memF hF) ?_|(refine q0 zOF ?_;refine⟨_,fun _ hcl=>zOV (od_ l k) (od_ l (k+1)) _,?_⟩)|(refine qN H ?_;clear H;intro w H)|refine y20 mixed ?_|fail);rw[zWM];refine zB rfl (fun h=>?_) (fun h=>?_)
 ·(repeat' first|refine yX ?_|fail)
  exact zG rfl H.cl (congrArg Value.bool (zOU fun q=>by
   have:=((zAk.1 q).2 (k+1) hlt).2;have h:=zzA h;rw[Nat.add_sub_cancel] at this
   omega))
 .have h:=zzB h;(repeat' first|refine yX ?_|fail);refine zC (k+1) rfl ⟨zU qO,trivial⟩ ⟨by omega,?_,H⟩ qO;rw[hm1];exact hP.succ (hall _ hlt) (.inr (by rw[Nat.add_sub_cancel];omega))
.have hkn:k+min 1 l.length=l.length:=by have:=zzB h;omega
 rw[hkn] at hP;(repeat' first|refine yX ?_|fail);exact zG rfl H.cl (congrArg Value.bool (zAk.2 ⟨h128,hP⟩).symm)}
end Go.Proofs.YtejhijhnlogikaaGreatDoor
