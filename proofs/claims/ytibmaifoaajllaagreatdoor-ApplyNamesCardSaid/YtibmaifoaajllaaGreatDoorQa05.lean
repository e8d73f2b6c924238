/- Texts of ours, joined: the steps of the proof, or the claim's theorem. -/
import Derived.Laws.StructEq
import Derived.Test.YtibmaifoaajllaaGreatDoorQa04
set_option linter.unusedSimpArgs false
set_option linter.unusedVariables false
set_option maxHeartbeats 16000000
namespace Go.Sk
section
open Go Go.RowKit
def eqV:Value→Value→Option Bool
 | .int k a,.int k' b=>bif kEq k k' then some (a==b) else none
 | .bool a,.bool b=>some (a==b)
 | .string a,.string b=>some (a.toList==b.toList)
 | _,_=>none
def zF4:TypeDesc→Value→Bool
 | .int _,.int _ _=>true
 | .bool,.bool _=>true
 | .string,.string _=>true
 | _,_=>false
def eqF (ty:Tab)(cs ds:List Value):List Field→Option Bool
 | []=>some true
 | f::r=>match lk ty f.type,cs[f.offset]?,ds[f.offset]? with
   | some ti,some x,some y=>bif zF4 ti.d x&&zF4 ti.d y then
     (match eqV x y,eqF ty cs ds r with
     | some b,some b'=>some (b&&b')
     | _,_=>none)
     else none
   | _,_,_=>none
theorem zKp {d:TypeDesc}{x:Value}(h:zF4 d x=true):zB6 d=false:=by
 cases d<;>cases x<;>first|rfl|cases h
section
variable {P:Program}(S:Sig P)
theorem zQs {t:TypeId}{ti:TI}(ht:lk S.tab t=some ti){x y:Value}{b:Bool}(hx:zF4 ti.d x=true)(hy:zF4 ti.d y=true)(h:eqV x y=some b)(d:Nat)(w:World):(Op.equalIn (d+1) t x y).run P w=.ok b w:=by
 have hu:=S.und ht
 cases hd:ti.d<;>rw[hd] at hx hy hu<;>cases x<;>simp only[zF4] at hx<;>try (cases hx;done)
 all_goals cases y<;>simp only[zF4] at hy<;>try (cases hy;done)
 all_goals simp only[eqV] at h
 ·cases h
  exact run_equalIn_bool w d t _ _ hu
 ·rename_i k' k a k2 b2
  cases hk:kEq k k2 with
  | false=>rw[hk] at h;cases h
  | true =>
    rw[hk] at h
    cases h
    obtain rfl:k=k2:=zzA hk
    exact run_equalIn_int w d t _ _ _ _ hu
 ·cases h
  exact run_equalIn_string w d t _ _ hu
theorem zQt (cs ds:List Value)(d:Nat)(w:World):∀ (fs:List Field) (r:Bool),fs.all (fun f=>f.name != "_")=true→eqF S.tab cs ds fs=some r→(Op.eqFields (d+1) cs.toArray ds.toArray fs).run P w=.ok r w
 | [],r,_,h=>by cases h;rfl
 | f::fs,r,hn,h=>by
   simp only[List.all_cons,Bool.and_eq_true,bne_iff_ne,ne_eq] at hn
   unfold eqF at h
   split at h
   ·rename_i ti x y ht hx hy
    cases hf:(zF4 ti.d x&&zF4 ti.d y) with
    | false=>rw[hf] at h;cases h
    | true =>
      rw[hf] at h
      simp only[Bool.and_eq_true] at hf
      simp only[cond_true] at h
      split at h
      ·rename_i b b' hb hb'
       cases h
       have p1:=zC0 S ht cs.toArray f.offset (v:=x) (by rw[zKp hf.1];simpa using hx) w
       have p2:=zC0 S ht ds.toArray f.offset (v:=y) (by rw[zKp hf.1];simpa using hy) w
       have e:=zQs S ht hf.1 hf.2 hb d w
       have ih:=zQt cs ds d w fs b' (by simpa using hn.2) hb'
       simp only[Op.eqFields,hn.1,ne_eq,not_false_eq_true,if_true,Sem.run_bind,p1,p2,e,Result.andThen_ok]
       cases b
       ·rfl
       ·simpa using ih
      ·cases h
   ·cases h
theorem zHQ {t:TypeId}{ti:TI}{fs:Array Field}(ht:lk S.tab t=some ti)(htd:ti.d=.struct fs)(st:P.stoodInHeld t=false)(hn:fs.toList.all (fun f=>f.name != "_")=true){cs ds:List Value}{r:Bool}(h:eqF S.tab cs ds fs.toList=some r)(w:World) :
  (Op.equalIn 10000 t (.agg cs.toArray) (.agg ds.toArray)).run P w=.ok r w:=by
 have hu:=S.und ht
 rw[htd] at hu
 have hf:P.fieldsOf t=fs:=by unfold Program.fieldsOf;rw[hu]
 have h2:=run_equalIn_struct (P:=P) w 9999 t cs.toArray ds.toArray (by rw[hf];exact hu) st
 rw[hf] at h2
 exact h2.trans (zQt S cs ds 9998 w fs.toList r hn h)
theorem Yq.eqlS {o:Oper}{e:Env}{w:World}{t:TypeId}{x y:Operand}{yT:TypeId}{ti:TI}{fs:Array Field}{cs ds:List Value}{r:Bool}(st:P.stoodInHeld t=false)(eg:P.eqGuardType P.depth t=false)
  (ho:o.op=.binOp .eql t x y yT) (hx:nf (ev e x)=some (.agg cs.toArray)) (hy:nf (ev e y)=some (.agg ds.toArray)) (ht:lk S.tab t=some ti) (htd:ti.d=.struct fs) (hn:fs.toList.all (fun f=>f.name != "_")=true) (h:eqF S.tab cs ds fs.toList=some r):Yq P o e w (.bool r):=by
 have hx:=zBo hx
 have hy:=zBo hy
 refine Yq.of fun w'=>?_
 simp only[execOp,ho,hx,hy,Sem.run_bind,run_eqGuard_agg w' _ _ _ _ _ _ eg,Result.andThen_ok,run_eql_struct,zHQ S ht htd st hn h,Sem.run_pure]
theorem zEF {o:Oper}{e:Env}{w:World}{t:TypeId}{x y:Operand}{yT:TypeId}{ti:TI}{fs:Array Field}{cs ds:List Value}{r:Bool}(st:P.stoodInHeld t=false)(eg:P.eqGuardType P.depth t=false)
  (ho:o.op=.binOp .neq t x y yT) (hx:nf (ev e x)=some (.agg cs.toArray)) (hy:nf (ev e y)=some (.agg ds.toArray)) (ht:lk S.tab t=some ti) (htd:ti.d=.struct fs) (hn:fs.toList.all (fun f=>f.name != "_")=true) (h:eqF S.tab cs ds fs.toList=some r):Yq P o e w (.bool (!r)):=by
 have hx:=zBo hx
 have hy:=zBo hy
 refine Yq.of fun w'=>?_
 simp only[execOp,ho,hx,hy,Sem.run_bind,run_eqGuard_agg w' _ _ _ _ _ _ eg,Result.andThen_ok,run_neq_struct,zHQ S ht htd st hn h,Sem.run_pure]
end
end
section
open Go Go.RowKit
def zGi (s:ByteArray)(j:Nat):Nat:=(s.data.getD j 0).toNat
section
attribute [local semireducible] Yq
variable {P:Program}(S:Sig P){o:Oper}{e:Env}{w:World}
def bytesOf (l:List Nat):ByteArray:=⟨(l.map fun n=>UInt8.ofNat n).toArray⟩
end
end
end Go.Sk
namespace Go.Proofs.YtibmaifoaajllaaGreatDoor
section
open Go Go.Sk Go.RowKit
structure Ac where
 name:ByteArray
 opn:Bool
 deriving Inhabited
def Ac.cells (x:Ac):List Value:=[.string x.name,.bool x.opn]
structure Ins where
 name:ByteArray
 tick:Int
 halted:Bool
 deriving Inhabited
def Ins.cells (x:Ins):List Value:=[.string x.name,.int .i64 x.tick,.bool x.halted]
structure Row4 where
 acct:Int
 asset:Int
 free:Int
 held:Int
 deriving DecidableEq,Inhabited
def Row4.cells (x:Row4):List Value:=[.int .i64 x.acct,.int .i64 x.asset,.int .i64 x.free,.int .i64 x.held]
structure Odr where
 id:Int
 acct:Int
 inst:Int
 side:Int
 price:Int
 left:Int
 deriving DecidableEq,Inhabited
def Odr.cells (x:Odr):List Value:=[.int .i64 x.id,.int .i64 x.acct,.int .i64 x.inst,.int .u8 x.side,.int .i64 x.price,.int .i64 x.left]
def ac_ (l:List Ac)(j:Nat):Ac:=l.getD j default
def in_ (l:List Ins)(j:Nat):Ins:=l.getD j default
def rw_ (l:List Row4)(j:Nat):Row4:=l.getD j default
def od_ (l:List Odr)(j:Nat):Odr:=l.getD j default
def acl (l:List Ac)(j:Nat):List Value:=(ac_ l j).cells
def ing (l:List Ins)(j:Nat):List Value:=(in_ l j).cells
def rwl (l:List Row4)(j:Nat):List Value:=(rw_ l j).cells
def odl (l:List Odr)(j:Nat):List Value:=(od_ l j).cells
def okB (n:Nat):Bool:=(decide (97≤n)&&decide (n≤122))||(decide (48≤n)&&decide (n≤57))||n==45||n==95
def zKq (s:ByteArray)(k:Nat):Bool:=(List.range k).all fun j=>okB (zGi s j)
def zAR (s:ByteArray):Bool:=decide (1≤s.size)&&decide (s.size≤24)&&zKq s s.size
theorem zOo (s:ByteArray)(k:Nat):zKq s (k+1)=(zKq s k&&okB (zGi s k)):=by
 unfold zKq
 rw[List.range_succ,List.all_append]
 simp
theorem zQu {s:ByteArray}{k n:Nat}(h:okB (zGi s k)=false)(hk:k<n):zKq s n=false:=by
 unfold zKq
 rw[List.all_eq_false]
 exact⟨k,List.mem_range.2 hk,by simp[h]⟩
theorem zTI (n:Nat):okB n=true↔((97≤n∧n≤122)∨(48≤n∧n≤57)∨n=45∨n=95):=by
 simp only[okB,Bool.or_eq_true,Bool.and_eq_true,decide_eq_true_eq,beq_iff_eq]
 omega
end
section
open Go Go.Sk Go.RowKit
attribute [local irreducible] Go.Calls
def zHr (n m:Int):Bool:=decide (1≤n)&&decide (n≤m)
theorem c_betw (n m:Int)(w:World):Calls Tryz.prog 71 [.int .i64 n,.int .i64 m].toArray w (Ret (.bool (zHr n m)) w):=by
 refine enter [.tmp 4] Tryz.func71 rfl Tryz.ntmps71 rfl rfl ?_
 have H:=zB w
 repeat' (first|refine yT ?_|refine yU ?_|(refine y17 ?_ ?_;all_goals intro h)|fail)
 all_goals simp only[decide_eq_true_eq,decide_eq_false_iff_not,ge_iff_le] at *
 all_goals exact zQ rfl H.cl (congrArg Value.bool (by unfold zHr;simp only[*,decide_true,decide_false,Bool.true_and,Bool.and_true,Bool.false_and,Bool.and_false]))
theorem zTJ (n m:Int)(w:World):Calls Tryz.prog 72 [.int .i64 n,.int .i64 m].toArray w (Ret (.bool (zHr n m)) w):=by
 refine enter [.tmp 4] Tryz.func72 rfl Tryz.ntmps72 rfl rfl ?_
 have H:=zB w
 repeat' (first|refine yT ?_|refine yU ?_|(refine y17 ?_ ?_;all_goals intro h)|fail)
 all_goals simp only[decide_eq_true_eq,decide_eq_false_iff_not,ge_iff_le] at *
 all_goals exact zQ rfl H.cl (congrArg Value.bool (by unfold zHr;simp only[*,decide_true,decide_false,Bool.true_and,Bool.and_true,Bool.false_and,Bool.and_false]))
def zu (o:Odr):Bool:=zHr o.id 1099511627776&&zHr o.acct 64&&zHr o.inst 16&&(o.side==1||o.side==2)&&zHr o.price 1073741824&&zHr o.left 1048576
theorem zQv (n m:Int):zHr n m=true↔(1≤n∧n≤m):=by simp[zHr]
def zAm (o:Odr):Prop:=(1≤o.id∧o.id≤1099511627776)∧(1≤o.acct∧o.acct≤64)∧(1≤o.inst∧o.inst≤16)∧(o.side=1∨o.side=2)∧(1≤o.price∧o.price≤1073741824)∧(1≤o.left∧o.left≤1048576)
theorem zAi (o:Odr):zu o=true↔zAm o:=by
 unfold zu zAm
 simp only[Bool.and_eq_true,Bool.or_eq_true,zQv,beq_iff_eq,and_assoc]
theorem zBK (o:Odr)(w0:World):Calls Tryz.prog 40 [.agg o.cells.toArray].toArray w0 (Ret (.bool (zu o)) w0):=by
 refine enter [.tmp 2] Tryz.func40 rfl Tryz.ntmps40 rfl rfl ?_
 have H:=zB w0
 repeat' (first|refine yT ?_|refine y7 sg H ?_|(refine y9 H ?_;intro b w H)|(refine' y30 ent72 ?_ ?_;rotate_left;exact zTJ _ _ _;intro w hcl;replace H:=H.ext hcl;clear hcl)|(refine' y30 ent71 ?_ ?_;rotate_left;exact c_betw _ _ _;intro w hcl;replace H:=H.ext hcl;clear hcl)|refine yU ?_|(refine y17 ?_ ?_;all_goals intro h)|fail)
 all_goals exact zQ rfl H.cl (congrArg Value.bool (by unfold zu;simp only[*,Bool.true_and,Bool.and_true,Bool.false_and,Bool.and_false,Bool.true_or,Bool.false_or,Bool.or_true,Bool.or_false]))
def zQw (l:List Odr)(k:Nat):Bool:=!zu (od_ l k)||(decide (0<k)&&decide ((od_ l k).id≤(od_ l (k - 1)).id))
def zd (l:List Odr):Bool:=decide (l.length≤128)&&(List.range l.length).all fun k=>!zQw l k
def Ords (F:zH)(a:Option Addr)(cap:Nat)(l:List Odr):Prop:=SlA F 6 a l.length cap (odl l)
def OrdP (l:List Odr)(k:Nat):Prop:=∀ j,j<k→zAm (od_ l j)∧(j=0∨(od_ l (j - 1)).id<(od_ l j).id)
theorem zOp {l:List Odr}{k:Nat}:zQw l k=false↔zAm (od_ l k)∧(k=0∨(od_ l (k - 1)).id<(od_ l k).id):=by
 unfold zQw
 rw[Bool.or_eq_false_iff,Bool.not_eq_false',zAi]
 simp only[Bool.and_eq_false_iff,decide_eq_false_iff_not]
 exact and_congr_right fun _=>by omega
theorem zAk {l:List Odr}:zd l=true↔l.length≤128∧OrdP l l.length:=by
 unfold zd OrdP
 rw[Bool.and_eq_true,decide_eq_true_eq,List.all_eq_true]
 simp only[List.mem_range,Bool.not_eq_true',zOp]
theorem OrdP.succ {l:List Odr}{k:Nat}(h:OrdP l k)(h1:zAm (od_ l k))(h2:k=0∨(od_ l (k - 1)).id<(od_ l k).id):OrdP l (k+1):=fun j hj=>by
 rcases(show j<k∨j=k by omega) with g|rfl
 ·exact h j g
 ·exact⟨h1,h2⟩
theorem zMF {l:List Odr}(h:zd l=true→False):false=zd l:=by
 cases hq:zd l with
 | false=>rfl
 | true=>exact(h hq).elim
end
end Go.Proofs.YtibmaifoaajllaaGreatDoor
