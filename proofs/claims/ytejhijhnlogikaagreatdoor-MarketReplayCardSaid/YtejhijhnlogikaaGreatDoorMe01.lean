/- Steps of the proof. -/
import Derived.Deep.LoopGhost
import Derived.Deep.QuietTactic
import Derived.Sort.LoopGhostIn
import Derived.TacticsIn
import Derived.WalkKit
import Derived.WalkSpells
set_option linter.all false
set_option maxHeartbeats 16000000
namespace Go
abbrev zz1:=@Int.toNat_natCast
abbrev zz2:=@List.Mem.head
abbrev zz3:=@List.mem_append_right
abbrev zz4:=@List.mem_cons_of_mem
abbrev zz5:=@List.Mem.tail
abbrev zz6:=@List.mem_append_left
abbrev zz7:=@List.sublist_cons_self
abbrev zz8:=@List.subset_append_right
abbrev zz9:=@List.nil_sublist
abbrev zzA:=@of_decide_eq_true
abbrev zzB:=@of_decide_eq_false
abbrev zzC:=@Nat.le_refl
abbrev zzD:=@Nat.zero_le
abbrev zzE:=@Nat.not_lt_zero
abbrev yy1:=@List.getElem?_eq_getElem
abbrev yy2:=@List.getD_eq_getElem?_getD
abbrev yy3:=@Bool.and_eq_true
abbrev yy4:=@List.length_append
abbrev yy5:=@List.Sublist.cons_cons
abbrev yy6:=@List.Sublist.cons
abbrev yy7:=@List.Sublist.refl
abbrev yy8:=@List.mem_range
abbrev yy9:=@List.flatMap_append
abbrev yya:=@List.flatMap_singleton
abbrev yyb:=@decide_eq_true
abbrev yyc:=@decide_eq_false
abbrev yyd:=@List.mem_singleton
abbrev yye:=@List.all_eq_true
abbrev yyf:=@List.perm_append_comm_assoc
abbrev yyg:=@List.perm_append_comm
abbrev yyh:=@List.append_assoc
abbrev yyi:=@List.subset_append_left
abbrev yyj:=@List.take_succ_eq_append_getElem
abbrev yyk:=@List.mem_map
abbrev yyl:=@List.getElem?_append_left
abbrev yym:=@List.getElem?_append_right
abbrev yyn:=@Nat.eq_zero_or_pos
abbrev yyo:=@List.length_singleton
abbrev yyp:=@List.length_map
abbrev yyq:=@beq_eq_false_iff_ne
abbrev yyr:=@List.getElem?_drop
abbrev yys:=@List.range_succ
abbrev yyt:=@List.sublist_append_left
abbrev yyu:=@List.subset_cons_self
abbrev yyv:=@Nat.zero_add
abbrev yyw:=@List.mem_filter
abbrev yyx:=@List.sublist_append_right
abbrev yyy:=@decide_eq_false_iff_not
abbrev yyz:=@Nat.lt_irrefl
abbrev OA:=Option Addr
abbrev pt (b:Nat):Value:=.pointer (some ⟨b,0,none⟩)
end Go
namespace Go.Sk
open Go Go.RowKit
abbrev Env:=Nat->Value
def ovl:List (Nat × Value)->Env->Env
 | [],e=>e
 | (d,v)::t,e=>fun i=>bif Nat.beq i d then v else ovl t e i
def ev (e:Env):Operand->Value
 | .tmp t=>e t
 | .const v=>v
 | .global g=>.pointer (some ⟨g,0,none⟩)
 | .func f=>.func (.func f) #[] #[]
structure Nw where
 n:Nat
 ds:List Deferred
 ro:Option Nat
def fen (ro:Option Nat):Fence:={ Fence.wide with round:=ro }
structure Fits (n:Nw)(a:Act)(e:Env):Prop where
 size:a.tmps.size=n.n
 defs:a.defers=n.ds
 get:∀ i,a.tmps.getD i undef=e i
theorem Fits.eval {n:Nw}{a:Act}{e:Env}(h:Fits n a e):a.eval=ev e:=by funext x;cases x<;>simp only[Act.eval,ev];exact h.get _
theorem zBk (d:Nat)(v:Value)(t:List (Nat × Value))(b:Env)(i:Nat) :
  ovl ((d,v)::t) b i=if i=d then v else ovl t b i:=by{
show(bif Nat.beq i d then v else ovl t b i)=_;by_cases h:i=d
.subst h;simp
.have:Nat.beq i d=false:=by
  cases hb:Nat.beq i d with
  | false=>rfl
  | true=>exact absurd (Nat.eq_of_beq_eq_true hb) h
 simp[this,h]}
theorem Fits.put {n:Nw}{a:Act}{L:List (Nat × Value)}{b:Env}(h:Fits n a (ovl L b)){d:Nat}(hd:Nat.blt d n.n=true)(v:Value) :
  Fits n (a.put (some d) v) (ovl ((d,v)::L) b):=by{
have hd':d<n.n:=by simpa using hd
refine⟨by simp[Act.put,h.size],by simp[Act.put,h.defs],fun i=>?_⟩;rw[zBk];have hg:=h.get i;by_cases hi:i=d
.subst hi;simp[Act.put,h.size,hd']
.simp only[if_neg hi,<- hg,Act.put];simp only[Array.getD_eq_getD_getElem?];rw[Array.getElem?_setIfInBounds_ne (Ne.symm hi)]}
abbrev zAM:=Exit->Env->World->Prop
def zAc (n:Nw)(Q:zAM):Exit->Act->World->Prop:=fun x a w=>x≠.outgrown/\∃ e,Fits n a e/\Q x e w
theorem zDg {n:Nw}{Q:zAM}:¬ LetsOut (zAc n Q):=fun⟨_,_,h,_⟩=>h rfl
def CW (P:Program)(n:Nw)(c:Code)(Q:zAM)(e:Env)(w:World):Prop:=∀ a,Fits n a e->c.wpIn (fen n.ro) 0 P (zAc n Q) a w
def thn (K:Env->World->Prop)(Q:zAM):zAM
 | .normal,e,w=>K e w
 | .exit i,e,w=>Q (.exit i) e w
 | .goto i,e,w=>Q (.goto i) e w
 | .ret,e,w=>Q .ret e w
 | .panic c,e,w=>Q (.panic c) e w
 | .outgrown,e,w=>Q .outgrown e w
def blk (id:Nat)(Q:zAM):zAM
 | .normal,e,w=>Q .normal e w
 | .exit i,e,w=>bif Nat.beq i id then Q .normal e w else Q (.exit i) e w
 | .goto i,e,w=>Q (.goto i) e w
 | .ret,e,w=>Q .ret e w
 | .panic c,e,w=>Q (.panic c) e w
 | .outgrown,e,w=>Q .outgrown e w
section
variable {P:Program}{n:Nw}{Q:zAM}{e:Env}{w:World}
theorem zCQ {x y:Code}(h:CW P n x (thn (CW P n y Q) Q) e w):CW P n (.seq x y) Q e w:=by{
intro a ha;refine wpIn_seq (wpIn_mono (h a ha) (fun x a' w' q=>?_));obtain⟨hx,e',hf,q⟩:=q;cases x with
| normal=>exact q a' hf
| _=>exact⟨hx,e',hf,q⟩}
theorem zFt (h:Q .normal e w):CW P n .skip Q e w:=fun _ ha=>wpIn_skip ⟨nofun,e,ha,h⟩
theorem zHW (h:Q .ret e w):CW P n .ret Q e w:=fun _ ha=>wpIn_ret ⟨nofun,e,ha,h⟩
theorem zFu {i:Nat}(h:Q (.exit i) e w):CW P n (.exit i) Q e w:=fun _ ha=>wpIn_exit ⟨nofun,e,ha,h⟩
theorem zAT {id:Nat}{c:Code}(h:CW P n c (blk id Q) e w):CW P n (.block id c) Q e w:=by{
intro a ha;refine wpIn_block (wpIn_mono (h a ha) (fun x a' w' q=>?_));obtain⟨hx,e',hf,q⟩:=q;cases x with
| exit i =>
  simp only[Exit.inBlock];by_cases hi:i=id
  .subst hi;rw[if_pos rfl];exact⟨nofun,e',hf,by simpa [blk] using q⟩
  .rw[if_neg hi];have:Nat.beq i id=false:=by
    cases hb:Nat.beq i id with
    | false=>rfl
    | true=>exact absurd (Nat.eq_of_beq_eq_true hb) hi
   exact⟨nofun,e',hf,by simpa [blk,this] using q⟩
| _=>exact⟨hx,e',hf,q⟩}
theorem zB {c:Operand}{x y:Code}{t:Bool}(hc:ev e c=.bool t)(ht:t=true->CW P n x Q e w)(hf:t=false->CW P n y Q e w) :
  CW P n (.cond c x y) Q e w:=fun a ha =>
 wpIn_cond_split (t:=t) (by rw[ha.eval];exact hc) (fun h=>ht h a ha) (fun h=>hf h a ha)
theorem CW.condT {c:Operand}{x y:Code}(hc:ev e c=.bool true)(h:CW P n x Q e w):CW P n (.cond c x y) Q e w :=
 zB hc (fun _=>h) (fun h=>by cases h)
theorem CW.condF {c:Operand}{x y:Code}(hc:ev e c=.bool false)(h:CW P n y Q e w):CW P n (.cond c x y) Q e w :=
 zB hc (fun h=>by cases h) (fun _=>h)
theorem CW.mono {c:Code}{Q':zAM}(hq:∀ x e w,Q x e w->Q' x e w)(h:CW P n c Q e w):CW P n c Q' e w :=
 fun a ha=>wpIn_mono (h a ha) (fun _ _ _ ⟨hx,e',hf,q⟩=>⟨hx,e',hf,hq _ _ _ q⟩)
theorem CW.loop {c:Code}(I:Env->World->Prop)(μ:Env->World->Nat)(h₀:I e w)
  (round:∀ e w,I e w->CW P n c (thn (fun e' w'=>I e' w'/\μ e' w'<μ e w) Q) e w):CW P n (.loop c) Q e w:=by{
intro a ha;refine wpIn_loop (fun a w=>∃ e,Fits n a e/\I e w) (fun a w=>μ (fun i=>a.tmps.getD i undef) w) ⟨e,ha,h₀⟩ ?_;intro a w ⟨e,hf,hI⟩;have he:(fun i=>a.tmps.getD i undef)=e:=funext hf.get;refine wpIn_mono (round e w hI a hf) (fun x a' w' q=>?_);obtain⟨hx,e',hf',q⟩:=q;cases x with
| normal =>
  have he':(fun i=>a'.tmps.getD i undef)=e':=funext hf'.get;exact⟨⟨e',hf',q.1⟩,by rw[he,he'];exact q.2⟩
| _=>exact⟨hx,e',hf',q⟩}
end
theorem zBl {ro:Option Nat}{m:Nat}{P:Program}{f:FuncId}{args:Array Value}{w:World}{R:Ending->World->Prop}:CallsIn (fen ro) m P f args w R↔Calls P f args w R :=
 callsIn_wide (n:=m)
theorem zN9 {ro:Option Nat}{m:Nat}{P:Program}{row:String}{args:Array Value}{w:World}{R:Value->World->Prop}(h:Rows P row args w R):RowsIn (fen ro) m P row args w R :=
 fun c cs _=>let ⟨v,w',r,s⟩:=h c cs;⟨v,w',r,stepsIn_wide.2 s⟩
theorem zK5 {ro:Option Nat}{P:Program}{o:Oper}{a:Act}{K K':Act->World->Prop}{Q:Exit->Act->World->Prop}(hK:∀ a w,K a w->K' a w)(r:Result Next)(h:o.upon P a K Q r):o.uponIn (fen ro) 0 P a K' Q r:=by{
unfold Oper.upon at h;unfold Oper.uponIn;split at h
.exact hK _ _ h
.exact hK _ _ h
.exact hK _ _ h
.refine⟨fun h0=>(by cases h0),zBl.2 (Calls.mono h fun e w' q=>?_)⟩;cases e with
 | returned v=>exact hK _ _ q
 | _=>exact q
.refine⟨fun h0=>(by cases h0),zN9 ?_⟩;exact Rows.mono h fun v w' q=>hK _ _ q
.exact h
.exact h.elim}
def zCq (l:List Oper):Bool:=l.all fun o=>match o.op with|.defer _=>false|_=>true
theorem zIr {l:List Oper}(h:zCq l=true){o:Oper}(ho:o∈l):∀ c,o.op≠.defer c:=by intro c hc;have:=List.all_eq_true.1 h o ho;rw[hc] at this;cases this
theorem zGQ {ro:Option Nat}{P:Program}{ops:Array Oper}{Q:Exit->Act->World->Prop}(hno:¬ LetsOut Q)(hnd:zCq ops.toList=true):∀ (is:List Nat) (a:Act) (w:World),wpOps P ops Q is a w->wpOpsIn (fen ro) 0 P ops Q is a w
 | [],a,w,h=>h
 | i::rest,a,w,h=>by
   unfold wpOps at h
   unfold wpOpsIn
   cases ho:ops[i]? with
   | none=>rw[ho] at h;exact zGQ hno hnd rest a w h
   | some o =>
     rw[ho] at h
     simp only at h ⊢
     split
     .rename_i hw
      rw[if_pos hw] at h
      have hm:o∈ops.toList:=Array.mem_toList_iff.2 (Array.mem_of_getElem? ho)
      refine⟨fun _ _=>trivial,?_⟩
      rw[Oper.semAt_eq _ _ _ (zIr hnd hm)]
      exact zK5 (zGQ hno hnd rest) _ (h.resolve_right fun hh=>hno hh.2)
     .rename_i hw
      rw[if_neg hw] at h
      exact⟨fun _ _=>trivial,zGQ hno hnd rest _ w h⟩
def zIP:List Value->Value
 | [v]=>v
 | l=>.tuple l.toArray
def rdv (P:Program)(e:Env)(w:World):ResultVar->Value->Prop
 | .tmp t,v=>e t=v
 | .cell a t,v=>∃ ad,e a=.pointer (some ad)/\(loadVar t ad).run P w=.ok v w
def rds (P:Program)(e:Env)(w:World):List ResultVar->List Value->Prop
 | [],[]=>True
 | r::rs,v::vs=>rdv P e w r v/\rds P e w rs vs
 | _,_=>False
def post (P:Program)(rs:List ResultVar)(R:Ending->World->Prop):zAM
 | .normal,e,w|.ret,e,w=>∃ vs,rds P e w rs vs/\R (.returned (zIP vs)) w
 | .panic c,_,w=>R (.panicked c) w
 | .outgrown,_,w=>R .outgrown w
 | _,_,_=>False
theorem zEQ (P:Program)(tmps:Array Value)(w:World):∀ (l:List ResultVar) (vs:List Value),rds P (fun i=>tmps.getD i undef) w l vs ->
  (l.mapM (m:=Sem) (fun x=>match x with
     | ResultVar.tmp t=>pure (tmps.getD t undef)
     | ResultVar.cell a t=>do
       let b <- asAddr (tmps.getD a undef)
       loadVar t b)).run P w=.ok vs w
 | [],[],_=>rfl
 | .tmp t::r,v::vs,h=>by
   have ih:=zEQ P tmps w r vs h.2
   have h1:tmps.getD t undef=v:=h.1
   simp only[List.mapM_cons,Sem.run_bind,Sem.run_pure,Result.andThen_ok,ih,h1]
 | .cell a t::r,v::vs,h=>by
   have ih:=zEQ P tmps w r vs h.2
   obtain⟨ad,h1,h2⟩:=h.1
   have h1':tmps.getD a undef=.pointer (some ad):=h1
   have h3:(asAddr (tmps.getD a undef)).run P w=.ok ad w:=by rw[h1'];rfl
   simp only[List.mapM_cons,Sem.run_bind,Sem.run_pure,Result.andThen_ok,h3,h2,ih]
 | [],_::_,h=>h.elim
 | .tmp _::_,[],h=>h.elim
 | .cell _ _::_,[],h=>h.elim
theorem rv_eq:∀ (vs:List Value),(if h:vs.toArray.size=1 then vs.toArray[0] else Value.tuple vs.toArray)=zIP vs
 | []=>rfl
 | [_]=>rfl
 | _::_::_=>by simp[zIP]
theorem zFI (P:Program)(fn:Func)(rs:List ResultVar)(hr:fn.results=rs.toArray)(tmps:Array Value)(e:Env)
  (he:∀ i,tmps.getD i undef=e i) (w:World) (vs:List Value) (hv:rds P e w rs vs):(results fn tmps).run P w=.ok (zIP vs) w:=by{
obtain rfl:e=fun i=>tmps.getD i undef:=(funext he).symm;have h:=zEQ P tmps w rs vs hv;unfold results;rw[hr];simp only[List.mapM_toArray,bind_map_left,Sem.run_bind,Sem.run_pure,Result.andThen]
erw [h]
simp only[];exact congrArg (fun v=>Result.ok v w) (rv_eq vs)}
def ini (l:List Value):Env:=fun i=>l.getD i undef
theorem enter {P:Program}{f:FuncId}{fn:Func}{c:Code}{n:Nat}{l:List Value}{w:World}{R:Ending->World->Prop}(rs:List ResultVar)
  (hf:P.funcs[f]?=some fn) (hb:fn.body=some c) (hn:fn.ntmps=n) (hr:fn.results=rs.toArray) (hl:Nat.ble l.length n=true)
  (h:CW P ⟨n,[],none⟩ c (post P rs R) (ovl [] (ini l)) w):Calls P f l.toArray w R:=by{
refine calls_of_wp hf hb ?_;have hl':l.length<=n:=by simpa using hl
have hfit:Fits ⟨n,[],none⟩ { tmps:=l.toArray++Array.replicate (fn.ntmps - l.toArray.size) undef,defers:=[] } (ini l):=by
 refine⟨by simp[hn];omega,rfl,fun i=>?_⟩;simp only[ini,Array.getD_eq_getD_getElem?,List.getD_eq_getElem?_getD];by_cases hi:i<l.length
 .rw[Array.getElem?_append_left (by simpa using hi)];simp
 .rw[Array.getElem?_append_right (by simpa using hi)];rw[List.getElem?_eq_none (by omega)];simp only[Array.getElem?_replicate];split<;>rfl
refine wpIn_wide.1 (wpIn_mono (h _ hfit) (fun x a w' q=>?_));obtain⟨hx,e,hfe,q⟩:=q;cases x with
| normal=>obtain⟨vs,hv,q⟩:=q;exact⟨hfe.defs,_,zFI P fn rs hr _ e hfe.get w' vs hv,q⟩
| ret=>obtain⟨vs,hv,q⟩:=q;exact⟨hfe.defs,_,zFI P fn rs hr _ e hfe.get w' vs hv,q⟩
| panic ch=>exact⟨hfe.defs,q⟩
| outgrown=>exact q
| exit i=>exact q.elim
| goto i=>exact q.elim}
section
variable {P:Program}{rs:List ResultVar}{R:Ending->World->Prop}{K:Env->World->Prop}{Q:zAM}{e:Env}{w:World}{i id:Nat}
theorem zH5 (h:K e w):thn K Q .normal e w:=h
theorem zKH (h:Q .ret e w):thn K Q .ret e w:=h
theorem zKI (h:Q (.exit i) e w):thn K Q (.exit i) e w:=h
theorem zH6 (h:Q .normal e w):blk id Q .normal e w:=h
theorem zKJ (h:Q .ret e w):blk id Q .ret e w:=h
theorem blk_e1 (hi:Nat.beq i id=true)(h:Q .normal e w):blk id Q (.exit i) e w:=by simp only[blk,hi,cond_true];exact h
theorem blk_e0 (hi:Nat.beq i id=false)(h:Q (.exit i) e w):blk id Q (.exit i) e w:=by simp only[blk,hi,cond_false];exact h
end
structure Bel (B:Nat)(w w':World):Prop extends Below B w w' where
 drawn:w.drawn<=w'.drawn
theorem Bel.refl (B:Nat)(w:World):Bel B w w:=⟨Below.refl _ _,Nat.le_refl _⟩
theorem Bel.trans {B:Nat}{a b c:World}(h:Bel B a b)(k:Bel B b c):Bel B a c:=⟨h.toBelow.trans k.toBelow,Nat.le_trans h.drawn k.drawn⟩
theorem Bel.mono {B B':Nat}{w w':World}(h:Bel B w w')(hB:B'<=B):Bel B' w w':=⟨h.toBelow.mono hB,h.drawn⟩
theorem Bel.drew {B:Nat}{a w:World}(h:Bel B a w):Bel B a w.drew:=⟨h.toBelow.drew,Nat.le_trans h.drawn (Nat.le_succ _)⟩
theorem Bel.alloc {B:Nat}{a w:World}(h:Bel B a w)(hB:B<=w.heap.size)(o:Obj):Bel B a (w.alloc o):=⟨h.toBelow.alloc hB o,h.drawn⟩
abbrev zA:=List (Nat × Obj)
def Mem (w:World)(F:zA):Prop:=∀ p∈F,w.heap[p.1]?=some p.2
structure St (w0:World)(L:zA)(w:World):Prop where
 below:Bel w0.heap.size w0 w
 mem:Mem w L
 ge:∀ p∈L,w0.heap.size<=p.1
 nodup:(L.map (·.1)).Nodup
def Cl (w:World):World->Prop:=fun w'=>Bel w.heap.size w w'
theorem zCF {w:World}{b:Nat}{o:Obj}(h:w.heap[b]?=some o):b<w.heap.size:=by{
rcases Nat.lt_or_ge b w.heap.size with h'|h'
.exact h'
.rw[Array.getElem?_eq_none h'] at h;cases h}
theorem Mem.ext {w w':World}{F:zA}(h:Mem w F)(hb:Cl w w'):Mem w' F :=
 fun p hp=>by rw[hb.block p.1 (zCF (h p hp))];exact h p hp
theorem Mem.app {w:World}{F G:zA}(h:Mem w F)(h':Mem w G):Mem w (F++G):=fun p hp =>
 (List.mem_append.1 hp).elim (h p) (h' p)
theorem Mem.left {w:World}{F G:zA}(h:Mem w (F++G)):Mem w F:=fun p hp=>h p (List.mem_append_left _ hp)
theorem Mem.right {w:World}{F G:zA}(h:Mem w (F++G)):Mem w G:=fun p hp=>h p (List.mem_append_right _ hp)
theorem Mem.nil {w:World}:Mem w []:=fun p hp=>by cases hp
theorem Mem.of_below {w0 w:World}{F:zA}(h:Mem w0 F)(hb:Bel w0.heap.size w0 w):Mem w F:=h.ext hb
theorem Cl.refl (w:World):Cl w w:=Bel.refl _ _
theorem Cl.trans {a b c:World}(h:Cl a b)(k:Cl b c):Cl a c:=Bel.trans h (Bel.mono k h.size)
theorem zBm (w:World):St w [] w:=⟨Bel.refl _ _,Mem.nil,(fun p hp=>by cases hp),List.nodup_nil⟩
theorem St.cl {w0 w:World}{L:zA}(h:St w0 L w):Cl w0 w:=h.below
theorem St.ext {w0 w w':World}{L:zA}(h:St w0 L w)(hb:Cl w w'):St w0 L w' :=
 ⟨Bel.trans h.below (Bel.mono hb h.below.size),h.mem.ext hb,h.ge,h.nodup⟩
theorem St.memF {w0 w:World}{L F:zA}(h:St w0 L w)(hF:Mem w0 F):Mem w F:=hF.of_below h.below
theorem St.all {w0 w:World}{L F:zA}(h:St w0 L w)(hF:Mem w0 F):Mem w (L++F):=h.mem.app (h.memF hF)
theorem St.add {w0 w w':World}{L M:zA}(h:St w0 L w)(k:St w M w'):St w0 (M++L) w':=by{
refine⟨(h.ext k.below).below,k.mem.app (h.mem.ext k.below),fun p hp=>?_,?_⟩
.rcases List.mem_append.1 hp with h1|h1
 .exact Nat.le_trans h.below.size (k.ge p h1)
 .exact h.ge p h1
.rw[List.map_append,List.nodup_append];refine⟨k.nodup,h.nodup,fun a ha b hb=>?_⟩;obtain⟨p,hp,rfl⟩:=List.mem_map.1 ha;obtain⟨q,hq,rfl⟩:=List.mem_map.1 hb;have h1:=k.ge p hp;have h2:=zCF (h.mem q hq);omega}
theorem St.alloc {w0 w:World}{L:zA}(h:St w0 L w)(o:Obj):St w0 ((w.heap.size,o)::L) (w.alloc o):=by{
have hb:Cl w (w.alloc o):=(Bel.refl _ _).alloc (Nat.le_refl _) o;have h':=h.ext hb;refine⟨h'.below,fun p hp=>?_,fun p hp=>?_,?_⟩
.rcases List.mem_cons.1 hp with rfl|h1
 .exact heap_alloc_new _ _
 .exact h'.mem p h1
.rcases List.mem_cons.1 hp with rfl|h1
 .exact h.below.size
 .exact h.ge p h1
.simp only[List.map_cons,List.nodup_cons];refine⟨fun hm=>?_,h.nodup⟩;obtain⟨q,hq,hq'⟩:=List.mem_map.1 hm;have:=zCF (h.mem q hq);omega}
theorem St.drew {w0 w:World}{L:zA}(h:St w0 L w):St w0 L w.drew:=⟨h.below.drew,h.mem,h.ge,h.nodup⟩
theorem St.sub {w0 w:World}{L L':zA}(h:St w0 L w)(hs:L'.Sublist L):St w0 L' w :=
 ⟨h.below,fun p hp=>h.mem p (hs.subset hp),fun p hp=>h.ge p (hs.subset hp),(hs.map _).nodup h.nodup⟩
theorem St.perm {w0 w:World}{L L':zA}(h:St w0 L w)(hp:L.Perm L'):St w0 L' w :=
 ⟨h.below,fun p hm=>h.mem p (hp.mem_iff.2 hm),fun p hm=>h.ge p (hp.mem_iff.2 hm),(hp.map _).nodup_iff.1 h.nodup⟩
theorem St.addR {w0 w w':World}{L M:zA}(h:St w0 L w)(k:St w M w'):St w0 (L++M) w':=(h.add k).perm List.perm_append_comm
inductive Up (b:Nat) (o o':Obj):zA->zA->Prop
 | here {t:zA}:Up b o o' ((b,o)::t) ((b,o')::t)
 | there {x:Nat × Obj} {t t':zA} (h:Up b o o' t t'):Up b o o' (x::t) (x::t')
theorem Up.mem {b:Nat}{o o':Obj}{L L':zA}(h:Up b o o' L L'):(b,o)∈L:=by{
induction h with
| here=>exact List.Mem.head _
| there _ ih=>exact List.Mem.tail _ ih}
theorem Up.keys {b:Nat}{o o':Obj}{L L':zA}(h:Up b o o' L L'):L'.map (·.1)=L.map (·.1):=by{
induction h with
| here=>rfl
| there _ ih=>simp[ih]}
theorem Up.mem' {b:Nat}{o o':Obj}{L L':zA}(h:Up b o o' L L')(hn:(L.map (·.1)).Nodup):∀ p∈L',p=(b,o')\/(p∈L/\p.1≠b):=by{
induction h with
| here =>
  intro p hp;simp only[List.map_cons,List.nodup_cons] at hn;rcases List.mem_cons.1 hp with rfl|h1
  .exact .inl rfl
  .exact .inr ⟨List.Mem.tail _ h1,fun he=>hn.1 (he ▸ List.mem_map.2 ⟨p,h1,rfl⟩)⟩
| there h0 ih =>
  intro p hp;simp only[List.map_cons,List.nodup_cons] at hn;rcases List.mem_cons.1 hp with rfl|h1
  .exact .inr ⟨List.Mem.head _,fun he=>hn.1 (he ▸ List.mem_map.2 ⟨(b,o),h0.mem,rfl⟩)⟩
  .rcases ih hn.2 p h1 with h2|⟨h2,h3⟩
   .exact .inl h2
   .exact .inr ⟨List.Mem.tail _ h2,h3⟩}
theorem St.up {w0 w w':World}{L L':zA}{b:Nat}{o o':Obj}(h:St w0 L w)(hu:Up b o o' L L')(hos:w'.os=w.os)(htp:w'.tape=w.tape)(hout:w'.output=w.output)
  (hsz:w'.heap.size=w.heap.size) (hb:w'.heap[b]?=some o') (hne:∀ k,k≠b->w'.heap[k]?=w.heap[k]?) (hdr:w.drawn<=w'.drawn:=by first|exact Nat.le_refl _|exact Nat.le_add_right _ _):St w0 L' w':=by{
have hge:=h.ge (b,o) hu.mem;refine⟨⟨⟨by rw[hos];exact h.below.os,by rw[htp];exact h.below.tape,by rw[hout];exact h.below.output,by rw[hsz];exact h.below.size,fun k hk=>?_⟩,Nat.le_trans h.below.drawn hdr⟩,fun p hp=>?_,fun p hp=>?_,?_⟩
.rw[hne k (by simp only at hge;omega)];exact h.below.block k hk
.rcases hu.mem' h.nodup p hp with rfl|⟨h1,h2⟩
 .exact hb
 .rw[hne _ h2];exact h.mem p h1
.rcases hu.mem' h.nodup p hp with rfl|⟨h1,_⟩
 .exact hge
 .exact h.ge p h1
.rw[hu.keys];exact h.nodup}
section
variable (P:Program)(n:Nw)(ops:Array Oper)
def OW (Q:zAM)(l:List Oper)(e:Env)(w:World):Prop:=∀ a,Fits n a e->wpList P ops (zAc n Q) l a w
def OX (Q:zAM)(o:Oper)(rest:List Oper)(e:Env)(w:World):Prop:=∀ a,Fits n a e->o.wp P a w (wpList P ops (zAc n Q) rest) (zAc n Q)
def QW (K:Env->World->Prop)(l:List Oper)(e:Env)(w:World):Prop :=
 ∀ a,Fits n a e->wpQuiet P ops (Cl w) (fun a'=>∃ e',Fits n a' e'/\∀ w',Cl w w'->K e' w') l a
def QX (K:Env->World->Prop)(o:Oper)(rest:List Oper)(e:Env)(w:World):Prop :=
 ∀ a,Fits n a e->o.quiet P a (Cl w) (wpQuiet P ops (Cl w) (fun a'=>∃ e',Fits n a' e'/\∀ w',Cl w w'->K e' w') rest)
end
def Yq (P:Program)(o:Oper)(e:Env)(w:World)(v:Value):Prop:=∀ w',Cl w w'->(execOp (ev e) o).run P w'=.ok (.value v) w'
section
variable {P:Program}{n:Nw}{ops:Array Oper}{Q:zAM}{K:Env->World->Prop}{o:Oper}{rest:List Oper}{e:Env}{L:List (Nat × Value)}{b:Env}{w:World}
theorem Yq.of {v:Value}(h:∀ w',(execOp (ev e) o).run P w'=.ok (.value v) w'):Yq P o e w v:=fun w' _=>h w'
theorem zC6 {id:Nat}{l:List Oper}(h:OW P n l.toArray Q l e w)(hnd:zCq l=true:=by exact rfl):CW P n (.region id l.toArray false) Q e w :=
 fun a ha=>wpIn_region (zGQ zDg hnd _ _ _ (by rw[List.range_eq_range',<- Array.length_toList,wpOps_eq_wpList l.toArray.toList 0 (by simp)];exact h a ha))
theorem CW.regionD {id:Nat}{l:List Oper}(hm:P.follows .mixedOrders=true)(hB:Region.lexB .any l.toArray=true)
  (h:QW P n l.toArray (fun e' w'=>Q .normal e' w') l e w) (hnd:zCq l=true:=by exact rfl):CW P n (.region id l.toArray true) Q e w:=by{
intro a ha;refine wpIn_region_draw fun t=>zGQ zDg hnd _ _ _ ?_;simp only[Region.schedule,hm,Bool.true_or,if_true];simp only[Region.lexB,Bool.and_eq_true] at hB;refine wpAny_sound _ t _ a _ (wpAny_of_quiet (C:=Cl w) (Q:=fun a'=>∀ w',Cl w w'->zAc n Q .normal a' w') (fun _ w' hw' h=>h w' hw') _ _ _ _ (Bel.refl _ _).drew ?_);suffices this:wpQuiet P l.toArray (Cl w) (fun a'=>∀ w',Cl w w'->zAc n Q .normal a' w') l.toArray.toList a by have:=wpAnyQ_lex (C:=Cl w) (md:=.any) hB.1 l.toArray.toList 0 (Array.replicate l.toArray.size false) a (by simp) (by simpa using hB.2) this;simpa using this
have:=h a ha
have hq:∀ (l:List Oper) (a:Act),wpQuiet P l.toArray (Cl w) (fun a'=>∃ e',Fits n a' e'/\∀ w',Cl w w'->Q .normal e' w') l a ->
  wpQuiet P l.toArray (Cl w) (fun a'=>∀ w',Cl w w'->zAc n Q .normal a' w') l a:=by
 intro l a h
 have mono:∀ (ops:Array Oper) (l:List Oper) (a:Act),wpQuiet P ops (Cl w) (fun a'=>∃ e',Fits n a' e'/\∀ w',Cl w w'->Q .normal e' w') l a ->
   wpQuiet P ops (Cl w) (fun a'=>∀ w',Cl w w'->zAc n Q .normal a' w') l a:=by
  intro ops l;induction l with
  | nil=>intro a ⟨e',hf,hk⟩ w' hw';exact⟨nofun,e',hf,hk w' hw'⟩
  | cons o r ih =>
    intro a h;unfold wpQuiet at h ⊢;split
    .rename_i hw;rw[if_pos hw] at h;exact Oper.quiet_mono ih h
    .rename_i hw;rw[if_neg hw] at h;exact ih _ h
 exact mono _ l a h
exact hq l a this}
theorem zHX (h:Q .normal e w):OW P n ops Q [] e w:=fun _ ha=>⟨nofun,e,ha,h⟩
theorem zGR (h:∀ w',Cl w w'->K e w'):QW P n ops K [] e w:=fun _ ha=>⟨e,ha,h⟩
def gd (v:Value)(want:Bool):Option Bool :=
 match v with
 | .bool t=>some (t==want)
 | .tuple _=>some false
 | _=>none
theorem zCB {a:Act}(ha:Fits n a e){j d:Nat}{want r:Bool}(hg:o.guard=some (j,want))(hj:(ops[j]?).bind (·.dst)=some d)(hv:gd (e d) want=some r) :
  Region.wanted o (yielded ops a.tmps)=r:=by{
have hget:=ha.get d;simp only[Region.wanted,hg,yielded,hj,Option.bind_some];simp only[Array.getD_eq_getD_getElem?] at hget;cases hx:a.tmps[d]? with
| none =>
  rw[hx] at hget;simp only[Option.getD_none] at hget;rw[<- hget] at hv;simp[gd,undef] at hv;subst hv;rfl
| some v =>
  rw[hx] at hget;simp only[Option.getD_some] at hget;rw[<- hget] at hv;cases v<;>simp[gd] at hv<;>(try subst hv)<;>(try rfl)}
theorem OW.go (hg:o.guard=none)(h:OX P n ops Q o rest e w):OW P n ops Q (o::rest) e w :=
 fun a ha=>wpList_plain hg fun _ hK=>Oper.wp_mono hK (h a ha)
theorem OW.gY {j d:Nat}{want:Bool}(hg:o.guard=some (j,want))(hj:(ops[j]?).bind (·.dst)=some d)(hv:gd (e d) want=some true)(h:OX P n ops Q o rest e w):OW P n ops Q (o::rest) e w:=by intro a ha;unfold wpList;rw[if_pos (zCB ha hg hj hv)];exact .inl (h a ha)
theorem OW.gN {j d dd:Nat}{want:Bool}(hg:o.guard=some (j,want))(hj:(ops[j]?).bind (·.dst)=some d)(hv:gd (ovl L b d) want=some false)(hd:o.dst=some dd)(hlt:Nat.blt dd n.n=true)
  (h:OW P n ops Q rest (ovl ((dd,undef)::L) b) w):OW P n ops Q (o::rest) (ovl L b) w:=by intro a ha;unfold wpList;rw[if_neg (by rw[zCB ha hg hj hv];simp),hd];exact h _ (ha.put hlt undef)
theorem zGi {d:Nat}{v:Value}(h:ovl L b d=v):ovl ((d,v)::L) b=ovl L b:=by{
funext i;rw[zBk];by_cases hi:i=d
.subst hi;rw[if_pos rfl,h]
.rw[if_neg hi]}
theorem OW.split (d:Nat){t:Bool}(hv:ovl L b d=.bool t)(hT:t=true->OW P n ops Q rest (ovl ((d,.bool true)::L) b) w)(hF:t=false->OW P n ops Q rest (ovl ((d,.bool false)::L) b) w) :
  OW P n ops Q rest (ovl L b) w:=by{
cases t
.have:=hF rfl;rwa [zGi hv] at this
.have:=hT rfl;rwa [zGi hv] at this}
theorem OW.gS {j d:Nat}{want t:Bool}(_hg:o.guard=some (j,want))(_hj:(ops[j]?).bind (·.dst)=some d)(hv:ovl L b d=.bool t)
  (hT:t=true->OW P n ops Q (o::rest) (ovl ((d,.bool true)::L) b) w) (hF:t=false->OW P n ops Q (o::rest) (ovl ((d,.bool false)::L) b) w):OW P n ops Q (o::rest) (ovl L b) w :=
 OW.split d hv hT hF
theorem QW.go (hg:o.guard=none)(h:QX P n ops K o rest e w):QW P n ops K (o::rest) e w:=by intro a ha;unfold wpQuiet;rw[if_pos (by simp[Region.wanted,hg])];exact h a ha
theorem QW.gY {j d:Nat}{want:Bool}(hg:o.guard=some (j,want))(hj:(ops[j]?).bind (·.dst)=some d)(hv:gd (e d) want=some true)(h:QX P n ops K o rest e w):QW P n ops K (o::rest) e w:=by intro a ha;unfold wpQuiet;rw[if_pos (zCB ha hg hj hv)];exact h a ha
theorem QW.gN {j d dd:Nat}{want:Bool}(hg:o.guard=some (j,want))(hj:(ops[j]?).bind (·.dst)=some d)(hv:gd (ovl L b d) want=some false)(hd:o.dst=some dd)(hlt:Nat.blt dd n.n=true)
  (h:QW P n ops K rest (ovl ((dd,undef)::L) b) w):QW P n ops K (o::rest) (ovl L b) w:=by intro a ha;unfold wpQuiet;rw[if_neg (by rw[zCB ha hg hj hv];simp),hd];exact h _ (ha.put hlt undef)
theorem QW.split (d:Nat){t:Bool}(hv:ovl L b d=.bool t)(hT:t=true->QW P n ops K rest (ovl ((d,.bool true)::L) b) w)(hF:t=false->QW P n ops K rest (ovl ((d,.bool false)::L) b) w) :
  QW P n ops K rest (ovl L b) w:=by{
cases t
.have:=hF rfl;rwa [zGi hv] at this
.have:=hT rfl;rwa [zGi hv] at this}
theorem QW.gS {j d:Nat}{want t:Bool}(_hg:o.guard=some (j,want))(_hj:(ops[j]?).bind (·.dst)=some d)(hv:ovl L b d=.bool t)
  (hT:t=true->QW P n ops K (o::rest) (ovl ((d,.bool true)::L) b) w) (hF:t=false->QW P n ops K (o::rest) (ovl ((d,.bool false)::L) b) w):QW P n ops K (o::rest) (ovl L b) w :=
 QW.split d hv hT hF
theorem za {d:Nat}{v:Value}(hd:o.dst=some d)(hlt:Nat.blt d n.n=true)(h:Yq P o (ovl L b) w v)(k:OW P n ops Q rest (ovl ((d,v)::L) b) w):OX P n ops Q o rest (ovl L b) w:=by intro a ha;unfold Oper.wp;rw[ha.eval,h w (Cl.refl w),Oper.upon_value,hd];exact k _ (ha.put hlt v)
theorem zAp {d:Nat}{v:Value}(hd:o.dst=some d)(hlt:Nat.blt d n.n=true)(h:Yq P o (ovl L b) w v)(k:QW P n ops K rest (ovl ((d,v)::L) b) w):QX P n ops K o rest (ovl L b) w:=by{
intro a ha;refine⟨v,fun w' hw'=>?_,?_⟩
.unfold Oper.quietAt;rw[ha.eval,h w' hw'];exact⟨rfl,rfl⟩
.rw[hd];exact k _ (ha.put hlt v)}
def En (P:Program)(o:Oper)(e:Env)(f:FuncId)(args:List Value):Prop:=∀ w,(execOp (ev e) o).run P w=.ok (.enter f args.toArray) w
def Ret (v:Value)(w:World):Ending->World->Prop:=fun e w'=>e=.returned v/\Cl w w'
def zZ (R:zA->Value->Prop)(w:World):Ending->World->Prop:=fun e w'=>∃ v M,e=.returned v/\R M v/\St w M w'
theorem OX.call {d:Nat}{v:Value}{f:FuncId}{args:List Value}(hd:o.dst=some d)(hlt:Nat.blt d n.n=true)(he:En P o (ovl L b) f args)
  (hc:Calls P f args.toArray w (Ret v w)) (k:∀ w',Cl w w'->OW P n ops Q rest (ovl ((d,v)::L) b) w'):OX P n ops Q o rest (ovl L b) w:=by intro a ha;unfold Oper.wp;rw[ha.eval,he w,Oper.upon_enter];refine hc.mono fun x w' ⟨hx,hb⟩=>?_;subst hx;rw[hd];exact k w' hb _ (ha.put hlt v)
theorem OX.callF {d:Nat}{R:zA->Value->Prop}{f:FuncId}{args:List Value}(hd:o.dst=some d)(hlt:Nat.blt d n.n=true)(he:En P o (ovl L b) f args)
  (hc:Calls P f args.toArray w (zZ R w)) (k:∀ v M w',R M v->St w M w'->OW P n ops Q rest (ovl ((d,v)::L) b) w'):OX P n ops Q o rest (ovl L b) w:=by intro a ha;unfold Oper.wp;rw[ha.eval,he w,Oper.upon_enter];refine hc.mono fun x w' ⟨v,M,hx,hr,hs⟩=>?_;subst hx;rw[hd];exact k v M w' hr hs _ (ha.put hlt v)
theorem QX.call {d:Nat}{v:Value}{f:FuncId}{args:List Value}(hd:o.dst=some d)(hlt:Nat.blt d n.n=true)(he:En P o (ovl L b) f args)
  (hc:∀ w',Cl w w'->Calls P f args.toArray w' (Ret v w')) (k:QW P n ops K rest (ovl ((d,v)::L) b) w):QX P n ops K o rest (ovl L b) w:=by{
intro a ha;refine⟨v,fun w' hw'=>?_,?_⟩
.unfold Oper.quietAt;rw[ha.eval,he w'];exact⟨rfl,(hc w' hw').mono fun x w'' ⟨hx,hb⟩=>⟨hx,hw'.trans hb⟩⟩
.rw[hd];exact k _ (ha.put hlt v)}
end
def nf:Value->Option Value
 | .bool b=>some (.bool b)
 | .int k n=>some (.int k n)
 | .float k b=>some (.float k b)
 | .complex k a b=>some (.complex k a b)
 | .string s=>some (.string s)
 | .pointer a=>some (.pointer a)
 | .slice a l c=>some (.slice a l c)
 | .map r=>some (.map r)
 | .chan r=>some (.chan r)
 | .func f a c=>some (.func f a c)
 | .nilFunc=>some .nilFunc
 | .iface t v=>some (.iface t v)
 | .nilIface=>some .nilIface
 | .agg c=>some (.agg c)
 | .tuple c=>some (.tuple c)
theorem zCR {v u:Value}(h:nf v=some u):v=u:=by cases v<;>(cases h;rfl)
def nfL:List Value->Option (List Value)
 | []=>some []
 | v::r=>match nf v,nfL r with
   | some u,some s=>some (u::s)
   | _,_=>none
theorem zDv:∀ {l m:List Value},nfL l=some m->l=m
 | [],m,h=>by cases h;rfl
 | v::r,m,h=>by
   unfold nfL at h
   split at h
   .rename_i u s hu hs
    cases h
    rw[zCR hu,zDv hs]
   .cases h
def evS (e:Env):List Operand->Option (List Value)
 | []=>some []
 | x::r=>match nf (ev e x),evS e r with
   | some u,some s=>some (u::s)
   | _,_=>none
theorem zER {e:Env}:∀ {l:List Operand} {m:List Value},evS e l=some m->l.map (ev e)=m
 | [],m,h=>by cases h;rfl
 | x::r,m,h=>by
   unfold evS at h
   split at h
   .rename_i u s hu hs
    cases h
    rw[List.map_cons,zCR hu,zER hs]
   .cases h
structure TI where
 d:TypeDesc
 size:Nat
 zero:List Value
 bytes:Nat
inductive Tab where
 | nil
 | node (l:Tab) (k:Nat) (a:TI) (r:Tab)
def lk:Tab->Nat->Option TI
 | .nil,_=>none
 | .node l k a r,i=>bif Nat.beq i k then some a else bif Nat.blt i k then lk l i else lk r i
def Tab.All (Q:Nat × TI->Prop):Tab->Prop
 | .nil=>True
 | .node l k a r=>Tab.All Q l/\Q (k,a)/\Tab.All Q r
theorem zFJ {Q:Nat × TI->Prop}:∀ {t:Tab} {i:Nat} {a:TI},lk t i=some a->t.All Q->Q (i,a)
 | .node l k x r,i,a,h,⟨h1,h2,h3⟩=>by
   unfold lk at h
   cases hb:Nat.beq i k with
   | true =>
     rw[hb] at h
     simp only[cond_true,Option.some.injEq] at h
     subst h
     obtain rfl:=Nat.eq_of_beq_eq_true hb
     exact h2
   | false =>
     rw[hb] at h
     simp only[cond_false] at h
     cases hc:Nat.blt i k with
     | true=>rw[hc] at h;exact zFJ h h1
     | false=>rw[hc] at h;exact zFJ h h3
structure Sig (P:Program) where
 tab:Tab
 ok:tab.All fun p=>P.underlying p.1=some p.2.d/\(P.info? p.1).map (fun i=>(i.size,i.zero.map Value.cells,i.bytes))=some (p.2.size,some p.2.zero.toArray,p.2.bytes)
theorem Sig.und {P:Program}(S:Sig P){t:Nat}{i:TI}(h:lk S.tab t=some i):P.underlying t=some i.d:=(zFJ h S.ok).1
theorem Sig.inf {P:Program}(S:Sig P){t:Nat}{i:TI}(h:lk S.tab t=some i):∃ f,P.info? t=some f/\f.size=i.size/\f.zero.map Value.cells=some i.zero.toArray:=by have h2:=(zFJ h S.ok).2;obtain⟨f,h3,h4⟩:=Option.map_eq_some_iff.1 h2;simp only[Prod.mk.injEq] at h4;exact⟨f,h3,h4.1,h4.2.1⟩
theorem Sig.byt {P:Program}(S:Sig P){t:Nat}{i:TI}(h:lk S.tab t=some i):∃ f,P.info? t=some f/\f.bytes=i.bytes:=by have h2:=(zFJ h S.ok).2;obtain⟨f,h3,h4⟩:=Option.map_eq_some_iff.1 h2;simp only[Prod.mk.injEq] at h4;exact⟨f,h3,h4.2.2⟩
section
variable {P:Program}(S:Sig P){t:Nat}{i:TI}(h:lk S.tab t=some i)(w:World)
include h
theorem Sig.run_und:(underlying t).run P w=.ok i.d w:=by simp[underlying,S.und h]
theorem Sig.run_size:(sizeOf t).run P w=.ok i.size w:=by obtain⟨f,h1,h2,_⟩:=S.inf h;simp[sizeOf,typeInfo,h1,h2]
end
def zBP:TypeDesc->Bool
 | .struct _=>true
 | .array _ _=>true
 | _=>false
theorem Sig.run_isAgg {P:Program}(S:Sig P){t:Nat}{i:TI}(h:lk S.tab t=some i)(w:World):(isAgg t).run P w=.ok (zBP i.d) w:=by unfold isAgg;rw[Sem.run_bind,S.run_und h,Result.andThen_ok];cases i.d<;>rfl
def kEq (a b:IntKind):Bool:=decide (a=b)
def pvI (op:BinOp)(k:IntKind)(a b:Int):Option Value :=
 match op with
 | .add=>some (.int k (k.wrap (a+b)))
 | .sub=>some (.int k (k.wrap (a - b)))
 | .mul=>some (.int k (k.wrap (a*b)))
 | .quo=>match b with|.ofNat (m+1)=>some (.int k (k.wrap (a.tdiv (.ofNat (m+1)))))|_=>none
 | .rem=>match b with|.ofNat (m+1)=>some (.int k (a.tmod (.ofNat (m+1))))|_=>none
 | .eql=>some (.bool (a==b))
 | .neq=>some (.bool (a != b))
 | .lss=>some (.bool (decide (a<b)))
 | .leq=>some (.bool (decide (a<=b)))
 | .gtr=>some (.bool (decide (a>b)))
 | .geq=>some (.bool (decide (a >= b)))
 | .and=>some (.int k (k.wrap ((BitVec.ofInt k.bits a &&& BitVec.ofInt k.bits b).toNat:Int)))
 | .or=>some (.int k (k.wrap ((BitVec.ofInt k.bits a ||| BitVec.ofInt k.bits b).toNat:Int)))
 | .xor=>some (.int k (k.wrap ((BitVec.ofInt k.bits a ^^^ BitVec.ofInt k.bits b).toNat:Int)))
 | .andNot=>some (.int k (k.wrap ((BitVec.ofInt k.bits a &&& ~~~BitVec.ofInt k.bits b).toNat:Int)))
 | _=>none
def pvS (op:BinOp)(a b:ByteArray):Option Value :=
 match op with
 | .eql=>some (.bool (a.toList==b.toList))
 | .neq=>some (.bool (!(a.toList==b.toList)))
 | .lss=>some (.bool (Op.bytesLess a.toList b.toList))
 | _=>none
def pvP (op:BinOp)(d:Option TI)(a:Option Addr):Option Value :=
 match d with
 | some ⟨.pointer _,_,_,_⟩=>match op with
   | .eql=>some (.bool a.isNone)
   | .neq=>some (.bool (!a.isNone))
   | _=>none
 | _=>none
def pvB (op:BinOp)(d:Option TI)(x y:Value):Option Value :=
 match x,y with
 | .pointer a,.pointer none=>pvP op d a
 | .int k a,.int k' b=>match op with
   | .shr=>match b with|.ofNat m=>some (.int k (a.fdiv (2 ^ (min m k.bits))))|_=>none
   | .shl=>match b with|.ofNat m=>some (.int k (k.wrap (a*2 ^ (min m k.bits))))|_=>none
   | _=>bif kEq k k' then pvI op k a b else none
 | .string a,.string b=>pvS op a b
 | .bool a,.bool b=>match d with
   | some ⟨.bool,_,_,_⟩=>match op with
     | .eql=>some (.bool (a==b))
     | .neq=>some (.bool (!(a==b)))
     | _=>none
   | _=>none
 | _,_=>none
def pk (t:Bool)(a b:Value):Value:=match t with|true=>a|false=>b
def evl (e:Env)(a:Array Operand):List Value:=a.toList.map (ev e)
def zSu (d:Option TI)(x:Value):Option Value :=
 match d,x with
 | some ⟨.slice _,_,_,_⟩,.slice _ n _=>some (.int .i64 n)
 | some ⟨.string,_,_,_⟩,.string s=>some (.int .i64 s.size)
 | _,_=>none
def zPn (x y:Value):Option Value :=
 match x,y with
 | .int k a,.int _ b=>some (.int k (if b<a then b else a))
 | _,_=>none
def zPo (x y:Value):Option Value :=
 match x,y with
 | .int k a,.int _ b=>some (.int k (if b>a then b else a))
 | _,_=>none
def zMR (f:Value->Value->Option Value):List Value->Value->Option Value
 | [],x=>some x
 | y::r,x=>match f x y with|some z=>zMR f r z|none=>none
def zHY (ty:Tab)(b:Builtin)(ts:List TypeId)(xs:List Value):Option Value :=
 match b with
 | .len=>match ts,xs with
   | [t],[x]=>zSu (lk ty t) x
   | _,_=>none
 | .min=>match xs with|x::r=>zMR zPn r x|[]=>none
 | .max=>match xs with|x::r=>zMR zPo r x|[]=>none
 | _=>none
def zK6 (ty:Tab)(d:Option TI)(x:Value)(f:Nat):Option Value :=
 match d,x with
 | some ⟨.struct fs,_,_,_⟩,.pointer (some ⟨b,off,none⟩) =>
   match fs.toList[f]? with
   | some ⟨_,fty,o,_,_,_,_⟩=>match lk ty fty with
     | some ti=>bif Nat.beq ti.size 0 then none else some (.pointer (some ⟨b,off+o,none⟩))
     | none=>none
   | none=>none
 | _,_=>none
def zOA (ty:Tab)(d:Option TI)(x:Value)(f:Nat):Option Value :=
 match d,x with
 | some ⟨.struct fs,_,_,_⟩,.agg cs =>
   match fs.toList[f]? with
   | some fd=>match lk ty fd.type with
     | some ti=>bif zBP ti.d then some (.agg ((cs.toList.drop fd.offset).take ti.size).toArray) else cs.toList[fd.offset]?
     | none=>none
   | none=>none
 | _,_=>none
def ovw:List Value->Nat->List Value->List Value
 | cs,_,[]=>cs
 | cs,o,v::r=>ovw (cs.set o v) (o+1) r
def zGj (place:Nat->Option (Nat × Nat)):List Value->List (Nat × Value)->Option (List Value)
 | cs,[]=>some cs
 | cs,(i,v)::r=>match place i with
   | none=>none
   | some (off,size)=>bif (Nat.beq v.cells.toList.length size&&Nat.ble (off+v.cells.toList.length) cs.length) then zGj place (ovw cs off v.cells.toList) r else none
def plc (ty:Tab)(fs:List Field)(i:Nat):Option (Nat × Nat) :=
 match fs[i]? with
 | some fd=>match lk ty fd.type with
   | some ti=>some (fd.offset,ti.size)
   | none=>none
 | none=>none
def zH7 (ty:Tab):List Field->Bool
 | []=>true
 | f::r=>(lk ty f.type).isSome&&zH7 ty r
def zIV (ty:Tab)(d:Option TI)(ps:List (Nat × Value)):Option Value :=
 match d with
 | some ⟨.struct fs,_,z,_⟩=>bif zH7 ty fs.toList then
   match zGj (plc ty fs.toList) z ps with
   | some cs=>match nfL cs with
     | some cs=>some (.agg cs.toArray)
     | none=>none
   | none=>none
   else none
 | _=>none
def zOB:Option TI->Bool
 | some ⟨.interface _,_,_,_⟩=>false
 | some _=>true
 | none=>false
def pv (ty:Tab)(e:Env)(op:Op):Option Value :=
 match op with
 | .move x=>some (ev e x)
 | .assign x=>some (ev e x)
 | .nilCheck x=>match ev e x with|.pointer (some a)=>some (.pointer (some a))|_=>none
 | .pick c a b=>match ev e c with|.bool t=>some (pk t (ev e a) (ev e b))|_=>none
 | .binOp bop T x y _=>pvB bop (lk ty T) (ev e x) (ev e y)
 | .unOp .not _ x=>match ev e x with|.bool t=>some (.bool (!t))|_=>none
 | .unOp .neg _ x=>match ev e x with|.int k a=>some (.int k (k.wrap (0 - a)))|_=>none
 | .convert src dst x=>match lk ty src,lk ty dst,ev e x with
   | some _,some ⟨.int k,_,_,_⟩,.int _ a=>some (.int k (k.wrap a))
   | _,_,_=>none
 | .makeInterface T x=>bif zOB (lk ty T) then(match nf (ev e x) with|some v=>some (.iface T v)|none=>none) else none
 | .makeFunc fn first captured=>match evS e first.toList,evS e captured.toList with
   | some a,some c=>some (.func fn a.toArray c.toArray)
   | _,_=>none
 | .fieldAddr T x f=>zK6 ty (lk ty T) (ev e x) f
 | .field T x f=>zOA ty (lk ty T) (ev e x) f
 | .extract x i=>match ev e x with|.tuple vs=>vs.toList[i]?|_=>none
 | .build T parts=>zIV ty (lk ty T) (parts.toList.map fun p=>(p.1,ev e p.2))
 | .call c=>match c.callee with
   | .builtin b=>zHY ty b c.argTypes.toList (evl e c.args)
   | _=>none
 | _=>none
section
variable {P:Program}(S:Sig P)
theorem pvI_ok {op:BinOp}{k:IntKind}{a b:Int}{v:Value}(h:pvI op k a b=some v)(t:TypeId)(w:World) :
  (binOp op t (.int k a) (.int k b)).run P w=.ok v w:=by{
cases op<;>simp only[pvI] at h<;>try (cases h;done)
case quo =>
 split at h
 .cases h;simp[binOp,Op.intDiv];intro h0;omega
 .cases h
case rem =>
 split at h
 .cases h;simp[binOp,Op.intDiv];intro h0;omega
 .cases h
all_goals(cases h;simp[binOp,Op.intArith,Op.intCmp,Op.intBits])}
theorem pvS_ok {op:BinOp}{a b:ByteArray}{v:Value}(h:pvS op a b=some v)(t:TypeId)(w:World) :
  (binOp op t (.string a) (.string b)).run P w=.ok v w:=by
 cases op<;>simp only[pvS] at h<;>try (cases h;done)
 all_goals(cases h;simp[binOp,Op.stringOp])
theorem pvB_ok {op:BinOp}{t:TypeId}{x y:Value}{v:Value}(h:pvB op (lk S.tab t) x y=some v)(X Y:Operand)(w:World) :
  ((do eqGuard op t X Y x y;binOp op t x y):Sem Value).run P w=.ok v w:=by{
unfold pvB at h;split at h
.rename_i a;unfold pvP at h;split at h
 .rename_i hd;have hu:=S.run_und hd w;have hg:(eqGuard op t X Y (.pointer a) (.pointer none)).run P w=.ok () w:=by unfold eqGuard;cases op<;>rfl
  have he:∀ d,(Op.equalIn (d+1) t (.pointer a) (.pointer none)).run P w=.ok a.isNone w:=by intro d;cases a<;>simp only[Op.equalIn,Sem.run_bind,hu,Result.andThen_ok,Sem.run_pure]<;>rfl
  rw[Sem.run_bind,hg,Result.andThen_ok];split at h<;>cases h
  .simp only[binOp,Op.equal,Op.maxDepth,Sem.run_bind,he,Result.andThen_ok,Sem.run_pure]
  .simp only[binOp,Op.equal,Op.maxDepth,Sem.run_bind,he,Result.andThen_ok,Sem.run_pure]
 .cases h
.rename_i k a k' b;have hg:(eqGuard op t X Y (.int k a) (.int k' b)).run P w=.ok () w:=by unfold eqGuard;cases op<;>rfl
 rw[Sem.run_bind,hg,Result.andThen_ok];split at h
 .split at h<;>cases h;simp[binOp,Op.shift];intro h0;omega
 .split at h<;>cases h;simp[binOp,Op.shift];intro h0;omega
 .cases hk:kEq k k' with
  | false=>rw[hk] at h;cases h
  | true =>
    rw[hk] at h;simp only[cond_true] at h;obtain rfl:k=k':=of_decide_eq_true hk;exact pvI_ok h t w
.rename_i a b;rw[Sem.run_bind];have:(eqGuard op t X Y (.string a) (.string b)).run P w=.ok () w:=by unfold eqGuard;cases op<;>rfl
 rw[this,Result.andThen_ok];exact pvS_ok h t w
.rename_i a b;rw[Sem.run_bind];have:(eqGuard op t X Y (.bool a) (.bool b)).run P w=.ok () w:=by unfold eqGuard;cases op<;>rfl
 rw[this,Result.andThen_ok];split at h
 .rename_i hd;have hu:=S.run_und hd w;have he:∀ d,(Op.equalIn (d+1) t (.bool a) (.bool b)).run P w=.ok (a==b) w:=by intro d;simp only[Op.equalIn,Sem.run_bind,hu,Result.andThen_ok,Sem.run_pure]
  split at h
  .cases h;simp only[binOp,Op.equal,Op.maxDepth,Sem.run_bind,he,Result.andThen_ok,Sem.run_pure]
  .cases h;simp only[binOp,Op.equal,Op.maxDepth,Sem.run_bind,he,Result.andThen_ok,Sem.run_pure]
  .cases h
 .cases h
.cases h}
theorem zSv {t:TypeId}{x:Value}{v:Value}(h:zSu (lk S.tab t) x=some v)(ty:TypeId)(w:World) :
  (Builtin.len_ #[t] ty #[x]).run P w=.ok v w:=by{
unfold zSu at h;split at h
.rename_i hd;have hu:=S.run_und hd w;cases h;simp[Builtin.len_,hu,goInt]
.rename_i hd;have hu:=S.run_und hd w;cases h;simp[Builtin.len_,hu,goInt]
.cases h}
theorem zIs (f:Value->Value->Option Value)(g:Value->Value->Sem Value)(w:World)(hfg:∀ x y z,f x y=some z->(g x y).run P w=.ok z w) :
  ∀ (l:List Value) (x v:Value),zMR f l x=some v->(l.foldlM g x).run P w=.ok v w
 | [],x,v,h=>by cases h;rfl
 | y::r,x,v,h=>by
   unfold zMR at h
   split at h
   .rename_i z hz
    simp only[List.foldlM_cons,Sem.run_bind,hfg x y z hz,Result.andThen_ok]
    exact zIs f g w hfg r z v h
   .cases h
theorem zSw {x y z:Value}(h:zPn x y=some z)(w:World):(Builtin.min2 x y).run P w=.ok z w:=by{
unfold zPn at h;split at h
.cases h;rfl
.cases h}
theorem zSx {x y z:Value}(h:zPo x y=some z)(w:World):(Builtin.max2 x y).run P w=.ok z w:=by{
unfold zPo at h;split at h
.cases h;rfl
.cases h}
theorem zK7 {b:Builtin}{ts:Array TypeId}{xs:List Value}{v:Value}(h:zHY S.tab b ts.toList xs=some v)(ty:TypeId)(cs:Array Bool)(w:World) :
  (builtin b ts ty cs xs.toArray).run P w=.ok (.value v) w:=by{
unfold zHY at h;split at h
.split at h
 .rename_i t x hts;obtain rfl:ts=#[t]:=by{rw[<- Array.toArray_toList (xs:=ts),hts]};simp only[builtin,Sem.run_bind,zSv S h ty w,Result.andThen_ok,Sem.run_pure]
 .cases h
.split at h
 .rename_i x r;have:=zIs (P:=P) zPn Builtin.min2 w (fun x y z hz=>zSw hz w) r x v h;simp only[builtin,Builtin.min_,Sem.run_bind,this,Result.andThen_ok,Sem.run_pure]
 .cases h
.split at h
 .rename_i x r;have:=zIs (P:=P) zPo Builtin.max2 w (fun x y z hz=>zSx hz w) r x v h;simp only[builtin,Builtin.max_,Sem.run_bind,this,Result.andThen_ok,Sem.run_pure]
 .cases h
.cases h}
theorem zAA (b off k:Nat):(⟨b,off,none⟩:Addr).add k=⟨b,off+k,none⟩:=by{
unfold Addr.add;by_cases h:k=0
.subst h;simp
.simp[h]}
theorem zOC {t:TypeId}{x:Value}{f:Nat}{v:Value}(h:zK6 S.tab (lk S.tab t) x f=some v)(w:World):(Instr.fieldAt t x f).run P w=.ok v w:=by{
unfold zK6 at h;split at h
.rename_i fs _ _ _ b off hd;have hu:=S.run_und hd w;split at h
 .rename_i nm fty o em tg pk bo hf;split at h
  .rename_i ti hti;cases hz:Nat.beq ti.size 0 with
   | true=>rw[hz] at h;cases h
   | false =>
     rw[hz] at h;cases h;have hsz:ti.size≠0:=by intro h0;rw[h0] at hz;cases hz
     have hf':fs[f]?=some ⟨nm,fty,o,em,tg,pk,bo⟩:=by{simpa using hf};simp only[Instr.fieldAt,Sem.run_bind,hu,Result.andThen_ok,hf',Instr.sureAddr,Sem.run_pure,fieldPlace,S.run_size hti,zAA,if_neg hsz,Sem.run_ite]
  .cases h
 .cases h
.cases h}
theorem zK8 (cs:Array Value)(o k:Nat):cs.extract o (o+k)=((cs.toList.drop o).take k).toArray:=by apply Array.ext';simp[List.extract_eq_take_drop]
theorem zC3 {t:TypeId}{ti:TI}(hti:lk S.tab t=some ti)(cs:Array Value)(o:Nat){v:Value}
  (h:(bif zBP ti.d then some (Value.agg ((cs.toList.drop o).take ti.size).toArray) else cs.toList[o]?)=some v) (w:World):(part t cs o).run P w=.ok v w:=by{
unfold part;rw[Sem.run_bind,S.run_isAgg hti,Result.andThen_ok];cases hb:zBP ti.d with
| true =>
  rw[hb] at h;cases h;simp only[if_true,Sem.run_bind,S.run_size hti,Result.andThen_ok,Sem.run_pure,zK8]
| false =>
  rw[hb] at h;simp only[cond_false] at h;have:cs[o]?=some v:=by{simpa using h};simp[this]}
theorem zRF {t:TypeId}{x:Value}{f:Nat}{v:Value}(h:zOA S.tab (lk S.tab t) x f=some v)(w:World):(Instr.field t x f).run P w=.ok v w:=by{
unfold zOA at h;split at h
.rename_i fs _ _ _ cs hd;have hu:=S.run_und hd w;split at h
 .rename_i fd hf;split at h
  .rename_i ti hti;have hf':fs[f]?=some fd:=by{simpa using hf};simp only[Instr.field,Sem.run_bind,hu,Result.andThen_ok,hf',asAgg,Sem.run_pure]
   exact zC3 S hti cs fd.offset h w
  .cases h
 .cases h
.cases h}
theorem zDh {α β:Type}(f:α->β)(a:Array α):a.map f=(a.toList.map f).toArray:=by apply Array.ext';simp
theorem zMS (off:Nat):∀ (vs:List Value) (k:Nat) (cs:Array Value),
  (vs.zipIdx k).foldl (fun cs (x:Value × Nat)=>cs.setIfInBounds (off+x.2) x.1) cs=(ovw cs.toList (off+k) vs).toArray
 | [],_,cs=>by simp[ovw]
 | v::r,k,cs=>by
   rw[List.zipIdx_cons,List.foldl_cons,zMS off r (k+1)]
   simp[ovw,Nat.add_assoc]
theorem zIt (place:Nat->Option (Nat × Nat))(place':Nat->Option (Nat × Nat))(hp:∀ i,place i=place' i):∀ (ps:List (Nat × Value)) (cs cs':List Value),zGj place cs ps=some cs' ->
  Instr.fill place' cs.toArray ps=some cs'.toArray
 | [],cs,cs',h=>by cases h;rfl
 | (i,v)::r,cs,cs',h=>by
   unfold zGj at h
   unfold Instr.fill
   rw[<- hp i]
   cases hpl:place i with
   | none=>rw[hpl] at h;cases h
   | some q =>
     obtain⟨off,size⟩:=q
     rw[hpl] at h
     simp only at h ⊢
     cases hb:(Nat.beq v.cells.toList.length size&&Nat.ble (off+v.cells.toList.length) cs.length) with
     | false=>rw[hb] at h;cases h
     | true =>
       rw[hb] at h
       simp only[cond_true] at h
       simp only[Bool.and_eq_true] at hb
       have h1:v.cells.size=size:=by simpa using Nat.eq_of_beq_eq_true hb.1
       have h2:off+v.cells.size<=cs.length:=by simpa using Nat.le_of_ble_eq_true hb.2
       have h3:(v.cells.size≠size||decide (off+v.cells.size>cs.toArray.size))=false:=by
        simp[h1];omega
       simp only[h3,Bool.false_eq_true,if_false]
       have h4:=zMS off v.cells.toList 0 cs.toArray
       have h5:(v.cells.zipIdx.foldl (fun cs (x:Value × Nat)=>match x with|(c,j)=>cs.setIfInBounds (off+j) c) cs.toArray)=(ovw cs off v.cells.toList).toArray:=by
        rw[<- Array.foldl_toList]
        simpa using h4
       rw[h5]
       exact zIt place place' hp r _ _ h
theorem zH8 (S:Sig P)(w:World):∀ (fs:List Field),zH7 S.tab fs=true ->
  (fs.mapM (m:=Sem) (fun f=>do pure (f.offset,<- sizeOf f.type))).run P w=.ok (fs.map fun f=>(f.offset,((lk S.tab f.type).map (·.size)).getD 0)) w
 | [],_=>rfl
 | f::r,h=>by
   simp only[zH7,Bool.and_eq_true] at h
   obtain⟨ti,hti⟩:=Option.isSome_iff_exists.1 h.1
   have ih:=zH8 S w r h.2
   simp only[List.mapM_cons,Sem.run_bind,S.run_size hti,Result.andThen_ok,Sem.run_pure,ih,List.map_cons,hti,Option.map_some,Option.getD_some]
theorem plc_eq (S:Sig P)(fs:Array Field)(ha:zH7 S.tab fs.toList=true)(i:Nat) :
  plc S.tab fs.toList i=((fs.toList.map fun f=>(f.offset,((lk S.tab f.type).map (·.size)).getD 0)).toArray[i]?:Option (Nat × Nat)):=by{
unfold plc;simp only[List.getElem?_toArray,List.getElem?_map];cases hf:fs.toList[i]? with
| none=>rfl
| some fd =>
  have hm:∀ (l:List Field),zH7 S.tab l=true->∀ f∈l,(lk S.tab f.type).isSome=true:=by
   intro l;induction l with
   | nil=>intro _ f hf;cases hf
   | cons x r ih =>
     intro h f hf;simp only[zH7,Bool.and_eq_true] at h;rcases List.mem_cons.1 hf with rfl|h1
     .exact h.1
     .exact ih h.2 f h1
  obtain⟨ti,hti⟩:=Option.isSome_iff_exists.1 (hm _ ha fd (List.mem_of_getElem? hf));simp[hti]}
theorem zOD {t:TypeId}{ps:Array (Nat × Value)}{v:Value}(h:zIV S.tab (lk S.tab t) ps.toList=some v)(w:World):(Instr.build t ps).run P w=.ok v w:=by{
unfold zIV at h;split at h
.rename_i fs _ z _ hd;cases ha:zH7 S.tab fs.toList with
 | false=>rw[ha] at h;cases h
 | true =>
   rw[ha] at h;simp only[cond_true] at h;split at h
   .rename_i cs hcs;split at h<;>try (cases h;done)
    rename_i cs2 hcs2;obtain rfl:=zDv hcs2;cases h;obtain⟨f,h1,_,h3⟩:=S.inf hd;obtain⟨zv,hz1,hz2⟩:=Option.map_eq_some_iff.1 h3;have hzv:(zeroValue t).run P w=.ok zv w:=by{simp[zeroValue,typeInfo,h1,hz1]};have hf:=zIt _ _ (plc_eq S fs ha) _ _ _ hcs
    have hm:=zH8 S w fs.toList ha;have hm':(fs.mapM (m:=Sem) (fun f=>do pure (f.offset,<- sizeOf f.type))).run P w=.ok (fs.toList.map fun f=>(f.offset,((lk S.tab f.type).map (·.size)).getD 0)).toArray w:=by rw[<- Array.toArray_toList (xs:=fs),List.mapM_toArray,Sem.run_map];rw[hm];simp
    unfold Instr.build;simp only[Sem.run_bind,hzv,Result.andThen_ok,S.run_und hd,hm',hz2];rw[hf];simp
   .cases h
.cases h}
theorem pv_ok {o:Oper}{e:Env}{v:Value}(h:pv S.tab e o.op=some v)(w:World):Yq P o e w v:=by{
intro w' _;obtain⟨dst,op,ty,pos,after,guard⟩:=o;simp only at h;cases op<;>simp only[pv] at h<;>try (cases h;done)
case move x=>cases h;rfl
case assign x=>cases h;rfl
case nilCheck x =>
 split at h
 .rename_i a ha;cases h;simp only[execOp,ha,Sem.run_pure]
 .cases h
case pick c a b =>
 split at h
 .rename_i t ht;cases h;simp only[execOp,ht,asBool,Sem.run_bind,Sem.run_pure,Result.andThen_ok];cases t<;>rfl
 .cases h
case binOp bop T x y yT =>
 simp only[execOp,Sem.run_bind,Sem.run_pure];have:=pvB_ok S h x y w';simp only[Sem.run_bind] at this;rw[this];rfl
case unOp uop T x =>
 cases uop<;>simp only at h<;>try (cases h;done)
 case not =>
  split at h
  .rename_i t ht;cases h;simp only[execOp,ht,Op.unary,Sem.run_bind,Sem.run_pure,Result.andThen_ok]
  .cases h
 case neg =>
  split at h
  .rename_i k a ha;cases h;simp only[execOp,ha,Op.unary,Op.intArith,Sem.run_bind,Sem.run_pure,Result.andThen_ok]
  .cases h
case convert src dst' x =>
 split at h
 .rename_i si k _ _ _ k' a hs hd hx;cases h;have hus:=S.run_und hs w';have hud:=S.run_und hd w';simp only[execOp,convert,hx,Sem.run_bind,hus,hud,Result.andThen_ok];cases si.d<;>rfl
 .cases h
case makeInterface T x =>
 cases hn:zOB (lk S.tab T) with
 | false=>rw[hn] at h;cases h
 | true =>
   rw[hn] at h;simp only[cond_true] at h;split at h<;>try (cases h;done)
   rename_i u hu0;cases h;rw[<- zCR hu0];cases hT:lk S.tab T with
   | none=>rw[hT] at hn;cases hn
   | some ti =>
     rw[hT] at hn;have hu:=S.run_und hT w';simp only[execOp,Instr.makeInterface,Sem.run_bind,hu,Result.andThen_ok];obtain⟨d,sz,z,by0⟩:=ti;cases d<;>first|(simp[zOB] at hn;done)|rfl
case makeFunc fn first captured =>
 split at h
 .rename_i a c ha hc;cases h;simp only[execOp,Instr.makeFunc,Sem.run_bind,Sem.run_pure,Result.andThen_ok,<- zER ha,<- zER hc,<- zDh]
 .cases h
case fieldAddr T x f =>
 have:=zOC S h w';simp only[execOp,Sem.run_bind,this,Result.andThen_ok,Sem.run_pure]
case field T x f =>
 have:=zRF S h w';simp only[execOp,Sem.run_bind,this,Result.andThen_ok,Sem.run_pure]
case extract x i =>
 split at h
 .rename_i vs hx;have:vs[i]?=some v:=by{simpa using h};simp only[execOp,hx,Instr.extract,this,Sem.run_bind,Sem.run_pure,Result.andThen_ok]
 .cases h
case build T parts =>
 have h':zIV S.tab (lk S.tab T) (parts.map fun p=>(p.1,ev e p.2)).toList=some v:=by simpa using h
 have:=zOD S h' w';simp only[execOp,Sem.run_bind,this,Result.andThen_ok,Sem.run_pure]
case call c =>
 obtain⟨callee,args,argTypes⟩:=c;cases callee<;>simp only at h<;>try (cases h;done)
 rename_i b;have:=zK7 S h ty (args.map fun|.const _=>true|_=>false) w';simp only[execOp,resolve,invoke,Sem.run_bind,Sem.run_pure,Result.andThen_ok];have he:(evl e args).toArray=args.map (ev e):=by simp only[evl,<- zDh]
 rw[he] at this;exact this}
def pvn (ty:Tab)(e:Env)(op:Op):Option Value :=
 match pv ty e op with
 | some v=>nf v
 | none=>none
theorem zCS {o:Oper}{e:Env}{v:Value}(h:pvn S.tab e o.op=some v)(w:World):Yq P o e w v:=by{
unfold pvn at h;split at h
.rename_i u hu;rw[<- zCR h];exact pv_ok S hu w
.cases h}
end
section
variable {P:Program}{n:Nw}{ops:Array Oper}{Q:zAM}{K:Env->World->Prop}{o:Oper}{rest:List Oper}{L:List (Nat × Value)}{b:Env}{w:World}(S:Sig P)
theorem OX.pure {d:Nat}{v:Value}(hd:o.dst=some d)(hlt:Nat.blt d n.n=true)(h:pvn S.tab (ovl L b) o.op=some v)(k:OW P n ops Q rest (ovl ((d,v)::L) b) w):OX P n ops Q o rest (ovl L b) w :=
 za hd hlt (zCS S h w) k
theorem QX.pure {d:Nat}{v:Value}(hd:o.dst=some d)(hlt:Nat.blt d n.n=true)(h:pvn S.tab (ovl L b) o.op=some v)(k:QW P n ops K rest (ovl ((d,v)::L) b) w):QX P n ops K o rest (ovl L b) w :=
 zAp hd hlt (zCS S h w) k
end
abbrev cb (b:Nat)(cs:List Value)(T:TypeId):Nat × Obj:=(b,.cells cs.toArray T (0,0))
theorem zB9 {w:World}{M:zA}(hM:Mem w M){b:Nat}{cs:List Value}{T:TypeId}{fr:Nat × Nat}(hm:(b,Obj.cells cs.toArray T fr)∈M)(j:Nat) :
  w.cell? ⟨b,j,none⟩=cs[j]?:=by rw[cell_of_row w b j _ T fr (hM _ hm)];simp
section
variable {P:Program}{n:Nw}{ops:Array Oper}{Q:zAM}{K:Env->World->Prop}{o:Oper}{rest:List Oper}{L:List (Nat × Value)}{b:Env}{w:World}(S:Sig P)
theorem OW.p {d:Nat}{v:Value}(hg:o.guard=none)(hd:o.dst=some d)(hlt:Nat.blt d n.n=true)(h:pvn S.tab (ovl L b) o.op=some v)(k:OW P n ops Q rest (ovl ((d,v)::L) b) w):OW P n ops Q (o::rest) (ovl L b) w :=
 OW.go hg (OX.pure S hd hlt h k)
theorem QW.p {d:Nat}{v:Value}(hg:o.guard=none)(hd:o.dst=some d)(hlt:Nat.blt d n.n=true)(h:pvn S.tab (ovl L b) o.op=some v)(k:QW P n ops K rest (ovl ((d,v)::L) b) w):QW P n ops K (o::rest) (ovl L b) w :=
 QW.go hg (QX.pure S hd hlt h k)
end
def ldv (ti:TI)(cs:List Value)(off:Nat):Option Value :=
 bif zBP ti.d then(bif Nat.ble (off+ti.size) cs.length then some (.agg ((cs.drop off).take ti.size).toArray) else none) else cs[off]?
section
variable {P:Program}(S:Sig P)
theorem zFK {w:World}{M:zA}(hM:Mem w M){b off:Nat}{cs:List Value}{T t:TypeId}{fr:Nat × Nat}{ti:TI}{v:Value}(hm:(b,Obj.cells cs.toArray T fr)∈M)
  (ht:lk S.tab t=some ti) (hl:ldv ti cs off=some v):(loadVar t ⟨b,off,none⟩).run P w=.ok v w:=by{
unfold loadVar;rw[Sem.run_bind,S.run_isAgg ht,Result.andThen_ok];unfold ldv at hl;cases hb:zBP ti.d with
| true =>
  rw[hb] at hl;simp only[cond_true] at hl;cases hle:Nat.ble (off+ti.size) cs.length with
  | false=>rw[hle] at hl;cases hl
  | true =>
    rw[hle] at hl;cases hl;have hle':off+ti.size<=cs.length:=Nat.le_of_ble_eq_true hle;have hlen:((cs.drop off).take ti.size).length=ti.size:=by simp;omega
    have:=run_loadCells_list (P:=P) w ⟨b,off,none⟩ ((cs.drop off).take ti.size) (fun j v hj=>by
     rw[zAA,zB9 hM hm];rw[List.getElem?_take] at hj;split at hj
     .rw[List.getElem?_drop] at hj;exact hj
     .cases hj)
    rw[hlen] at this;simp only[if_true,Sem.run_bind,S.run_size ht,Result.andThen_ok,this,Sem.run_pure]
| false =>
  rw[hb] at hl;simp only[cond_false] at hl;simp only[Bool.false_eq_true,if_false,run_load,zB9 hM hm,hl]}
theorem Yq.load {o:Oper}{e:Env}{w:World}{t:TypeId}{x:Operand}{M:zA}{b off:Nat}{cs:List Value}{T:TypeId}{fr:Nat × Nat}{ti:TI}{v:Value}(ho:o.op=.load t x)
  (hx:ev e x=.pointer (some ⟨b,off,none⟩)) (hM:Mem w M) (hm:(b,Obj.cells cs.toArray T fr)∈M) (ht:lk S.tab t=some ti) (hl:ldv ti cs off=some v):Yq P o e w v:=by intro w' hw';have:=zFK S (hM.ext hw') hm ht hl;simp only[execOp,ho,Instr.loadAt,hx,Instr.sureAddr,Sem.run_bind,Sem.run_pure,Result.andThen_ok,this]
def ldS (ti:TI)(cs:List Value)(off:Nat):Option Value :=
 bif zBP ti.d then(bif Nat.ble (off+ti.size) cs.length then(match nfL ((cs.drop off).take ti.size) with|some l=>some (.agg l.toArray)|none=>none) else none)
 else(match cs[off]? with|some v=>nf v|none=>none)
theorem zSy {ti:TI}{cs:List Value}{off:Nat}{v:Value}(h:ldS ti cs off=some v):ldv ti cs off=some v:=by{
unfold ldS at h;unfold ldv;cases hb:zBP ti.d with
| true =>
  rw[hb] at h;simp only[cond_true] at h ⊢;cases hle:Nat.ble (off+ti.size) cs.length with
  | false=>rw[hle] at h;cases h
  | true =>
    rw[hle] at h;simp only[cond_true] at h ⊢;split at h
    .rename_i l hl;rw[zDv hl];exact h
    .cases h
| false =>
  rw[hb] at h;simp only[cond_false] at h ⊢;split at h
  .rename_i u hu;rw[hu,zCR h]
  .cases h}
theorem zF {o:Oper}{e:Env}{w:World}{t:TypeId}{x:Operand}{M:zA}{b off:Nat}{cs:List Value}{T:TypeId}{fr:Nat × Nat}{ti:TI}{v:Value}(ho:o.op=.load t x)
  (hx:ev e x=.pointer (some ⟨b,off,none⟩)) (hM:Mem w M) (hm:(b,Obj.cells cs.toArray T fr)∈M) (ht:lk S.tab t=some ti) (hl:ldS ti cs off=some v):Yq P o e w v :=
 Yq.load S ho hx hM hm ht (zSy hl)
theorem Yq.ix {o:Oper}{e:Env}{w:World}{t E:TypeId}{x i:Operand}{b off len cap j:Nat}{k:IntKind}{n:Int}{ti te:TI}(ho:o.op=.indexAddr t x i)
  (hx:ev e x=.slice (some ⟨b,off,none⟩) len cap) (hi:ev e i=.int k n) (ht:lk S.tab t=some ti) (htd:ti.d=.slice E) (he:lk S.tab E=some te)
  (hj:n.toNat=j) (h0:0<=n) (h1:n<len):Yq P o e w (.pointer (some ⟨b,off+j*te.size,none⟩)):=by intro w' _;have hu:=S.run_und ht w';rw[htd] at hu;simp only[execOp,ho,Instr.indexAt,hx,hi,asIntOf,hu,Sem.run_bind,Sem.run_pure,Result.andThen_ok,h0,h1,and_self,if_true,S.run_size he,zAA,hj]
end
section
variable {P:Program}{n:Nw}{ops:Array Oper}{Q:zAM}{K:Env->World->Prop}{o:Oper}{rest:List Oper}{L:List (Nat × Value)}{b0:Env}{w:World}(S:Sig P)
theorem OX.box {w0:World}{G:zA}{t:TypeId}{x:Operand}{v:Value}{cs:List Value}{d:Nat}(H:St w0 G w)(ho:o.op=.box t x)(hd:o.dst=some d)(hlt:Nat.blt d n.n=true)
  (hx:nf (ev (ovl L b0) x)=some v) (hc0:nfL v.cells.toList=some cs) (k:∀ b w',St w0 (cb b cs t::G) w'->Cl w w'->OW P n ops Q rest (ovl ((d,.pointer (some ⟨b,0,none⟩))::L) b0) w') :
  OX P n ops Q o rest (ovl L b0) w:=by
 intro a ha;unfold Oper.wp;rw[ha.eval];have hx:=zCR hx;have hc:v.cells=cs.toArray:=by rw[<- zDv hc0]
 simp only[execOp,ho,Instr.box,newVar,newRow,hx,hc,Sem.run_bind,run_newObj,Result.andThen_ok,Sem.run_pure,Oper.upon_value,hd];exact k _ _ (H.alloc _) ((Bel.refl _ _).alloc (Nat.le_refl _) _) _ (ha.put hlt _)
theorem OX.alloc {w0:World}{G:zA}{t:TypeId}{ti:TI}{d:Nat}(H:St w0 G w)(ho:o.op=.alloc t)(hd:o.dst=some d)(hlt:Nat.blt d n.n=true)
  (ht:lk S.tab t=some ti) {z:List Value} (hz:nfL ti.zero=some z) (k:∀ b w',St w0 (cb b z t::G) w'->Cl w w'->OW P n ops Q rest (ovl ((d,.pointer (some ⟨b,0,none⟩))::L) b0) w') :
  OX P n ops Q o rest (ovl L b0) w:=by
 obtain rfl:=zDv hz;intro a ha;unfold Oper.wp;rw[ha.eval];obtain⟨f,h1,_,h3⟩:=S.inf ht;obtain⟨zv,hz1,hz2⟩:=Option.map_eq_some_iff.1 h3;have hzv:(zeroValue t).run P w=.ok zv w:=by simp[zeroValue,typeInfo,h1,hz1]
 simp only[execOp,ho,Instr.alloc,newVar,newRow,hzv,hz2,Sem.run_bind,run_newObj,Result.andThen_ok,Sem.run_pure,Oper.upon_value,hd];exact k _ _ (H.alloc _) ((Bel.refl _ _).alloc (Nat.le_refl _) _) _ (ha.put hlt _)
def wr (cs:List Value)(off:Nat)(vs:List Value):List Value:=cs.take off++vs++cs.drop (off+vs.length)
theorem St.row {w0:World}{G G':zA}{b:Nat}{cs cs':List Value}{T:TypeId}(H:St w0 G w)(hu:Up b (.cells cs.toArray T (0,0)) (.cells cs'.toArray T (0,0)) G G'):St w0 G' (w.setRow b cs'.toArray):=by have hg:=H.mem _ hu.mem;refine H.up hu rfl rfl rfl (by simp[World.setRow]) (setRow_heap w b _ _ T _ hg) (fun k hk=>setRow_other w b k _ hk)
theorem OX.store {w0:World}{G G':zA}{t:TypeId}{x y:Operand}{v:Value}{cs vs cs':List Value}{b off:Nat}{T:TypeId}{ti:TI}(H:St w0 G w)(ho:o.op=.store t x y)(hd:o.dst=none)
  (hx:ev (ovl L b0) x=.pointer (some ⟨b,off,none⟩)) (hy:nf (ev (ovl L b0) y)=some v) (hc0:nfL v.cells.toList=some vs) (ht:lk S.tab t=some ti)
  (hu:Up b (.cells cs.toArray T (0,0)) (.cells cs'.toArray T (0,0)) G G') (hw:nfL (wr cs off vs)=some cs') (hsz:Nat.beq vs.length ti.size=true) (hfit:Nat.ble (off+vs.length) cs.length=true) (h1:vs.all Value.oneCell'=true)
  (k:∀ w',St w0 G' w'->OW P n ops Q rest (ovl L b0) w'):OX P n ops Q o rest (ovl L b0) w:=by{
intro a ha;unfold Oper.wp;rw[ha.eval];have hy:=zCR hy;have hc:v.cells=vs.toArray:=by rw[<- zDv hc0]
obtain rfl:=zDv hw;have hg:=H.mem _ hu.mem;have hst:=run_storeCells_at P b off T vs 0 cs.toArray w hg (by have:=Nat.le_of_ble_eq_true hfit;simpa using this) (fun u hm=>(List.all_eq_true.1 h1) u hm);simp only[Nat.add_zero] at hst;have hsz':v.cells.size=ti.size:=by rw[hc];simpa using Nat.eq_of_beq_eq_true hsz
have hl:v.cells.toList=vs:=by rw[hc]
simp only[execOp,ho,Instr.storeAt,hx,hy,Instr.sureAddr,storeVar,Sem.run_bind,Sem.run_pure,Result.andThen_ok,S.run_size ht,hsz',ne_eq,not_true,if_false,hl,hst,Oper.upon_skip,hd];exact k _ (H.row hu) _ ha}
theorem OX.buildS {w0:World}{G:zA}{t E:TypeId}{len d:Nat}{parts:Array (Nat × Operand)}{ti te:TI}{cs0 cs:List Value}(H:St w0 G w)(ho:o.op=.buildSlice t len parts)(hd:o.dst=some d)(hlt:Nat.blt d n.n=true)
  (ht:lk S.tab t=some ti) (htd:ti.d=.slice E) (he:lk S.tab E=some te) (hpos:Nat.blt 0 (len*te.size)=true) (hsm:Nat.ble (len*te.size) 16777216=true)
  (hf:zGj (fun i=>some (i*te.size,te.size)) ((List.range (len*te.size)).map fun i=>te.zero.toArray[i % te.zero.length]!) (parts.toList.map fun p=>(p.1,ev (ovl L b0) p.2))=some cs0) (hcs:nfL cs0=some cs)
  (k:∀ b w',St w0 (cb b cs E::G) w'->Cl w w'->OW P n ops Q rest (ovl ((d,.slice (some ⟨b,0,none⟩) len len)::L) b0) w') :
  OX P n ops Q o rest (ovl L b0) w:=by{
intro a ha;unfold Oper.wp;rw[ha.eval];obtain rfl:=zDv hcs;have hu:=S.run_und ht w;rw[htd] at hu;obtain⟨f,h1,_,h3⟩:=S.inf he;obtain⟨zv,hz1,hz2⟩:=Option.map_eq_some_iff.1 h3;have hzv:(zeroValue E).run P w=.ok zv w:=by simp[zeroValue,typeInfo,h1,hz1]
have hpos':len*te.size≠0:=by simp at hpos;omega
have hsm':¬ len*te.size>2 ^ 24:=by have:=Nat.le_of_ble_eq_true hsm;omega
have hf':=zIt _ (fun i=>some (i*te.size,te.size)) (fun _=>rfl) _ _ _ hf;have hz:(Array.range (len*te.size)).map (fun x=>te.zero.toArray[x % te.zero.toArray.size]!)=((List.range (len*te.size)).map fun i=>te.zero.toArray[i % te.zero.length]!).toArray:=by apply Array.ext';simp
have hp:(parts.map fun p=>(p.1,ev (ovl L b0) p.2)).toList=(parts.toList.map fun p=>(p.1,ev (ovl L b0) p.2)):=by simp
simp only[execOp,ho,Instr.buildSlice,Sem.run_bind,hu,Result.andThen_ok,S.run_size he,Sem.run_ite,if_neg hsm',if_neg hpos',hzv,hz2,Sem.run_pure,hp,hz,hf',newRow,run_newObj,Oper.upon_value,hd];exact k _ _ (H.alloc _) ((Bel.refl _ _).alloc (Nat.le_refl _) _) _ (ha.put hlt _)}
end
def Ent (P:Program)(f:FuncId):Prop:=∀ (args:Array Value) (w:World),(callFunc f args).run P w=.ok (.enter f args) w
theorem Ent.mk {P:Program}{f:FuncId}{fn:Func}(hf:P.funcs[f]?=some fn)(h1:(fn.name=="runtime.NumGoroutine")=false)(h2:fn.body.isNone=false):Ent P f:=by intro args w;simp only[callFunc,Sem.run_bind,run_program,Result.andThen_ok,hf,h1,h2,Bool.false_eq_true,if_false,Sem.run_pure]
theorem En.fn {P:Program}{o:Oper}{e:Env}{f:FuncId}{args:Array Operand}{ts:Array TypeId}{l:List Value}(h:Ent P f)(ho:o.op=.call { callee:=.value (.func f),args:=args,argTypes:=ts })
  (hl:evS e args.toList=some l):En P o e f l:=by
 have hl':evl e args=l:=zER hl;subst hl';intro w;have he:args.map (ev e)=(evl e args).toArray:=by simp only[evl,<- zDh]
 simp only[execOp,ho,resolve,Deferred.ofValue,ev,invoke,Sem.run_bind,Sem.run_pure,Result.andThen_ok,he];simpa using h (evl e args).toArray w
theorem En.clo {P:Program}{o:Oper}{e:Env}{f:FuncId}{x:Operand}{args:Array Operand}{ts:Array TypeId}{first caps:List Value}(h:Ent P f)(ho:o.op=.call { callee:=.value x,args:=args,argTypes:=ts })
  (hx:ev e x=.func (.func f) first.toArray caps.toArray) {l m:List Value} (hl:evS e args.toList=some l) (hm:nfL (first++l++caps)=some m):En P o e f m:=by
 obtain rfl:=zDv hm;have hl':evl e args=l:=zER hl;subst hl';intro w;have he:args.map (ev e)=(evl e args).toArray:=by simp only[evl,<- zDh]
 simp only[execOp,ho,resolve,hx,Deferred.ofValue,invoke,Sem.run_bind,Sem.run_pure,Result.andThen_ok,he];simpa using h (first++evl e args++caps).toArray w
def Mth (P:Program)(t:TypeId)(name:String)(v:Value)(f:FuncId)(r:Value):Prop:=∀ w:World,(method (P.types.size+Made.depth) t v name).run P w=.ok (f,r) w
theorem En.inv {P:Program}{o:Oper}{e:Env}{t:TypeId}{name:String}{f:FuncId}{x:Operand}{args:Array Operand}{ts:Array TypeId}{v r:Value}(h:Ent P f)
  (ho:o.op=.call { callee:=.invoke x name,args:=args,argTypes:=ts }) (hx:ev e x=.iface t v) (hm:Mth P t name v f r) {l:List Value} (hl:evS e args.toList=some l):En P o e f (r::l):=by{
have hl':evl e args=l:=zER hl;subst hl';intro w;have he:args.map (ev e)=(evl e args).toArray:=by simp only[evl,<- zDh]
simp only[execOp,ho,resolve,hx,invoke,Sem.run_bind,Sem.run_pure,Result.andThen_ok,he];have h2:(#[Value.iface t v]++(evl e args).toArray)[0]?=some (Value.iface t v):=by simp
have h3:(#[Value.iface t v]++(evl e args).toArray).extract 1 (#[Value.iface t v]++(evl e args).toArray).size=(evl e args).toArray:=by apply Array.ext';simp
rw[h2,h3];simp only[callMethod,Sem.run_bind,run_program,Result.andThen_ok,hm w];simpa using h (r::evl e args).toArray w}
def Own (M:zA)(E:TypeId)(size:Nat)(a:Option Addr)(n cap:Nat)(xs:List Value):Prop :=
 xs.length=n*size/\((n=0/\cap=0/\M=[]) \/
  ∃ g cs,a=some ⟨g,0,none⟩/\M=[cb g cs E]/\n<=cap/\cap<=maxLen/\cs.length=cap*size/\cs.take (n*size)=xs)
theorem zWD (E:TypeId)(size:Nat)(a:Option Addr):Own [] E size a 0 0 []:=⟨by simp,.inl ⟨rfl,rfl,rfl⟩⟩
theorem Own.mk {g:Nat}{cs:List Value}{E:TypeId}{size n cap:Nat}(h1:n<=cap)(h2:cap<=maxLen)(h3:cs.length=cap*size):Own [cb g cs E] E size (some ⟨g,0,none⟩) n cap (cs.take (n*size)) :=
 ⟨by rw[List.length_take,h3];exact Nat.min_eq_left (Nat.mul_le_mul_right _ h1),.inr ⟨g,cs,rfl,rfl,h1,h2,h3,rfl⟩⟩
def Src (w:World)(v:Value)(m:Nat)(news:List Value):Prop :=
 (∃ a c,v=.slice (some a) m c/\∀ j u,news[j]?=some u->w.cell? (a.add j)=some u)\/(∃ c,v=.slice none m c/\m=0)
theorem St.tail {w0 w:World}{M G:zA}(H:St w0 (M++G) w):St w0 G w:=H.sub (List.sublist_append_right M G)
theorem St.drewAlloc {w0 w:World}{G:zA}(H:St w0 G w)(o:Obj):St w0 ((w.heap.size,o)::G) (w.drew.alloc o):=H.drew.alloc o
theorem zPp {P:Program}{w0 w:World}{M G:zA}{E t ty:TypeId}{n m cap bytes:Nat}{a0:Option Addr}{src:Value}{xs news:List Value}{i:TypeInfo}{z:Value}(H:St w0 (M++G) w)
  (ht:P.underlying t=some (.slice E)) (hi:P.info? E=some i) (hz:i.zero=some z) (hby:i.bytes=bytes) (hzs:z.cells.size=i.size)
  (h:Own M E i.size a0 n cap xs) (hsrc:Src w src m news) (hl:news.length=m*i.size) (h1:∀ u∈news,u.oneCell'=true)
  (h63:n+m<=maxLen) (hbytes:(n+m)*bytes<=140737488355328) :
  ∃ a' cap' M' w',(Builtin.append_ #[t,t] ty #[.slice a0 n cap,src]).run P w=.ok (.slice a' (n+m) cap') w'/\Own M' E i.size a' (n+m) cap' (xs++news)/\St w0 (M'++G) w':=by{
subst hby;have hsmall:n+m<=9223372036854775807:=by simp only[maxLen] at h63;omega
have hxl:xs.length=n*i.size:=h.1;have hlen:(xs++news).length=(n+m)*i.size:=by rw[List.length_append,hxl,hl,Nat.add_mul]
have grown:∀ (old:Nat),∃ M',Own M' E i.size (some ⟨w.heap.size,0,none⟩) (n+m) (grownCap w (n+m) old E) (xs++news) /\
  St w0 (M'++G) (w.drew.alloc (.cells (xs.toArray++news.toArray++Builtin.zeroCells z.cells (grownCap w (n+m) old E - (n+m))) E)):=by
 intro old;have hge:=grownCap_ge w (n+m) old E;have hcm:grownCap w (n+m) old E<=maxLen:=grownCap_le_maxLen w (n+m) old E h63;refine⟨[cb w.heap.size (xs++news++(Builtin.zeroCells z.cells (grownCap w (n+m) old E - (n+m))).toList) E],⟨hlen,.inr ⟨_,_,rfl,rfl,hge,hcm,?_,?_⟩⟩,?_⟩
 .simp only[List.length_append,Array.length_toList,size_zeroCells,hzs,hxl,hl,<- Nat.add_mul]
  congr 1
  omega
 .rw[<- hlen];exact List.take_left
 .have:=(H.tail).drewAlloc (.cells (xs.toArray++news.toArray++Builtin.zeroCells z.cells (grownCap w (n+m) old E - (n+m))) E);have he:(xs.toArray++news.toArray++Builtin.zeroCells z.cells (grownCap w (n+m) old E - (n+m)))=(xs++news++(Builtin.zeroCells z.cells (grownCap w (n+m) old E - (n+m))).toList).toArray:=by apply Array.ext';simp
  rw[he] at this ⊢;exact this
by_cases hm0:m=0
.subst hm0;have hn0:news=[]:=List.eq_nil_of_length_eq_zero (by simpa using hl);subst hn0;refine⟨a0,cap,M,w,?_,by simpa using h,H⟩;have hfc:(Builtin.firstCells i.size 0 src).run P w=.ok #[] w:=by rcases hsrc with ⟨a,c,rfl,_⟩|⟨c,rfl,_⟩<;>simp[Builtin.firstCells,loadCells,loadCellsFrom]
 have hlo:(Builtin.lenOf src).run P w=.ok 0 w:=by rcases hsrc with ⟨a,c,rfl,_⟩|⟨c,rfl,_⟩<;>simp[Builtin.lenOf]
 have hnc:n<=cap:=by rcases h.2 with ⟨h2,h3,_⟩|⟨_,_,_,_,h2,_⟩<;>omega
 cases a0<;>simp[Builtin.append_,run_underlying ht,sizeOf,typeInfo,hi,hlo,hfc,storeCells,hnc]
.obtain⟨a,c,rfl,hnews⟩:=hsrc.resolve_right (fun⟨_,_,h0⟩=>hm0 h0);rcases h.2 with ⟨hn0,hc0,hM⟩|⟨g,cs,rfl,hM,hnc,hcm,hcs,htake⟩
 .subst hn0;subst hc0;have hx:xs=[]:=List.eq_nil_of_length_eq_zero (by simpa using hxl);subst hx;obtain⟨M',ho,hs⟩:=grown 0;simp only[Nat.zero_add,List.nil_append,Array.empty_append] at ho hs ⊢;cases a0 with
  | none=>exact⟨_,_,M',_,run_append_nil (P:=P) w t ty E i z ht hi hz a m c news hl hnews (by omega) (by omega) (by simp only[Nat.zero_add] at hbytes;omega),ho,hs⟩
  | some a0 =>
    have hr:=run_append_grow (P:=P) w t ty E i z ht hi hz a0 0 0 [] (by simp) (by simp) a m c news hl hnews (by omega) (by omega) (growslice_fits (by omega) hbytes);simp only[Nat.zero_add,Array.empty_append] at hr;exact⟨_,_,M',_,hr,ho,hs⟩
 .subst hM;have hg:=H.mem (cb g cs E) (by simp);by_cases hroom:n+m<=cap
  .have hfit:n*i.size+news.length<=cs.toArray.size:=by rw[hl,List.size_toArray,hcs,<- Nat.add_mul];exact Nat.mul_le_mul_right _ hroom
   have hr:=run_append_room (P:=P) w t ty E i ht hi g n cap cs.toArray hg a m c news hl hnews h1 hroom hfit;refine⟨_,_,[cb g (cs.take (n*i.size)++news++cs.drop (n*i.size+news.length)) E],_,hr,⟨hlen,.inr ⟨g,_,rfl,rfl,hroom,hcm,?_,?_⟩⟩,?_⟩
   .simp only[List.length_append,List.length_take,List.length_drop,List.size_toArray] at hfit ⊢;omega
   .rw[htake,<- hlen];exact List.take_left
   .exact H.row (Up.here)
  .have holds:∀ j u,xs[j]?=some u->w.cell? ((⟨g,0,none⟩:Addr).add j)=some u:=by
    intro j u hj;rw[zAA,Nat.zero_add,zB9 (M:=[cb g cs E]++G) H.mem (b:=g) (cs:=cs) (T:=E) (fr:=(0,0)) (by simp)];rw[<- htake,List.getElem?_take] at hj;split at hj
    .exact hj
    .cases hj
   have hr:=run_append_grow (P:=P) w t ty E i z ht hi hz ⟨g,0,none⟩ n cap xs hxl holds a m c news hl hnews (by omega) (by omega) (growslice_fits (by omega) hbytes);obtain⟨M',ho,hs⟩:=grown cap;exact⟨_,_,M',_,hr,ho,hs⟩}
section
variable {P:Program}{n:Nw}{ops:Array Oper}{Q:zAM}{o:Oper}{rest:List Oper}{L:List (Nat × Value)}{b0:Env}{w:World}(S:Sig P)
theorem zY {w0:World}{M G:zA}{x y:Operand}{t E:TypeId}{d k m:Nat}(size bytes:Nat){a0:Option Addr}{cap:Nat}{src:Value}{xs news:List Value}{ti te:TI}(H:St w0 (M++G) w)
  (ho:o.op=.call { callee:=.builtin .append,args:=#[x,y],argTypes:=#[t,t] }) (hd:o.dst=some d) (hlt:Nat.blt d n.n=true)
  (hx:ev (ovl L b0) x=.slice a0 k cap) (hy:ev (ovl L b0) y=src) (ht:lk S.tab t=some ti) (htd:ti.d=.slice E) (he:lk S.tab E=some te) (hz:Nat.beq te.zero.length te.size=true)
  (hsz:Nat.beq te.size size=true) (hby:Nat.ble te.bytes bytes=true)
  (h:Own M E size a0 k cap xs) (hsrc:Src w src m news) (hl:news.length=m*size) (h1:∀ u∈news,u.oneCell'=true)
  (h63:k+m<=maxLen) (hbytes:(k+m)*bytes<=140737488355328)
  (kk:∀ a' cap' M' w',Own M' E size a' (k+m) cap' (xs++news)->St w0 (M'++G) w'->OW P n ops Q rest (ovl ((d,.slice a' (k+m) cap')::L) b0) w'):OX P n ops Q o rest (ovl L b0) w:=by intro a ha;unfold Oper.wp;rw[ha.eval];have hu:=S.und ht;rw[htd] at hu;obtain⟨f,hf1,hf2,hf3⟩:=S.inf he;obtain⟨zv,hz1,hz2⟩:=Option.map_eq_some_iff.1 hf3;obtain⟨i2,hi2,hb2⟩:=S.byt he;rw[hf1] at hi2;cases hi2;obtain rfl:=Nat.eq_of_beq_eq_true hsz;have hby':=Nat.le_of_ble_eq_true hby;rw[<- hf2] at h hl;obtain⟨a',cap',M',w',hr,ho',hs⟩:=zPp (P:=P) (t:=t) (ty:=o.type) (src:=src) (m:=m) H hu hf1 hz1 hb2 (by rw[hz2,hf2];simpa using Nat.eq_of_beq_eq_true hz) h hsrc hl h1 h63 (Nat.le_trans (Nat.mul_le_mul_left _ hby') hbytes);simp only[execOp,ho,resolve,invoke,builtin,Sem.run_bind,Sem.run_pure,Result.andThen_ok,List.map_toArray,List.map_cons,List.map_nil,hx,hy,hr,Oper.upon_value,hd];rw[hf2] at ho';exact kk a' cap' M' w' ho' hs _ (ha.put hlt _)
theorem Yq.sliceHi {e:Env}{t E:TypeId}{x h:Operand}{a:Option Addr}{len cap j:Nat}{k:IntKind}{q:Int}{ti te:TI}(ho:o.op=.slice t x none (some h) none)
  (hx:ev e x=.slice a len cap) (hh:ev e h=.int k q) (ht:lk S.tab t=some ti) (htd:ti.d=.slice E) (he:lk S.tab E=some te)
  (hj:q.toNat=j) (h0:0<=q) (h1:q<=cap):Yq P o e w (.slice a j cap):=by{
intro w' _;have hu:=S.run_und ht w';rw[htd] at hu;have hadd:(if cap=0 then a else a.map (·.add (0*te.size)))=a:=by
 split
 .rfl
 .cases a with
  | none=>rfl
  | some a=>simp[Addr.add]
simp only[execOp,ho,Instr.sliceAt,Instr.slice,Instr.sliceBounds,hx,hu,Option.map_none,Option.map_some,hh,Sem.run_bind,Sem.run_pure,Result.andThen_ok,run_sliceBound w' k q cap _ h0 h1,S.run_size he,hj,hadd,Nat.sub_zero]}
theorem Yq.sliceLo {e:Env}{t E:TypeId}{x h:Operand}{a:Option Addr}{len cap j:Nat}{k:IntKind}{q:Int}{ti te:TI}(ho:o.op=.slice t x (some h) none none)
  (hx:ev e x=.slice a len cap) (hh:ev e h=.int k q) (ht:lk S.tab t=some ti) (htd:ti.d=.slice E) (he:lk S.tab E=some te)
  (hj:q.toNat=j) (h0:0<=q) (h1:q<=len):Yq P o e w (.slice (if cap=j then a else a.map (·.add (j*te.size))) (len - j) (cap - j)):=by intro w' _;have hu:=S.run_und ht w';rw[htd] at hu;simp only[execOp,ho,Instr.sliceAt,Instr.slice,Instr.sliceBounds,hx,hu,Option.map_none,Option.map_some,hh,Sem.run_bind,Sem.run_pure,Result.andThen_ok,run_sliceBound w' k q len _ h0 h1,S.run_size he,hj,Option.isSome_none,Bool.false_eq_true,if_false]
end
section
variable {P:Program}{n:Nw}{ops:Array Oper}{Q:zAM}{o:Oper}{rest:List Oper}{L:List (Nat × Value)}{b0:Env}{w:World}(S:Sig P)
theorem zCG {w0:World}{G:zA}{t E:TypeId}{d:Nat}{ti te:TI}(H:St w0 G w)(ho:o.op=.buildSlice t 0 #[])(hd:o.dst=some d)(hlt:Nat.blt d n.n=true)
  (ht:lk S.tab t=some ti) (htd:ti.d=.slice E) (he:lk S.tab E=some te)
  (k:∀ b w',St w0 G w'->Cl w w'->OW P n ops Q rest (ovl ((d,.slice (some ⟨b,0,none⟩) 0 0)::L) b0) w') :
  OX P n ops Q o rest (ovl L b0) w:=by{
intro a ha;unfold Oper.wp;rw[ha.eval];have hu:=S.run_und ht w;rw[htd] at hu;have h1:¬ (0*te.size>2 ^ 24):=by simp
have h2:0*te.size=0:=by simp
simp only[execOp,ho,Instr.buildSlice,Sem.run_bind,hu,Result.andThen_ok,S.run_size he,Sem.run_ite,if_neg h1,if_pos h2,Sem.run_pure,List.map_toArray,List.map_nil,Instr.fill,newRow,run_newObj,Oper.upon_value,hd];exact k _ _ (H.ext ((Bel.refl _ _).alloc (Nat.le_refl _) _)) ((Bel.refl _ _).alloc (Nat.le_refl _) _) _ (ha.put hlt _)}
theorem Yq.nilS {e:Env}{t E:TypeId}{x:Operand}{a:Option Addr}{len cap:Nat}{ti:TI}{yT:TypeId}(ho:o.op=.binOp .eql t x (.const (.slice none 0 0)) yT)
  (hx:ev e x=.slice a len cap) (ht:lk S.tab t=some ti) (htd:ti.d=.slice E):Yq P o e w (.bool a.isNone):=by
 intro w' _;have hu:=S.run_und ht w';rw[htd] at hu;have he:∀ d,(Op.equalIn (d+1) t (.slice a len cap) (.slice none 0 0)).run P w'=.ok a.isNone w':=by intro d;simp only[Op.equalIn,Sem.run_bind,hu,Result.andThen_ok];cases a<;>rfl
 have hb:binOp .eql t (.slice a len cap) (.slice none 0 0)=(do pure (.bool (<- Op.equal t (.slice a len cap) (.slice none 0 0)))):=rfl;have hg:(eqGuard .eql t x (.const (.slice none 0 0)) (.slice a len cap) (.slice none 0 0)).run P w'=.ok () w':=rfl;have hc:ev e (.const (.slice none 0 0))=.slice none 0 0:=rfl;simp only[execOp,ho,hc,hx,hb,Op.equal,Op.maxDepth,Sem.run_bind,hg,he,Result.andThen_ok,Sem.run_pure]
end
def zE7 (ops:Array Oper)(j i:Nat):Bool :=
 match ops[j]? with
 | some o=>o.after.any fun e=>Region.binds .any e&&e.on==i
 | none=>false
def zSz (ops:Array Oper)(i:Nat):Bool :=
 match ops[i]? with
 | some o=>o.after.all fun e=>!Region.binds .any e||decide (e.on<i)
 | none=>false
def zDw (ops:Array Oper)(k N:Nat):Bool :=
 (decide (N<=ops.size)&&(List.range N).all fun i=>zSz ops i) &&
  ((decide (N=ops.size)||((List.range N).all fun i=>decide (i<k)||(List.range (N+1)).any fun j=>decide (i<j)&&zE7 ops j i)) &&
  (List.range ops.size).all fun m=>decide (m<=N)||(List.range m).any fun j=>decide (N<=j)&&zE7 ops m j)
theorem zES {ops:Array Oper}{j i:Nat}(h:zE7 ops j i=true):∃ o,ops[j]?=some o/\∃ e∈o.after,Region.binds .any e=true/\e.on=i:=by{
unfold zE7 at h;split at h
.rename_i o ho;obtain⟨e,he,hb⟩:=Array.any_eq_true'.1 h;simp only[Bool.and_eq_true,beq_iff_eq] at hb;exact⟨o,ho,e,he,hb.1,hb.2⟩
.cases h}
def rdy (ops:Array Oper)(listed:Array Bool)(i:Nat):Bool :=
 !listed.getD i true&&((ops[i]?).map (·.after.all fun e=>!Region.binds .any e||listed.getD e.on false)).getD false
structure HInv (ops:Array Oper)(k N:Nat)(A B:Array Bool):Prop where
 sA:A.size=ops.size
 sB:B.size=N
 same:∀ i,i<N->A.getD i true=B.getD i true
 low:∀ i,i<k->i<N->A.getD i true=true
 closed:∀ j o,ops[j]?=some o->A.getD j true=true->∀ e∈o.after,Region.binds .any e=true->k<=e.on->A.getD e.on false=true
 tail:∀ m,N<=m->m<ops.size->A.getD m true=false
theorem zGk {A:Array Bool}{i:Nat}(h:i<A.size)(x y:Bool):A.getD i x=A.getD i y:=by simp[h]
theorem zBZ (A:Array Bool)(i j:Nat)(x:Bool):(A.setIfInBounds i true).getD j x=if i=j/\i<A.size then true else A.getD j x:=by{
simp only[Array.getD_eq_getD_getElem?,Array.getElem?_setIfInBounds];by_cases h:i=j
.subst h;by_cases h2:i<A.size
 .simp[h2]
 .simp[h2]
.simp[h]}
theorem zWE {ops:Array Oper}{k N:Nat}{A B:Array Bool}(hB:zDw ops k N=true)(inv:HInv ops k N A B):∀ (d i:Nat),N - i=d->i<N->A.getD i true=false->∀ m,N<=m->m<ops.size->rdy ops A m=false:=by{
simp only[zDw,Bool.and_eq_true,decide_eq_true_eq,List.all_eq_true,List.mem_range] at hB;obtain⟨⟨hN,_⟩,hs,hc⟩:=hB;intro d;induction d using Nat.strongRecOn with
| _ d ih =>
  intro i hd hi hun m hm hms;cases hr:rdy ops A m with
  | false=>rfl
  | true =>
    exfalso;have hik:k<=i:=by
     rcases Nat.lt_or_ge i k with h|h
     .rw[inv.low i h hi] at hun;cases hun
     .exact h
    simp only[rdy,Bool.and_eq_true] at hr;obtain⟨hr1,hr2⟩:=hr;cases hko:ops[m]? with
    | none=>rw[hko] at hr2;cases hr2
    | some ok =>
      rw[hko] at hr2;simp only[Option.map_some,Option.getD_some] at hr2;rw[Array.all_eq_true'] at hr2;by_cases hkN:m=N
      .subst hkN;simp only[Bool.or_eq_true,decide_eq_true_eq] at hs;have hs:=hs.resolve_left (by omega);rw[List.all_eq_true] at hs;have h1:=hs i (List.mem_range.2 hi);simp only[Bool.or_eq_true,decide_eq_true_eq] at h1;have h1:=h1.resolve_left (by omega);obtain⟨j,hj,hj2⟩:=List.any_eq_true.1 h1;simp only[Bool.and_eq_true,decide_eq_true_eq] at hj2;obtain⟨oj,hoj,e,he,hb,hon⟩:=zES hj2.2;have hjk:j<=m:=by have:=List.mem_range.1 hj;omega
       have hif:A.getD i false=false:=by rw[zGk (by rw[inv.sA];omega) false true];exact hun
       by_cases hjk':j=m
       .subst hjk';rw[hko] at hoj;cases hoj;have:=hr2 e he;rw[hb,hon,hif] at this;cases this
       .cases hl:A.getD j true with
        | true =>
          have:=inv.closed j oj hoj hl e he hb (by omega);rw[hon,hif] at this;cases this
        | false =>
          have:=ih (m - j) (by omega) j rfl (by omega) hl m (Nat.le_refl _) hms;simp only[rdy,hko,Option.map_some,Option.getD_some,Bool.and_eq_false_iff] at this;rcases this with this|this
          .rw[hr1] at this;cases this
          .rw[<- Bool.not_eq_true,Array.all_eq_true'] at this;exact this hr2
      .have h1:=hc m hms;simp only[Bool.or_eq_true,decide_eq_true_eq] at h1;have h1:=h1.resolve_left (by omega);obtain⟨j,hj,hj2⟩:=List.any_eq_true.1 h1;simp only[Bool.and_eq_true,decide_eq_true_eq] at hj2;obtain⟨o',ho',e,he,hb,hon⟩:=zES hj2.2;have hjm:=List.mem_range.1 hj;rw[hko] at ho';cases ho';have:=hr2 e he;rw[hb,hon,zGk (by rw[inv.sA];omega) false true,inv.tail j hj2.1 (by omega)] at this;cases this}
theorem zOE {ops:Array Oper}{i:Nat}(h:zSz ops i=true):∃ o,ops[i]?=some o/\∀ e∈o.after,Region.binds .any e=true->e.on<i:=by{
unfold zSz at h;split at h
.rename_i o ho;refine⟨o,ho,fun e he hb=>?_⟩;rw[Array.all_eq_true'] at h;have:=h e he;rw[hb] at this;simpa using this
.cases h}
theorem zDC {ops:Array Oper}{k N:Nat}(hB:zDw ops k N=true){i:Nat}(hi:i<N):∃ o,ops[i]?=some o/\∀ e∈o.after,Region.binds .any e=true->e.on<i:=by simp only[zDw,Bool.and_eq_true,decide_eq_true_eq,List.all_eq_true,List.mem_range] at hB;exact zOE (hB.1.2 i hi)
theorem zGl {ops:Array Oper}{k N:Nat}(hB:zDw ops k N=true):N<=ops.size:=by simp only[zDw,Bool.and_eq_true,decide_eq_true_eq] at hB;exact hB.1.1
theorem zMT {ops hd:Array Oper}{k N:Nat}{A B:Array Bool}(hB:zDw ops k N=true)(hh:∀ i,i<N->hd[i]?=ops[i]?)(inv:HInv ops k N A B){i:Nat}(hi:i<N):rdy ops A i=rdy hd B i:=by{
obtain⟨o,ho,he⟩:=zDC hB hi;have hN:=zGl hB;simp only[rdy,hh i hi,ho,Option.map_some,Option.getD_some,inv.same i hi]
congr 1
rw[Bool.eq_iff_iff,Array.all_eq_true',Array.all_eq_true'];have key:∀ e∈o.after,(!Region.binds .any e||A.getD e.on false)=(!Region.binds .any e||B.getD e.on false):=by
 intro e hm;cases hb:Region.binds .any e with
 | false=>rfl
 | true =>
   have hl:=he e hm hb;have h1:A.getD e.on false=A.getD e.on true:=zGk (by rw[inv.sA];omega) _ _;have h2:B.getD e.on false=B.getD e.on true:=zGk (by rw[inv.sB];omega) _ _;rw[h1,h2,inv.same _ (by omega)]
exact⟨fun h e hm=>by rw[<- key e hm];exact h e hm,fun h e hm=>by rw[key e hm];exact h e hm⟩}
theorem zIQ {p:Nat->Bool}{N m:Nat}(h:N<=m)(hp:∀ k,N<=k->k<m->p k=false):(List.range m).filter p=(List.range N).filter p:=by{
induction m with
| zero => obtain rfl:N=0:=by omega
          rfl
| succ m ih =>
  by_cases hN:N=m+1
  .rw[hN]
  .rw[List.range_succ,List.filter_append,ih (by omega) (fun k h1 h2=>hp k h1 (by omega))];simp[hp m (by omega) (by omega)]}
def unl (N:Nat)(B:Array Bool):Nat:=((List.range N).filter fun i=>!B.getD i true).length
theorem zWF {N:Nat}{B:Array Bool}(h:0<unl N B):∃ i,i<N/\B.getD i true=false/\∀ j,j<i->B.getD j true=true:=by{
unfold unl at h;obtain⟨i,hi⟩:=List.exists_mem_of_length_pos h;rw[List.mem_filter,List.mem_range] at hi;induction i using Nat.strongRecOn with
| _ i ih =>
  by_cases h2:∃ j,j<i/\B.getD j true=false
  .obtain⟨j,hj,hb⟩:=h2;exact ih j hj ⟨by omega,by simp[hb]⟩
  .refine⟨i,hi.1,by simpa using hi.2,fun j hj=>?_⟩;cases hb:B.getD j true with
   | true=>rfl
   | false=>exact absurd ⟨j,hj,hb⟩ h2}
theorem zWG {N i:Nat}{B:Array Bool}(hs:B.size=N)(hi:i<N)(hb:B.getD i true=false):unl N (B.setIfInBounds i true)+1=unl N B:=by{
unfold unl;have key:∀ m,m<=N->((List.range m).filter fun j=>!(B.setIfInBounds i true).getD j true).length+(if i<m then 1 else 0)=((List.range m).filter fun j=>!B.getD j true).length:=by
 intro m;induction m with
 | zero=>intro _;rfl
 | succ m ih =>
   intro hm;rw[List.range_succ,List.filter_append,List.filter_append,List.length_append,List.length_append,<- ih (by omega)];by_cases him:i=m
   .subst him;have h1:(B.setIfInBounds i true).getD i true=true:=by{rw[zBZ,if_pos ⟨rfl,by omega⟩]};simp only[List.filter_cons,h1,hb,Bool.not_true,Bool.not_false,Bool.false_eq_true,if_false,if_true,List.filter_nil,List.length_nil,List.length_cons,Nat.lt_irrefl,Nat.lt_succ_self]
   .have h1:(B.setIfInBounds i true).getD m true=B.getD m true:=by{rw[zBZ,if_neg (fun h=>him h.1)]};rw[List.filter_cons,List.filter_cons,h1]
    by_cases h2:i<m
    .simp only[List.filter_nil,h2,Nat.lt_succ_of_lt h2,if_true];omega
    .have:¬ i<m+1:=by{omega};simp only[List.filter_nil,h2,this,if_false];omega
have:=key N (Nat.le_refl _);rw[if_pos hi] at this;exact this}
theorem HInv.put {ops:Array Oper}{k N i:Nat}{A B:Array Bool}(inv:HInv ops k N A B)(hi:i<N)(hN:N<=ops.size)(hr:rdy ops A i=true):HInv ops k N (A.setIfInBounds i true) (B.setIfInBounds i true):=by{
refine⟨by simp[inv.sA],by simp[inv.sB],fun j hj=>?_,fun j hj hj2=>?_,fun j o hj hl e he hb hk=>?_,fun m hm hm2=>?_⟩
.rw[zBZ,zBZ,inv.sA,inv.sB];by_cases h:i=j
 .rw[if_pos ⟨h,by omega⟩,if_pos ⟨h,by omega⟩]
 .rw[if_neg (fun h2=>h h2.1),if_neg (fun h2=>h h2.1)];exact inv.same j hj
.rw[zBZ];split
 .rfl
 .exact inv.low j hj hj2
.rw[zBZ];by_cases h:i=j
 .subst h;simp only[rdy,hj,Option.map_some,Option.getD_some,Bool.and_eq_true] at hr;have hr2:=hr.2;rw[Array.all_eq_true'] at hr2;have:=hr2 e he;rw[hb] at this;split
  .rfl
  .simpa using this
 .rw[zBZ,if_neg (fun h2=>h h2.1)] at hl;split
  .rfl
  .exact inv.closed j o hj hl e he hb hk
.rw[zBZ,if_neg (fun h2=>by omega)];exact inv.tail m hm hm2}
theorem zDi (ops:Array Oper)(fuel t:Nat)(A:Array Bool):Region.linearise.go .any ops (fuel+1) t A [] =
  match ((List.range ops.size).filter (rdy ops A))[t % ((List.range ops.size).filter (rdy ops A)).length]? with
  | some i=>i::Region.linearise.go .any ops fuel (t / ((List.range ops.size).filter (rdy ops A)).length) (A.setIfInBounds i true) []
  | none=>[]:=by
 rw[Region.linearise.go]
 show(match ((List.range ops.size).filter (rdy ops A))[t % ((List.range ops.size).filter (rdy ops A)).length]? with
  | some i=>Region.linearise.go .any ops fuel (t / ((List.range ops.size).filter (rdy ops A)).length) (A.setIfInBounds i true) [i]
  | none=>([]:List Nat).reverse)=_
 split
 .rw[linearise_go_acc];rfl
 .rfl
def zBC (s k:Nat):Array Bool:=((List.range s).map fun i=>decide (i<k)).toArray
theorem zCd (s k:Nat):(zBC s k).size=s:=by simp[zBC]
theorem zAa (s k i:Nat)(h:i<s)(d:Bool):(zBC s k).getD i d=decide (i<k):=by simp[zBC,h]
theorem zK9 {A:Array Bool}{s k:Nat}(hs:A.size=s)(h1:∀ i,i<k->A.getD i true=true)(h2:∀ i,k<=i->i<s->A.getD i true=false):A=zBC s k:=by{
apply Array.ext
.rw[hs,zCd]
.intro i hi hi2;have e1:A[i]=A.getD i true:=by simp[hi]
 have e2:(zBC s k)[i]=(zBC s k).getD i true:=by simp[hi2]
 rw[e1,e2,zAa s k i (by omega)];by_cases h:i<k
 .rw[h1 i h];simp[h]
 .rw[h2 i (by omega) (by omega)];simp[h]}
theorem zMU {ops hd:Array Oper}{k N:Nat}(hB:zDw ops k N=true)(hsz:hd.size=N)(hh:∀ i,i<N->hd[i]?=ops[i]?) :
  ∀ (m:Nat) (t f r:Nat) (A B:Array Bool),unl N B=m->m<=f->HInv ops k N A B->∃ t',Region.linearise.go .any ops (m+r) t A []=Region.linearise.go .any hd f t B []++Region.linearise.go .any ops r t' (zBC ops.size N) []:=by{
intro m;induction m with
| zero =>
  intro t f r A B hm _ inv;have hall:∀ i,i<N->B.getD i true=true:=by
   intro i hi;cases hb:B.getD i true with
   | true=>rfl
   | false =>
     have:i∈(List.range N).filter fun i=>!B.getD i true:=by rw[List.mem_filter,List.mem_range];exact⟨hi,by simp[hb]⟩
     have h2:=List.length_pos_of_mem this;unfold unl at hm;omega
  have h1:Region.linearise.go .any hd f t B []=[]:=by
   cases f with
   | zero=>rfl
   | succ f =>
     rw[zDi];have:(List.range hd.size).filter (rdy hd B)=[]:=by rw[List.filter_eq_nil_iff];intro i hi;rw[List.mem_range,hsz] at hi;simp[rdy,hall i hi]
     rw[this];rfl
  have hA:A=zBC ops.size N:=zK9 inv.sA (fun i hi=>by rw[inv.same i hi];exact hall i hi) inv.tail;rw[h1,Nat.zero_add,hA];exact⟨t,rfl⟩
| succ m ih =>
  intro t f r A B hm hf inv;obtain⟨f,rfl⟩:∃ f',f=f'+1:=⟨f - 1,by omega⟩;obtain⟨i0,hi0,hb0,hlow⟩:=zWF (N:=N) (B:=B) (by omega);have hN:=zGl hB;have hl:(List.range ops.size).filter (rdy ops A)=(List.range hd.size).filter (rdy hd B):=by rw[hsz,zIQ hN (fun k hk hk2=>zWE hB inv _ i0 rfl hi0 (by rw[inv.same i0 hi0];exact hb0) k hk hk2)];exact List.filter_congr fun i hi=>zMT hB hh inv (List.mem_range.1 hi)
  have hne:(List.range hd.size).filter (rdy hd B)≠[]:=by
   intro h;rw[List.filter_eq_nil_iff] at h;refine h i0 (by rw[List.mem_range,hsz];exact hi0) ?_;obtain⟨o,ho,he⟩:=zDC hB hi0;simp only[rdy,hh i0 hi0,ho,Option.map_some,Option.getD_some,hb0,Bool.not_false,Bool.true_and];rw[Array.all_eq_true'];intro e hm2;cases hb:Region.binds .any e with
   | false=>rfl
   | true=>rw[zGk (by rw[inv.sB];have:=he e hm2 hb;omega) false true,hlow _ (he e hm2 hb)];rfl
  rw[show m+1+r=(m+r)+1 by omega,zDi,zDi,hl];have hlen:0<((List.range hd.size).filter (rdy hd B)).length:=List.length_pos_iff.2 hne;have hlt:=Nat.mod_lt t hlen;rw[List.getElem?_eq_getElem hlt];simp only[List.cons_append];have hmem:=List.getElem_mem hlt;rw[List.mem_filter,List.mem_range] at hmem;replace hmem:=And.intro (show _<N by rw[<- hsz];exact hmem.1) hmem.2;have hr:rdy ops A ((List.range hd.size).filter (rdy hd B))[t % ((List.range hd.size).filter (rdy hd B)).length]=true:=by rw[zMT hB hh inv hmem.1];exact hmem.2
  have hun:B.getD ((List.range hd.size).filter (rdy hd B))[t % ((List.range hd.size).filter (rdy hd B)).length] true=false:=by have:=hmem.2;simp only[rdy,Bool.and_eq_true] at this;simpa using this.1
  obtain⟨t',ht'⟩:=ih (t / ((List.range hd.size).filter (rdy hd B)).length) f r _ _ (by have:=zWG inv.sB hmem.1 hun;omega) (by omega) (inv.put hmem.1 hN hr);exact⟨t',by rw[ht']⟩}
theorem HInv.start {ops:Array Oper}{k N:Nat}(hk:k<=N)(hB:zDw ops k N=true):HInv ops k N (zBC ops.size k) (zBC N k):=by{
have hN:=zGl hB;refine⟨zCd _ _,zCd _ _,fun i hi=>?_,fun i hi hi2=>?_,fun j o hj hl e _ _ hk2=>?_,fun m hm hm2=>?_⟩
.rw[zAa _ _ _ (by omega),zAa _ _ _ hi]
.rw[zAa _ _ _ (by omega)];simp[hi]
.have hlt:=(Array.getElem?_eq_some_iff.1 hj).1;rw[zAa _ _ _ hlt] at hl;have hjk:j<k:=by simpa using hl
 obtain⟨o',ho',he'⟩:=zDC hB (show j<N by omega);rw[hj] at ho';cases ho';have:=he' e ‹_› ‹_›;omega
.rw[zAa _ _ _ hm2];simp;omega}
theorem zKK (k N:Nat):unl N (zBC N k)=N - k:=by{
unfold unl;have key:∀ m,m<=N->((List.range m).filter fun i=>!(zBC N k).getD i true).length=m - k:=by
 intro m;induction m with
 | zero=>intro _;simp
 | succ m ih =>
   intro hm;rw[List.range_succ,List.filter_append,List.length_append,ih (by omega)];have:(zBC N k).getD m true=decide (m<k):=zAa N k m (by omega) true;by_cases h:m<k
   .rw[List.filter_cons,this];simp[h];omega
   .rw[List.filter_cons,this];simp[h];omega
exact key N (Nat.le_refl _)}
theorem zBu {P:Program}{ops:Array Oper}{Q:Exit->Act->World->Prop}:∀ (l m:List Nat) (a:Act) (w:World),wpOps P ops (Exit.then (wpOps P ops Q m) Q) l a w->wpOps P ops Q (l++m) a w
 | [],m,a,w,h=>h
 | i::r,m,a,w,h=>by
   rw[List.cons_append]
   rw[wpOps_cons] at h ⊢
   unfold wpOp at h ⊢
   split
   .rename_i ho
    simp only[ho] at h
    exact zBu r m a w h
   .rename_i o ho
    simp only[ho] at h
    split
    .rename_i hw
     rw[if_pos hw] at h
     rcases h with h|⟨h1,h2⟩
     .left
      have hmono:∀ {K K':Act->World->Prop} {Q1 Q2:Exit->Act->World->Prop},(∀ a w,K a w->K' a w)->(∀ x a w,x≠.normal->Q1 x a w->Q2 x a w)->(∀ a w,o.wp P a w K Q1->o.wp P a w K' Q2):=by
       intro K K' Q1 Q2 hk hq a w h
       unfold Oper.wp at h ⊢
       generalize (execOp a.eval o).run P w=r at *
       cases r with
       | ok nx w' =>
         cases nx<;>simp only[Oper.upon] at h ⊢<;>first
          | exact hk _ _ h
          | exact Calls.mono h (fun e w'' he=>by
            cases e with
            | returned v=>exact hk _ _ he
            | panicked c=>exact hq _ _ _ (by simp) he
            | outgrown=>obtain⟨a,w,hx⟩:=he;exact⟨a,w,hq _ _ _ (by simp) hx⟩)
          | exact Rows.mono h (fun _ _ he=>hk _ _ he)
       | halt x w'=>cases x<;>simp only[Oper.upon] at h ⊢<;>first|exact hq _ _ _ (by simp) h|exact h
      exact hmono (fun a w=>zBu r m a w) (fun x a w hx h=>by cases x<;>first|exact absurd rfl hx|exact h) a w h
     .obtain⟨a0,w0,h3⟩:=h2
      exact .inr ⟨h1,a0,w0,h3⟩
    .rename_i hw
     rw[if_neg hw] at h
     exact zBu r m _ w h
def zLA (ops:Array Oper)(N:Nat):Bool:=(List.range N).all fun i=>match ops[i]? with
 | some o=>match o.guard with
   | some (j,_)=>decide (j<N)
   | none=>true
 | none=>false
theorem zGS {P:Program}{ops hd:Array Oper}{N:Nat}(hh:∀ i,i<N->hd[i]?=ops[i]?)(hg:zLA ops N=true){Q:Exit->Act->World->Prop}:∀ (l:List Nat) (a:Act) (w:World),(∀ i∈l,i<N)->wpOps P hd Q l a w->wpOps P ops Q l a w
 | [],_,_,_,h=>h
 | i::r,a,w,hl,h=>by
   rw[wpOps_cons] at h ⊢
   have hi:=hl i (List.mem_cons_self)
   unfold wpOp at h ⊢
   rw[hh i hi] at h
   have hg2:=List.all_eq_true.1 hg i (List.mem_range.2 hi)
   cases ho:ops[i]? with
   | none=>rw[ho] at hg2;cases hg2
   | some o =>
     rw[ho] at h hg2
     simp only at h hg2 ⊢
     have hw:Region.wanted o (yielded hd a.tmps)=Region.wanted o (yielded ops a.tmps):=by
      unfold Region.wanted
      cases hgd:o.guard with
      | none=>rfl
      | some q =>
        obtain⟨j,b⟩:=q
        rw[hgd] at hg2
        have hj:j<N:=by simpa using hg2
        simp only[yielded,hh j hj]
     rw[hw] at h
     have ih:=fun a w=>zGS (P:=P) hh hg (Q:=Q) r a w (fun k hk=>hl k (List.mem_cons_of_mem _ hk))
     split
     .rename_i hwt
      rw[if_pos hwt] at h
      exact h.imp (Oper.wp_mono ih) id
     .rename_i hwt
      rw[if_neg hwt] at h
      exact ih _ _ h
theorem go_lt {hd:Array Oper}:∀ (f t:Nat) (A:Array Bool),∀ i∈Region.linearise.go .any hd f t A [],i<hd.size:=by{
intro f;induction f with
| zero=>intro t A i hi;cases hi
| succ f ih =>
  intro t A i hi;rw[zDi] at hi;split at hi
  .rename_i k hk;rcases List.mem_cons.1 hi with rfl|h
   .have:=List.mem_of_getElem? hk;rw[List.mem_filter,List.mem_range] at this;exact this.1
   .exact ih _ _ i h
  .cases hi}
def RW (P:Program)(n:Nw)(l:List Oper)(k:Nat)(Q:zAM)(e:Env)(w:World):Prop :=
 ∀ a,Fits n a e->∀ t,wpOps P l.toArray (zAc n Q) (Region.linearise.go .any l.toArray (l.toArray.size - k) t (zBC l.toArray.size k) []) a w
section
variable {P:Program}{n:Nw}{id:Nat}{Q:zAM}{e:Env}{w:World}{l:List Oper}
theorem CW.regionR (hm:P.follows .mixedOrders=true)(h:∀ w',Cl w w'->RW P n l 0 Q e w')(hnd:zCq l=true:=by exact rfl):CW P n (.region id l.toArray true) Q e w:=by{
intro a ha;refine wpIn_region_draw fun t=>zGQ zDg hnd _ _ _ ?_;simp only[Region.schedule,hm,Bool.true_or,if_true];have:=h { w with drawn:=w.drawn+1 } ((Bel.refl _ _).drew) a ha t;have he:zBC l.toArray.size 0=Array.replicate l.toArray.size false:=by
 apply Array.ext
 .simp[zBC]
 .intro i _ _;simp[zBC]
rw[he] at this;exact this}
theorem RW.nil {k:Nat}(hk:Nat.ble l.length k=true)(h:Q .normal e w):RW P n l k Q e w:=by
 intro a ha t;have hk':l.toArray.size - k=0:=by have:=Nat.le_of_ble_eq_true hk;simp;omega
 rw[hk'];exact⟨nofun,e,ha,h⟩
theorem RW.quiet {k:Nat}(N:Nat)(hk:Nat.ble k N=true)(hB:((zDw l.toArray k N&&zLA l.toArray N)&&(Region.noSelect (l.take N).toArray&&Region.lexFrom .any (l.take N).toArray (N - k) k (zBC N k)))=true)
  (h:QW P n (l.take N).toArray (fun e' w'=>RW P n l N Q e' w') ((l.take N).drop k) e w):RW P n l k Q e w:=by{
intro a ha t;simp only[Bool.and_eq_true] at hB;obtain⟨⟨hB1,hB2⟩,hB3,hB4⟩:=hB;have hN:=zGl hB1;have hk':=Nat.le_of_ble_eq_true hk;have hhd:∀ i,i<N->(l.take N).toArray[i]?=l.toArray[i]?:=fun i hi=>by simp[hi]
have hsz:(l.take N).toArray.size=N:=by simp only[List.size_toArray] at hN ⊢;simp;omega
obtain⟨t',ht'⟩:=zMU hB1 hsz hhd (N - k) t (N - k) (l.toArray.size - N) _ _ (zKK k N) (Nat.le_refl _) (HInv.start hk' hB1);rw[show l.toArray.size - k=N - k+(l.toArray.size - N) by omega,ht'];refine zBu _ _ _ _ (zGS hhd hB2 _ _ _ (fun i hi=>by have:=go_lt _ _ _ i hi;omega) ?_);have hdl:((l.take N).drop k).length=N - k:=by simp only[List.size_toArray] at hN;simp;omega
have hany:=wpAnyQ_lex (C:=Cl w) (md:=.any) (P:=P) (ops:=(l.take N).toArray) (Q:=fun a'=>∃ e',Fits n a' e'/\∀ w',Cl w w'->RW P n l N Q e' w') hB3 ((l.take N).drop k) k (zBC N k) a
 (fun j=>by simp[List.getElem?_drop]) (by rw[hdl];exact hB4) (h a ha)
have hany2:=wpAny_of_quiet (C:=Cl w) (Q':=Exit.then (wpOps P l.toArray (zAc n Q) (Region.linearise.go .any l.toArray (l.toArray.size - N) t' (zBC l.toArray.size N) [])) (zAc n Q)) (fun a' w' hw' hq=>by
 obtain⟨e',hf,hq⟩:=hq
 exact hq w' hw' a' hf t') _ _ _ w (Cl.refl w) hany
rw[hdl] at hany2;exact wpAny_sound (N - k) t _ a w hany2}
theorem RW.one {k:Nat}{o:Oper}(ho:l[k]?=some o)(hB:(zDw l.toArray k k&&zDw l.toArray k (k+1))=true)(h:OW P n l.toArray (thn (fun e' w'=>RW P n l (k+1) Q e' w') Q) [o] e w):RW P n l k Q e w:=by{
intro a ha t;simp only[Bool.and_eq_true] at hB;have hlt:k<l.length:=by
 rcases Nat.lt_or_ge k l.length with h|h
 .exact h
 .rw[List.getElem?_eq_none h] at ho;cases ho
have hr:(List.range l.toArray.size).filter (rdy l.toArray (zBC l.toArray.size k))=[k]:=by
 have hs:k<l.toArray.size:=by simpa using hlt
 obtain⟨o',ho',he'⟩:=zDC hB.2 (show k<k+1 by omega);have hkr:rdy l.toArray (zBC l.toArray.size k) k=true:=by
  simp only[rdy,ho',Option.map_some,Option.getD_some,zAa _ _ _ hs,Nat.lt_irrefl,decide_false,Bool.not_false,Bool.true_and];rw[Array.all_eq_true'];intro e he;cases hb:Region.binds .any e with
  | false=>rfl
  | true =>
    have:=he' e he hb;rw[zAa _ _ _ (by omega)];simp[this]
 have hno:∀ i,i<l.toArray.size->i≠k->rdy l.toArray (zBC l.toArray.size k) i=false:=by
  intro i hi hik;by_cases h1:i<k
  .simp only[rdy,zAa _ _ _ hi];simp[h1]
  .cases hr:rdy l.toArray (zBC l.toArray.size k) i with
   | false=>rfl
   | true =>
     exfalso;have hc:=hB.1;simp only[zDw,Bool.and_eq_true,decide_eq_true_eq,List.all_eq_true,List.mem_range] at hc;have h2:=hc.2.2 i hi;simp only[Bool.or_eq_true,decide_eq_true_eq] at h2;have h2:=h2.resolve_left (by omega);obtain⟨j,hj,hj2⟩:=List.any_eq_true.1 h2;simp only[Bool.and_eq_true,decide_eq_true_eq] at hj2;obtain⟨o2,ho2,e,he,hb,hon⟩:=zES hj2.2;have hji:=List.mem_range.1 hj;simp only[rdy,ho2,Option.map_some,Option.getD_some,Bool.and_eq_true] at hr;have hr2:=hr.2;rw[Array.all_eq_true'] at hr2;have:=hr2 e he;rw[hb,hon,zAa _ _ _ (by omega)] at this;have hnk:¬ j<k:=by{omega};simp[hnk] at this
 have:∀ m,m<=l.toArray.size->(List.range m).filter (rdy l.toArray (zBC l.toArray.size k))=if k<m then[k] else[]:=by
  intro m;induction m with
  | zero=>intro _;simp
  | succ m ih =>
    intro hm;rw[List.range_succ,List.filter_append,ih (by omega)];by_cases h1:k<m
    .have hx:=hno m (by omega) (by omega);rw[if_pos h1,if_pos (by omega)];simp only[List.filter_cons,hx,List.filter_nil,Bool.false_eq_true,if_false,List.append_nil]
    .rw[if_neg h1];by_cases h2:k=m
     .subst h2;rw[if_pos (by omega)];simp only[List.filter_cons,hkr,List.filter_nil,if_true,List.nil_append]
     .have hx:=hno m (by omega) (Ne.symm h2);rw[if_neg (by omega)];simp only[List.filter_cons,hx,List.filter_nil,Bool.false_eq_true,if_false,List.append_nil]
 rw[this _ (Nat.le_refl _),if_pos hs]
have hput:(zBC l.toArray.size k).setIfInBounds k true=zBC l.toArray.size (k+1):=by
 refine zK9 (by simp[zCd]) (fun i hi=>?_) (fun i hi hi2=>?_)
 .rw[zBZ,zCd];split
  .rfl
  .rename_i hne;rw[zAa _ _ _ (by simp;omega)];have:i<k:=by
    rcases Nat.lt_or_ge i k with h|h
    .exact h
    .exact absurd ⟨by omega,by simp;omega⟩ hne
   simp[this]
 .rw[zBZ,if_neg (fun h=>by omega),zAa _ _ _ hi2];simp;omega
rw[show l.toArray.size - k=(l.toArray.size - (k+1))+1 by simp;omega,zDi,hr];simp only[List.length_singleton,Nat.mod_one,List.getElem?_cons_zero,Nat.div_one,hput];have hcons:∀ (r:List Nat) (a:Act) (w:World),wpOps P l.toArray (Exit.then (wpOps P l.toArray (zAc n Q) r) (zAc n Q)) [k] a w->wpOps P l.toArray (zAc n Q) (k::r) a w:=fun r a w h=>zBu [k] r a w h;refine hcons _ _ _ ?_;have h1:=h a ha;rw[wpOps_cons];unfold wpOp;have ho2:l.toArray[k]?=some o:=by simpa using ho
simp only[ho2];unfold wpList at h1;have hmono:∀ (K K':Act->World->Prop) (Q1 Q2:Exit->Act->World->Prop),(∀ a w,K a w->K' a w)->(∀ x a w,x≠.normal->Q1 x a w->Q2 x a w)->∀ a w,o.wp P a w K Q1->o.wp P a w K' Q2:=by
 intro K K' Q1 Q2 hk hq a w h;unfold Oper.wp at h ⊢;generalize (execOp a.eval o).run P w=r at *;cases r with
 | ok nx w' =>
   cases nx<;>simp only[Oper.upon] at h ⊢<;>first
    | exact hk _ _ h
    | exact Calls.mono h (fun e w'' he=>by
      cases e with
      | returned v=>exact hk _ _ he
      | panicked c=>exact hq _ _ _ (by simp) he
      | outgrown=>obtain⟨a,w,hx⟩:=he;exact⟨a,w,hq _ _ _ (by simp) hx⟩)
    | exact Rows.mono h (fun _ _ he=>hk _ _ he)
 | halt x w'=>cases x<;>simp only[Oper.upon] at h ⊢<;>first|exact hq _ _ _ (by simp) h|exact h
have hK:∀ a w,wpList P l.toArray (zAc n (thn (fun e' w'=>RW P n l (k+1) Q e' w') Q)) [] a w->wpOps P l.toArray (Exit.then (wpOps P l.toArray (zAc n Q) (Region.linearise.go .any l.toArray (l.toArray.size - (k+1)) t (zBC l.toArray.size (k+1)) [])) (zAc n Q)) [] a w:=by intro a w h;obtain⟨_,e',hf,hq⟩:=h;exact hq a hf t
have hQ:∀ x a w,x≠Exit.normal->zAc n (thn (fun e' w'=>RW P n l (k+1) Q e' w') Q) x a w->Exit.then (wpOps P l.toArray (zAc n Q) (Region.linearise.go .any l.toArray (l.toArray.size - (k+1)) t (zBC l.toArray.size (k+1)) [])) (zAc n Q) x a w:=by intro x a w hx h;obtain⟨h0,e',hf,hq⟩:=h;cases x<;>first|exact absurd rfl hx|exact⟨h0,e',hf,hq⟩
split
.rename_i hw;rw[if_pos hw] at h1;rcases h1 with h1|⟨h1,a0,w0,h2⟩
 .exact .inl (hmono _ _ _ _ hK hQ _ _ h1)
 .exact .inr ⟨h1,a0,w0,hQ _ _ _ (by simp) h2⟩
.rename_i hw;rw[if_neg hw] at h1;exact hK _ _ h1}
end
def RS (P:Program)(n:Nw)(l:List Oper)(s:Array Bool)(m:Nat)(Q:zAM)(e:Env)(w:World):Prop :=
 ∀ a,Fits n a e->∀ t,wpOps P l.toArray (zAc n Q) (Region.linearise.go .any l.toArray m t s []) a w
theorem zHZ {P:Program}{n:Nw}{k:Nat}{l:List Oper}{o:Oper}{Q:zAM}{e:Env}{w:World}{r:List Nat}(ho:l[k]?=some o)(K:Env->World->Prop)(hK:∀ a e w,Fits n a e->K e w->wpOps P l.toArray (zAc n Q) r a w)
  (h:OW P n l.toArray (thn K Q) [o] e w):∀ a,Fits n a e->wpOps P l.toArray (zAc n Q) (k::r) a w:=by{
intro a ha;refine zBu [k] r a w ?_;have h1:=h a ha;rw[wpOps_cons];unfold wpOp;have ho2:l.toArray[k]?=some o:=by simpa using ho
simp only[ho2];unfold wpList at h1;have hmono:∀ (K K':Act->World->Prop) (Q1 Q2:Exit->Act->World->Prop),(∀ a w,K a w->K' a w)->(∀ x a w,x≠.normal->Q1 x a w->Q2 x a w)->∀ a w,o.wp P a w K Q1->o.wp P a w K' Q2:=by
 intro K K' Q1 Q2 hk hq a w h;unfold Oper.wp at h ⊢;generalize (execOp a.eval o).run P w=r at *;cases r with
 | ok nx w' =>
   cases nx<;>simp only[Oper.upon] at h ⊢<;>first
    | exact hk _ _ h
    | exact Calls.mono h (fun e w'' he=>by
      cases e with
      | returned v=>exact hk _ _ he
      | panicked c=>exact hq _ _ _ (by simp) he
      | outgrown=>obtain⟨a,w,hx⟩:=he;exact⟨a,w,hq _ _ _ (by simp) hx⟩)
    | exact Rows.mono h (fun _ _ he=>hk _ _ he)
 | halt x w'=>cases x<;>simp only[Oper.upon] at h ⊢<;>first|exact hq _ _ _ (by simp) h|exact h
have hK2:∀ a w,wpList P l.toArray (zAc n (thn K Q)) [] a w->wpOps P l.toArray (Exit.then (wpOps P l.toArray (zAc n Q) r) (zAc n Q)) [] a w:=by intro a w h;obtain⟨_,e',hf,hq⟩:=h;exact hK a e' w hf hq
have hQ:∀ x a w,x≠Exit.normal->zAc n (thn K Q) x a w->Exit.then (wpOps P l.toArray (zAc n Q) r) (zAc n Q) x a w:=by intro x a w hx h;obtain⟨h0,e',hf,hq⟩:=h;cases x<;>first|exact absurd rfl hx|exact⟨h0,e',hf,hq⟩
split
.rename_i hw;rw[if_pos hw] at h1;rcases h1 with h1|⟨h1,a0,w0,h2⟩
 .exact .inl (hmono _ _ _ _ hK2 hQ _ _ h1)
 .exact .inr ⟨h1,a0,w0,hQ _ _ _ (by simp) h2⟩
.rename_i hw;rw[if_neg hw] at h1;exact hK2 _ _ h1}
section
variable {P:Program}{n:Nw}{id:Nat}{Q:zAM}{e:Env}{w:World}{l:List Oper}{s:Array Bool}{m:Nat}
theorem RW.all {k:Nat}(h:RS P n l (zBC l.length k) (l.length - k) Q e w):RW P n l k Q e w:=by intro a ha t;have:=h a ha t;simpa using this
theorem RS.bar {k:Nat}(hs:s=zBC l.length k)(hm:m=l.length - k)(h:RW P n l k Q e w):RS P n l s m Q e w:=by intro a ha t;have:=h a ha t;subst hs;subst hm;simpa using this
theorem RS.nil (h:Q .normal e w):RS P n l s 0 Q e w:=fun _ ha _=>⟨nofun,e,ha,h⟩
theorem RS.c1 (i:Nat){o:Oper}{m':Nat}(hm:m'=m+1)(hr:(List.range l.length).filter (rdy l.toArray s)=[i])(ho:l[i]?=some o)
  (h:OW P n l.toArray (thn (fun e' w'=>RS P n l (s.setIfInBounds i true) m Q e' w') Q) [o] e w):RS P n l s m' Q e w:=by
 subst hm;intro a ha t;have hr':(List.range l.toArray.size).filter (rdy l.toArray s)=[i]:=by simpa using hr
 rw[zDi,hr'];simp only[List.length_singleton,Nat.mod_one,List.getElem?_cons_zero,Nat.div_one];exact zHZ ho _ (fun a e w hf hk=>hk a hf t) h a ha
theorem RS.c2 (i j:Nat){o o':Oper}{m':Nat}(hm:m'=m+1)(hr:(List.range l.length).filter (rdy l.toArray s)=[i,j])(ho:l[i]?=some o)(ho':l[j]?=some o')
  (h:OW P n l.toArray (thn (fun e' w'=>RS P n l (s.setIfInBounds i true) m Q e' w') Q) [o] e w)
  (h':OW P n l.toArray (thn (fun e' w'=>RS P n l (s.setIfInBounds j true) m Q e' w') Q) [o'] e w):RS P n l s m' Q e w:=by{
subst hm;intro a ha t;have hr':(List.range l.toArray.size).filter (rdy l.toArray s)=[i,j]:=by simpa using hr
rw[zDi,hr'];have h2:t % [i,j].length=0\/t % [i,j].length=1:=by simp only[List.length_cons,List.length_nil];omega
rcases h2 with h2|h2
.rw[h2];exact zHZ ho _ (fun a e w hf hk=>hk a hf _) h a ha
.rw[h2];exact zHZ ho' _ (fun a e w hf hk=>hk a hf _) h' a ha}
end
section
variable {P:Program}{e:Env}{w w0:World}{R:Ending->World->Prop}{v u u1 u2 u3 u4:Value}{t t1 t2 t3 t4:Tmp}
theorem zG (h1:nf (e t)=some u)(hc:Cl w0 w)(h:u=v):post P [.tmp t] (Ret v w0) .ret e w:=⟨[u],⟨zCR h1,trivial⟩,congrArg Ending.returned h,hc⟩
theorem zFL (h1:nf (e t1)=some u1)(h2:nf (e t2)=some u2)(hc:Cl w0 w)(h:.tuple #[u1,u2]=v):post P [.tmp t1,.tmp t2] (Ret v w0) .ret e w :=
 ⟨[u1,u2],⟨zCR h1,zCR h2,trivial⟩,congrArg Ending.returned h,hc⟩
theorem zL {F:zA->Value->Prop}{M:zA}(h1:nf (e t)=some u)(hs:St w0 M w)(h:F M u):post P [.tmp t] (zZ F w0) .ret e w:=⟨[u],⟨zCR h1,trivial⟩,u,M,rfl,h,hs⟩
theorem zBH {F:zA->Value->Prop}{M:zA}(h1:nf (e t1)=some u1)(h2:nf (e t2)=some u2)(hs:St w0 M w)(h:F M (.tuple #[u1,u2])):post P [.tmp t1,.tmp t2] (zZ F w0) .ret e w :=
 ⟨[u1,u2],⟨zCR h1,zCR h2,trivial⟩,_,M,rfl,h,hs⟩
end
def rg:List (Nat × Nat)->Nat->Bool
 | [],_=>false
 | (a,b)::t,i=>bif (Nat.ble a i&&Nat.ble i b) then true else rg t i
def msk (W:List (Nat × Nat))(g e:Env):Env:=fun i=>bif rg W i then g i else e i
def zMV (e:Env):List (Nat × Value)->Prop
 | []=>True
 | (d,v)::t=>e d=v/\zMV e t
def keeps (W:List (Nat × Nat)):List (Nat × Value)->Bool
 | []=>true
 | (d,_)::t=>rg W d&&keeps W t
theorem zFv {W:List (Nat × Nat)}{g e:Env}:∀ {L:List (Nat × Value)},keeps W L=true->∀ i,rg W i=false->ovl L (msk W g e) i=e i
 | [],_,i,hi=>by simp[ovl,msk,hi]
 | (d,v)::t,h,i,hi=>by
   simp only[keeps,Bool.and_eq_true] at h
   rw[zBk,if_neg (fun he=>by rw[he,h.1] at hi;cases hi)]
   exact zFv h.2 i hi
theorem zIu {e:Env}:∀ {V:List (Nat × Value)},zMV e V->ovl V e=e
 | [],_=>rfl
 | (d,v)::t,h=>by
   funext i
   rw[zBk,zIu h.2]
   by_cases hi:i=d
   .subst hi;rw[if_pos rfl];exact h.1.symm
   .rw[if_neg hi]
theorem zIv {W:List (Nat × Nat)}{e e0:Env}(h:∀ i,rg W i=false->e i=e0 i):msk W e e0=e:=by{
funext i;unfold msk;cases hb:rg W i with
| true=>rfl
| false=>exact(h i hb).symm}
section
variable {P:Program}{n:Nw}{Q:zAM}{L:List (Nat × Value)}{b:Env}{w:World}{ι:Type}
def Again (W:List (Nat × Nat))(e0:Env)(val:ι->List (Nat × Value))(I:ι->World->Prop)(μ:ι->Nat)(m:Nat):Env->World->Prop :=
 fun e' w'=>∃ x',(∀ i,rg W i=false->e' i=e0 i)/\zMV e' (val x')/\I x' w'/\μ x'<m
theorem zC {W:List (Nat × Nat)}{e0 g:Env}{val:ι->List (Nat × Value)}{I:ι->World->Prop}{μ:ι->Nat}{m:Nat}(x':ι)(hk:keeps W L=true)(hv:zMV (ovl L (msk W g e0)) (val x'))(hI:I x' w)(hm:μ x'<m) :
  Again W e0 val I μ m (ovl L (msk W g e0)) w:=⟨x',zFv hk,hv,hI,hm⟩
theorem zD {c:Code}(W:List (Nat × Nat))(val:ι->List (Nat × Value))(I:ι->World->Prop)(μ:ι->Nat)(x0:ι)(hv:zMV (ovl L b) (val x0))(hI:I x0 w)
  (round:∀ x g w,I x w->CW P n c (thn (Again W (ovl L b) val I μ (μ x)) Q) (ovl (val x) (msk W g (ovl L b))) w):CW P n (.loop c) Q (ovl L b) w:=by{
intro a ha;refine wpIn_loop_ghost (fun m a w=>∃ x e,μ x=m/\Fits n a e/\(∀ i,rg W i=false->e i=ovl L b i)/\zMV e (val x)/\I x w) (μ x0) ⟨x0,_,rfl,ha,fun _ _=>rfl,hv,hI⟩ ?_;rintro m a w ⟨x,e,rfl,hf,hk,hv,hI⟩;have he:ovl (val x) (msk W e (ovl L b))=e:=by rw[zIv hk,zIu hv]
have h:=round x e w hI;rw[he] at h;refine wpIn_mono (h a hf) (fun q a' w' hq=>?_);obtain⟨hx,e',hf',hq⟩:=hq;cases q with
| normal =>
  obtain⟨x',h1,h2,h3,h4⟩:=hq;exact⟨μ x',h4,x',e',rfl,hf',h1,h2,h3⟩
| _=>exact⟨hx,e',hf',hq⟩}
end
def SlB (F:zA)(size:Nat)(a:Option Addr)(n b off:Nat)(cs:List Value)(T:TypeId)(fr:Nat × Nat)(el:Nat->List Value):Prop :=
 0<n->a=some ⟨b,off,none⟩/\(b,Obj.cells cs.toArray T fr)∈F/\∀ j,j<n->off+j*size+size<=cs.length/\(cs.drop (off+j*size)).take size=el j
def SlA (F:zA)(size:Nat)(a:Option Addr)(n cap:Nat)(el:Nat->List Value):Prop :=
 n<=cap/\n<=140737488355328/\∃ b off cs T fr,SlB F size a n b off cs T fr el
theorem SlB.mono {F G:zA}{size:Nat}{a:Option Addr}{n b off:Nat}{cs:List Value}{T:TypeId}{fr:Nat × Nat}{el:Nat->List Value}(h:SlB F size a n b off cs T fr el)(hs:F⊆G):SlB G size a n b off cs T fr el :=
 fun h0=>⟨(h h0).1,hs (h h0).2.1,(h h0).2.2⟩
theorem SlA.mono {F G:zA}{size:Nat}{a:Option Addr}{n cap:Nat}{el:Nat->List Value}(h:SlA F size a n cap el)(hs:F⊆G):SlA G size a n cap el :=
 let ⟨h1,h2,b,off,cs,T,fr,h3⟩:=h
 ⟨h1,h2,b,off,cs,T,fr,h3.mono hs⟩
theorem SlA.of {F:zA}{size:Nat}{a:Option Addr}{n cap b off:Nat}{cs:List Value}{T:TypeId}{fr:Nat × Nat}{el:Nat->List Value}(h1:n<=cap)(h2:n<=140737488355328)(h:SlB F size a n b off cs T fr el):SlA F size a n cap el:=⟨h1,h2,b,off,cs,T,fr,h⟩
theorem SlB.cut {F:zA}{size:Nat}{a:Option Addr}{n m b off:Nat}{cs:List Value}{T:TypeId}{fr:Nat × Nat}{el:Nat->List Value}(h:SlB F size a n b off cs T fr el)(hm:m<=n):SlB F size a m b off cs T fr el :=
 fun h0=>⟨(h (by omega)).1,(h (by omega)).2.1,fun j hj=>(h (by omega)).2.2 j (by omega)⟩
section
variable {P:Program}(S:Sig P){o:Oper}{e:Env}{w:World}{F:zA}{size:Nat}{a:Option Addr}{n b off:Nat}{cs:List Value}{T:TypeId}{fr:Nat × Nat}{el:Nat->List Value}
theorem zAO {t E:TypeId}{x i:Operand}{cap j:Nat}{k:IntKind}{q:Int}{ti te:TI}(hs:SlB F size a n b off cs T fr el)(ho:o.op=.indexAddr t x i)
  (hx:ev e x=.slice a n cap) (hi:ev e i=.int k q) (ht:lk S.tab t=some ti) (htd:ti.d=.slice E) (he:lk S.tab E=some te) (hsz:te.size=size)
  (hj:q.toNat=j) (h0:0<=q) (h1:q<n):Yq P o e w (.pointer (some ⟨b,off+j*size,none⟩)):=by obtain⟨rfl,_⟩:=hs (by omega);subst hsz;exact Yq.ix S ho hx hi ht htd he hj h0 h1
theorem zA7 {t:TypeId}{x:Operand}{j:Nat}{ti:TI}(hs:SlB F size a n b off cs T fr el)(hM:Mem w F)(ho:o.op=.load t x)(hx:ev e x=.pointer (some ⟨b,off+j*size,none⟩))
  (ht:lk S.tab t=some ti) (hag:zBP ti.d=true) (hsz:ti.size=size) (hj:j<n):Yq P o e w (.agg (el j).toArray):=by
 obtain⟨_,hm,hel⟩:=hs (by omega);obtain⟨h1,h2⟩:=hel j hj;refine Yq.load S ho hx hM hm ht ?_;unfold ldv;rw[hag,hsz,h2];have:Nat.ble (off+j*size+size) cs.length=true:=by simpa using h1
 rw[this];rfl
theorem zD4 {t:TypeId}{x:Operand}{j k:Nat}{ti:TI}{v:Value}(hs:SlB F size a n b off cs T fr el)(hM:Mem w F)(ho:o.op=.load t x)(hx:ev e x=.pointer (some ⟨b,off+j*size+k,none⟩))
  (ht:lk S.tab t=some ti) (hag:zBP ti.d=false) (hj:j<n) (hk:Nat.blt k size=true) (hv:(match (el j)[k]? with|some v=>nf v|none=>none)=some v):Yq P o e w v:=by{
obtain⟨_,hm,hel⟩:=hs (by omega);obtain⟨h1,h2⟩:=hel j hj;refine Yq.load S ho hx hM hm ht ?_;unfold ldv;rw[hag];simp only[cond_false];split at hv
.rename_i u hu;rw[<- zCR hv,<- hu,<- h2,List.getElem?_take,if_pos (by simpa using hk),List.getElem?_drop]
.cases hv}
theorem Yq.loadB1 {t:TypeId}{x:Operand}{j:Nat}{ti:TI}{v:Value}(hs:SlB F 1 a n b off cs T fr el)(hM:Mem w F)(ho:o.op=.load t x)(hx:ev e x=.pointer (some ⟨b,off+j*1,none⟩))
  (ht:lk S.tab t=some ti) (hag:zBP ti.d=false) (hj:j<n) (hv:(match (el j)[0]? with|some v=>nf v|none=>none)=some v):Yq P o e w v :=
 zD4 S hs hM ho (k:=0) hx ht hag hj rfl hv
end
theorem zAm:(0:Int).toNat=0:=rfl
theorem zn (q:Int):q.toNat=q.toNat:=rfl
theorem w64 {x:Int}(h1:-9223372036854775808<=x)(h2:x<=9223372036854775807):IntKind.i64.wrap x=x:=IntWalk.i64_in x ⟨h1,h2⟩
theorem zU {k:Nat}(h:k<4611686018427387904):Value.int .i64 (IntKind.i64.wrap ((k:Int)+1))=Value.int .i64 ((k+1:Nat):Int):=by rw[w64 (by omega) (by omega)];rfl
theorem vint {x y:Int}(h1:-9223372036854775808<=x)(h2:x<=9223372036854775807)(h:x=y):Value.int .i64 (IntKind.i64.wrap x)=Value.int .i64 y:=by rw[w64 h1 h2,h]
theorem zAq {P:Program}{o:Oper}{e:Env}{f:FuncId}{x:Operand}{args:Array Operand}{ts:Array TypeId}{caps:List Value}(h:Ent P f)(ho:o.op=.call { callee:=.value x,args:=args,argTypes:=ts })
  (hx:ev e x=.func (.func f) #[] caps.toArray) {l:List Value} (hl:evS e args.toList=some l):En P o e f (l++caps):=by
 have hl':evl e args=l:=zER hl;subst hl';intro w;have he:args.map (ev e)=(evl e args).toArray:=by simp only[evl,<- zDh]
 simp only[execOp,ho,resolve,hx,Deferred.ofValue,invoke,Sem.run_bind,Sem.run_pure,Result.andThen_ok,he];simpa using h (evl e args++caps).toArray w
theorem flat_len {el:Nat->List Value}{size:Nat}:∀ (m:Nat),(∀ j,j<m->(el j).length=size)->((List.range m).flatMap el).length=m*size
 | 0,_=>by simp
 | m+1,h=>by
   rw[List.range_succ,List.flatMap_append,List.length_append,flat_len m (fun j hj=>h j (by omega)),List.flatMap_singleton,h m (by omega),Nat.add_mul,Nat.one_mul]
theorem flat_at {el:Nat->List Value}{size:Nat}:∀ (m:Nat),(∀ j,j<m->(el j).length=size)->∀ j,j<m->(((List.range m).flatMap el).drop (j*size)).take size=el j
 | 0,_,j,hj=>by omega
 | m+1,h,j,hj=>by
   have hl:=flat_len (el:=el) (size:=size) m (fun j hj=>h j (by omega))
   rw[List.range_succ,List.flatMap_append,List.flatMap_singleton]
   by_cases hjm:j=m
   .subst hjm
    rw[List.drop_append_of_le_length (by omega),List.drop_of_length_le (by omega),List.nil_append,List.take_of_length_le (by rw[h j (by omega)];exact Nat.le_refl _)]
   .have hle:j*size+size<=m*size:=by rw[<- Nat.succ_mul];exact Nat.mul_le_mul_right _ (by omega)
    rw[List.drop_append_of_le_length (by omega),List.take_append_of_le_length (by rw[List.length_drop];omega)]
    exact flat_at m (fun j hj=>h j (by omega)) j (by omega)
theorem Own.sl {M F:zA}{E:TypeId}{size:Nat}{a:Option Addr}{n cap:Nat}{el:Nat->List Value}(h:Own M E size a n cap ((List.range n).flatMap el))(hM:M⊆F)(hel:∀ j,j<n->(el j).length=size)(hn:n<=140737488355328):SlA F size a n cap el:=by{
rcases h.2 with ⟨h1,h2,_⟩|⟨g,cs,rfl,h2,h3,h4,h5,h6⟩
.exact⟨by omega,hn,0,0,[],0,(0,0),fun h0=>by omega⟩
.refine⟨h3,hn,g,0,cs,E,(0,0),fun _=>⟨rfl,hM (by rw[h2];exact List.Mem.head _),fun j hj=>⟨?_,?_⟩⟩⟩
 .have:(j+1)*size<=cap*size:=Nat.mul_le_mul_right _ (by omega);rw[Nat.add_mul,Nat.one_mul] at this;omega
 .rw[Nat.zero_add,<- flat_at n hel j hj,<- h6,List.drop_take,List.take_take]
  congr 1
  have:(j+1)*size<=n*size:=Nat.mul_le_mul_right _ (by omega);rw[Nat.add_mul,Nat.one_mul] at this;omega}
theorem zP {P:Program}{e:Env}{w:World}{t:Tmp}{u:Value}(h:nf (e t)=some u):rdv P e w (.tmp t) u:=zCR h
theorem zg {P:Program}(S:Sig P){e:Env}{w:World}{M:zA}{t a:Tmp}{b off:Nat}{cs:List Value}{T:TypeId}{fr:Nat × Nat}{ti:TI}{v:Value}(hx:e a=.pointer (some ⟨b,off,none⟩))(hM:Mem w M)
  (hm:(b,Obj.cells cs.toArray T fr)∈M) (ht:lk S.tab t=some ti) (hl:ldS ti cs off=some v):rdv P e w (.cell a t) v:=⟨_,hx,zFK S hM hm ht (zSy hl)⟩
section
variable {P:Program}{rs:List ResultVar}{e:Env}{w w0:World}{vs:List Value}{v:Value}
theorem zAv (hv:rds P e w rs vs)(hc:Cl w0 w)(h:zIP vs=v):post P rs (Ret v w0) .ret e w:=⟨vs,hv,congrArg Ending.returned h,hc⟩
theorem zMW (hv:rds P e w rs vs)(hc:Cl w0 w)(h:zIP vs=v):post P rs (Ret v w0) .normal e w:=⟨vs,hv,congrArg Ending.returned h,hc⟩
theorem zc {R:zA->Value->Prop}{M:zA}(hv:rds P e w rs vs)(hs:St w0 M w)(h:R M (zIP vs)):post P rs (zZ R w0) .ret e w:=⟨vs,hv,zIP vs,M,rfl,h,hs⟩
theorem zB2 {R:zA->Value->Prop}{M:zA}(hv:rds P e w rs vs)(hs:St w0 M w)(h:R M (zIP vs)):post P rs (zZ R w0) .normal e w:=⟨vs,hv,zIP vs,M,rfl,h,hs⟩
end
theorem neI {x y:Int}(h:(x==y)=false):x≠y:=by simpa using h
theorem eqI {x y:Int}(h:(x==y)=true):x=y:=by simpa using h
theorem Yq.ext {P:Program}{o:Oper}{e:Env}{w:World}{f:FuncId}{args:Array Operand}{ts:Array TypeId}{l:List Value}{v:Value}(ho:o.op=.call { callee:=.value (.func f),args:=args,argTypes:=ts })
  (hl:evS e args.toList=some l) (h:∀ w,(callFunc f l.toArray).run P w=.ok (.value v) w):Yq P o e w v:=by
 refine Yq.of fun w'=>?_;have hl':evl e args=l:=zER hl;have he:args.map (ev e)=l.toArray:=by rw[<- hl'];simp only[evl,<- zDh]
 simp only[execOp,ho,resolve,Deferred.ofValue,ev,invoke,Sem.run_bind,Sem.run_pure,Result.andThen_ok,he];simpa using h w'
theorem Src.mk {w:World}{M:zA}(hM:Mem w M){b off:Nat}{cs:List Value}{T:TypeId}{fr:Nat × Nat}(hm:(b,Obj.cells cs.toArray T fr)∈M){n cap:Nat}{news:List Value}(h:∀ j u,news[j]?=some u->cs[off+j]?=some u) :
  Src w (.slice (some ⟨b,off,none⟩) n cap) n news:=.inl ⟨_,_,rfl,fun j u hj=>by rw[zAA,zB9 hM hm];exact h j u hj⟩
theorem zh {w:World}{M:zA}(hM:Mem w M){b:Nat}{cs:List Value}{T:TypeId}{fr:Nat × Nat}(hm:(b,Obj.cells cs.toArray T fr)∈M){n cap:Nat}:Src w (.slice (some ⟨b,0,none⟩) n cap) n cs :=
 Src.mk hM hm (fun j u hj=>by rw[Nat.zero_add];exact hj)
def nrm (n:Nw)(Q:zAM):Exit->Act->World->Prop:=fun x a w=>x=.normal/\zAc n Q .normal a w
def RA (P:Program)(n:Nw)(l:List Oper)(s:Array Bool)(m:Nat)(Q:zAM)(e:Env)(w:World):Prop :=
 ∀ a,Fits n a e->wpAny P .any l.toArray (nrm n Q) m s a w
section
variable {P:Program}{n:Nw}{id:Nat}{Q:zAM}{e:Env}{w:World}{l:List Oper}{s:Array Bool}{m:Nat}
theorem zBD (hm:P.follows .mixedOrders=true)(N:Nat)(hN:Nat.beq l.length N=true)(h:∀ w',Cl w w'->RA P n l (Array.replicate N false) N Q e w')(hnd:zCq l=true:=by exact rfl):CW P n (.region id l.toArray true) Q e w:=by intro a ha;obtain rfl:=Nat.eq_of_beq_eq_true hN;refine wpIn_mono (Q:=nrm n Q) (wpIn_region_draw fun t=>zGQ (fun h=>by obtain⟨_,_,h,_⟩:=h;cases h) hnd _ _ _ ?_) (fun x a w h=>by obtain⟨rfl,h⟩:=h;exact h);simp only[Region.schedule,hm,Bool.true_or,if_true];have:=h { w with drawn:=w.drawn+1 } ((Bel.refl _ _).drew) a ha;exact wpAny_sound _ t _ a _ (by simpa using this)
theorem zFM (hr:(Region.ready .any l.toArray s).isEmpty=true)(h:Q .normal e w):RA P n l s m Q e w :=
 fun a ha=>wpAny_done (by simpa using hr) ⟨rfl,nofun,e,ha,h⟩ m
theorem RA.take {L:List (Nat × Value)}{b0:Env}(i:Nat){o:Oper}{d:Nat}{v:Value}(hB:((Region.noSelect l.toArray&&Region.free .any l.toArray s i)&&(Region.ready .any l.toArray s).contains i)=true)
  (ho:l[i]?=some o) (hg:o.guard=none) (hd:o.dst=some d) (hlt:Nat.blt d n.n=true) (hy:∀ w,Yq P o (ovl L b0) w v)
  {m':Nat} (hm:m'=m+1) (h:RA P n l (s.setIfInBounds i true) m Q (ovl ((d,v)::L) b0) w):RA P n l s m' Q (ovl L b0) w:=by{
subst hm;intro a ha;simp only[Bool.and_eq_true] at hB;obtain⟨⟨h1,h2⟩,h3⟩:=hB;refine wpAny_take (oi:=o) (v:=v) (by simpa using ho) h1 h2 h3 (fun c a w hq=>absurd hq.1 (by simp)) (.inl ⟨by simp[Region.wanted,hg],fun w'=>?_⟩) ?_
.rw[ha.eval];exact hy w' w' (Cl.refl w')
.rw[hd];exact h _ (ha.put hlt v)}
theorem zBI {k:Nat}{o:Oper}(ho:l[k]?=some o){K:Env->World->Prop}{KA:Act->World->Prop}{QA:Exit->Act->World->Prop}(hK:∀ a e w,Fits n a e->K e w->KA a w)
  (h:OW P n l.toArray (thn K (fun _ _ _=>False)) [o] e w):∀ a,Fits n a e->wpOp P l.toArray QA k KA a w:=by{
intro a ha;have h1:=h a ha;unfold wpOp;have ho2:l.toArray[k]?=some o:=by simpa using ho
simp only[ho2];unfold wpList at h1;have hQ:∀ x a w,x≠Exit.normal->zAc n (thn K (fun _ _ _=>False)) x a w->False:=by intro x a w hx h;obtain⟨_,e',_,hq⟩:=h;cases x<;>first|exact absurd rfl hx|exact hq
have hK2:∀ a w,wpList P l.toArray (zAc n (thn K (fun _ _ _=>False))) [] a w->KA a w:=by intro a w h;obtain⟨_,e',hf,hq⟩:=h;exact hK a e' w hf hq
have hmono:∀ a w,o.wp P a w (wpList P l.toArray (zAc n (thn K (fun _ _ _=>False))) []) (zAc n (thn K (fun _ _ _=>False)))->o.wp P a w KA QA:=by
 intro a w h;unfold Oper.wp at h ⊢;generalize (execOp a.eval o).run P w=r at *;cases r with
 | ok nx w' =>
   cases nx<;>simp only[Oper.upon] at h ⊢<;>first
    | exact hK2 _ _ h
    | exact Calls.mono h (fun e w'' he=>by
      cases e with
      | returned v=>exact hK2 _ _ he
      | panicked c=>exact absurd (hQ _ _ _ (by simp) he) id
      | outgrown=>obtain⟨a,w,hx⟩:=he;exact absurd (hQ _ _ _ (by simp) hx) id)
    | exact Rows.mono h (fun _ _ he=>hK2 _ _ he)
 | halt x w'=>cases x<;>simp only[Oper.upon] at h ⊢<;>first|exact absurd (hQ _ _ _ (by simp) h) id|exact h
split
.rename_i hw;rw[if_pos hw] at h1;rcases h1 with h1|⟨_,a0,w0,h2⟩
 .exact .inl (hmono _ _ h1)
 .exact absurd (hQ _ _ _ (by simp) h2) id
.rename_i hw;rw[if_neg hw] at h1;exact hK2 _ _ h1}
theorem RA.c1 (i:Nat){o:Oper}{m':Nat}(hm:m'=m+1)(hB:(Region.ready .any l.toArray s==[i])=true)(ho:l[i]?=some o)
  (h:OW P n l.toArray (thn (fun e' w'=>RA P n l (s.setIfInBounds i true) m Q e' w') (fun _ _ _=>False)) [o] e w):RA P n l s m' Q e w:=by subst hm;intro a ha;refine wpAny_all (rs:=[i]) (by simpa using hB) (by simp) (fun j hj=>?_);simp only[List.mem_singleton] at hj;subst hj;exact zBI ho (fun a e w hf hk=>hk a hf) h a ha
theorem RA.c2 (i j:Nat){o o':Oper}{m':Nat}(hm:m'=m+1)(hB:(Region.ready .any l.toArray s==[i,j])=true)(ho:l[i]?=some o)(ho':l[j]?=some o')
  (h:OW P n l.toArray (thn (fun e' w'=>RA P n l (s.setIfInBounds i true) m Q e' w') (fun _ _ _=>False)) [o] e w)
  (h':OW P n l.toArray (thn (fun e' w'=>RA P n l (s.setIfInBounds j true) m Q e' w') (fun _ _ _=>False)) [o'] e w):RA P n l s m' Q e w:=by{
subst hm;intro a ha;refine wpAny_all (rs:=[i,j]) (by simpa using hB) (by simp) (fun k hk=>?_);simp only[List.mem_cons,List.not_mem_nil,or_false] at hk;rcases hk with rfl|rfl
.exact zBI ho (fun a e w hf hk=>hk a hf) h a ha
.exact zBI ho' (fun a e w hf hk=>hk a hf) h' a ha}
end
def sbR (W W':List (Nat × Nat)):Bool:=W'.all fun p=>W.any fun q=>Nat.ble q.1 p.1&&Nat.ble p.2 q.2
theorem zPq {W:List (Nat × Nat)}{i:Nat}:rg W i=true↔∃ p∈W,p.1<=i/\i<=p.2:=by{
induction W with
| nil=>simp[rg]
| cons p t ih =>
  obtain⟨a,b⟩:=p;simp only[rg,Bool.cond_eq_ite,Bool.and_eq_true,Nat.ble_eq,List.mem_cons];by_cases h:a<=i/\i<=b
  .simp only[h,and_self,if_true,true_iff];exact⟨(a,b),.inl rfl,h⟩
  .rw[if_neg h,ih];constructor
   .rintro⟨p,hp,h1⟩;exact⟨p,.inr hp,h1⟩
   .rintro⟨p,rfl|hp,h1⟩
    .exact absurd h1 h
    .exact⟨p,hp,h1⟩}
theorem sbR_ok {W W':List (Nat × Nat)}(h:sbR W W'=true){i:Nat}(hi:rg W i=false):rg W' i=false:=by{
cases hb:rg W' i with
| false=>rfl
| true =>
  obtain⟨p,hp,h1,h2⟩:=zPq.1 hb;obtain⟨q,hq,h3⟩:=List.any_eq_true.1 (List.all_eq_true.1 h p hp);simp only[Bool.and_eq_true,Nat.ble_eq] at h3;rw[zPq.2 ⟨q,hq,by omega,by omega⟩] at hi;cases hi}
theorem zKL {W:List (Nat × Nat)}{b:Env}:∀ {L:List (Nat × Value)},keeps W L=true->∀ i,rg W i=false->ovl L b i=b i
 | [],_,i,hi=>by simp[ovl]
 | (d,v)::t,h,i,hi=>by
   simp only[keeps,Bool.and_eq_true] at h
   rw[zBk,if_neg (fun he=>by rw[he,h.1] at hi;cases hi)]
   exact zKL h.2 i hi
theorem zD5 {ι:Type}{w:World}{L L':List (Nat × Value)}{W W':List (Nat × Nat)}{e0 g g':Env}{val:ι->List (Nat × Value)}{I:ι->World->Prop}{μ:ι->Nat}{m:Nat}(x':ι)(hk:(keeps W L&&(sbR W W'&&keeps W L'))=true)
  (hv:zMV (ovl L (msk W' g' (ovl L' (msk W g e0)))) (val x')) (hI:I x' w) (hm:μ x'<m):Again W e0 val I μ m (ovl L (msk W' g' (ovl L' (msk W g e0)))) w:=by
 simp only[Bool.and_eq_true] at hk;refine⟨x',fun i hi=>?_,hv,hI,hm⟩;rw[zKL hk.1 i hi];have:msk W' g' (ovl L' (msk W g e0)) i=ovl L' (msk W g e0) i:=by unfold msk;rw[sbR_ok hk.2.1 hi];rfl
 rw[this];exact zFv hk.2.2 i hi
def Els (cs:List Value)(size n:Nat)(el:Nat->List Value):Prop:=∀ j,j<n->j*size+size<=cs.length/\(cs.drop (j*size)).take size=el j
theorem Els.slb {cs:List Value}{size n g:Nat}{T:TypeId}{F:zA}{el:Nat->List Value}(h:Els cs size n el)(hm:cb g cs T∈F):SlB F size (some ⟨g,0,none⟩) n g 0 cs T (0,0) el :=
 fun _=>⟨rfl,hm,fun j hj=>by rw[Nat.zero_add];exact h j hj⟩
theorem zCC {cs vs:List Value}{off:Nat}(h:off+vs.length<=cs.length):(wr cs off vs).length=cs.length:=by simp only[wr,List.length_append,List.length_take,List.length_drop];omega
theorem zFN {cs vs:List Value}{off:Nat}(h:off+vs.length<=cs.length)(i:Nat):(wr cs off vs)[i]?=if off<=i/\i<off+vs.length then vs[i - off]? else cs[i]?:=by{
unfold wr;by_cases h1:i<off
.rw[List.append_assoc,List.getElem?_append_left (by simp;omega),List.getElem?_take,if_pos h1,if_neg (by omega)]
.by_cases h2:i<off+vs.length
 .rw[if_pos (by omega),List.getElem?_append_left (by simp;omega),List.getElem?_append_right (by simp;omega),List.length_take,Nat.min_eq_left (by omega)]
 .rw[if_neg (by omega),List.getElem?_append_right (by simp;omega),List.getElem?_drop,List.length_append,List.length_take,Nat.min_eq_left (by omega)]
  congr 1;omega}
theorem Els.wr {cs vs:List Value}{size n k:Nat}{el:Nat->List Value}(h:Els cs size n el)(hk:k<n)(hv:vs.length=size):Els (wr cs (k*size) vs) size n (fun j=>if j=k then vs else el j):=by{
intro j hj;have hk1:=(h k hk).1;obtain⟨h1,h2⟩:=h j hj;refine⟨by rw[zCC (by omega)];exact h1,?_⟩;apply List.ext_getElem?;intro i;rw[List.getElem?_take,List.getElem?_drop,zFN (by omega),hv];have hlt:j≠k->¬ (i<size/\k*size<=j*size+i/\j*size+i<k*size+size):=by
 intro hne ⟨h3,h4,h5⟩;rcases Nat.lt_or_gt_of_ne hne with h6|h6
 .have:(j+1)*size<=k*size:=Nat.mul_le_mul_right _ h6;rw[Nat.add_mul,Nat.one_mul] at this;omega
 .have:(k+1)*size<=j*size:=Nat.mul_le_mul_right _ h6;rw[Nat.add_mul,Nat.one_mul] at this;omega
by_cases hjk:j=k
.subst hjk;show _=(if j=j then vs else el j)[i]?;rw[if_pos (rfl:j=j)];by_cases hi:i<size
 .rw[if_pos hi,if_pos (by omega)];congr 1;omega
 .rw[if_neg hi,List.getElem?_eq_none (by omega)]
.show _=(if j=k then vs else el j)[i]?;rw[if_neg hjk,<- h2,List.getElem?_take,List.getElem?_drop];by_cases hi:i<size
 .rw[if_pos hi,if_pos hi,if_neg (fun hh=>hlt hjk ⟨hi,hh⟩)]
 .rw[if_neg hi,if_neg hi]}
theorem Els.congr {cs:List Value}{size n:Nat}{el el':Nat->List Value}(h:Els cs size n el)(he:∀ j,j<n->el j=el' j):Els cs size n el' :=
 fun j hj=>by rw[<- he j hj];exact h j hj
theorem zPr:∀ (vs cs:List Value) (o:Nat),o+vs.length<=cs.length->∀ i:Nat,(ovw cs o vs)[i]?=if o<=i/\i<o+vs.length then vs[i - o]? else cs[i]?
 | [],cs,o,_,i=>by rw[ovw,if_neg (by simp)]
 | v::r,cs,o,h,i=>by
   rw[List.length_cons] at h
   rw[ovw,zPr r (cs.set o v) (o+1) (by rw[List.length_set];omega) i,List.length_cons,List.getElem?_set]
   by_cases h1:i=o
   .subst h1
    rw[if_neg (by omega),if_pos rfl,if_pos (by omega),if_pos (by omega),Nat.sub_self];rfl
   .by_cases h2:o+1<=i/\i<o+1+r.length
    .rw[if_pos h2,if_pos (by omega),show i - o=(i - (o+1))+1 by omega,List.getElem?_cons_succ]
    .rw[if_neg h2,if_neg (Ne.symm h1),if_neg (by omega)]
theorem ovw_eq {vs cs:List Value}{o:Nat}(h:o+vs.length<=cs.length):ovw cs o vs=wr cs o vs:=by apply List.ext_getElem?;intro i;rw[zPr vs cs o h i,zFN h i]
def seqP:Nat->List (List Value)->List (Nat × Value)
 | _,[]=>[]
 | i,c::r=>(i,.agg c.toArray)::seqP (i+1) r
theorem zKM {size:Nat}:∀ (cls:List (List Value)) (i:Nat) (cs:List Value),(∀ c∈cls,c.length=size)->(i+cls.length)*size<=cs.length ->
  zGj (fun i=>some (i*size,size)) cs (seqP i cls)=some (cs.take (i*size)++cls.flatten++cs.drop ((i+cls.length)*size))
 | [],i,cs,_,_=>by simp[seqP,zGj]
 | c::r,i,cs,hc,h=>by
   have hcl:c.length=size:=hc c (List.Mem.head _)
   rw[List.length_cons] at h
   have h1:(i+1)*size<=(i+(r.length+1))*size:=Nat.mul_le_mul_right _ (by omega)
   rw[Nat.add_mul,Nat.one_mul] at h1
   have hfit:i*size+c.length<=cs.length:=by omega
   have hcc:(Value.agg c.toArray).cells.toList=c:=rfl
   have hb:(Nat.beq c.length size&&Nat.ble (i*size+c.length) cs.length)=true:=by simp[hcl];try omega
   rw[seqP,zGj]
   simp only[hcc,hb,cond_true]
   rw[ovw_eq hfit,zKM r (i+1) _ (fun c hm=>hc c (List.mem_cons_of_mem _ hm)) (by rw[zCC hfit,show i+1+r.length=i+(r.length+1) by omega];exact h)]
   have e1:(wr cs (i*size) c).take ((i+1)*size)=cs.take (i*size)++c:=by
    rw[wr,Nat.add_mul,Nat.one_mul]
    exact List.take_left' (by rw[List.length_append,List.length_take,Nat.min_eq_left (by omega),hcl])
   have e2:(wr cs (i*size) c).drop ((i+1+r.length)*size)=cs.drop ((i+(r.length+1))*size):=by
    apply List.ext_getElem?
    intro q
    have h3:(i+1+r.length)*size=(i+(r.length+1))*size:=by congr 1;omega
    rw[List.getElem?_drop,List.getElem?_drop,zFN hfit,h3,if_neg (by omega)]
   rw[e1,e2,List.length_cons,List.flatten_cons,List.append_assoc,List.append_assoc,List.append_assoc,List.append_assoc]
def agP:Nat->List (Nat × Value)->Option (List (List Value))
 | _,[]=>some []
 | i,(j,v)::r=>bif Nat.beq i j then(match v with|.agg a=>(match agP (i+1) r with|some t=>some (a.toList::t)|none=>none)|_=>none) else none
theorem zS0:∀ (ps:List (Nat × Value)) (i:Nat) (cls:List (List Value)),agP i ps=some cls->ps=seqP i cls
 | [],i,cls,h=>by cases h;rfl
 | (j,v)::r,i,cls,h=>by
   unfold agP at h
   cases hb:Nat.beq i j with
   | false=>rw[hb] at h;cases h
   | true =>
     rw[hb] at h
     obtain rfl:=Nat.eq_of_beq_eq_true hb
     cases v<;>simp only[cond_true] at h<;>try (cases h;done)
     split at h
     .rename_i t ht
      cases h
      rw[seqP,<- zS0 r (i+1) t ht]
     .cases h
section
variable {P:Program}{n:Nw}{ops:Array Oper}{Q:zAM}{o:Oper}{rest:List Oper}{L:List (Nat × Value)}{b0:Env}{w:World}(S:Sig P)
theorem OX.buildA {w0:World}{G:zA}{t E:TypeId}{len d:Nat}{parts:Array (Nat × Operand)}{ti te:TI}{cls:List (List Value)}{cs:List Value}(H:St w0 G w)(ho:o.op=.buildSlice t len parts)(hd:o.dst=some d)(hlt:Nat.blt d n.n=true)
  (ht:lk S.tab t=some ti) (htd:ti.d=.slice E) (he:lk S.tab E=some te) (hpos:Nat.blt 0 (len*te.size)=true) (hsm:Nat.ble (len*te.size) 16777216=true)
  (hv:agP 0 (parts.toList.map fun p=>(p.1,ev (ovl L b0) p.2))=some cls) (hl:(cls.all fun c=>Nat.beq c.length te.size)=true) (hn:Nat.beq cls.length len=true) (hcs:nfL cls.flatten=some cs)
  (k:∀ b w',St w0 (cb b cs E::G) w'->Cl w w'->OW P n ops Q rest (ovl ((d,.slice (some ⟨b,0,none⟩) len len)::L) b0) w') :
  OX P n ops Q o rest (ovl L b0) w:=by have hlen:=Nat.eq_of_beq_eq_true hn;have hall:∀ c∈cls,c.length=te.size:=fun c hc=>Nat.eq_of_beq_eq_true (List.all_eq_true.1 hl c hc);obtain rfl:=zDv hcs;refine OX.buildS S H ho hd hlt ht htd he hpos hsm (cs0:=cls.flatten) (cs:=cls.flatten) ?_ hcs k;rw[zS0 _ _ _ hv,zKM cls 0 _ hall (by simp[hlen]),Nat.zero_mul,Nat.zero_add,List.take_zero,List.nil_append,List.drop_eq_nil_of_le (by simp[hlen]),List.append_nil]
end
theorem Own.els {M:zA}{E:TypeId}{size:Nat}{a:Option Addr}{n cap:Nat}{el:Nat->List Value}(h:Own M E size a n cap ((List.range n).flatMap el))(h0:0<n)(hel:∀ j,j<n->(el j).length=size) :
  ∃ g cs,a=some ⟨g,0,none⟩/\M=[cb g cs E]/\n<=cap/\Els cs size n el:=by{
rcases h.2 with ⟨h1,h2,_⟩|⟨g,cs,rfl,h2,h3,h4,h5,h6⟩
.omega
.refine⟨g,cs,rfl,h2,h3,fun j hj=>⟨?_,?_⟩⟩
 .have:(j+1)*size<=cap*size:=Nat.mul_le_mul_right _ (by omega);rw[Nat.add_mul,Nat.one_mul] at this;omega
 .have:(j+1)*size<=n*size:=Nat.mul_le_mul_right _ hj;rw[Nat.add_mul,Nat.one_mul] at this;rw[<- flat_at n hel j hj,<- h6,List.drop_take,List.take_take]
  congr 1
  omega}
section
variable {P:Program}{n:Nw}{ops:Array Oper}{Q:zAM}{o:Oper}{rest:List Oper}{L:List (Nat × Value)}{b0:Env}{w:World}(S:Sig P)
theorem OX.storeB {w0:World}{G:zA}{t:TypeId}{x y:Operand}{cs vs:List Value}{b off:Nat}{T:TypeId}{ti:TI}(H:St w0 (cb b cs T::G) w)(ho:o.op=.store t x y)(hd:o.dst=none)
  (hx:ev (ovl L b0) x=.pointer (some ⟨b,off,none⟩)) (hy:ev (ovl L b0) y=.agg vs.toArray) (ht:lk S.tab t=some ti)
  (hsz:vs.length=ti.size) (hfit:off+vs.length<=cs.length) (h1:∀ u∈vs,u.oneCell'=true)
  (k:∀ w',St w0 (cb b (wr cs off vs) T::G) w'->OW P n ops Q rest (ovl L b0) w'):OX P n ops Q o rest (ovl L b0) w:=by{
intro a ha;unfold Oper.wp;rw[ha.eval];have hu:Up b (.cells cs.toArray T (0,0)) (.cells (wr cs off vs).toArray T (0,0)) (cb b cs T::G) (cb b (wr cs off vs) T::G):=Up.here;have hg:=H.mem _ hu.mem;have hst:=run_storeCells_at P b off T vs 0 cs.toArray w hg (by simpa using hfit) h1;simp only[Nat.add_zero] at hst;have hc:(Value.agg vs.toArray).cells=vs.toArray:=rfl;have hsz':(Value.agg vs.toArray).cells.size=ti.size:=by rw[hc];simpa using hsz
have hl:(Value.agg vs.toArray).cells.toList=vs:=by rw[hc]
simp only[execOp,ho,Instr.storeAt,hx,hy,Instr.sureAddr,storeVar,Sem.run_bind,Sem.run_pure,Result.andThen_ok,S.run_size ht,hsz',ne_eq,not_true,if_false,hl,hst,Oper.upon_skip,hd];exact k _ (H.row hu) _ ha}
theorem zW {w0:World}{d:Nat}{R:zA->Value->Prop}{f:FuncId}{args:List Value}(hd:o.dst=some d)(hlt:Nat.blt d n.n=true)(he:En P o (ovl L b0) f args)
  (hc:Calls P f args.toArray w (zZ R w0)) (k:∀ v M w',R M v->St w0 M w'->OW P n ops Q rest (ovl ((d,v)::L) b0) w'):OX P n ops Q o rest (ovl L b0) w:=by intro a ha;unfold Oper.wp;rw[ha.eval,he w,Oper.upon_enter];refine hc.mono fun x w' ⟨v,M,hx,hr,hs⟩=>?_;subst hx;rw[hd];exact k v M w' hr hs _ (ha.put hlt v)
theorem Yq.sliceLoB {e:Env}{t E:TypeId}{x h:Operand}{g off len cap j:Nat}{k:IntKind}{q:Int}{ti te:TI}(ho:o.op=.slice t x (some h) none none)
  (hx:ev e x=.slice (some ⟨g,off,none⟩) len cap) (hh:ev e h=.int k q) (ht:lk S.tab t=some ti) (htd:ti.d=.slice E) (he:lk S.tab E=some te)
  (hj:q.toNat=j) (h0:0<=q) (h1:q<len) (h2:len<=cap):Yq P o e w (.slice (some ⟨g,off+j*te.size,none⟩) (len - j) (cap - j)):=by have:=Yq.sliceLo (w:=w) S ho hx hh ht htd he hj h0 (by omega);rw[if_neg (by omega),Option.map_some,zAA] at this;exact this
theorem OX.clear {w0:World}{G:zA}{cs:List Value}{x:Operand}{t E T:TypeId}{ti te:TI}{g off m c:Nat}(H:St w0 (cb g cs T::G) w)(ho:o.op=.call { callee:=.builtin .clear,args:=#[x],argTypes:=#[t] })(hd:o.dst=none)
  (hx:ev (ovl L b0) x=.slice (some ⟨g,off,none⟩) (m+1) c) (ht:lk S.tab t=some ti) (htd:ti.d=.slice E) (he:lk S.tab E=some te) (hz1:te.zero.all Value.oneCell'=true) (hzs:Nat.beq te.zero.length te.size=true) (hpos:Nat.blt 0 te.size=true)
  (hfit:off+(m+1)*te.size<=cs.length) (k:∀ cs' w',cs'.length=cs.length->(∀ i,i<off->cs'[i]?=cs[i]?)->St w0 (cb g cs' T::G) w'->OW P n ops Q rest (ovl L b0) w'):OX P n ops Q o rest (ovl L b0) w:=by{
intro a ha;unfold Oper.wp;rw[ha.eval];have hu:=S.run_und ht w;rw[htd] at hu;obtain⟨f,h1,h2,h3⟩:=S.inf he;obtain⟨zv,hz2,hz3⟩:=Option.map_eq_some_iff.1 h3;have hzv:(zeroValue E).run P w=.ok zv w:=by simp[zeroValue,typeInfo,h1,hz2]
have hlen:=Nat.eq_of_beq_eq_true hzs;have hp:0<te.size:=by simpa using hpos
have hzc:zv.cells.toList=te.zero:=by simp[hz3]
have hzsz:zv.cells.size=te.size:=by rw[<- hlen,<- hzc];simp
have hl:(Builtin.zeroCells zv.cells (m+1)).toList.length=(m+1)*te.size:=by simp[Builtin.zeroCells,hzsz]
have hall:∀ u∈(Builtin.zeroCells zv.cells (m+1)).toList,u.oneCell'=true:=by intro u hu;simp only[Builtin.zeroCells,Array.toList_map,Array.toList_range,List.mem_map] at hu;obtain⟨i,_,rfl⟩:=hu;have hi:i % zv.cells.size<zv.cells.size:=Nat.mod_lt _ (by omega);rw[getElem!_pos zv.cells (i % zv.cells.size) hi];refine List.all_eq_true.1 hz1 _ ?_;rw[<- hzc];exact Array.getElem_mem_toList hi
have hg:=H.mem _ (List.Mem.head _);have hst:=run_storeCells_at P g off T (Builtin.zeroCells zv.cells (m+1)).toList 0 cs.toArray w hg (by rw[hl];simpa using hfit) hall;simp only[Nat.add_zero] at hst;have hr:(Builtin.clear_ #[t] o.type #[.slice (some ⟨g,off,none⟩) (m+1) c]).run P w=.ok (.tuple #[]) (w.setRow g (wr cs off (Builtin.zeroCells zv.cells (m+1)).toList).toArray):=by simp[Builtin.clear_,hu,hzv,hst,wr]
simp only[execOp,ho,resolve,invoke,builtin,Sem.run_bind,Sem.run_pure,Result.andThen_ok,List.map_toArray,List.map_cons,List.map_nil,hx,hr,Oper.upon_value,hd];have hfit':off+(Builtin.zeroCells zv.cells (m+1)).toList.length<=cs.length:=by rw[hl];exact hfit
exact k _ _ (zCC hfit') (fun i hi=>by rw[zFN hfit',if_neg (by omega)]) (H.row Up.here) _ ha}
theorem OX.clearP {w0:World}{G:zA}{cs:List Value}{x:Operand}{t E T:TypeId}{ti te:TI}{g off m c:Nat}(H:St w0 (cb g cs T::G) w)(h0:0<m)(ho:o.op=.call { callee:=.builtin .clear,args:=#[x],argTypes:=#[t] })(hd:o.dst=none)
  (hx:ev (ovl L b0) x=.slice (some ⟨g,off,none⟩) m c) (ht:lk S.tab t=some ti) (htd:ti.d=.slice E) (he:lk S.tab E=some te) (hz1:te.zero.all Value.oneCell'=true) (hzs:Nat.beq te.zero.length te.size=true) (hpos:Nat.blt 0 te.size=true)
  (hfit:off+m*te.size<=cs.length) (k:∀ cs' w',cs'.length=cs.length->(∀ i,i<off->cs'[i]?=cs[i]?)->St w0 (cb g cs' T::G) w'->OW P n ops Q rest (ovl L b0) w'):OX P n ops Q o rest (ovl L b0) w:=by obtain⟨m',rfl⟩:∃ m',m=m'+1:=⟨m - 1,by omega⟩;exact OX.clear S H ho hd hx ht htd he hz1 hzs hpos hfit k
theorem Els.keep {cs cs':List Value}{size n i:Nat}{el:Nat->List Value}(h:Els cs size n el)(hi:i<=n)(hl:cs'.length=cs.length)(hk:∀ j,j<i*size->cs'[j]?=cs[j]?):Els cs' size i el:=by{
intro j hj;obtain⟨h1,h2⟩:=h j (by omega);refine⟨by omega,?_⟩;rw[<- h2];apply List.ext_getElem?;intro q;rw[List.getElem?_take,List.getElem?_drop,List.getElem?_take,List.getElem?_drop];have:(j+1)*size<=i*size:=Nat.mul_le_mul_right _ hj;rw[Nat.add_mul,Nat.one_mul] at this;split
.exact hk _ (by omega)
.rfl}
end
theorem zo {j:Nat}(h:0<j)(h2:j<9223372036854775808):(IntKind.i64.wrap ((j:Int) - 1)).toNat=j - 1:=by rw[w64 (by omega) (by omega)];omega
section
variable {P:Program}{n:Nw}{ops:Array Oper}{Q:zAM}{K:Env->World->Prop}{e:Env}{w:World}
theorem OW.app {a:Oper}{s t:List Oper}(h:OW P n ops Q (a::List.append s t) e w):OW P n ops Q (List.append (a::s) t) e w:=h
theorem OW.app0 {t:List Oper}(h:OW P n ops Q t e w):OW P n ops Q (List.append [] t) e w:=h
theorem QW.app {a:Oper}{s t:List Oper}(h:QW P n ops K (a::List.append s t) e w):QW P n ops K (List.append (a::s) t) e w:=h
theorem QW.app0 {t:List Oper}(h:QW P n ops K t e w):QW P n ops K (List.append [] t) e w:=h
end
attribute [irreducible] CW OW OX QW QX Yq RW RS RA
end Go.Sk
