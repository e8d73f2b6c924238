/- Steps of the proof. -/
import Derived.Deep.Slices
import Derived.ProofKit
import Derived.SizedLaws
import Derived.Test.YtejhijhnlogikaaGreatDoorMe01
set_option linter.all false
set_option maxHeartbeats 16000000
namespace Go.Sk
section
open Go Go.RowKit Go.ChangeShapes Go.WideShapes
section
variable {H:Type}{enc:TypeId × Value->H}{P:Program}
theorem Below.trodAll (hl:laidOutB P=true){W W':World}(hb:Below W.heap.size W W'):∀ {ts:List TypeId} {vs:List Value} {ds:List (DataW H)} {ps:List MemPlace},
  (ts.all fun t=>P.readableRec t&&decide (t<P.types.size))=true->DataW.TrodAll enc P W 0 (fun _=>true) true ts vs ds ps->(∀ x∈ps,x.block<W.heap.size) ->
  DataW.TrodAll enc P W' 0 (fun b=>decide (b<W.heap.size)) true ts vs ds ps
 | [],_,_,_,_,h,_=>by
   obtain⟨rfl,rfl,rfl⟩:=trodAll_nil h
   exact rfl
 | t::ts,_,_,_,hr,h,hlt=>by
   obtain⟨v,vs,d,ds,p,q,rfl,rfl,rfl,hd,hs⟩:=trodAll_cons h
   simp only[List.all_cons,yy3,decide_eq_true_eq] at hr
   exact⟨p,q,Below.trod hl hr.1.1 hr.1.2 hd hb (fun x hx=>hlt x (zz6 _ hx)),Below.trodAll hl hb hr.2 hs (fun x hx=>hlt x (zz3 _ hx)),rfl⟩
theorem zFO {fn:Func}{s:ChangeSpec}{apart:Bool}{W W':World}{args:Array Value}{ds gs:List (DataW H)}{before:List MemPlace}{tb:TypeId}
  (hl:laidOutB P=true) (hv:s.vars=[]) (hr:(fn.params.toList.all fun t=>P.readableRec t&&decide (t<P.types.size))=true)
  (hres:fn.resultTypes=#[tb]) (hb:P.underlying tb=some .bool) (hs:s.fn H ds={ results:=[.lit (.bool true)],args:=ds })
  (hW:DataW.Whole enc P fn.params.toList s.vars apart W args.toList ds gs before) (hc:Cl W W') :
  s.post enc P fn apart true false false W args (.bool true) W':=by{
have hlt:∀ x∈before,x.block<W.heap.size:=fun x hx=>by simpa using DataW.Whole.lt hW x hx
have hW':=hW;obtain⟨p,q,hA,hV,rfl,_,_⟩:=hW;rw[hv] at hV;obtain⟨rfl,rfl⟩:=trodVars_none hV;have e:s.fn H (ds++[])={ results:=[.lit (.bool true)],args:=ds }:=by rw[List.append_nil];exact hs
refine⟨ds,[],p++[],[],p,[],hW',?_,?_,?_,Below.frame hc.toBelow _,fun h=>by cases h⟩
.rw[e,hres];exact trodAll_mk1 (shut_bool hb true)
.rw[e];exact Below.trodAll hl hc.toBelow hr hA (fun x hx=>hlt x (zz6 _ hx))
.rw[e,hv];exact rfl}
end
theorem Sig.desc {P:Program}(S:Sig P){t:TypeId}{ti:TI}(h:lk S.tab t=some ti){d:TypeDesc}(hd:ti.d=d):P.underlying t=some d:=by subst hd;exact(zFJ h S.ok).1
theorem Sig.ncells {P:Program}(S:Sig P){t:TypeId}{ti:TI}(h:lk S.tab t=some ti){n:Nat}(hn:ti.size=n):P.cellsOf t=n:=by{
subst hn;have:=(zFJ h S.ok).2;unfold Program.cellsOf;cases hi:P.info? t with
| none=>rw[hi] at this;cases this
| some i=>rw[hi] at this;simp at this;simp[this.1]}
section
variable {H:Type}(enc:TypeId × Value->H)(P:Program)(w:World)
def Rd (t:TypeId)(cs:List Value):Prop:=∃ fuel y,DataW.trod enc P w 0 (fun _=>true) true fuel t cs=some y
def Parts:List TypeId->List Value->Prop
 | [],cs=>cs=[]
 | t::ts,cs=>Rd enc P w t (cs.take (P.cellsOf t))/\P.cellsOf t<=cs.length/\Parts ts (cs.drop (P.cellsOf t))
end
section
variable {H:Type}{enc:TypeId × Value->H}{P:Program}{w:World}
def zET (P:Program):List Field->Nat->Nat->Bool
 | [],o,n=>o==n
 | f::fs,o,n=>f.offset==o&&zET P fs (o+P.cellsOf f.type) n
theorem zMX {cs:List Value}:∀ (fs:List Field) (o:Nat),zET P fs o cs.length=true->(∀ f∈fs,Rd enc P w f.type ((cs.drop f.offset).take (P.cellsOf f.type)))->o<=cs.length/\Parts enc P w (fs.map (·.type)) (cs.drop o)
 | [],o,hp,_=>by
   have:o=cs.length:=by simpa [zET] using hp
   subst this
   exact⟨zzC _,by simp[Parts]⟩
 | f::fs,o,hp,h=>by
   simp only[zET,yy3,beq_iff_eq] at hp
   obtain⟨rfl,hp⟩:=hp
   obtain⟨h1,h2⟩:=zMX fs _ hp (fun g hg=>h g (zz4 _ hg))
   refine⟨by omega,h f (List.mem_cons_self ..),?_,?_⟩
   .show P.cellsOf f.type<=_;rw[List.length_drop];omega
   .rw[List.drop_drop];exact h2
theorem Rd.struct {t:TypeId}{fs:Array Field}{cs:List Value}(h:Rd enc P w t cs)(ht:P.underlying t=some (.struct fs))(hp:zET P fs.toList 0 (P.cellsOf t)=true):Parts enc P w (fs.toList.map (·.type)) cs:=by{
obtain⟨n,y,h⟩:=h;obtain⟨xs,m,_,_,hl,hx,hg⟩:=DataW.trod_struct ht h
have:=(zMX (enc:=enc) (w:=w) (cs:=cs) fs.toList 0 (by rw[hl];exact hp) (fun f hf=>by
 obtain⟨i,hi,rfl⟩:=List.mem_iff_getElem.1 hf;have hi':i<fs.size:=by simpa using hi
 refine⟨m,xs[i]'(by omega),?_⟩;rw[<- yy1]
 exact hg i _ (by simp[hi']))).2
simpa using this}
theorem Parts.nil {cs:List Value}(h:Parts enc P w [] cs):cs=[]:=h
theorem Rd.int {t:TypeId}{k:IntKind}{cs:List Value}(h:Rd enc P w t cs)(ht:P.underlying t=some (.int k)):∃ i,cs=[.int k i]/\(Lit.int k i).wf=true:=by obtain⟨n,y,h⟩:=h;obtain⟨i,h1,_,h2⟩:=DataW.trod_int ht h;exact⟨i,h1,h2⟩
theorem Rd.bool {t:TypeId}{cs:List Value}(h:Rd enc P w t cs)(ht:P.underlying t=some .bool):∃ i,cs=[.bool i]:=by obtain⟨n,y,h⟩:=h;obtain⟨i,h1,_⟩:=DataW.trod_bool ht h;exact⟨i,h1⟩
theorem Rd.string {t:TypeId}{cs:List Value}(h:Rd enc P w t cs)(ht:P.underlying t=some .string):∃ s:ByteArray,cs=[.string s]/\s.size<=maxLen:=by obtain⟨n,y,h⟩:=h;obtain⟨s,h1,_,h2⟩:=DataW.trod_string ht h;exact⟨s,h1,h2⟩
theorem zCr {cs:List Value}{v:Value}(h:cs.take 1=[v]):cs=v::cs.drop 1:=by{
cases cs with
| nil=>cases h
| cons a l=>simp at h;simp[h]}
theorem Parts.int {t:TypeId}{ts:List TypeId}{k:IntKind}{cs:List Value}(h:Parts enc P w (t::ts) cs)(ht:P.underlying t=some (.int k))(hc:P.cellsOf t=1):∃ i cs',cs=.int k i::cs'/\(Lit.int k i).wf=true/\Parts enc P w ts cs':=by obtain⟨h1,_,h3⟩:=h;obtain⟨i,e,hw⟩:=h1.int ht;rw[hc] at e h3;exact⟨i,_,zCr e,hw,h3⟩
theorem Parts.bool {t:TypeId}{ts:List TypeId}{cs:List Value}(h:Parts enc P w (t::ts) cs)(ht:P.underlying t=some .bool)(hc:P.cellsOf t=1):∃ i cs',cs=.bool i::cs'/\True/\Parts enc P w ts cs':=by obtain⟨h1,_,h3⟩:=h;obtain⟨i,e⟩:=h1.bool ht;rw[hc] at e h3;exact⟨i,_,zCr e,trivial,h3⟩
theorem Parts.string {t:TypeId}{ts:List TypeId}{cs:List Value}(h:Parts enc P w (t::ts) cs)(ht:P.underlying t=some .string)(hc:P.cellsOf t=1):∃ s cs',cs=.string s::cs'/\s.size<=maxLen/\Parts enc P w ts cs':=by obtain⟨h1,_,h3⟩:=h;obtain⟨i,e,hs⟩:=h1.string ht;rw[hc] at e h3;exact⟨i,_,zCr e,hs,h3⟩
theorem Parts.part {t:TypeId}{ts:List TypeId}{cs:List Value}(h:Parts enc P w (t::ts) cs):∃ c cs',cs=c++cs'/\c.length=P.cellsOf t/\Rd enc P w t c/\Parts enc P w ts cs' :=
 ⟨cs.take (P.cellsOf t),cs.drop (P.cellsOf t),(List.take_append_drop _ _).symm,by rw[List.length_take];exact Nat.min_eq_left h.2.1,h.1,h.2.2⟩
def zDD (w:World):zA:=(List.range w.heap.size).filterMap fun i=>(w.heap[i]?).map (i,·)
theorem zFP (w:World):Mem w (zDD w):=by rintro⟨i,o⟩ h;simp only[zDD,List.mem_filterMap,yy8,Option.map_eq_some_iff] at h;obtain⟨j,_,a,h1,h2⟩:=h;cases h2;exact h1
theorem zIw {w:World}{i:Nat}{o:Obj}(h:w.heap[i]?=some o):(i,o)∈zDD w:=by simp only[zDD,List.mem_filterMap,yy8,Option.map_eq_some_iff];exact⟨i,zCF h,o,h,rfl⟩
def SlRd (enc:TypeId × Value->H)(P:Program)(w:World)(e:TypeId)(size:Nat)(a:OA)(len cap:Nat):Prop :=
 len<=cap/\cap<=maxLen/\∃ b off cs T fr,SlB (zDD w) size a len b off cs T fr (fun j=>(cs.drop (off+j*size)).take size)/\∀ j,j<len->Rd enc P w e ((cs.drop (off+j*size)).take size)
theorem Rd.slice {t e:TypeId}{size:Nat}{cs:List Value}(h:Rd enc P w t cs)(ht:P.underlying t=some (.slice e))(hc:P.cellsOf e=size+1):∃ a len cap,cs=[.slice a len cap]/\SlRd enc P w e (size+1) a len cap:=by{
obtain⟨n,y,h⟩:=h;rcases Go.Deep.open_slice ht h with ⟨rfl,_⟩|⟨a,len,cap,m,k,D,Pl,rfl,_,hl,hm,hmm,_,hi⟩
.exact⟨none,0,0,rfl,zzC _,zzD _,0,0,[],0,(0,0),fun h=>absurd h (yyz _),fun j hj=>absurd hj (zzE _)⟩
.refine⟨some a,len,cap,rfl,hl,hm,?_⟩;rw[hc] at hi;have hlm:m=cap:=by simpa using hmm
 subst hlm;rcases yyn len with rfl|hp
 .exact⟨0,0,[],0,(0,0),fun h=>absurd h (yyz _),fun j hj=>absurd hj (zzE _)⟩
 obtain⟨ba,off,sp⟩:=a;obtain rfl:sp=none:=by obtain⟨cs',h1,_⟩:=hi 0 (by omega);obtain⟨_,h3,h4⟩:=World.cells?_some h1;have:=h4 0 (by omega);rw[yy1 (by omega),show((Addr.mk ba off sp).add (0*(size+1))).add 0=⟨ba,off,sp⟩ from by simp[Addr.add]] at this;exact World.cell?_spot this
 have key:∀ i,i<len->∃ cs',cs'.length=size+1/\(∀ q,q<size+1->w.cell? ⟨ba,off+i*(size+1)+q,none⟩=cs'[q]?)/\∃ y,DataW.trod enc P w 0 (fun _=>true) true k e cs'=some y:=by intro i hil;obtain⟨cs',h1,h2⟩:=hi i (by omega);obtain⟨_,h3,h4⟩:=World.cells?_some h1;exact⟨cs',h3,fun q hq=>by rw[<- h4 q hq,Go.Deep.add_add];exact congrArg w.cell? (by unfold Addr.add;split<;>simp only[*,Nat.add_assoc,Nat.add_zero]),_,h2⟩
 obtain⟨c0,l0,g0,_⟩:=key 0 hp;have g00:=g0 0 (by omega);rw[yy1 (by omega)] at g00;have hblk:∃ c T fr,w.heap[ba]?=some (.cells c T fr):=by
  unfold World.cell? at g00;split at g00
  .rename_i c T fr hh;exact⟨c,T,fr,hh⟩
  .cases g00
 obtain⟨c,T,fr,hblk⟩:=hblk;have cell:∀ q v,w.cell? ⟨ba,q,none⟩=some v->c.toList[q]?=some v:=by intro q v hv;unfold World.cell? at hv;simp only[hblk] at hv;simpa using hv
 have fit:∀ i,i<len->off+i*(size+1)+(size+1)<=c.toList.length/\∃ y,DataW.trod enc P w 0 (fun _=>true) true k e ((c.toList.drop (off+i*(size+1))).take (size+1))=some y:=by
  intro i hil;obtain⟨cs',h1,h2,h3⟩:=key i hil;have hlt:off+i*(size+1)+(size+1)<=c.toList.length:=by have:=h2 size (by omega);rw[yy1 (by omega)] at this;have:=(List.getElem?_eq_some_iff.1 (cell _ _ this)).1;omega
  refine⟨hlt,?_⟩;have:(c.toList.drop (off+i*(size+1))).take (size+1)=cs':=by
   apply List.ext_getElem?;intro q;rcases Nat.lt_or_ge q (size+1) with hq|hq
   .rw[List.getElem?_take_of_lt hq,yyr];have:=h2 q hq;rw[yy1 (by omega)] at this;rw[cell _ _ this,yy1 (by omega)]
   .rw[List.getElem?_eq_none (by rw[List.length_take];omega),List.getElem?_eq_none (by omega)]
  rw[this];exact h3
 exact⟨ba,off,c.toList,T,fr,fun _=>⟨rfl,zIw (by simpa using hblk),fun j hj=>⟨(fit j hj).1,rfl⟩⟩,fun j hj=>⟨k,(fit j hj).2⟩⟩}
theorem Parts.slice {t e:TypeId}{ts:List TypeId}{size:Nat}{cs:List Value}(h:Parts enc P w (t::ts) cs)(ht:P.underlying t=some (.slice e))(hc1:P.cellsOf t=1)(hc:P.cellsOf e=size+1) :
  ∃ a len cap cs',cs=.slice a len cap::cs'/\SlRd enc P w e (size+1) a len cap/\Parts enc P w ts cs':=by obtain⟨h1,_,h3⟩:=h;obtain⟨a,len,cap,e1,hs⟩:=h1.slice ht hc;rw[hc1] at e1 h3;exact⟨a,len,cap,_,zCr e1,hs,h3⟩
theorem SlRd.named {α:Type}[Inhabited α]{e:TypeId}{size:Nat}{a:OA}{len cap:Nat}(h:SlRd enc P w e size a len cap){el:α->List Value}(hel:∀ c,Rd enc P w e c->∃ x,c=el x) :
  ∃ l:List α,l.length=len/\(len<=140737488355328->SlA (zDD w) size a len cap (fun j=>el (l.getD j default))):=by{
obtain⟨h1,h2,b,off,cs,T,fr,h3,h4⟩:=h;obtain⟨X,hX⟩:=Go.Deep.choose_lt (p:=fun j x=>(cs.drop (off+j*size)).take size=el x) (fun j hj=>hel _ (h4 j hj));refine⟨(List.range len).map X,by simp,fun h5=>⟨h1,h5,b,off,cs,T,fr,fun h0=>⟨(h3 h0).1,(h3 h0).2.1,fun j hj=>⟨((h3 h0).2.2 j hj).1,?_⟩⟩⟩⟩;refine((h3 h0).2.2 j hj).2.trans ?_;show List.take size (List.drop (off+j*size) cs)=el _;rw[hX j hj]
congr 1
simp[List.getD,hj]}
end
theorem Rd.of {H:Type}{enc:TypeId × Value->H}{P:Program}{w:World}{t:TypeId}{v:Value}{d:DataW H}{ps:List MemPlace}(h:DataW.Trod enc P w 0 (fun _=>true) true t v d ps):Rd enc P w t v.cells.toList :=
 let ⟨f,h⟩:=h
 ⟨f,_,h⟩
end
section
open Go Go.RowKit Go.ChangeShapes Go.WideShapes
theorem Sig.nbytes {P:Program}(S:Sig P){t:TypeId}{ti:TI}(h:lk S.tab t=some ti){n:Nat}(hn:ti.bytes=n):P.bytesOf t=n:=by{
subst hn;have:=(zFJ h S.ok).2;unfold Program.bytesOf;cases hi:P.info? t with
| none=>rw[hi] at this;cases this
| some i=>rw[hi] at this;simp at this;simp[this.2.2]}
section
variable {H:Type}(enc:TypeId × Value->H)(P:Program)(w:World)
def Rz (t:TypeId)(cs:List Value):Prop:=∃ fuel y,DataW.trod enc P w 0 (fun _=>true) true fuel t cs=some y/\∀ n∈y.1.weights P t,n<=reachBytes
def Partz:List TypeId->List Value->Prop
 | [],cs=>cs=[]
 | t::ts,cs=>Rz enc P w t (cs.take (P.cellsOf t))/\P.cellsOf t<=cs.length/\Partz ts (cs.drop (P.cellsOf t))
end
section
variable {H:Type}{enc:TypeId × Value->H}{P:Program}{w:World}
theorem Rz.rd {t:TypeId}{cs:List Value}(h:Rz enc P w t cs):Rd enc P w t cs:=let ⟨f,y,h,_⟩:=h;⟨f,y,h⟩
theorem zMY {cs:List Value}:∀ (fs:List Field) (o:Nat),zET P fs o cs.length=true->(∀ f∈fs,Rz enc P w f.type ((cs.drop f.offset).take (P.cellsOf f.type)))->o<=cs.length/\Partz enc P w (fs.map (·.type)) (cs.drop o)
 | [],o,hp,_=>by
   have:o=cs.length:=by simpa [zET] using hp
   subst this
   exact⟨zzC _,by simp[Partz]⟩
 | f::fs,o,hp,h=>by
   simp only[zET,yy3,beq_iff_eq] at hp
   obtain⟨rfl,hp⟩:=hp
   obtain⟨h1,h2⟩:=zMY fs _ hp (fun g hg=>h g (zz4 _ hg))
   refine⟨by omega,h f (List.mem_cons_self ..),?_,?_⟩
   .show P.cellsOf f.type<=_;rw[List.length_drop];omega
   .rw[List.drop_drop];exact h2
theorem Rz.struct {t:TypeId}{fs:Array Field}{cs:List Value}(h:Rz enc P w t cs)(ht:P.underlying t=some (.struct fs))(hp:zET P fs.toList 0 (P.cellsOf t)=true):Partz enc P w (fs.toList.map (·.type)) cs:=by{
obtain⟨n,y,h,hz⟩:=h;obtain⟨xs,m,_,rfl,hl,hx,hg⟩:=DataW.trod_struct ht h
have:=(zMY (enc:=enc) (w:=w) (cs:=cs) fs.toList 0 (by rw[hl];exact hp) (fun f hf=>by
 obtain⟨i,hi,rfl⟩:=List.mem_iff_getElem.1 hf;have hi':i<fs.size:=by simpa using hi
 refine⟨m,xs[i]'(by omega),?_,fun q hq=>hz q ?_⟩
 .rw[<- yy1];exact hg i _ (by simp[hi'])
 .have hw:DataW.weights P t (.agg (xs.map (·.1)):DataW H)=DataW.weightsEach P (fs.toList.map (·.type)) (xs.map (·.1)):=by{simp only[DataW.weights,ht]};show q∈DataW.weights P t (.agg (xs.map (·.1)))
  rw[hw]
  exact DataW.weights_mem_each (j:=i) (by simp[hi']) (by simp[hx,hi']) q hq)).2
simpa using this}
theorem Partz.nil {cs:List Value}(h:Partz enc P w [] cs):cs=[]:=h
theorem Rz.string {t:TypeId}{cs:List Value}(h:Rz enc P w t cs)(ht:P.underlying t=some .string):∃ s:ByteArray,cs=[.string s]/\s.size<=140737488355328:=by
 obtain⟨n,y,h,hz⟩:=h;obtain⟨s,h1,rfl,h2⟩:=DataW.trod_string ht h;have:=hz s.data.toList.length (by simp[DataW.weights]);refine⟨s,h1,?_⟩;have e:s.data.toList.length=s.size:=by simp
 have:=reachBytes_lt;omega
theorem Partz.int {t:TypeId}{ts:List TypeId}{k:IntKind}{cs:List Value}(h:Partz enc P w (t::ts) cs)(ht:P.underlying t=some (.int k))(hc:P.cellsOf t=1):∃ i cs',cs=.int k i::cs'/\(Lit.int k i).wf=true/\Partz enc P w ts cs':=by obtain⟨h1,_,h3⟩:=h;obtain⟨i,e,hw⟩:=h1.rd.int ht;rw[hc] at e h3;exact⟨i,_,zCr e,hw,h3⟩
theorem Partz.bool {t:TypeId}{ts:List TypeId}{cs:List Value}(h:Partz enc P w (t::ts) cs)(ht:P.underlying t=some .bool)(hc:P.cellsOf t=1):∃ i cs',cs=.bool i::cs'/\True/\Partz enc P w ts cs':=by obtain⟨h1,_,h3⟩:=h;obtain⟨i,e⟩:=h1.rd.bool ht;rw[hc] at e h3;exact⟨i,_,zCr e,trivial,h3⟩
theorem Partz.string {t:TypeId}{ts:List TypeId}{cs:List Value}(h:Partz enc P w (t::ts) cs)(ht:P.underlying t=some .string)(hc:P.cellsOf t=1):∃ s cs',cs=.string s::cs'/\s.size<=140737488355328/\Partz enc P w ts cs':=by obtain⟨h1,_,h3⟩:=h;obtain⟨i,e,hs⟩:=h1.string ht;rw[hc] at e h3;exact⟨i,_,zCr e,hs,h3⟩
def SlRz (enc:TypeId × Value->H)(P:Program)(w:World)(e:TypeId)(size:Nat)(a:OA)(len cap:Nat):Prop :=
 len<=cap/\len<=140737488355328/\∃ b off cs T fr,SlB (zDD w) size a len b off cs T fr (fun j=>(cs.drop (off+j*size)).take size)/\∀ j,j<len->Rz enc P w e ((cs.drop (off+j*size)).take size)
theorem zMZ {e:TypeId}{l:List (DataW H)}{d:DataW H}(hd:d∈l):∀ n∈d.weights P e,n∈DataW.weightsAll P e l:=by{
induction l with
| nil=>cases hd
| cons x xs ih =>
  intro n hn;simp only[DataW.weightsAll,List.mem_append];rcases List.mem_cons.1 hd with rfl|hd
  .exact .inl hn
  .exact .inr (ih hd n hn)}
theorem Rz.slice {t e:TypeId}{size bs:Nat}{cs:List Value}(h:Rz enc P w t cs)(ht:P.underlying t=some (.slice e))(hc:P.cellsOf e=size+1)(hbs:P.bytesOf e=bs+1):∃ a len cap,cs=[.slice a len cap]/\SlRz enc P w e (size+1) a len cap:=by{
obtain⟨n,y,h,hz⟩:=h;rcases Go.Deep.open_slice ht h with ⟨rfl,_⟩|⟨a,len,cap,m,k,D,Pl,rfl,_,hl,hm,hmm,rfl,hi⟩
.exact⟨none,0,0,rfl,zzC _,zzD _,0,0,[],0,(0,0),fun h=>absurd h (yyz _),fun j hj=>absurd hj (zzE _)⟩
.have hlen:len<=140737488355328:=by have:=hz ((((List.range len).map D).length+((List.range (m - len)).map fun j=>D (len+j)).length)*P.bytesOf e) (by simp[DataW.weights,ht]);rw[hbs,yyp,List.length_range,Nat.mul_add] at this;have:=reachBytes_lt;omega
 have hzD:∀ i,i<len->∀ q∈(D i).weights P e,q<=reachBytes:=fun i hil q hq=>hz q (by
  simp only[DataW.weights,ht,List.mem_cons,List.mem_append]
  exact .inr (.inl (zMZ (List.mem_map.2 ⟨i,List.mem_range.2 hil,rfl⟩) q hq)))
 refine⟨some a,len,cap,rfl,hl,hlen,?_⟩;rw[hc] at hi;have hlm:m=cap:=by simpa using hmm
 subst hlm;rcases yyn len with rfl|hp
 .exact⟨0,0,[],0,(0,0),fun h=>absurd h (yyz _),fun j hj=>absurd hj (zzE _)⟩
 obtain⟨ba,off,sp⟩:=a;obtain rfl:sp=none:=by obtain⟨cs',h1,_⟩:=hi 0 (by omega);obtain⟨_,h3,h4⟩:=World.cells?_some h1;have:=h4 0 (by omega);rw[yy1 (by omega),show((Addr.mk ba off sp).add (0*(size+1))).add 0=⟨ba,off,sp⟩ from by simp[Addr.add]] at this;exact World.cell?_spot this
 have key:∀ i,i<len->∃ cs',cs'.length=size+1/\(∀ q,q<size+1->w.cell? ⟨ba,off+i*(size+1)+q,none⟩=cs'[q]?)/\∃ y,DataW.trod enc P w 0 (fun _=>true) true k e cs'=some y/\∀ q∈y.1.weights P e,q<=reachBytes:=by intro i hil;obtain⟨cs',h1,h2⟩:=hi i (by omega);obtain⟨_,h3,h4⟩:=World.cells?_some h1;exact⟨cs',h3,fun q hq=>by rw[<- h4 q hq,Go.Deep.add_add];exact congrArg w.cell? (by unfold Addr.add;split<;>simp only[*,Nat.add_assoc,Nat.add_zero]),_,h2,hzD i hil⟩
 obtain⟨c0,l0,g0,_⟩:=key 0 hp;have g00:=g0 0 (by omega);rw[yy1 (by omega)] at g00;have hblk:∃ c T fr,w.heap[ba]?=some (.cells c T fr):=by
  unfold World.cell? at g00;split at g00
  .rename_i c T fr hh;exact⟨c,T,fr,hh⟩
  .cases g00
 obtain⟨c,T,fr,hblk⟩:=hblk;have cell:∀ q v,w.cell? ⟨ba,q,none⟩=some v->c.toList[q]?=some v:=by intro q v hv;unfold World.cell? at hv;simp only[hblk] at hv;simpa using hv
 have fit:∀ i,i<len->off+i*(size+1)+(size+1)<=c.toList.length/\∃ y,DataW.trod enc P w 0 (fun _=>true) true k e ((c.toList.drop (off+i*(size+1))).take (size+1))=some y/\∀ q∈y.1.weights P e,q<=reachBytes:=by
  intro i hil;obtain⟨cs',h1,h2,h3⟩:=key i hil;have hlt:off+i*(size+1)+(size+1)<=c.toList.length:=by have:=h2 size (by omega);rw[yy1 (by omega)] at this;have:=(List.getElem?_eq_some_iff.1 (cell _ _ this)).1;omega
  refine⟨hlt,?_⟩;have:(c.toList.drop (off+i*(size+1))).take (size+1)=cs':=by
   apply List.ext_getElem?;intro q;rcases Nat.lt_or_ge q (size+1) with hq|hq
   .rw[List.getElem?_take_of_lt hq,yyr];have:=h2 q hq;rw[yy1 (by omega)] at this;rw[cell _ _ this,yy1 (by omega)]
   .rw[List.getElem?_eq_none (by rw[List.length_take];omega),List.getElem?_eq_none (by omega)]
  rw[this];exact h3
 exact⟨ba,off,c.toList,T,fr,fun _=>⟨rfl,zIw (by simpa using hblk),fun j hj=>⟨(fit j hj).1,rfl⟩⟩,fun j hj=>⟨k,(fit j hj).2⟩⟩}
theorem Partz.slice {t e:TypeId}{ts:List TypeId}{size bs:Nat}{cs:List Value}(h:Partz enc P w (t::ts) cs)(ht:P.underlying t=some (.slice e))(hc1:P.cellsOf t=1)(hc:P.cellsOf e=size+1)(hbs:P.bytesOf e=bs+1) :
  ∃ a len cap cs',cs=.slice a len cap::cs'/\SlRz enc P w e (size+1) a len cap/\Partz enc P w ts cs':=by obtain⟨h1,_,h3⟩:=h;obtain⟨a,len,cap,e1,hs⟩:=h1.slice ht hc hbs;rw[hc1] at e1 h3;exact⟨a,len,cap,_,zCr e1,hs,h3⟩
theorem SlRz.named {α:Type}[Inhabited α]{e:TypeId}{size:Nat}{a:OA}{len cap:Nat}(h:SlRz enc P w e size a len cap){el:α->List Value}{p:α->Prop}(hel:∀ c,Rz enc P w e c->∃ x,c=el x/\p x) :
  ∃ l:List α,l.length=len/\SlA (zDD w) size a len cap (fun j=>el (l.getD j default))/\∀ j,j<len->p (l.getD j default):=by
 obtain⟨h1,h2,b,off,cs,T,fr,h3,h4⟩:=h;obtain⟨X,hX⟩:=Go.Deep.choose_lt (p:=fun j x=>(cs.drop (off+j*size)).take size=el x/\p x) (fun j hj=>hel _ (h4 j hj));have hg:∀ j,j<len->((List.range len).map X).getD j default=X j:=fun j hj=>by simp[List.getD,hj]
 refine⟨(List.range len).map X,by simp,⟨h1,h2,b,off,cs,T,fr,fun h0=>⟨(h3 h0).1,(h3 h0).2.1,fun j hj=>⟨((h3 h0).2.2 j hj).1,?_⟩⟩⟩,fun j hj=>by rw[hg j hj];exact(hX j hj).2⟩;refine((h3 h0).2.2 j hj).2.trans ?_;show List.take size (List.drop (off+j*size) cs)=el _;rw[hg j hj];exact(hX j hj).1
end
theorem Rz.of {H:Type}{enc:TypeId × Value->H}{P:Program}{w:World}{t:TypeId}{v:Value}{d:DataW H}{ps:List MemPlace}(h:DataW.Trod enc P w 0 (fun _=>true) true t v d ps)(hz:∀ n∈d.weights P t,n<=reachBytes):Rz enc P w t v.cells.toList :=
 let ⟨f,h⟩:=h
 ⟨f,_,h,hz⟩
section
variable {H:Type}{enc:TypeId × Value->H}{P:Program}{w:World}{base:Nat}{spare:Nat->Bool}{held:Bool}
end
theorem zFQ {H:Type}{P:Program}{ts us:List TypeId}{ds gs:List (DataW H)}(h:(DataW.weightsEach P (ts++us) (ds++gs)).all (·<=reachBytes)=true){j:Nat}{t:TypeId}{d:DataW H}(ht:ts[j]?=some t)(hd:ds[j]?=some d):∀ n∈d.weights P t,n<=reachBytes:=by{
intro n hn;have h1:(ts++us)[j]?=some t:=by rw[yyl (List.getElem?_eq_some_iff.1 ht).1];exact ht
have h2:(ds++gs)[j]?=some d:=by rw[yyl (List.getElem?_eq_some_iff.1 hd).1];exact hd
simpa using List.all_eq_true.1 h _ (DataW.weights_mem_each h1 h2 n hn)}
end
section
open Go Go.RowKit
attribute [local semireducible] OX OW QX QW RA
theorem u64_id {x:Int}(h0:0<=x)(h1:x<18446744073709551616):IntKind.u64.wrap x=x:=by simp[IntKind.wrap,IntKind.bits,IntKind.signed];omega
theorem Mem.sub {w:World}{F G:zA}(h:Mem w G)(hs:F⊆G):Mem w F:=fun p hp=>h p (hs hp)
section
variable {P:Program}{n:Nw}{ops:Array Oper}{Q:zAM}{o:Oper}{rest:List Oper}{L:List (Nat × Value)}{b0:Env}{w:World}(S:Sig P)
theorem OX.storeX {w0:World}{G G':zA}{t:TypeId}{x y:Operand}{v:Value}{cs vs:List Value}{b off:Nat}{T:TypeId}{ti:TI}(H:St w0 G w)(ho:o.op=.store t x y)(hd:o.dst=none)
  (hx:ev (ovl L b0) x=.pointer (some ⟨b,off,none⟩)) (hy:ev (ovl L b0) y=v) (hv:v.cells=vs.toArray) (ht:lk S.tab t=some ti)
  (hsz:vs.length=ti.size) (hu:Up b (.cells cs.toArray T (0,0)) (.cells (wr cs off vs).toArray T (0,0)) G G') (hfit:off+vs.length<=cs.length) (h1:∀ u∈vs,u.oneCell'=true)
  (k:∀ w',St w0 G' w'->OW P n ops Q rest (ovl L b0) w'):OX P n ops Q o rest (ovl L b0) w:=by{
intro a ha;unfold Oper.wp;rw[ha.eval];have hg:=H.mem _ hu.mem;have hst:=run_storeCells_at P b off T vs 0 cs.toArray w hg (by simpa using hfit) h1;simp only[Nat.add_zero] at hst;have hsz':v.cells.size=ti.size:=by rw[hv];simpa using hsz
have hl:v.cells.toList=vs:=by rw[hv]
simp only[execOp,ho,Instr.storeAt,hx,hy,Instr.sureAddr,storeVar,Sem.run_bind,Sem.run_pure,Result.andThen_ok,S.run_size ht,hsz',ne_eq,not_true,if_false,hl,hst,Oper.upon_skip,hd];exact k _ (H.row hu) _ ha}
theorem Yq.rem {e:Env}{t yT:TypeId}{x y:Operand}{k:IntKind}{p q:Int}(ho:o.op=.binOp .rem t x y yT)(hx:ev e x=.int k p)(hy:ev e y=.int k q)(hq:q≠0):Yq P o e w (.int k (p.tmod q)):=by refine Yq.of fun w'=>?_;simp[execOp,ho,hx,hy,eqGuard,binOp,Op.intDiv,hq]
theorem Yq.quo {e:Env}{t yT:TypeId}{x y:Operand}{k:IntKind}{p q:Int}(ho:o.op=.binOp .quo t x y yT)(hx:ev e x=.int k p)(hy:ev e y=.int k q)(hq:q≠0):Yq P o e w (.int k (k.wrap (p.tdiv q))):=by refine Yq.of fun w'=>?_;simp[execOp,ho,hx,hy,eqGuard,binOp,Op.intDiv,hq]
end
theorem RA.c3 {n:Nw}{P:Program}{Q:zAM}{e:Env}{w:World}{l:List Oper}{s:Array Bool}{m:Nat}(i j k:Nat){o o' o'':Oper}{m':Nat}(hm:m'=m+1)(hB:(Region.ready .any l.toArray s==[i,j,k])=true)(ho:l[i]?=some o)(ho':l[j]?=some o')(ho'':l[k]?=some o'')
  (h:OW P n l.toArray (thn (fun e' w'=>RA P n l (s.setIfInBounds i true) m Q e' w') (fun _ _ _=>False)) [o] e w)
  (h':OW P n l.toArray (thn (fun e' w'=>RA P n l (s.setIfInBounds j true) m Q e' w') (fun _ _ _=>False)) [o'] e w)
  (h'':OW P n l.toArray (thn (fun e' w'=>RA P n l (s.setIfInBounds k true) m Q e' w') (fun _ _ _=>False)) [o''] e w):RA P n l s m' Q e w:=by{
subst hm;intro a ha;refine wpAny_all (rs:=[i,j,k]) (by simpa using hB) (by simp) (fun q hk=>?_);simp only[List.mem_cons,List.not_mem_nil,or_false] at hk;rcases hk with rfl|rfl|rfl
.exact zBI ho (fun a e w hf hk=>hk a hf) h a ha
.exact zBI ho' (fun a e w hf hk=>hk a hf) h' a ha
.exact zBI ho'' (fun a e w hf hk=>hk a hf) h'' a ha}
theorem CW.mid {P:Program}{n:Nw}{Q:zAM}{K:Env->World->Prop}{L:List (Nat × Value)}{b:Env}{w:World}{ι:Type}{c:Code}(W:List (Nat × Nat))(val:ι->List (Nat × Value))(J:ι->World->Prop)
  (h1:∀ g,CW P n c (thn (Again W (ovl L b) val J (fun _=>0) 1) Q) (ovl [] (msk W g (ovl L b))) w) (h2:∀ x g w,J x w->K (ovl (val x) (msk W g (ovl L b))) w):CW P n c (thn K Q) (ovl L b) w:=by{
have h:=h1 (ovl L b);rw[zIv (fun _ _=>rfl)] at h;refine CW.mono (fun x e w hq=>?_) h;cases x with
| normal =>
  obtain⟨x',hk,hv,hJ,_⟩:=hq;have he:ovl (val x') (msk W e (ovl L b))=e:=by{rw[zIv hk,zIu hv]};have:=h2 x' e w hJ
  rw[he] at this;exact this
| _=>exact hq}
theorem zGm {cs vs:List Value}{size n k f:Nat}{el:Nat->List Value}(h:Els cs size n el)(hk:k<n)(hv:f+vs.length<=size):Els (wr cs (k*size+f) vs) size n (fun j=>if j=k then wr (el k) f vs else el j):=by{
intro j hj;have hk1:=(h k hk).1;have hke:=(h k hk).2;obtain⟨h1,h2⟩:=h j hj;refine⟨by rw[zCC (by omega)];exact h1,?_⟩;have hek:(el k).length=size:=by rw[<- hke,List.length_take,List.length_drop];omega
apply List.ext_getElem?;intro i;rw[List.getElem?_take,yyr,zFN (by omega)];have hlt:j≠k->i<size->¬ (k*size+f<=j*size+i/\j*size+i<k*size+f+vs.length):=by
 intro hne h3 ⟨h4,h5⟩;rcases Nat.lt_or_gt_of_ne hne with h6|h6
 .have:(j+1)*size<=k*size:=Nat.mul_le_mul_right _ h6;rw[Nat.add_mul,Nat.one_mul] at this;omega
 .have:(k+1)*size<=j*size:=Nat.mul_le_mul_right _ h6;rw[Nat.add_mul,Nat.one_mul] at this;omega
by_cases hjk:j=k
.subst hjk;show _=(if j=j then wr (el j) f vs else el j)[i]?;rw[if_pos (rfl:j=j),zFN (by omega)];by_cases hi:i<size
 .rw[if_pos hi];by_cases h5:f<=i/\i<f+vs.length
  .rw[if_pos h5,if_pos (by omega)];congr 1;omega
  .rw[if_neg h5,if_neg (by omega),<- h2,List.getElem?_take,if_pos hi,yyr]
 .rw[if_neg hi,if_neg (by omega),List.getElem?_eq_none (by omega)]
.show _=(if j=k then wr (el k) f vs else el j)[i]?;rw[if_neg hjk,<- h2,List.getElem?_take,yyr];by_cases hi:i<size
 .rw[if_pos hi,if_pos hi,if_neg (hlt hjk hi)]
 .rw[if_neg hi,if_neg hi]}
end
section
open Go Go.RowKit
section
variable {P:Program}{n:Nw}{ops:Array Oper}{Q:zAM}{K:Env->World->Prop}{o:Oper}{rest:List Oper}{L:List (Nat × Value)}{b:Env}{e:Env}{w:World}(S:Sig P)
theorem y1 {d:Nat}{v:Value}(k:OW P n ops Q rest (ovl ((d,v)::L) b) w)(hg:o.guard=none:=by exact rfl)(hd:o.dst=some d:=by exact rfl)(hlt:Nat.blt d n.n=true:=by exact rfl)(h:pvn S.tab (ovl L b) o.op=some v:=by exact rfl):OW P n ops Q (o::rest) (ovl L b) w:=OW.p S hg hd hlt h k
theorem y2 {d:Nat}{v:Value}(k:QW P n ops K rest (ovl ((d,v)::L) b) w)(hg:o.guard=none:=by exact rfl)(hd:o.dst=some d:=by exact rfl)(hlt:Nat.blt d n.n=true:=by exact rfl)(h:pvn S.tab (ovl L b) o.op=some v:=by exact rfl):QW P n ops K (o::rest) (ovl L b) w:=QW.p S hg hd hlt h k
theorem y3 (h:OX P n ops Q o rest e w)(hg:o.guard=none:=by exact rfl):OW P n ops Q (o::rest) e w:=OW.go hg h
theorem y4 (h:QX P n ops K o rest e w)(hg:o.guard=none:=by exact rfl):QW P n ops K (o::rest) e w:=QW.go hg h
theorem y5 {d:Nat}{v:Value}(k:OW P n ops Q rest (ovl ((d,v)::L) b) w)(hd:o.dst=some d:=by exact rfl)(hlt:Nat.blt d n.n=true:=by exact rfl)(h:pvn S.tab (ovl L b) o.op=some v:=by exact rfl):OX P n ops Q o rest (ovl L b) w:=OX.pure S hd hlt h k
theorem y6 {d:Nat}{v:Value}(k:QW P n ops K rest (ovl ((d,v)::L) b) w)(hd:o.dst=some d:=by exact rfl)(hlt:Nat.blt d n.n=true:=by exact rfl)(h:pvn S.tab (ovl L b) o.op=some v:=by exact rfl):QX P n ops K o rest (ovl L b) w:=QX.pure S hd hlt h k
theorem y7 {w0:World}{M:zA}(H:St w0 M w){d:Nat}{v:Value}{t:TypeId}{x:Operand}{b' off:Nat}{cs:List Value}{T:TypeId}{fr:Nat × Nat}{ti:TI}(k:OW P n ops Q rest (ovl ((d,v)::L) b) w)
  (hd:o.dst=some d:=by exact rfl) (hlt:Nat.blt d n.n=true:=by exact rfl) (ho:o.op=.load t x:=by exact rfl) (hx:ev (ovl L b) x=.pointer (some ⟨b',off,none⟩):=by exact rfl)
  (hm:(b',Obj.cells cs.toArray T fr)∈M:=by repeat (first|exact zz2 _|apply zz5)) (ht:lk S.tab t=some ti:=by exact rfl) (hl:ldS ti cs off=some v:=by exact rfl):OX P n ops Q o rest (ovl L b) w :=
 za hd hlt (zF S ho hx H.mem hm ht hl) k
theorem y8 {w0:World}{M:zA}(H:St w0 M w){d:Nat}{v:Value}{t:TypeId}{x:Operand}{b' off:Nat}{cs:List Value}{T:TypeId}{fr:Nat × Nat}{ti:TI}(k:QW P n ops K rest (ovl ((d,v)::L) b) w)
  (hd:o.dst=some d:=by exact rfl) (hlt:Nat.blt d n.n=true:=by exact rfl) (ho:o.op=.load t x:=by exact rfl) (hx:ev (ovl L b) x=.pointer (some ⟨b',off,none⟩):=by exact rfl)
  (hm:(b',Obj.cells cs.toArray T fr)∈M:=by repeat (first|exact zz2 _|apply zz5)) (ht:lk S.tab t=some ti:=by exact rfl) (hl:ldS ti cs off=some v:=by exact rfl):QX P n ops K o rest (ovl L b) w :=
 zAp hd hlt (zF S ho hx H.mem hm ht hl) k
theorem y9 {w0:World}{G:zA}{t:TypeId}{x:Operand}{v:Value}{cs:List Value}{d:Nat}(H:St w0 G w)(k:∀ b' w',St w0 (cb b' cs t::G) w'->OW P n ops Q rest (ovl ((d,.pointer (some ⟨b',0,none⟩))::L) b) w')
  (ho:o.op=.box t x:=by exact rfl) (hd:o.dst=some d:=by exact rfl) (hlt:Nat.blt d n.n=true:=by exact rfl) (hx:nf (ev (ovl L b) x)=some v:=by exact rfl) (hc0:nfL v.cells.toList=some cs:=by exact rfl):OX P n ops Q o rest (ovl L b) w :=
 OX.box H ho hd hlt hx hc0 fun b' w' h _=>k b' w' h
theorem y10 {w0:World}{G:zA}{t:TypeId}{ti:TI}{z:List Value}{d:Nat}(H:St w0 G w)(k:∀ b' w',St w0 (cb b' z t::G) w'->OW P n ops Q rest (ovl ((d,.pointer (some ⟨b',0,none⟩))::L) b) w')
  (ho:o.op=.alloc t:=by exact rfl) (hd:o.dst=some d:=by exact rfl) (hlt:Nat.blt d n.n=true:=by exact rfl) (ht:lk S.tab t=some ti:=by exact rfl) (hz:nfL ti.zero=some z:=by exact rfl):OX P n ops Q o rest (ovl L b) w :=
 OX.alloc S H ho hd hlt ht hz fun b' w' h _=>k b' w' h
theorem y11 {w0:World}{G G':zA}{t:TypeId}{x y:Operand}{v:Value}{cs vs cs':List Value}{b' off:Nat}{T:TypeId}{ti:TI}(H:St w0 G w)(k:∀ w',St w0 G' w'->OW P n ops Q rest (ovl L b) w')(ho:o.op=.store t x y:=by exact rfl)(hd:o.dst=none:=by exact rfl)
  (hx:ev (ovl L b) x=.pointer (some ⟨b',off,none⟩):=by exact rfl) (hy:nf (ev (ovl L b) y)=some v:=by exact rfl) (hc0:nfL v.cells.toList=some vs:=by exact rfl) (ht:lk S.tab t=some ti:=by exact rfl)
  (hu:Up b' (.cells cs.toArray T (0,0)) (.cells cs'.toArray T (0,0)) G G':=by repeat (first|exact Up.here|apply Up.there)) (hw:nfL (wr cs off vs)=some cs':=by exact rfl) (hsz:Nat.beq vs.length ti.size=true:=by exact rfl) (hfit:Nat.ble (off+vs.length) cs.length=true:=by exact rfl) (h1:vs.all Value.oneCell'=true:=by exact rfl):OX P n ops Q o rest (ovl L b) w :=
 OX.store S H ho hd hx hy hc0 ht hu hw hsz hfit h1 k
theorem y13 {j d:Nat}{want:Bool}(h:OX P n ops Q o rest e w)(hg:o.guard=some (j,want):=by exact rfl)(hj:(ops[j]?).bind (·.dst)=some d:=by exact rfl)(hv:gd (e d) want=some true:=by exact rfl):OW P n ops Q (o::rest) e w:=OW.gY hg hj hv h
theorem y14 {j d dd:Nat}{want:Bool}(h:OW P n ops Q rest (ovl ((dd,undef)::L) b) w)(hg:o.guard=some (j,want):=by exact rfl)(hj:(ops[j]?).bind (·.dst)=some d:=by exact rfl)(hv:gd (ovl L b d) want=some false:=by exact rfl)(hd:o.dst=some dd:=by exact rfl)(hlt:Nat.blt dd n.n=true:=by exact rfl):OW P n ops Q (o::rest) (ovl L b) w:=OW.gN hg hj hv hd hlt h
theorem y15 {j d:Nat}{want:Bool}(h:QX P n ops K o rest e w)(hg:o.guard=some (j,want):=by exact rfl)(hj:(ops[j]?).bind (·.dst)=some d:=by exact rfl)(hv:gd (e d) want=some true:=by exact rfl):QW P n ops K (o::rest) e w:=QW.gY hg hj hv h
theorem y16 {j d dd:Nat}{want:Bool}(h:QW P n ops K rest (ovl ((dd,undef)::L) b) w)(hg:o.guard=some (j,want):=by exact rfl)(hj:(ops[j]?).bind (·.dst)=some d:=by exact rfl)(hv:gd (ovl L b d) want=some false:=by exact rfl)(hd:o.dst=some dd:=by exact rfl)(hlt:Nat.blt dd n.n=true:=by exact rfl):QW P n ops K (o::rest) (ovl L b) w:=QW.gN hg hj hv hd hlt h
theorem y17 {j d:Nat}{want t:Bool}(hT:t=true->OW P n ops Q (o::rest) (ovl ((d,.bool true)::L) b) w)(hF:t=false->OW P n ops Q (o::rest) (ovl ((d,.bool false)::L) b) w)(hg:o.guard=some (j,want):=by exact rfl)(hj:(ops[j]?).bind (·.dst)=some d:=by exact rfl)(hv:ovl L b d=.bool t:=by exact rfl):OW P n ops Q (o::rest) (ovl L b) w:=OW.gS hg hj hv hT hF
theorem y18 {j d:Nat}{want t:Bool}(hT:t=true->QW P n ops K (o::rest) (ovl ((d,.bool true)::L) b) w)(hF:t=false->QW P n ops K (o::rest) (ovl ((d,.bool false)::L) b) w)(hg:o.guard=some (j,want):=by exact rfl)(hj:(ops[j]?).bind (·.dst)=some d:=by exact rfl)(hv:ovl L b d=.bool t:=by exact rfl):QW P n ops K (o::rest) (ovl L b) w:=QW.gS hg hj hv hT hF
theorem y19 {l:List Oper}{k:Nat}{o:Oper}(h:OW P n l.toArray (thn (fun e' w'=>RW P n l (k+1) Q e' w') Q) [o] e w)(ho:l[k]?=some o:=by exact rfl)(hB:(zDw l.toArray k k&&zDw l.toArray k (k+1))=true:=by decide +kernel):RW P n l k Q e w:=RW.one ho hB h
theorem y12 {l:List Oper}{k:Nat}(h:Q .normal e w)(hk:Nat.ble l.length k=true:=by exact rfl):RW P n l k Q e w:=RW.nil hk h
theorem y20 {id:Nat}{l:List Oper}(hm:P.follows .mixedOrders=true)(h:QW P n l.toArray (fun e' w'=>Q .normal e' w') l e w)(hB:Region.lexB .any l.toArray=true:=by decide +kernel)(hnd:zCq l=true:=by exact rfl):CW P n (.region id l.toArray true) Q e w:=CW.regionD hm hB h hnd
theorem y21 {c:Operand}{x y:Code}(h:CW P n x Q e w)(hc:ev e c=.bool true:=by exact rfl):CW P n (.cond c x y) Q e w:=CW.condT hc h
theorem y22 {c:Operand}{x y:Code}(h:CW P n y Q e w)(hc:ev e c=.bool false:=by exact rfl):CW P n (.cond c x y) Q e w:=CW.condF hc h
theorem y23 {c:Operand}{x y:Code}{t:Bool}(ht:t=true->CW P n x Q e w)(hf:t=false->CW P n y Q e w)(hc:ev e c=.bool t:=by exact rfl):CW P n (.cond c x y) Q e w:=zB hc ht hf
theorem y24 {i id:Nat}(h:Q .normal e w)(hi:Nat.beq i id=true:=by exact rfl):blk id Q (.exit i) e w:=blk_e1 hi h
theorem y25 {i id:Nat}(h:Q (.exit i) e w)(hi:Nat.beq i id=false:=by exact rfl):blk id Q (.exit i) e w:=blk_e0 hi h
theorem y30 {d:Nat}{v:Value}{f:FuncId}{l:List Value}{as0:Array Operand}{ts:Array TypeId}(hent:Ent P f)(hc:Calls P f l.toArray w (Ret v w))(k:∀ w',Cl w w'->OW P n ops Q rest (ovl ((d,v)::L) b) w')
  (hd:o.dst=some d:=by exact rfl) (hlt:Nat.blt d n.n=true:=by exact rfl) (ho:o.op=.call { callee:=.value (.func f),args:=as0,argTypes:=ts }:=by exact rfl) (hl:evS (ovl L b) as0.toList=some l:=by exact rfl):OX P n ops Q o rest (ovl L b) w :=
 OX.call hd hlt (En.fn hent ho hl) hc k
theorem y31 {d:Nat}{v:Value}{f:FuncId}{l:List Value}{as0:Array Operand}{ts:Array TypeId}(hent:Ent P f)(hc:∀ w',Cl w w'->Calls P f l.toArray w' (Ret v w'))(k:QW P n ops K rest (ovl ((d,v)::L) b) w)
  (hd:o.dst=some d:=by exact rfl) (hlt:Nat.blt d n.n=true:=by exact rfl) (ho:o.op=.call { callee:=.value (.func f),args:=as0,argTypes:=ts }:=by exact rfl) (hl:evS (ovl L b) as0.toList=some l:=by exact rfl):QX P n ops K o rest (ovl L b) w :=
 QX.call hd hlt (En.fn hent ho hl) hc k
theorem y33 {w0:World}{R:zA->Value->Prop}{d:Nat}{f:FuncId}{l:List Value}{as0:Array Operand}{ts:Array TypeId}(hent:Ent P f)(hc:Calls P f l.toArray w (zZ R w0))(k:∀ v M w',R M v->St w0 M w'->OW P n ops Q rest (ovl ((d,v)::L) b) w')
  (hd:o.dst=some d:=by exact rfl) (hlt:Nat.blt d n.n=true:=by exact rfl) (ho:o.op=.call { callee:=.value (.func f),args:=as0,argTypes:=ts }:=by exact rfl) (hl:evS (ovl L b) as0.toList=some l:=by exact rfl):OX P n ops Q o rest (ovl L b) w :=
 zW hd hlt (En.fn hent ho hl) hc k
theorem y34 {d:Nat}{v:Value}{f:FuncId}{l:List Value}{x:Operand}{as0:Array Operand}{ts:Array TypeId}{first caps m:List Value}(hent:Ent P f)(hc:Calls P f m.toArray w (Ret v w))(k:∀ w',Cl w w'->OW P n ops Q rest (ovl ((d,v)::L) b) w')
  (hd:o.dst=some d:=by exact rfl) (hlt:Nat.blt d n.n=true:=by exact rfl) (ho:o.op=.call { callee:=.value x,args:=as0,argTypes:=ts }:=by exact rfl) (hx:ev (ovl L b) x=.func (.func f) first.toArray caps.toArray:=by exact rfl) (hl:evS (ovl L b) as0.toList=some l:=by exact rfl) (hm:nfL (first++l++caps)=some m:=by exact rfl):OX P n ops Q o rest (ovl L b) w :=
 OX.call hd hlt (En.clo hent ho hx hl hm) hc k
theorem y35 {d:Nat}{v:Value}{f:FuncId}{l:List Value}{x:Operand}{as0:Array Operand}{ts:Array TypeId}{first caps m:List Value}(hent:Ent P f)(hc:∀ w',Cl w w'->Calls P f m.toArray w' (Ret v w'))(k:QW P n ops K rest (ovl ((d,v)::L) b) w)
  (hd:o.dst=some d:=by exact rfl) (hlt:Nat.blt d n.n=true:=by exact rfl) (ho:o.op=.call { callee:=.value x,args:=as0,argTypes:=ts }:=by exact rfl) (hx:ev (ovl L b) x=.func (.func f) first.toArray caps.toArray:=by exact rfl) (hl:evS (ovl L b) as0.toList=some l:=by exact rfl) (hm:nfL (first++l++caps)=some m:=by exact rfl):QX P n ops K o rest (ovl L b) w :=
 QX.call hd hlt (En.clo hent ho hx hl hm) hc k
theorem y40 {F:zA}{size:Nat}{a:OA}{m b' off:Nat}{cs:List Value}{T:TypeId}{fr:Nat × Nat}{el:Nat->List Value}{d:Nat}{t E:TypeId}{x i:Operand}{cap j:Nat}{k:IntKind}{q:Int}{ti te:TI}(hs:SlB F size a m b' off cs T fr el)
  (h0:0<=q) (h1:q<m) (kk:OW P n ops Q rest (ovl ((d,.pointer (some ⟨b',off+j*size,none⟩))::L) b) w)
  (hd:o.dst=some d:=by exact rfl) (hlt:Nat.blt d n.n=true:=by exact rfl) (ho:o.op=.indexAddr t x i:=by exact rfl) (hx:ev (ovl L b) x=.slice a m cap:=by exact rfl) (hi:ev (ovl L b) i=.int k q:=by exact rfl) (ht:lk S.tab t=some ti:=by exact rfl) (htd:ti.d=.slice E:=by exact rfl) (he:lk S.tab E=some te:=by exact rfl) (hsz:te.size=size:=by exact rfl) (hj:q.toNat=j:=by first|with_reducible exact zz1 _|exact zo (by omega) (by omega)|with_reducible exact zAm|exact zn _):OX P n ops Q o rest (ovl L b) w :=
 za hd hlt (zAO S hs ho hx hi ht htd he hsz hj h0 h1) kk
theorem y41 {F:zA}{size:Nat}{a:OA}{m b' off:Nat}{cs:List Value}{T:TypeId}{fr:Nat × Nat}{el:Nat->List Value}{d:Nat}{t E:TypeId}{x i:Operand}{cap j:Nat}{k:IntKind}{q:Int}{ti te:TI}(hs:SlB F size a m b' off cs T fr el)
  (h0:0<=q) (h1:q<m) (kk:QW P n ops K rest (ovl ((d,.pointer (some ⟨b',off+j*size,none⟩))::L) b) w)
  (hd:o.dst=some d:=by exact rfl) (hlt:Nat.blt d n.n=true:=by exact rfl) (ho:o.op=.indexAddr t x i:=by exact rfl) (hx:ev (ovl L b) x=.slice a m cap:=by exact rfl) (hi:ev (ovl L b) i=.int k q:=by exact rfl) (ht:lk S.tab t=some ti:=by exact rfl) (htd:ti.d=.slice E:=by exact rfl) (he:lk S.tab E=some te:=by exact rfl) (hsz:te.size=size:=by exact rfl) (hj:q.toNat=j:=by first|with_reducible exact zz1 _|exact zo (by omega) (by omega)|with_reducible exact zAm|exact zn _):QX P n ops K o rest (ovl L b) w :=
 zAp hd hlt (zAO S hs ho hx hi ht htd he hsz hj h0 h1) kk
theorem zJ {F:zA}{size:Nat}{a:OA}{m b' off:Nat}{cs:List Value}{T:TypeId}{fr:Nat × Nat}{el:Nat->List Value}{t E:TypeId}{x i:Operand}{cap j:Nat}{k:IntKind}{q:Int}{ti te:TI}(hs:SlB F size a m b' off cs T fr el)
  (ho:o.op=.indexAddr t x i:=by exact rfl) (hx:ev e x=.slice a m cap:=by exact rfl) (hi:ev e i=.int k q:=by exact rfl) (ht:lk S.tab t=some ti:=by exact rfl) (htd:ti.d=.slice E:=by exact rfl) (he:lk S.tab E=some te:=by exact rfl) (hsz:te.size=size:=by exact rfl) (hj:q.toNat=j:=by first|with_reducible exact zz1 _|exact zo (by omega) (by omega)|with_reducible exact zAm|exact zn _) (h0:0<=q:=by omega) (h1:q<m:=by omega):Yq P o e w (.pointer (some ⟨b',off+j*size,none⟩)) :=
 zAO S hs ho hx hi ht htd he hsz hj h0 h1
theorem wQ {w0:World}{M:zA}{A:World->Prop}(H:St w0 M w)(k:∀ w',St w0 M w'->A w'):∀ w',Cl w w'->A w':=fun w' h=>k w' (H.ext h)
theorem zQ {F F0:zA}{size:Nat}{a:OA}{m b' off:Nat}{cs:List Value}{T:TypeId}{fr:Nat × Nat}{el:Nat->List Value}{t E:TypeId}{x i:Operand}{cap j:Nat}{k:IntKind}{q:Int}{ti te:TI}(hs:SlB F size a m b' off cs T fr el)
  (ho:o.op=.indexAddr t x i:=by exact rfl) (hx:ev e x=.slice a m cap:=by exact rfl) (hi:ev e i=.int k q:=by exact rfl) (ht:lk S.tab t=some ti:=by exact rfl) (htd:ti.d=.slice E:=by exact rfl) (he:lk S.tab E=some te:=by exact rfl) (hsz:te.size=size:=by exact rfl) (hj:q.toNat=j:=by first|with_reducible exact zz1 _|exact zo (by omega) (by omega)|with_reducible exact zAm|exact zn _) (h0:0<=q:=by omega) (h1:q<m:=by omega):∀ w,Mem w F0->Yq P o e w (.pointer (some ⟨b',off+j*size,none⟩)) :=
 fun _ _=>zAO S hs ho hx hi ht htd he hsz hj h0 h1
theorem zK {F:zA}{a:OA}{m b' off:Nat}{cs:List Value}{T:TypeId}{fr:Nat × Nat}{el:Nat->List Value}{t:TypeId}{x:Operand}{j:Nat}{ti:TI}{v:Value}(hs:SlB F 1 a m b' off cs T fr el)(hj:j<m)(ho:o.op=.load t x:=by exact rfl)(hx:ev e x=.pointer (some ⟨b',off+j*1,none⟩):=by exact rfl)
  (ht:lk S.tab t=some ti:=by exact rfl) (hag:zBP ti.d=false:=by exact rfl) (hv:(match (el j)[0]? with|some v=>nf v|none=>none)=some v:=by exact rfl):∀ w,Mem w F->Yq P o e w v:=fun _ hM=>Yq.loadB1 S hs hM ho hx ht hag hj hv
theorem y42 {F:zA}{size:Nat}{a:OA}{m b' off:Nat}{cs:List Value}{T:TypeId}{fr:Nat × Nat}{el:Nat->List Value}{d:Nat}{t:TypeId}{x:Operand}{j:Nat}{ti:TI}(hs:SlB F size a m b' off cs T fr el)(hM:Mem w F)(hj:j<m)
  (kk:OW P n ops Q rest (ovl ((d,.agg (el j).toArray)::L) b) w) (hd:o.dst=some d:=by exact rfl) (hlt:Nat.blt d n.n=true:=by exact rfl) (ho:o.op=.load t x:=by exact rfl) (hx:ev (ovl L b) x=.pointer (some ⟨b',off+j*size,none⟩):=by exact rfl) (ht:lk S.tab t=some ti:=by exact rfl) (hag:zBP ti.d=true:=by exact rfl) (hsz:ti.size=size:=by exact rfl):OX P n ops Q o rest (ovl L b) w :=
 za hd hlt (zA7 S hs hM ho hx ht hag hsz hj) kk
theorem y43 {F:zA}{size:Nat}{a:OA}{m b' off:Nat}{cs:List Value}{T:TypeId}{fr:Nat × Nat}{el:Nat->List Value}{d:Nat}{t:TypeId}{x:Operand}{j:Nat}{ti:TI}(hs:SlB F size a m b' off cs T fr el)(hM:Mem w F)(hj:j<m)
  (kk:QW P n ops K rest (ovl ((d,.agg (el j).toArray)::L) b) w) (hd:o.dst=some d:=by exact rfl) (hlt:Nat.blt d n.n=true:=by exact rfl) (ho:o.op=.load t x:=by exact rfl) (hx:ev (ovl L b) x=.pointer (some ⟨b',off+j*size,none⟩):=by exact rfl) (ht:lk S.tab t=some ti:=by exact rfl) (hag:zBP ti.d=true:=by exact rfl) (hsz:ti.size=size:=by exact rfl):QX P n ops K o rest (ovl L b) w :=
 zAp hd hlt (zA7 S hs hM ho hx ht hag hsz hj) kk
theorem y44 {F:zA}{size:Nat}{a:OA}{m b' off:Nat}{cs:List Value}{T:TypeId}{fr:Nat × Nat}{el:Nat->List Value}{d:Nat}{t:TypeId}{x:Operand}{j i:Nat}{ti:TI}{v:Value}(hs:SlB F size a m b' off cs T fr el)(hM:Mem w F)(hj:j<m)
  (kk:OW P n ops Q rest (ovl ((d,v)::L) b) w) (hd:o.dst=some d:=by exact rfl) (hlt:Nat.blt d n.n=true:=by exact rfl) (ho:o.op=.load t x:=by exact rfl) (hx:ev (ovl L b) x=.pointer (some ⟨b',off+j*size+i,none⟩):=by exact rfl) (ht:lk S.tab t=some ti:=by exact rfl) (hag:zBP ti.d=false:=by exact rfl) (hk:Nat.blt i size=true:=by exact rfl) (hv:(match (el j)[i]? with|some v=>nf v|none=>none)=some v:=by exact rfl):OX P n ops Q o rest (ovl L b) w :=
 za hd hlt (zD4 S hs hM ho hx ht hag hj hk hv) kk
theorem y45 {F:zA}{size:Nat}{a:OA}{m b' off:Nat}{cs:List Value}{T:TypeId}{fr:Nat × Nat}{el:Nat->List Value}{d:Nat}{t:TypeId}{x:Operand}{j i:Nat}{ti:TI}{v:Value}(hs:SlB F size a m b' off cs T fr el)(hM:Mem w F)(hj:j<m)
  (kk:QW P n ops K rest (ovl ((d,v)::L) b) w) (hd:o.dst=some d:=by exact rfl) (hlt:Nat.blt d n.n=true:=by exact rfl) (ho:o.op=.load t x:=by exact rfl) (hx:ev (ovl L b) x=.pointer (some ⟨b',off+j*size+i,none⟩):=by exact rfl) (ht:lk S.tab t=some ti:=by exact rfl) (hag:zBP ti.d=false:=by exact rfl) (hk:Nat.blt i size=true:=by exact rfl) (hv:(match (el j)[i]? with|some v=>nf v|none=>none)=some v:=by exact rfl):QX P n ops K o rest (ovl L b) w :=
 zAp hd hlt (zD4 S hs hM ho hx ht hag hj hk hv) kk
theorem x40 {F:zA}{size:Nat}{a:OA}{m b' off:Nat}{cs:List Value}{T:TypeId}{fr:Nat × Nat}{el:Nat->List Value}{d:Nat}{t E:TypeId}{x i:Operand}{cap j:Nat}{k:IntKind}{q:Int}{ti te:TI}(hs:SlB F size a m b' off cs T fr el)
  (kk:OW P n ops Q rest (ovl ((d,.pointer (some ⟨b',off+j*size,none⟩))::L) b) w)
  (hd:o.dst=some d:=by exact rfl) (hlt:Nat.blt d n.n=true:=by exact rfl) (ho:o.op=.indexAddr t x i:=by exact rfl) (hx:ev (ovl L b) x=.slice a m cap:=by exact rfl) (hi:ev (ovl L b) i=.int k q:=by exact rfl) (ht:lk S.tab t=some ti:=by exact rfl) (htd:ti.d=.slice E:=by exact rfl) (he:lk S.tab E=some te:=by exact rfl) (hsz:te.size=size:=by exact rfl) (hj:q.toNat=j:=by first|with_reducible exact zz1 _|exact zo (by omega) (by omega)|with_reducible exact zAm|exact zn _) (h0:0<=q:=by omega) (h1:q<m:=by omega):OX P n ops Q o rest (ovl L b) w :=
 za hd hlt (zAO S hs ho hx hi ht htd he hsz hj h0 h1) kk
theorem x41 {F:zA}{size:Nat}{a:OA}{m b' off:Nat}{cs:List Value}{T:TypeId}{fr:Nat × Nat}{el:Nat->List Value}{d:Nat}{t E:TypeId}{x i:Operand}{cap j:Nat}{k:IntKind}{q:Int}{ti te:TI}(hs:SlB F size a m b' off cs T fr el)
  (kk:QW P n ops K rest (ovl ((d,.pointer (some ⟨b',off+j*size,none⟩))::L) b) w)
  (hd:o.dst=some d:=by exact rfl) (hlt:Nat.blt d n.n=true:=by exact rfl) (ho:o.op=.indexAddr t x i:=by exact rfl) (hx:ev (ovl L b) x=.slice a m cap:=by exact rfl) (hi:ev (ovl L b) i=.int k q:=by exact rfl) (ht:lk S.tab t=some ti:=by exact rfl) (htd:ti.d=.slice E:=by exact rfl) (he:lk S.tab E=some te:=by exact rfl) (hsz:te.size=size:=by exact rfl) (hj:q.toNat=j:=by first|with_reducible exact zz1 _|exact zo (by omega) (by omega)|with_reducible exact zAm|exact zn _) (h0:0<=q:=by omega) (h1:q<m:=by omega):QX P n ops K o rest (ovl L b) w :=
 zAp hd hlt (zAO S hs ho hx hi ht htd he hsz hj h0 h1) kk
theorem x42 {F:zA}{size:Nat}{a:OA}{m b' off:Nat}{cs:List Value}{T:TypeId}{fr:Nat × Nat}{el:Nat->List Value}{d:Nat}{t:TypeId}{x:Operand}{j:Nat}{ti:TI}(hs:SlB F size a m b' off cs T fr el)(hM:Mem w F)
  (kk:OW P n ops Q rest (ovl ((d,.agg (el j).toArray)::L) b) w) (hd:o.dst=some d:=by exact rfl) (hlt:Nat.blt d n.n=true:=by exact rfl) (ho:o.op=.load t x:=by exact rfl) (hx:ev (ovl L b) x=.pointer (some ⟨b',off+j*size,none⟩):=by exact rfl) (ht:lk S.tab t=some ti:=by exact rfl) (hag:zBP ti.d=true:=by exact rfl) (hsz:ti.size=size:=by exact rfl) (hj:j<m:=by omega):OX P n ops Q o rest (ovl L b) w :=
 za hd hlt (zA7 S hs hM ho hx ht hag hsz hj) kk
theorem x43 {F:zA}{size:Nat}{a:OA}{m b' off:Nat}{cs:List Value}{T:TypeId}{fr:Nat × Nat}{el:Nat->List Value}{d:Nat}{t:TypeId}{x:Operand}{j:Nat}{ti:TI}(hs:SlB F size a m b' off cs T fr el)(hM:Mem w F)
  (kk:QW P n ops K rest (ovl ((d,.agg (el j).toArray)::L) b) w) (hd:o.dst=some d:=by exact rfl) (hlt:Nat.blt d n.n=true:=by exact rfl) (ho:o.op=.load t x:=by exact rfl) (hx:ev (ovl L b) x=.pointer (some ⟨b',off+j*size,none⟩):=by exact rfl) (ht:lk S.tab t=some ti:=by exact rfl) (hag:zBP ti.d=true:=by exact rfl) (hsz:ti.size=size:=by exact rfl) (hj:j<m:=by omega):QX P n ops K o rest (ovl L b) w :=
 zAp hd hlt (zA7 S hs hM ho hx ht hag hsz hj) kk
theorem x44 {F:zA}{size:Nat}{a:OA}{m b' off:Nat}{cs:List Value}{T:TypeId}{fr:Nat × Nat}{el:Nat->List Value}{d:Nat}{t:TypeId}{x:Operand}{j i:Nat}{ti:TI}{v:Value}(hs:SlB F size a m b' off cs T fr el)(hM:Mem w F)
  (kk:OW P n ops Q rest (ovl ((d,v)::L) b) w) (hd:o.dst=some d:=by exact rfl) (hlt:Nat.blt d n.n=true:=by exact rfl) (ho:o.op=.load t x:=by exact rfl) (hx:ev (ovl L b) x=.pointer (some ⟨b',off+j*size+i,none⟩):=by exact rfl) (ht:lk S.tab t=some ti:=by exact rfl) (hag:zBP ti.d=false:=by exact rfl) (hk:Nat.blt i size=true:=by exact rfl) (hv:(match (el j)[i]? with|some v=>nf v|none=>none)=some v:=by exact rfl) (hj:j<m:=by omega):OX P n ops Q o rest (ovl L b) w :=
 za hd hlt (zD4 S hs hM ho hx ht hag hj hk hv) kk
theorem x45 {F:zA}{size:Nat}{a:OA}{m b' off:Nat}{cs:List Value}{T:TypeId}{fr:Nat × Nat}{el:Nat->List Value}{d:Nat}{t:TypeId}{x:Operand}{j i:Nat}{ti:TI}{v:Value}(hs:SlB F size a m b' off cs T fr el)(hM:Mem w F)
  (kk:QW P n ops K rest (ovl ((d,v)::L) b) w) (hd:o.dst=some d:=by exact rfl) (hlt:Nat.blt d n.n=true:=by exact rfl) (ho:o.op=.load t x:=by exact rfl) (hx:ev (ovl L b) x=.pointer (some ⟨b',off+j*size+i,none⟩):=by exact rfl) (ht:lk S.tab t=some ti:=by exact rfl) (hag:zBP ti.d=false:=by exact rfl) (hk:Nat.blt i size=true:=by exact rfl) (hv:(match (el j)[i]? with|some v=>nf v|none=>none)=some v:=by exact rfl) (hj:j<m:=by omega):QX P n ops K o rest (ovl L b) w :=
 zAp hd hlt (zD4 S hs hM ho hx ht hag hj hk hv) kk
end
section
variable {P:Program}{n:Nw}{ops:Array Oper}{Q:zAM}{K:Env->World->Prop}{o:Oper}{rest:List Oper}{L:List (Nat × Value)}{b b0:Env}{e:Env}{w:World}{l:List Oper}{s:Array Bool}{m:Nat}(S:Sig P)
theorem z8 (i:Nat){d:Nat}{v:Value}(hy:∀ w,Yq P o (ovl L b0) w v)(h:RA P n l (s.setIfInBounds i true) m Q (ovl ((d,v)::L) b0) w){m':Nat}(hB:((Region.noSelect l.toArray&&Region.free .any l.toArray s i)&&(Region.ready .any l.toArray s).contains i)=true:=by decide +kernel)
  (ho:l[i]?=some o:=by exact rfl) (hg:o.guard=none:=by exact rfl) (hd:o.dst=some d:=by exact rfl) (hlt:Nat.blt d n.n=true:=by exact rfl) (hm:m'=m+1:=by exact rfl):RA P n l s m' Q (ovl L b0) w:=RA.take i hB ho hg hd hlt hy hm h
theorem z9 {v:Value}(h:pvn S.tab e o.op=some v:=by exact rfl):∀ w,Yq P o e w v:=zCS S h
theorem z10 (i:Nat)(h:OW P n l.toArray (thn (fun e' w'=>RA P n l (s.setIfInBounds i true) m Q e' w') (fun _ _ _=>False)) [o] e w){m':Nat}(hB:(Region.ready .any l.toArray s==[i])=true:=by decide +kernel)(ho:l[i]?=some o:=by exact rfl)(hm:m'=m+1:=by exact rfl):RA P n l s m' Q e w:=RA.c1 i hm hB ho h
theorem z11 (i j:Nat){o':Oper}(h:OW P n l.toArray (thn (fun e' w'=>RA P n l (s.setIfInBounds i true) m Q e' w') (fun _ _ _=>False)) [o] e w)
  (h':OW P n l.toArray (thn (fun e' w'=>RA P n l (s.setIfInBounds j true) m Q e' w') (fun _ _ _=>False)) [o'] e w) {m':Nat} (hB:(Region.ready .any l.toArray s==[i,j])=true:=by decide +kernel) (ho:l[i]?=some o:=by exact rfl) (ho':l[j]?=some o':=by exact rfl) (hm:m'=m+1:=by exact rfl):RA P n l s m' Q e w:=RA.c2 i j hm hB ho ho' h h'
theorem z13 {d:Nat}{v:Value}(h:Yq P o (ovl L b) w v)(k:OW P n ops Q rest (ovl ((d,v)::L) b) w)(hd:o.dst=some d:=by exact rfl)(hlt:Nat.blt d n.n=true:=by exact rfl):OX P n ops Q o rest (ovl L b) w:=za hd hlt h k
theorem z14 {w0:World}{G:zA}{t E:TypeId}{len d:Nat}{parts:Array (Nat × Operand)}{ti te:TI}{cs0 cs:List Value}(H:St w0 G w)(k:∀ b w',St w0 (cb b cs E::G) w'->OW P n ops Q rest (ovl ((d,.slice (some ⟨b,0,none⟩) len len)::L) b0) w')
  (ho:o.op=.buildSlice t len parts:=by exact rfl) (hd:o.dst=some d:=by exact rfl) (hlt:Nat.blt d n.n=true:=by exact rfl) (ht:lk S.tab t=some ti:=by exact rfl) (htd:ti.d=.slice E:=by exact rfl) (he:lk S.tab E=some te:=by exact rfl) (hpos:Nat.blt 0 (len*te.size)=true:=by exact rfl) (hsm:Nat.ble (len*te.size) 16777216=true:=by exact rfl)
  (hf:zGj (fun i=>some (i*te.size,te.size)) ((List.range (len*te.size)).map fun i=>te.zero.toArray[i % te.zero.length]!) (parts.toList.map fun p=>(p.1,ev (ovl L b0) p.2))=some cs0:=by exact rfl) (hcs:nfL cs0=some cs:=by exact rfl):OX P n ops Q o rest (ovl L b0) w :=
 OX.buildS S H ho hd hlt ht htd he hpos hsm hf hcs fun b w h _=>k b w h
theorem yFa {j d:Nat}{want t:Bool}(h:OW P n ops Q (o::rest) (ovl ((d,.bool false)::L) b) w)(hg:o.guard=some (j,want):=by exact rfl)(hj:(ops[j]?).bind (·.dst)=some d:=by exact rfl)(hv:ovl L b d=.bool t:=by exact rfl)(ht:t=false:=by first|assumption|exact rfl):OW P n ops Q (o::rest) (ovl L b) w:=OW.gS hg hj hv (fun h'=>absurd (ht.symm.trans h') (by decide)) (fun _=>h)
theorem yFb {j d:Nat}{want t:Bool}(h:OW P n ops Q (o::rest) (ovl ((d,.bool true)::L) b) w)(hg:o.guard=some (j,want):=by exact rfl)(hj:(ops[j]?).bind (·.dst)=some d:=by exact rfl)(hv:ovl L b d=.bool t:=by exact rfl)(ht:t=true:=by first|assumption|exact rfl):OW P n ops Q (o::rest) (ovl L b) w:=OW.gS hg hj hv (fun _=>h) (fun h'=>absurd (ht.symm.trans h') (by decide))
theorem yFc {j d:Nat}{want t:Bool}(h:QW P n ops K (o::rest) (ovl ((d,.bool false)::L) b) w)(hg:o.guard=some (j,want):=by exact rfl)(hj:(ops[j]?).bind (·.dst)=some d:=by exact rfl)(hv:ovl L b d=.bool t:=by exact rfl)(ht:t=false:=by first|assumption|exact rfl):QW P n ops K (o::rest) (ovl L b) w:=QW.gS hg hj hv (fun h'=>absurd (ht.symm.trans h') (by decide)) (fun _=>h)
theorem yFd {j d:Nat}{want t:Bool}(h:QW P n ops K (o::rest) (ovl ((d,.bool true)::L) b) w)(hg:o.guard=some (j,want):=by exact rfl)(hj:(ops[j]?).bind (·.dst)=some d:=by exact rfl)(hv:ovl L b d=.bool t:=by exact rfl)(ht:t=true:=by first|assumption|exact rfl):QW P n ops K (o::rest) (ovl L b) w:=QW.gS hg hj hv (fun _=>h) (fun h'=>absurd (ht.symm.trans h') (by decide))
theorem yFe {c:Operand}{x y:Code}{t:Bool}(h:CW P n y Q e w)(hc:ev e c=.bool t:=by exact rfl)(ht:t=false:=by first|assumption|exact rfl):CW P n (.cond c x y) Q e w:=zB hc (fun h'=>absurd (ht.symm.trans h') (by decide)) (fun _=>h)
theorem yFf {c:Operand}{x y:Code}{t:Bool}(h:CW P n x Q e w)(hc:ev e c=.bool t:=by exact rfl)(ht:t=true:=by first|assumption|exact rfl):CW P n (.cond c x y) Q e w:=zB hc (fun _=>h) (fun h'=>absurd (ht.symm.trans h') (by decide))
theorem zq {d:Nat}{v:Value}(h:Yq P o (ovl L b) w v)(k:QW P n ops K rest (ovl ((d,v)::L) b) w)(hd:o.dst=some d:=by exact rfl)(hlt:Nat.blt d n.n=true:=by exact rfl):QX P n ops K o rest (ovl L b) w:=zAp hd hlt h k
theorem qN {w0:World}{M:zA}(H:St w0 M w)(k:∀ w',St w0 M w'->K e w'):QW P n ops K [] e w:=zGR fun w' h=>k w' (H.ext h)
theorem eN {f:FuncId}{fn:Func}{c:Code}{m:Nat}{l:List Value}{R:Ending->World->Prop}{rs:List ResultVar}(hf:P.funcs[f]?=some fn)(hn:fn.ntmps=m)(h:CW P ⟨m,[],none⟩ c (post P rs R) (ovl [] (ini l)) w)(hb:fn.body=some c:=by exact rfl)(hr:fn.results=rs.toArray:=by exact rfl)(hl:Nat.ble l.length m=true:=by exact rfl):Calls P f l.toArray w R:=enter rs hf hb hn hr hl h
theorem eS {f:FuncId}{fn:Func}{c:Code}{m:Nat}{l:List Value}{R:Ending->World->Prop}{rs:List ResultVar}(hf:P.funcs[f]?=some fn)(hn:fn.ntmps=m)(h:St w [] w->CW P ⟨m,[],none⟩ c (post P rs R) (ovl [] (ini l)) w)(hb:fn.body=some c:=by exact rfl)(hr:fn.results=rs.toArray:=by exact rfl)(hl:Nat.ble l.length m=true:=by exact rfl):Calls P f l.toArray w R:=enter rs hf hb hn hr hl (h (zBm w))
theorem zIX {F:zA}{size:Nat}{a:OA}{m b' off:Nat}{cs:List Value}{T:TypeId}{fr:Nat × Nat}{el:Nat->List Value}{t E:TypeId}{x i:Operand}{cap j:Nat}{k:IntKind}{q:Int}{ti te:TI}(hs:SlB F size a m b' off cs T fr el)(hj:q.toNat=j)(h0:0<=q)(h1:q<m)
  (ho:o.op=.indexAddr t x i:=by exact rfl) (hx:ev e x=.slice a m cap:=by exact rfl) (hi:ev e i=.int k q:=by exact rfl) (ht:lk S.tab t=some ti:=by exact rfl) (htd:ti.d=.slice E:=by exact rfl) (he:lk S.tab E=some te:=by exact rfl) (hsz:te.size=size:=by exact rfl):Yq P o e w (.pointer (some ⟨b',off+j*size,none⟩)) :=
 zAO S hs ho hx hi ht htd he hsz hj h0 h1
theorem zLB {F:zA}{a:OA}{m b' off:Nat}{cs:List Value}{T:TypeId}{fr:Nat × Nat}{el:Nat->List Value}{t:TypeId}{x:Operand}{j:Nat}{ti:TI}{v:Value}(hs:SlB F 1 a m b' off cs T fr el)(hM:Mem w F)(hj:j<m)(ho:o.op=.load t x:=by exact rfl)(hx:ev e x=.pointer (some ⟨b',off+j*1,none⟩):=by exact rfl)
  (ht:lk S.tab t=some ti:=by exact rfl) (hag:zBP ti.d=false:=by exact rfl) (hv:(match (el j)[0]? with|some v=>nf v|none=>none)=some v:=by exact rfl):Yq P o e w v:=Yq.loadB1 S hs hM ho hx ht hag hj hv
theorem c0 {w0:World}{M:zA}{d:Nat}{f:FuncId}{l:List Value}{as0:Array Operand}{ts:Array TypeId}(hent:Ent P f)(h:∃ v,Calls P f l.toArray w (Ret v w)/\∀ w',St w0 M w'->OW P n ops Q rest (ovl ((d,v)::L) b) w')(H:St w0 M w:=by exact H)
  (hd:o.dst=some d:=by exact rfl) (hlt:Nat.blt d n.n=true:=by exact rfl) (ho:o.op=.call { callee:=.value (.func f),args:=as0,argTypes:=ts }:=by exact rfl) (hl:evS (ovl L b) as0.toList=some l:=by exact rfl):OX P n ops Q o rest (ovl L b) w :=
 let ⟨_,hc,k⟩:=h;OX.call hd hlt (En.fn hent ho hl) hc fun w' g=>k w' (H.ext g)
theorem q0 {d:Nat}{f:FuncId}{l:List Value}{as0:Array Operand}{ts:Array TypeId}(hent:Ent P f)(h:∃ v,(∀ w',Cl w w'->Calls P f l.toArray w' (Ret v w'))/\QW P n ops K rest (ovl ((d,v)::L) b) w)
  (hd:o.dst=some d:=by exact rfl) (hlt:Nat.blt d n.n=true:=by exact rfl) (ho:o.op=.call { callee:=.value (.func f),args:=as0,argTypes:=ts }:=by exact rfl) (hl:evS (ovl L b) as0.toList=some l:=by exact rfl):QX P n ops K o rest (ovl L b) w :=
 let ⟨_,hc,k⟩:=h;QX.call hd hlt (En.fn hent ho hl) hc k
theorem f0 {w0:World}{G:zA}{d:Nat}{f:FuncId}{l:List Value}{as0:Array Operand}{ts:Array TypeId}(hent:Ent P f)(h:∃ R,Calls P f l.toArray w (zZ R w)/\∀ v M w',R M v->St w0 (G++M) w'->OW P n ops Q rest (ovl ((d,v)::L) b) w')(H:St w0 G w:=by exact H)
  (hd:o.dst=some d:=by exact rfl) (hlt:Nat.blt d n.n=true:=by exact rfl) (ho:o.op=.call { callee:=.value (.func f),args:=as0,argTypes:=ts }:=by exact rfl) (hl:evS (ovl L b) as0.toList=some l:=by exact rfl):OX P n ops Q o rest (ovl L b) w :=
 let ⟨_,hc,k⟩:=h;OX.callF hd hlt (En.fn hent ho hl) hc fun v M w' r s=>k v M w' r (H.addR s)
theorem zBA {w0:World}{G:zA}{t E:TypeId}{len d:Nat}{parts:Array (Nat × Operand)}{ti te:TI}{cls:List (List Value)}{cs:List Value}(H:St w0 G w)(k:∀ b w',St w0 (cb b cs E::G) w'->Cl w w'->OW P n ops Q rest (ovl ((d,.slice (some ⟨b,0,none⟩) len len)::L) b0) w')
  (ho:o.op=.buildSlice t len parts:=by exact rfl) (hd:o.dst=some d:=by exact rfl) (hlt:Nat.blt d n.n=true:=by exact rfl) (ht:lk S.tab t=some ti:=by exact rfl) (htd:ti.d=.slice E:=by exact rfl) (he:lk S.tab E=some te:=by exact rfl) (hpos:Nat.blt 0 (len*te.size)=true:=by exact rfl) (hsm:Nat.ble (len*te.size) 16777216=true:=by exact rfl)
  (hv:agP 0 (parts.toList.map fun p=>(p.1,ev (ovl L b0) p.2))=some cls:=by exact rfl) (hl:(cls.all fun c=>Nat.beq c.length te.size)=true:=by exact rfl) (hn:Nat.beq cls.length len=true:=by exact rfl) (hcs:nfL cls.flatten=some cs:=by exact rfl):OX P n ops Q o rest (ovl L b0) w :=
 OX.buildA S H ho hd hlt ht htd he hpos hsm hv hl hn hcs k
end
theorem yT {A B:Prop}(k:B)(h:B->A:=by
  intro k
  (first|refine y1 sg ?_|refine y2 sg ?_|refine y3 ?_|refine y4 ?_|refine y5 sg ?_|refine y6 sg ?_|fail)
  repeat (first|refine y1 sg ?_|refine y2 sg ?_|refine y3 ?_|refine y4 ?_|refine y5 sg ?_|refine y6 sg ?_|fail)
  exact k):A:=h k
theorem yU {A B:Prop}(k:B)(h:B->A:=by
  intro k
  (first|refine y13 ?_|refine y14 ?_|refine y15 ?_|refine y16 ?_|(with_reducible first|apply OW.app|apply OW.app0|apply QW.app|apply QW.app0|apply zHX|apply zH5|apply zCQ|apply zHW|apply zFu|apply zFt|apply zKH|apply zKI|apply zH6|apply zKJ)|refine y19 ?_|refine zC6 ?_|refine y24 ?_|refine y25 ?_|refine y21 ?_|refine y22 ?_|fail)
  exact k):A:=h k
structure Hold (p:Prop):Prop where
 un:p
theorem yS {A B:Prop}(k:B)(h:Hold B->A:=by
  intro k
  (first|refine y1 sg ?_|refine y2 sg ?_|refine y3 ?_|refine y4 ?_|refine y5 sg ?_|refine y6 sg ?_|refine y7 sg H ?_|refine y8 sg H ?_|refine y13 ?_|refine y14 ?_|refine y15 ?_|refine y16 ?_|refine yFa ?_|refine yFb ?_|refine yFc ?_|refine yFd ?_|fail)
  repeat (first|refine y1 sg ?_|refine y2 sg ?_|refine y3 ?_|refine y4 ?_|refine y5 sg ?_|refine y6 sg ?_|refine y7 sg H ?_|refine y8 sg H ?_|refine y13 ?_|refine y14 ?_|refine y15 ?_|refine y16 ?_|refine yFa ?_|refine yFb ?_|refine yFc ?_|refine yFd ?_|fail)
  exact k.un):A:=h ⟨k⟩
theorem yW {A B:Prop}(k:B)(h:Hold B->A:=by
  intro k
  (first|refine y1 sg ?_|refine y2 sg ?_|refine y3 ?_|refine y4 ?_|refine y5 sg ?_|refine y6 sg ?_|refine y7 sg H ?_|refine y8 sg H ?_|refine y13 ?_|refine y14 ?_|refine y15 ?_|refine y16 ?_|refine yFa ?_|refine yFb ?_|refine yFc ?_|refine yFd ?_|(with_reducible first|apply OW.app|apply OW.app0|apply QW.app|apply QW.app0|apply zHX|apply zH5|apply zCQ|apply zHW|apply zFu|apply zFt|apply zKH|apply zKI|apply zH6|apply zKJ|apply zAT)|refine y19 ?_|refine zC6 ?_|refine y24 ?_|refine y25 ?_|refine y21 ?_|refine y22 ?_|refine yFe ?_|refine yFf ?_|fail)
  repeat (first|refine y1 sg ?_|refine y2 sg ?_|refine y3 ?_|refine y4 ?_|refine y5 sg ?_|refine y6 sg ?_|refine y7 sg H ?_|refine y8 sg H ?_|refine y13 ?_|refine y14 ?_|refine y15 ?_|refine y16 ?_|refine yFa ?_|refine yFb ?_|refine yFc ?_|refine yFd ?_|(with_reducible first|apply OW.app|apply OW.app0|apply QW.app|apply QW.app0|apply zHX|apply zH5|apply zCQ|apply zHW|apply zFu|apply zFt|apply zKH|apply zKI|apply zH6|apply zKJ|apply zAT)|refine y19 ?_|refine zC6 ?_|refine y24 ?_|refine y25 ?_|refine y21 ?_|refine y22 ?_|refine yFe ?_|refine yFf ?_|fail)
  exact k.un):A:=h ⟨k⟩
theorem yX {A B:Prop}(k:B)(h:Hold B->A:=by
  intro k
  (first|refine y1 sg ?_|refine y2 sg ?_|refine y3 ?_|refine y4 ?_|refine y5 sg ?_|refine y6 sg ?_|refine y7 sg H ?_|refine y8 sg H ?_|refine y13 ?_|refine y14 ?_|refine y15 ?_|refine y16 ?_|refine yFa ?_|refine yFb ?_|refine yFc ?_|refine yFd ?_|(with_reducible first|apply OW.app|apply OW.app0|apply QW.app|apply QW.app0|apply zHX|apply zH5|apply zCQ|apply zHW|apply zFu|apply zFt|apply zKH|apply zKI|apply zH6|apply zKJ|apply zAT)|refine y19 ?_|refine zC6 ?_|refine y24 ?_|refine y25 ?_|refine y21 ?_|refine y22 ?_|fail)
  repeat (first|refine y1 sg ?_|refine y2 sg ?_|refine y3 ?_|refine y4 ?_|refine y5 sg ?_|refine y6 sg ?_|refine y7 sg H ?_|refine y8 sg H ?_|refine y13 ?_|refine y14 ?_|refine y15 ?_|refine y16 ?_|refine yFa ?_|refine yFb ?_|refine yFc ?_|refine yFd ?_|(with_reducible first|apply OW.app|apply OW.app0|apply QW.app|apply QW.app0|apply zHX|apply zH5|apply zCQ|apply zHW|apply zFu|apply zFt|apply zKH|apply zKI|apply zH6|apply zKJ|apply zAT)|refine y19 ?_|refine zC6 ?_|refine y24 ?_|refine y25 ?_|refine y21 ?_|refine y22 ?_|fail)
  exact k.un):A:=h ⟨k⟩
theorem yB {A B:Prop}(k:B)(h:B->A:=by
  intro k
  (first|refine y9 H ?_|refine y10 sg H ?_|refine z14 sg H ?_|fail)
  exact k):A:=h k
section
variable {α:Type _}{a:α}{l m:List α}
theorem zca {α:Type _}(a:α)(l m:List α):a::l++m=a::(l++m):=rfl
theorem zcb {α:Type _}(l:List α):[]++l=l:=rfl
theorem qO {p:Prop}(h:p:=by omega):p:=h
theorem qC (h:a∈l:=by repeat (first|exact zz2 _|refine zz5 _ ?_)):a∈l:=h
theorem qB (h:a∈l:=by repeat (first|exact zz2 _|exact zz3 _ (zz2 _)|refine zz5 _ ?_)):a∈l:=h
theorem zMa (h:l.Sublist m:=by repeat (first|exact yy7 _|exact zz9 _|apply yy5|apply yy6)):l.Sublist m:=h
theorem qS (h:l⊆m:=by intro p hp;simp[hp]):l⊆m:=h
theorem qT (h:l⊆m:=by intro p hp;repeat (first|exact hp|apply zz4)):l⊆m:=h
end
end
end Go.Sk
