/- Steps of the proof. -/
import Derived.Laws.Bits64b
import Derived.Lib.Mul64
import Derived.Test.YtejhijhnlogikaaGreatDoorMe16
set_option linter.all false
set_option maxHeartbeats 16000000
namespace Go.Proofs.YtejhijhnlogikaaGreatDoor
open Go Go.Sk Go.RowKit Tryz
attribute [local irreducible] Go.Calls
def KI:KeyT prog 3 Int where
 v:=.int .i64
 eq x y w:=by
  show(Op.equalIn 10000 3 (.int .i64 x) (.int .i64 y)).run prog w=_
  exact zOT sg (t:=3) rfl (by rfl) (by rfl) rfl 9999 w
 chk b x w:=by
  show(Instr.checkKey b (9999+1) 3 _).run prog w=_
  rw[Instr.checkKey]
  simp only[Sem.run_bind,run_underlying (show prog.underlying 3=some (.int .i64) from sg.und (t:=3) rfl),Result.andThen_ok]
  rfl
 same x:=by
  show Instr.sameBits (9999+1) _ _=true
  simp[Instr.sameBits]
 d:=_
 und:=sg.und (t:=3) rfl
 now x y:=.inr rfl
def Ln.wf (x:Ln):Prop:=(-9223372036854775808<=x.delta/\x.delta<=9223372036854775807)/\(-9223372036854775808<=x.bal/\x.bal<=9223372036854775807)
end Go.Proofs.YtejhijhnlogikaaGreatDoor
namespace Go.Sk
open Go Go.RowKit
attribute [local semireducible] OX OW QX QW Yq
section
variable {P:Program}{n:Nw}{ops:Array Oper}{Q:zAM}{o:Oper}{rest:List Oper}{L:List (Nat × Value)}{b0:Env}{w:World}(S:Sig P)
theorem Yq.sliceHM {e:Env}{t E:TypeId}{x h m:Operand}{a:OA}{len cap j:Nat}{k k':IntKind}{q:Int}{ti te:TI}(ho:o.op=.slice t x none (some h) (some m))
  (hx:ev e x=.slice a len cap) (hh:ev e h=.int k q) (hm:ev e m=.int k' q) (ht:lk S.tab t=some ti) (htd:ti.d=.slice E) (he:lk S.tab E=some te)
  (hj:q.toNat=j) (h0:0<=q) (h1:q<=cap):Yq P o e w (.slice a j j):=by{
subst hj;intro w' _;have hu:=S.run_und ht w';rw[htd] at hu;have b1:=run_sliceBound (P:=P) w' k' q cap .slice3Acap h0 h1;have b2:=run_sliceBound (P:=P) w' k q q.toNat .slice3B h0 (by omega);have hadd:(if q.toNat=0 then a else a.map (·.add (0*te.size)))=a:=by
 split
 .rfl
 .cases a with
  | none=>rfl
  | some a=>simp[Addr.add]
simp only[execOp,ho,Instr.sliceAt,Instr.slice,Instr.sliceBounds,hx,hu,Option.map_none,Option.map_some,hh,hm,Sem.run_bind,Sem.run_pure,Result.andThen_ok,if_true,b1,b2,S.run_size he,Nat.sub_zero,hadd]}
theorem Yq.sliceLHM {e:Env}{t E:TypeId}{x l h m:Operand}{a:OA}{len cap:Nat}{k1 k2 k3:IntKind}{p q r:Int}{ti te:TI}(ho:o.op=.slice t x (some l) (some h) (some m))
  (hx:ev e x=.slice a len cap) (hl:ev e l=.int k1 p) (hh:ev e h=.int k2 q) (hm:ev e m=.int k3 r) (ht:lk S.tab t=some ti) (htd:ti.d=.slice E) (he:lk S.tab E=some te)
  (h0:0<=p) (h1:p<=q) (h2:q<=r) (h3:r<=cap):Yq P o e w (.slice (if r.toNat=p.toNat then a else a.map (·.add (p.toNat*te.size))) (q.toNat - p.toNat) (r.toNat - p.toNat)):=by intro w' _;have hu:=S.run_und ht w';rw[htd] at hu;have b1:=run_sliceBound (P:=P) w' k3 r cap .slice3Acap (by omega) h3;have b2:=run_sliceBound (P:=P) w' k2 q r.toNat .slice3B (by omega) (by omega);have b3:=run_sliceBound (P:=P) w' k1 p q.toNat .slice3C h0 (by omega);simp only[execOp,ho,Instr.sliceAt,Instr.slice,Instr.sliceBounds,hx,hu,Option.map_some,hl,hh,hm,Sem.run_bind,Sem.run_pure,Result.andThen_ok,if_true,Option.isSome_some,b1,b2,b3,S.run_size he]
theorem Yq.sliceLH {e:Env}{t E:TypeId}{x l h:Operand}{g off len cap i j:Nat}{k k':IntKind}{p q:Int}{ti te:TI}(ho:o.op=.slice t x (some l) (some h) none)
  (hx:ev e x=.slice (some ⟨g,off,none⟩) len cap) (hl:ev e l=.int k p) (hh:ev e h=.int k' q) (ht:lk S.tab t=some ti) (htd:ti.d=.slice E) (he:lk S.tab E=some te)
  (hp:p.toNat=i) (hq:q.toNat=j) (h0:0<=p) (h1:p<=q) (h2:q<=cap) (h3:p<cap):Yq P o e w (.slice (some ⟨g,off+i*te.size,none⟩) (j - i) (cap - i)):=by
 intro w' _;have hu:=S.run_und ht w';rw[htd] at hu;subst hp;subst hq;have b1:=run_sliceBound (P:=P) w' k' q cap .sliceAcap (by omega) h2;have b2:=run_sliceBound (P:=P) w' k p q.toNat .sliceB h0 (by omega);have hc:¬ cap=p.toNat:=by omega
 simp[execOp,ho,Instr.sliceAt,Instr.slice,Instr.sliceBounds,hx,hl,hh,hu,b1,b2,S.run_size he,hc,zAA]
end
def Full (w:World)(size:Nat)(a0:OA)(n:Nat)(xs:List Value):Prop:=xs.length=n*size/\(0<n->∃ b,a0=some b/\∀ j u,xs[j]?=some u->w.cell? (b.add j)=some u)
theorem zUj {P:Program}{w0 w:World}{G:zA}{E t ty:TypeId}{n m bytes:Nat}{a0:OA}{src:Value}{xs news:List Value}{i:TypeInfo}{z:Value}(H:St w0 G w)
  (ht:P.underlying t=some (.slice E)) (hi:P.info? E=some i) (hz:i.zero=some z) (hby:i.bytes=bytes) (hzs:z.cells.size=i.size)
  (h:Full w i.size a0 n xs) (hsrc:Src w src m news) (hm:0<m) (hl:news.length=m*i.size) (h1:∀ u∈news,u.oneCell'=true)
  (h63:n+m<=maxLen) (hbytes:(n+m)*bytes<=140737488355328) :
  ∃ a' cap' M' w',(Builtin.append_ #[t,t] ty #[.slice a0 n n,src]).run P w=.ok (.slice a' (n+m) cap') w'/\Own M' E i.size a' (n+m) cap' (xs++news)/\St w0 (M'++G) w':=by{
rcases yyn n with h0|h0
.subst h0;have hx:xs=[]:=List.eq_nil_of_length_eq_zero (by simpa using h.1);subst hx;exact zPp (M:=[]) H ht hi hz hby hzs (zWD _ _ _) hsrc hl h1 h63 hbytes
.subst hby;obtain⟨hxl,hd⟩:=h;obtain⟨b,rfl,holds⟩:=hd h0;have hsmall:n+m<=9223372036854775807:=by simp only[maxLen] at h63;omega
 have hlen:(xs++news).length=(n+m)*i.size:=by rw[yy4,hxl,hl,Nat.add_mul]
 obtain⟨a,c,rfl,hnews⟩:=hsrc.resolve_right (fun⟨_,_,h0⟩=>by omega);have hr:=run_append_grow (P:=P) w t ty E i z ht hi hz b n n xs hxl holds a m c news hl hnews (by omega) (by omega) (growslice_fits (by omega) hbytes);have hge:=grownCap_ge w (n+m) n E;have hcm:grownCap w (n+m) n E<=maxLen:=grownCap_le_maxLen w (n+m) n E h63;refine⟨_,_,[cb w.heap.size (xs++news++(Builtin.zeroCells z.cells (grownCap w (n+m) n E - (n+m))).toList) E],_,hr,⟨hlen,.inr ⟨_,_,rfl,rfl,hge,hcm,?_,?_⟩⟩,?_⟩
 .simp only[yy4,Array.length_toList,size_zeroCells,hzs,hxl,hl,<- Nat.add_mul]
  congr 1
  omega
 .rw[<- hlen];exact List.take_left
 .have:=H.drewAlloc (.cells (xs.toArray++news.toArray++Builtin.zeroCells z.cells (grownCap w (n+m) n E - (n+m))) E);have he:(xs.toArray++news.toArray++Builtin.zeroCells z.cells (grownCap w (n+m) n E - (n+m)))=(xs++news++(Builtin.zeroCells z.cells (grownCap w (n+m) n E - (n+m))).toList).toArray:=by apply Array.ext';simp
  rw[he] at this ⊢;exact this}
section
variable {P:Program}{n:Nw}{ops:Array Oper}{Q:zAM}{o:Oper}{rest:List Oper}{L:List (Nat × Value)}{b0:Env}{w:World}(S:Sig P)
theorem OX.appendF {w0:World}{G:zA}{x y:Operand}{t E:TypeId}{d k m:Nat}(size bytes:Nat){a0:OA}{src:Value}{xs news:List Value}{ti te:TI}(H:St w0 G w)
  (ho:o.op=.call { callee:=.builtin .append,args:=#[x,y],argTypes:=#[t,t] }) (hd:o.dst=some d) (hlt:Nat.blt d n.n=true)
  (hx:ev (ovl L b0) x=.slice a0 k k) (hy:ev (ovl L b0) y=src) (ht:lk S.tab t=some ti) (htd:ti.d=.slice E) (he:lk S.tab E=some te) (hz:Nat.beq te.zero.length te.size=true)
  (hsz:Nat.beq te.size size=true) (hby:Nat.ble te.bytes bytes=true)
  (h:Full w size a0 k xs) (hsrc:Src w src m news) (hm:0<m) (hl:news.length=m*size) (h1:∀ u∈news,u.oneCell'=true)
  (h63:k+m<=maxLen) (hbytes:(k+m)*bytes<=140737488355328)
  (kk:∀ a' cap' M' w',Own M' E size a' (k+m) cap' (xs++news)->St w0 (M'++G) w'->OW P n ops Q rest (ovl ((d,.slice a' (k+m) cap')::L) b0) w'):OX P n ops Q o rest (ovl L b0) w:=by intro a ha;unfold Oper.wp;rw[ha.eval];have hu:=S.und ht;rw[htd] at hu;obtain⟨f,hf1,hf2,hf3⟩:=S.inf he;obtain⟨zv,hz1,hz2⟩:=Option.map_eq_some_iff.1 hf3;obtain⟨i2,hi2,hb2⟩:=S.byt he;rw[hf1] at hi2;cases hi2;obtain rfl:=Nat.eq_of_beq_eq_true hsz;have hby':=Nat.le_of_ble_eq_true hby;rw[<- hf2] at h hl;obtain⟨a',cap',M',w',hr,ho',hs⟩:=zUj (P:=P) (t:=t) (ty:=o.type) (src:=src) (m:=m) H hu hf1 hz1 hb2 (by rw[hz2,hf2];simpa using Nat.eq_of_beq_eq_true hz) h hsrc hm hl h1 h63 (Nat.le_trans (Nat.mul_le_mul_left _ hby') hbytes);simp only[execOp,ho,resolve,invoke,builtin,Sem.run_bind,Sem.run_pure,Result.andThen_ok,List.map_toArray,List.map_cons,List.map_nil,hx,hy,hr,Oper.upon_value,hd];rw[hf2] at ho';exact kk a' cap' M' w' ho' hs _ (ha.put hlt _)
theorem OX.appendR {w0:World}{G:zA}{x y:Operand}{t E:TypeId}{d k m g cap:Nat}(size:Nat){src:Value}{cs news:List Value}{ti te:TI}(H:St w0 (cb g cs E::G) w)
  (ho:o.op=.call { callee:=.builtin .append,args:=#[x,y],argTypes:=#[t,t] }) (hd:o.dst=some d) (hlt:Nat.blt d n.n=true)
  (hx:ev (ovl L b0) x=.slice (some ⟨g,0,none⟩) k cap) (hy:ev (ovl L b0) y=src) (ht:lk S.tab t=some ti) (htd:ti.d=.slice E) (he:lk S.tab E=some te)
  (hsz:Nat.beq te.size size=true) (hsrc:Src w src m news) (hl:news.length=m*size) (h1:∀ u∈news,u.oneCell'=true) (hroom:k+m<=cap) (hfit:k*size+news.length<=cs.length)
  (kk:∀ w',St w0 (cb g (wr cs (k*size) news) E::G) w'->OW P n ops Q rest (ovl ((d,.slice (some ⟨g,0,none⟩) (k+m) cap)::L) b0) w'):OX P n ops Q o rest (ovl L b0) w:=by{
intro a ha;unfold Oper.wp;rw[ha.eval];have hu:=S.und ht;rw[htd] at hu;obtain⟨f,hf1,hf2,hf3⟩:=S.inf he;obtain rfl:=Nat.eq_of_beq_eq_true hsz;rw[<- hf2] at hl hfit kk;have hg:=H.mem (cb g cs E) (by simp);have hr:∃ w',(Builtin.append_ #[t,t] o.type #[.slice (some ⟨g,0,none⟩) k cap,src]).run P w=.ok (.slice (some ⟨g,0,none⟩) (k+m) cap) w'/\St w0 (cb g (wr cs (k*f.size) news) E::G) w':=by
 by_cases hm0:m=0
 .subst hm0;have hn0:news=[]:=List.eq_nil_of_length_eq_zero (by simpa using hl);subst hn0;have hfc:(Builtin.firstCells f.size 0 src).run P w=.ok #[] w:=by rcases hsrc with ⟨a,c,rfl,_⟩|⟨c,rfl,_⟩<;>simp[Builtin.firstCells,loadCells,loadCellsFrom]
  have hlo:(Builtin.lenOf src).run P w=.ok 0 w:=by rcases hsrc with ⟨a,c,rfl,_⟩|⟨c,rfl,_⟩<;>simp[Builtin.lenOf]
  have hwr:wr cs (k*f.size) []=cs:=by unfold wr;simp
  refine⟨w,?_,by rw[hwr];exact H⟩;simp[Builtin.append_,run_underlying hu,sizeOf,typeInfo,hf1,hlo,hfc,storeCells,show k<=cap by omega]
 .obtain⟨a,c,rfl,hnews⟩:=hsrc.resolve_right (fun⟨_,_,h0⟩=>hm0 h0);exact⟨_,run_append_room (P:=P) w t o.type E f hu hf1 g k cap cs.toArray hg a m c news hl hnews h1 hroom (by simpa using hfit),H.row Up.here⟩
obtain⟨w',hr,hs⟩:=hr;simp only[execOp,ho,resolve,invoke,builtin,Sem.run_bind,Sem.run_pure,Result.andThen_ok,List.map_toArray,List.map_cons,List.map_nil,hx,hy,hr,Oper.upon_value,hd];exact kk w' hs _ (ha.put hlt _)}
end
theorem Els.cut {cs:List Value}{size n i:Nat}{el:Nat->List Value}(h:Els cs size n el)(hel:∀ j,j<n->(el j).length=size)(hi:i<n) :
  Els (Go.Sk.wr cs (i*size) ((List.range (n - (i+1))).flatMap fun t=>el (i+1+t))) size (n - 1) (fun j=>if j<i then el j else el (j+1)):=by{
have hfl:((List.range (n - (i+1))).flatMap fun t=>el (i+1+t)).length=(n - (i+1))*size:=flat_len _ fun j hj=>hel _ (by omega);have hend:=(h (n - 1) (by omega)).1;have hn1:(n - 1)*size=i*size+(n - (i+1))*size:=by rw[<- Nat.add_mul];congr 1;omega
have hfit:i*size+((List.range (n - (i+1))).flatMap fun t=>el (i+1+t)).length<=cs.length:=by rw[hfl];omega
intro j hj;have hj1:(j+1)*size<=(n - 1)*size:=Nat.mul_le_mul_right _ (by omega);rw[Nat.add_mul,Nat.one_mul] at hj1;refine⟨by rw[zCC hfit];omega,?_⟩;apply List.ext_getElem?;intro q;show _=(if j<i then el j else el (j+1))[q]?;rw[List.getElem?_take];have hlen:(if j<i then el j else el (j+1)).length=size:=by split;exact hel _ (by omega);exact hel _ (by omega)
by_cases hq:q<size
.rw[if_pos hq,yyr,zFN hfit,hfl];by_cases hji:j<i
 .have:(j+1)*size<=i*size:=Nat.mul_le_mul_right _ hji;rw[Nat.add_mul,Nat.one_mul] at this;rw[if_neg (by omega),if_pos hji,<- (h j (by omega)).2,List.getElem?_take,if_pos hq,yyr]
 .have e1:j*size=i*size+(j - i)*size:=by rw[<- Nat.add_mul];congr 1;omega
  have h3:(j - i+1)*size<=(n - (i+1))*size:=Nat.mul_le_mul_right _ (by omega);rw[Nat.add_mul,Nat.one_mul] at h3;rw[if_pos (by omega),if_neg hji];have:=flat_at (el:=fun t=>el (i+1+t)) (n - (i+1)) (fun t ht=>hel _ (by omega)) (j - i) (by omega);rw[show i+1+(j - i)=j+1 by omega] at this;rw[<- this,List.getElem?_take,if_pos hq,yyr]
  congr 1;omega
.rw[if_neg hq,List.getElem?_eq_none (by omega)]}
theorem Yq.entryM {P:Program}{o:Oper}{kt:TypeId}{ι ν:Type}[DecidableEq ι]{e:Env}{w:World}{M:zA}{b r clock s0:Nat}{seen:Array Nat}(K:KeyT P kt ι)(val:ν->Value)(es:List (ME ι ν)){x:ME ι ν}{X:Operand}(hM:Mem w M)(hr:(r,Obj.mapIter (some b) s0 (seen.push x.2.2) clock)∈M)(hm:(b,mo K val es clock)∈M)
  (hx:x∈es) (hn:(es.map (·.2.2)).Nodup) (ho:o.op=.entry X) (hX:ev e X=(pt r)):Yq P o e w (.tuple #[K.v x.1,val x.2.1]):=by intro w' hw';have:=run_entry_at (P:=P) w' r b s0 seen (zAw K val es).toArray clock ⟨K.v x.1,val x.2.1,x.2.2⟩ ((hM.ext hw') _ hr) ((hM.ext hw') _ hm) (List.mem_map.2 ⟨x,hx,rfl⟩) (by unfold zAw;simpa [List.map_map,Function.comp_def] using hn);simp only[execOp,ho,hX,Sem.run_bind,this,Result.andThen_ok,Sem.run_pure]
end Go.Sk
namespace Go.Proofs.YtejhijhnlogikaaGreatDoor
open Go Go.Sk Go.RowKit Tryz
attribute [local irreducible] Go.Calls
instance:Inhabited Pst:=⟨⟨0,0,0,0⟩⟩
def Pst.cells (q:Pst):List Value:=[.int .i64 q.acct,.int .i64 q.asset,.int .i64 q.free,.int .i64 q.held]
def qs_ (p:List Pst)(j:Nat):Pst:=p.getD j default
def qsl (p:List Pst)(j:Nat):List Value:=(qs_ p j).cells
theorem zL5 {p:List Pst}{k:Nat}(hk:k<p.length):p.take (k+1)=p.take k++[qs_ p k]:=by rw[yyj hk];simp[qs_,yy1 hk]
theorem zKm (p:List Pst)(q:Pst)(s:Int):zBx (p++[q]) s=zBx p s+if q.asset=s then q.free+q.held else 0:=by unfold zBx;rw[List.foldl_append,List.foldl_cons,List.foldl_nil];split<;>simp
theorem zW4 {p:List Pst}{s:Int}(h:zBx p s≠0):∃ q∈p,q.asset=s:=by{
have:∀ (l:List Pst) (z:Int),(∀ q∈l,q.asset≠s)->l.foldl (fun z q=>if q.asset=s then z+(q.free+q.held) else z) z=z:=by
 intro l;induction l with
 | nil=>intro z _;rfl
 | cons q l ih=>intro z hq;rw[List.foldl_cons,if_neg (hq q (List.Mem.head _))];exact ih z fun x hx=>hq x (zz5 _ hx)
by_cases hq:∃ q∈p,q.asset=s
.exact hq
.exact absurd (this p 0 fun q hm he=>hq ⟨q,hm,he⟩) h}
structure PstOk (q:Pst):Prop where
 a:0<=q.acct/\q.acct<=64
 s:0<=q.asset/\q.asset<=16
 f:-1125899906842624<=q.free/\q.free<=1125899906842624
 h:-1125899906842624<=q.held/\q.held<=1125899906842624
 z:q.acct=0->q.held=0
theorem zEx {q:Pst}:zCw q=false↔PstOk q:=by{
unfold zCw zKB;simp only[Bool.or_eq_false_iff,Bool.not_eq_false',zDG,Bool.and_eq_false_iff,yyy,yyq,ne_eq,bne_eq_false_iff_eq];constructor
.rintro⟨⟨⟨h1,h2⟩,h3⟩,h4⟩;exact⟨by omega,by omega,by omega,by omega,fun h=>h4.resolve_left (fun g=>g h)⟩
.rintro⟨h1,h2,h3,h4,h5⟩;refine⟨⟨⟨by omega,by omega,by omega⟩,by omega,by omega⟩,?_⟩;by_cases h:q.acct=0
 .exact .inr (h5 h)
 .exact .inl h}
theorem zW5 {p:List Pst}(h:∀ q∈p,PstOk q)(s:Int):-((p.length:Int)*2251799813685248)<=zBx p s/\zBx p s<=(p.length:Int)*2251799813685248:=by{
induction p with
| nil=>exact⟨by simp[zBx],by simp[zBx]⟩
| cons q p ih =>
  obtain⟨h1,h2⟩:=ih fun x hx=>h x (zz5 _ hx);have hq:=h q (zz2 _);have:=hq.f;have:=hq.h;rw[zC7,List.length_cons];split<;>omega}
theorem zR0 {p:List Pst}(hl:p.length<=64){q:Pst}(hq:q∈p)(h:zCw q=true):zA5 p=1:=by unfold zA5;rw[if_neg qO,if_pos (List.any_eq_true.2 ⟨q,hq,h⟩)]
theorem zR1 {p:List Pst}(hl:p.length<=64)(hb:∀ q∈p,zCw q=false):zA5 p=if (List.range 17).any fun s=>zBx p (s:Nat) != 0 then 1 else 0:=by unfold zA5;rw[if_neg qO,if_neg (by rw[List.any_eq_true];rintro⟨q,hq,h⟩;rw[hb q hq] at h;cases h)]
theorem zW6 {p:List Pst}(hb:∀ q∈p,zCw q=false){s:Int}(h:zBx p s≠0):((List.range 17).any fun s=>zBx p (s:Nat) != 0)=true:=by obtain⟨q,hq,rfl⟩:=zW4 h;have:=(zEx.1 (hb q hq)).s;refine List.any_eq_true.2 ⟨q.asset.toNat,List.mem_range.2 qO,?_⟩;rw[Int.toNat_of_nonneg this.1];simpa using h
theorem zNR {ι ν:Type}[DecidableEq ι]{es:List (ME ι ν)}{x:ι}{v:ν}(h:atM es x=some v):∃ e∈es,e.1=x/\e.2.1=v:=by{
induction es with
| nil=>cases h
| cons e es ih =>
  rw[zBK] at h;by_cases hx:x=e.1
  .rw[if_pos hx] at h;exact⟨e,zz2 _,hx.symm,Option.some.inj h⟩
  .rw[if_neg hx] at h;obtain⟨f,hf,h1⟩:=ih h;exact⟨f,zz5 _ hf,h1⟩}
theorem zL6 {ι ν:Type}[DecidableEq ι]{es:List (ME ι ν)}{clock:Nat}(h:MI es clock){e:ME ι ν}(he:e∈es):atM es e.1=some e.2.1:=by{
have hk:=h.keys;clear h;induction es with
| nil=>cases he
| cons f es ih =>
  rw[List.map_cons,List.nodup_cons] at hk;rw[zBK];rcases List.mem_cons.1 he with rfl|g
  .rw[if_pos rfl]
  .rw[if_neg (fun hx=>hk.1 (List.mem_map.2 ⟨e,g,hx⟩))];exact ih g hk.2}
theorem zQU {ap:OA}{cp:Nat}(p:List Pst){F:zA}(w0:World)(hF:Mem w0 F)(hp:SlA F 4 ap p.length cp (qsl p)) :
  Cr 270 [.slice ap p.length cp] (.int .i64 (zA5 p)) w0:=by{
obtain⟨hn,hc,b0,off,cs,T,fr,hs⟩:=hp;by_cases hl:p.length<=64
.have d1:decide ((p.length:Int)>64)=false:=yyc qO;have hz:∀ w:World,(zeroValue 2).run prog w=.ok (Value.int .i64 0) w:=fun w=>zeroValue2 w;refine eS func270 ntmps270 fun H=>?_;(repeat' first|refine yX ?_|fail);refine zB rfl (fun h=>by rw[d1] at h;cases h) (fun h=>?_);clear h;(repeat' first|refine yX ?_|(refine m1 H ?_;intro bm w H)|fail)
 refine zD [(2,2),(5,5),(14,55)] (fun x:Nat × List (ME Int Int) × Nat=>[(14,.int .i64 (x.1:Int))])
  (fun x w=>x.1<=p.length/\(∀ j,j<x.1->zCw (qs_ p j)=false)/\MI x.2.1 x.2.2/\(∀ s,(atM x.2.1 s).getD 0=zBx (p.take x.1) s)/\St w0 [(bm,mo KI (Value.int .i64) x.2.1 x.2.2)] w) (fun x=>p.length - x.1) (0,[],0) ⟨rfl,trivial⟩ ⟨zzD _,fun j hj=>absurd hj (zzE _),MI.nil,fun s=>rfl,H⟩ ?_
 clear H;rintro⟨k,es,clock⟩ gh w ⟨hk,hbk,hMI,hat,H⟩;simp only at hk hbk hMI hat H ⊢;have hbt:∀ q∈p.take k,zCw q=false:=by intro q hq;obtain⟨j,hj,rfl⟩:=List.getElem_of_mem hq;rw[List.length_take] at hj;have:=hbk j qO;rw[List.getElem_take];simpa [qs_,yy1 (show j<p.length by omega)] using this
 (repeat' first|refine yX ?_|fail);refine zB rfl (fun h=>?_) (fun h=>?_)
 .have hlt:k<p.length:=by have:=zzA h;omega
  clear h;have hmem:qs_ p k∈p:=zAP _ hlt;cases hbad:zCw (qs_ p k) with
  | true =>
    have hret:=zR0 hl hmem hbad;(repeat' first|refine yW ?_|(refine yB ?_;intro b w H)|(refine y11 sg H ?_;intro w H)|refine x40 sg hs ?_|refine x42 sg hs (H.memF hF) ?_|(refine c0 zLP ?_;refine⟨_,zLT _ _ _,?_⟩;clear H;intro w H)|(refine c0 zOQ ?_;refine⟨_,zUI _ _,?_⟩;clear H;intro w H)|(refine y17 ?_ ?_;all_goals intro h)|(refine y23 ?_ ?_;all_goals intro h)|fail)
    all_goals first
     | exact zG rfl H.cl (by rw[hret])
     | (exfalso;unfold zCw at hbad;simp_all;done)
  | false =>
    have hok:=zEx.1 hbad;have g1:zCf (qs_ p k).acct (qs_ p k).asset=true:=(zDG _ _).2 ⟨hok.a.1,hok.a.2,hok.s.1,hok.s.2⟩;have g2:zKB (qs_ p k).free=false:=by have:=hok.f;unfold zKB;simp;omega
    have g3:zKB (qs_ p k).held=false:=by have:=hok.h;unfold zKB;simp;omega
    have hb1:=zW5 (fun q hq=>zEx.1 (hbt q hq)) (qs_ p k).asset;have hlen:(p.take k).length<=64:=by rw[List.length_take];omega
    have hf:=hok.f;have hh:=hok.h;have w1:IntKind.i64.wrap ((qs_ p k).free+(qs_ p k).held)=(qs_ p k).free+(qs_ p k).held:=w64 qO qO;have w2:IntKind.i64.wrap ((atM es (qs_ p k).asset).getD 0+IntKind.i64.wrap ((qs_ p k).free+(qs_ p k).held))=zBx (p.take (k+1)) (qs_ p k).asset:=by rw[w1,hat,zL5 hlt,zKm,if_pos rfl];exact w64 qO qO
    have key:∀ w',St w0 [(bm,mo KI (Value.int .i64) (zFT es clock (qs_ p k).asset (IntKind.i64.wrap ((atM es (qs_ p k).asset).getD 0+IntKind.i64.wrap ((qs_ p k).free+(qs_ p k).held)))) (zFU es clock (qs_ p k).asset))] w' ->
      k+1<=p.length/\(∀ j,j<k+1->zCw (qs_ p j)=false)/\MI (zFT es clock (qs_ p k).asset (IntKind.i64.wrap ((atM es (qs_ p k).asset).getD 0+IntKind.i64.wrap ((qs_ p k).free+(qs_ p k).held)))) (zFU es clock (qs_ p k).asset)/\(∀ s,(atM (zFT es clock (qs_ p k).asset (IntKind.i64.wrap ((atM es (qs_ p k).asset).getD 0+IntKind.i64.wrap ((qs_ p k).free+(qs_ p k).held)))) s).getD 0=zBx (p.take (k+1)) s)/\St w0 [(bm,mo KI (Value.int .i64) (zFT es clock (qs_ p k).asset (IntKind.i64.wrap ((atM es (qs_ p k).asset).getD 0+IntKind.i64.wrap ((qs_ p k).free+(qs_ p k).held)))) (zFU es clock (qs_ p k).asset))] w':=by
     intro w' hw;refine⟨hlt,fun j hj=>?_,zI7 hMI _ _,fun s=>?_,hw⟩
     .rcases(show j<k\/j=k by omega) with g|rfl
      .exact hbk j g
      .exact hbad
     .rw[zIY];by_cases hsx:s=(qs_ p k).asset
      .rw[if_pos hsx,hsx];exact w2
      .rw[if_neg hsx,hat,zL5 hlt,zKm,if_neg (Ne.symm hsx),Int.add_zero]
    by_cases hz0:(qs_ p k).acct=0
    .have g4:((qs_ p k).acct==0)=true:=by rw[hz0];rfl
     have g5:((qs_ p k).held != 0)=false:=by rw[hok.z hz0];rfl
     (repeat' first|refine yW ?_|(refine yB ?_;intro b w H)|(refine y11 sg H ?_;intro w H)|refine x40 sg hs ?_|refine x42 sg hs (H.memF hF) ?_|(refine c0 zLP ?_;refine⟨_,zLT _ _ _,?_⟩;clear H;intro w H)|(refine c0 zOQ ?_;refine⟨_,zUI _ _,?_⟩;clear H;intro w H)|(refine za rfl rfl (Yq.lookM sg KI (Value.int .i64) es (qs_ p k).asset 0 hz H.mem qC rfl rfl rfl rfl rfl) ?_)|(refine m3 sg KI (Value.int .i64) es (qs_ p k).asset (IntKind.i64.wrap ((atM es (qs_ p k).asset).getD 0+IntKind.i64.wrap ((qs_ p k).free+(qs_ p k).held))) H (Up.there Up.here) rfl rfl ?_;intro w H)|(refine y17 ?_ ?_;all_goals(intro h;try (exfalso;first|((rw[g1] at h;cases h);done)|((rw[g2] at h;cases h);done)|((rw[g3] at h;cases h);done)|((rw[g4] at h;cases h);done)|((rw[g5] at h;cases h);done))))|fail);exact zC (k+1,_,_) rfl ⟨zU qO,trivial⟩ (key _ (H.sub (zz7 _ _))) (by show p.length - (k+1)<p.length - k;omega)
    .have g4:((qs_ p k).acct==0)=false:=beq_eq_false_iff_ne.2 hz0;(repeat' first|refine yW ?_|(refine yB ?_;intro b w H)|(refine y11 sg H ?_;intro w H)|refine x40 sg hs ?_|refine x42 sg hs (H.memF hF) ?_|(refine c0 zLP ?_;refine⟨_,zLT _ _ _,?_⟩;clear H;intro w H)|(refine c0 zOQ ?_;refine⟨_,zUI _ _,?_⟩;clear H;intro w H)|(refine za rfl rfl (Yq.lookM sg KI (Value.int .i64) es (qs_ p k).asset 0 hz H.mem qC rfl rfl rfl rfl rfl) ?_)|(refine m3 sg KI (Value.int .i64) es (qs_ p k).asset (IntKind.i64.wrap ((atM es (qs_ p k).asset).getD 0+IntKind.i64.wrap ((qs_ p k).free+(qs_ p k).held))) H (Up.there Up.here) rfl rfl ?_;intro w H)|(refine y17 ?_ ?_;all_goals(intro h;try (exfalso;first|((rw[g1] at h;cases h);done)|((rw[g2] at h;cases h);done)|((rw[g3] at h;cases h);done)|((rw[g4] at h;cases h);done))))|fail);exact zC (k+1,_,_) rfl ⟨zU qO,trivial⟩ (key _ (H.sub (zz7 _ _))) (by show p.length - (k+1)<p.length - k;omega)
 .obtain rfl:k=p.length:=by have:=zzB h;omega
  clear h;rw[List.take_length] at hat hbt;have hsum:=zR1 hl hbt;(repeat' first|refine yX ?_|(refine m8 sg KI (Value.int .i64) es H (zz2 _) ?_;intro r w H)|fail);refine zD [(2,2),(7,7),(58,63)] (fun _:Array Nat × List (ME Int Int)=>[]) (fun x w=>Todo es x.1 x.2/\(∀ e∈es,e∈x.2\/e.2.1=0)/\St w0 [(r,.mapIter (some bm) clock x.1 clock),(bm,mo KI (Value.int .i64) es clock)] w) (fun x=>x.2.length) (#[],es) trivial ⟨Todo.start es,fun e he=>.inl he,H⟩ ?_;clear H;rintro⟨seen,todo⟩ gh w ⟨hT,hze,H⟩;simp only at hT hze H ⊢;(repeat' first|refine yX ?_|(refine m9 KI (Value.int .i64) es H (zz5 _ (zz2 _)) (zz2 _) hMI (zzC _) hT ?_ ?_)|fail)
  .intro h0;subst h0;(repeat' first|refine yX ?_|fail);refine zG rfl H.cl (congrArg (Value.int .i64) ?_);rw[hsum,if_neg];rw[List.any_eq_true];rintro⟨s,_,h⟩;have hne:zBx p (s:Nat)≠0:=by{simpa using h};rw[<- hat] at hne
   cases hx:atM es ((s:Nat):Int) with
   | none=>rw[hx] at hne;exact hne rfl
   | some v =>
     rw[hx] at hne;obtain⟨e,he,h1,h2⟩:=zNR hx;rcases hze e he with g|g
     .cases g
     .exact hne (by rw[<- h2,g];rfl)
  .intro e todo2 w hperm he hT2 hH;have H2:=hH _ Up.here;clear H hH;have H:=H2;clear H2;(repeat' first|refine yX ?_|refine z13 (Yq.entryM KI (Value.int .i64) es H.mem (zz2 _) (zz5 _ (zz2 _)) he hMI.stamps rfl rfl) ?_|fail);have hae:(atM es e.1).getD 0=e.2.1:=by rw[zL6 hMI he];rfl
   refine zB rfl (fun h=>?_) (fun h=>?_)
   ·(repeat' first|refine yX ?_|fail);refine zG rfl H.cl (congrArg (Value.int .i64) ?_);have hne:zBx p e.1≠0:=by rw[<- hat,hae];simpa using h
    rw[hsum,if_pos (zW6 hbt hne)]
   ·(repeat' first|refine yX ?_|fail);have h0:e.2.1=0:=by{simpa using h};refine zC (seen.push e.2.2,todo2) rfl trivial ⟨hT2,fun x hx=>?_,H⟩ (by have:=hperm.length_eq;simp only[List.length_cons] at this;show todo2.length<todo.length;omega)
    rcases hze x hx with g|g
    .rcases List.mem_cons.1 (hperm.mem_iff.1 g) with rfl|g
     .exact .inr h0
     .exact .inl g
    .exact .inr g
.have d1:decide ((p.length:Int)>64)=true:=yyb qO;have e:zA5 p=40:=by unfold zA5;rw[if_pos qO]
 refine eS func270 ntmps270 fun H=>?_;(repeat' first|refine yW ?_|fail);exact zG rfl H.cl (by rw[e])}
theorem zUk {g:Nat->Int}{c:Int}(h:∀ a,0<=g a/\g a<=c):∀ l:List Nat,0<=(l.map g).sum/\(l.map g).sum<=l.length*c
 | []=>⟨by simp,by simp⟩
 | a::l=>by
   have:=zUk h l
   have:=h a
   rw[List.map_cons,List.sum_cons,List.length_cons,Int.natCast_add,Int.add_mul]
   omega
theorem zJZ {l:List Row4}(h:zAZ l=true)(x:Pl):(-72057594037927936<=(atR l x).1/\(atR l x).1<=1125899906842624)/\0<=(atR l x).2/\(atR l x).2<=1125899906842624:=by{
obtain⟨h1,h2⟩:=zED h x;by_cases hg:x∈zB5
.by_cases h0:x.1=0
 .have h3:=h1 h0;have hs:=zDU.1 hg;have hc:=zM2 h x.2.toNat qO;have hx:x=(((0:Nat):Int),((x.2.toNat:Nat):Int)):=Prod.ext h0 (by simp only;omega);unfold zIT at hc;rw[show List.range 65=0::(List.range 64).map Nat.succ from List.range_succ_eq_map,List.map_cons,List.sum_cons,List.map_map] at hc
  have hb:=zUk (g:=(fun(a:Nat)=>(atR l ((a:Int),((x.2.toNat:Nat):Int))).1+(atR l ((a:Int),((x.2.toNat:Nat):Int))).2) ∘ Nat.succ) (c:=1125899906842624) (fun a=>by
   have:=(zED h (((a.succ:Nat):Int),((x.2.toNat:Nat):Int))).2 (by simp only;omega)
   simp only[Function.comp_apply];omega) (List.range 64)
  rw[List.length_range] at hb;rw[<- hx] at hc;omega
 .have:=h2 h0;omega
.rw[zUG h hg];exact⟨⟨by decide,by decide⟩,by decide,by decide⟩}
theorem zQV (p:List Pst)(q:Pst)(x:Pl):dlF (p++[q]) x=if q.acct=x.1/\q.asset=x.2 then((dlF p x).1+q.free,(dlF p x).2+q.held) else dlF p x:=by unfold dlF;rw[List.foldl_append,List.foldl_cons,List.foldl_nil]
theorem dl_bd {p:List Pst}(h:∀ q∈p,PstOk q)(x:Pl):(-((p.length:Int)*1125899906842624)<=(dlF p x).1/\(dlF p x).1<=(p.length:Int)*1125899906842624)/\-((p.length:Int)*1125899906842624)<=(dlF p x).2/\(dlF p x).2<=(p.length:Int)*1125899906842624:=by{
induction p with
| nil=>exact⟨⟨by simp[dlF],by simp[dlF]⟩,by simp[dlF],by simp[dlF]⟩
| cons q p ih =>
  have h1:=ih fun x hx=>h x (zz5 _ hx);have hq:=h q (zz2 _);have:=hq.f;have:=hq.h;rw[zBb,List.length_cons];split
  .simp only;omega
  .omega}
def zCD (l:List Row4)(p:List Pst)(x:Pl):Bool:=(l.any fun r=>decide (zAD r=x))||p.any fun q=>decide (((q.acct,q.asset):Pl)=x)
def zGN (l:List Row4)(p:List Pst)(x:Pl):Row4:=⟨x.1,x.2,(zAH l p x).1,(zAH l p x).2⟩
def zFf (l:List Row4)(p:List Pst)(x:Pl):Option Row4:=if zCD l p x then some (zGN l p x) else none
theorem zJa {l:List Row4}{p:List Pst}{x:Pl}(h:zCD l p x=false):zAH l p x=(0,0):=by{
unfold zCD at h;rw[Bool.or_eq_false_iff,List.any_eq_false,List.any_eq_false] at h;have h1:atR l x=(0,0):=zJI fun r hr he=>by have:=h.1 r hr;simp[he] at this
have h2:dlF p x=(0,0):=by
 by_cases hd:dlF p x=(0,0)
 .exact hd
 .obtain⟨q,hq,e1,e2⟩:=dl_ne hd;have:=h.2 q hq;simp[e1,e2] at this
unfold zAH;rw[h1,h2];rfl}
theorem zUl (l:List Row4)(p:List Pst)(x:Pl):((zFf l p x).getD ⟨0,0,0,0⟩).free=(zAH l p x).1/\((zFf l p x).getD ⟨0,0,0,0⟩).held=(zAH l p x).2:=by{
unfold zFf;cases h:zCD l p x with
| true=>exact⟨rfl,rfl⟩
| false=>rw[zJa h];exact⟨rfl,rfl⟩}
theorem zO5 {l:List Row4}(h:zAZ l=true){i j:Nat}(hi:i<l.length)(hj:j<i):zAD (rw_ l j)≠zAD (rw_ l i):=by have:=zFa h;rw[List.pairwise_iff_getElem] at this;have:=this j i qO hi hj;rw[show rw_ l j=l[j] by simp[rw_,yy1 (show j<l.length by omega)],show rw_ l i=l[i] by simp[rw_,yy1 hi]];intro he;unfold LtR at this;unfold zAD at he;have:=Prod.mk.inj he;omega
theorem zR2 {l:List Row4}(h:zAZ l=true){k:Nat}(hk:k<l.length)(x:Pl):(l.take (k+1)).find? (fun r=>decide (zAD r=x))=if x=zAD (rw_ l k) then some (rw_ l k) else(l.take k).find? fun r=>decide (zAD r=x):=by{
have e:l.take (k+1)=l.take k++[rw_ l k]:=by rw[yyj hk];simp[rw_,yy1 hk]
rw[e,List.find?_append];by_cases hx:x=zAD (rw_ l k)
.rw[if_pos hx,List.find?_eq_none.2,Option.none_or]
 .simp[hx]
 .intro r hr;obtain⟨j,hj,rfl⟩:=List.getElem_of_mem hr;rw[List.length_take] at hj;have:=zO5 h hk (show j<k by omega);rw[List.getElem_take,hx];rw[show rw_ l j=l[j] by simp[rw_,yy1 (show j<l.length by omega)]] at this;simpa using this
.rw[if_neg hx];simp[Ne.symm hx]}
theorem zW7 {l:List Row4}(h:zAZ l=true)(x:Pl):l.find? (fun r=>decide (zAD r=x))=zFf l [] x:=by{
unfold zFf zCD;rw[List.any_nil,Bool.or_false];cases hf:l.find? fun r=>decide (zAD r=x) with
| none =>
  rw[if_neg];rw[List.any_eq_true];rintro⟨r,hr,he⟩;have:=List.find?_eq_none.1 hf r hr;exact this he
| some r =>
  have h1:=List.mem_of_find?_eq_some hf;have h2:zAD r=x:=by have:=List.find?_some hf;simpa using this
  rw[if_pos (List.any_eq_true.2 ⟨r,h1,by simp[h2]⟩)];have:=zG0 (zFa h) h1;rw[h2] at this;unfold zGN zAH;rw[this];subst h2;simp[dlF,zAD]}
theorem zUm (l:List Row4)(p:List Pst)(q:Pst)(x:Pl):zFf l (p++[q]) x=if x=(q.acct,q.asset) then some ⟨q.acct,q.asset,(zAH l p (q.acct,q.asset)).1+q.free,(zAH l p (q.acct,q.asset)).2+q.held⟩ else zFf l p x:=by{
by_cases hx:x=(q.acct,q.asset)
.subst hx;rw[if_pos rfl];unfold zFf zCD;rw[if_pos (by simp)];unfold zGN zAH;rw[zQV,if_pos ⟨rfl,rfl⟩];simp[Int.add_assoc]
.rw[if_neg hx];have h1:zAH l (p++[q]) x=zAH l p x:=by unfold zAH;rw[zQV,if_neg fun h=>hx (Prod.ext h.1.symm h.2.symm)]
 have h2:zCD l (p++[q]) x=zCD l p x:=by unfold zCD;rw[List.any_append];simp[Ne.symm hx]
 unfold zFf zGN;rw[h1,h2]}
def wrR (r:Row4):Int:=zAR r.acct r.free r.held
def wOf (v:List Row4):Int:=if v.any (fun r=>wrR r==47) then 47 else if v.any (fun r=>wrR r==41) then 41 else 0
theorem zUn (r:Row4):wrR r=0\/wrR r=47\/wrR r=41:=by{
rcases zDo r.acct r.free r.held with h|h|h
.exact .inl h.1
.exact .inr (.inl h.1)
.exact .inr (.inr h.1)}
theorem zUo (v:List Row4)(r:Row4):wOf (v++[r])=if wrR r=47\/wOf v=0 then wrR r else wOf v:=by unfold wOf;simp only[List.any_append,List.any_cons,List.any_nil,Bool.or_false];rcases zUn r with h|h|h<;>cases v.any (fun r=>wrR r==47)<;>cases v.any (fun r=>wrR r==41)<;>simp[h]
def nzR (r:Row4):Bool:=r.free != 0||r.held != 0
theorem zJb {l:List Row4}{p:List Pst}(h:zAZ l=true)(hp:∀ q∈p,zCw q=false){x:Pl}(hk:zCD l p x=true):x∈zB5:=by{
unfold zCD at hk;rw[Bool.or_eq_true,List.any_eq_true,List.any_eq_true] at hk;rcases hk with ⟨r,hr,he⟩|⟨q,hq,he⟩
.rw[<- of_decide_eq_true he];exact zHk (zEC h r hr)
.rw[<- of_decide_eq_true he];have:=zEx.1 (hp q hq);exact zDU.2 ⟨this.a,this.s⟩}
theorem zW8 {l:List Row4}{p:List Pst}(h:zAZ l=true)(hp:∀ q∈p,zCw q=false){v:List Row4}(hv:∀ r,r∈v↔zFf l p (zAD r)=some r) :
  wOf v=zBV (zAH l p)/\∀ r,r∈mkR (zAH l p)↔r∈v.filter nzR:=by{
have hin:∀ x,zCD l p x=true->zGN l p x∈v:=fun x hx=>by rw[hv];show zFf l p x=_;unfold zFf;rw[if_pos hx]
have hof:∀ r∈v,zCD l p (zAD r)=true/\r=zGN l p (zAD r):=fun r hr=>by
 have:=(hv r).1 hr;unfold zFf at this;split at this
 .rename_i hk;exact⟨hk,(Option.some.inj this).symm⟩
 .cases this
have hz:zAR 0 0 0=0:=rfl;have hany:∀ c:Int,c≠0->v.any (fun r=>wrR r==c)=zB5.any fun x=>zAR x.1 (zAH l p x).1 (zAH l p x).2==c:=by
 intro c hc;rw[Bool.eq_iff_iff,List.any_eq_true,List.any_eq_true];constructor
 .rintro⟨r,hr,he⟩;obtain⟨h1,h2⟩:=hof r hr;refine⟨zAD r,zJb h hp h1,?_⟩;rw[h2] at he;exact he
 .rintro⟨x,hx,he⟩;cases hk:zCD l p x with
  | true=>exact⟨_,hin x hk,he⟩
  | false =>
    rw[zJa hk] at he;have h0:zAR x.1 0 0=0:=by unfold zAR;split<;>simp
    simp only[h0] at he;exact absurd (eq_of_beq he).symm hc
constructor
.unfold wOf zBV;rw[hany 47 (by decide),hany 41 (by decide)]
.intro r;rw[zF0,yyw];constructor
 .rintro⟨h1,h2,h3⟩;have hk:zCD l p (zAD r)=true:=by rw[<- Bool.not_eq_false];intro hk;rw[zJa hk] at h2;have:=Prod.mk.inj h2;exact h3 ⟨this.1.symm,this.2.symm⟩
  have hr:r=zGN l p (zAD r):=by unfold zGN;rw[h2];rfl
  refine⟨hr ▸ hin _ hk,?_⟩;unfold nzR;rw[Bool.or_eq_true,bne_iff_ne,bne_iff_ne];omega
 .rintro⟨h1,h2⟩;obtain⟨hk,hr⟩:=hof r h1;refine⟨zJb h hp hk,?_,?_⟩
  .conv=>rhs;rw[hr]
   rfl
  .unfold nzR at h2;rw[Bool.or_eq_true,bne_iff_ne,bne_iff_ne] at h2;omega}
theorem zNS (o:Odr)(id:Int)(w0:World):Cr 205 [.agg o.cells.toArray,.int .i64 id] (.int .i64 (zCO o.id id)) w0:=by refine eS func205 ntmps205 fun H=>?_;(repeat' first|refine yW ?_|(refine yB ?_;intro b w H)|(refine c0 zMd ?_;refine⟨_,zD9 _ _ _,?_⟩;clear H;intro w H)|fail);exact zG rfl H.cl rfl
theorem zKn (a b:Int)(w0:World):Cr 331 [.int .i64 a,.int .i64 b] (.int .i64 (zCO b a)) w0:=by refine eS func331 ntmps331 fun H=>?_;(repeat' first|refine yW ?_|(refine c0 zMd ?_;refine⟨_,zD9 _ _ _,?_⟩;clear H;intro w H)|fail);exact zG rfl H.cl rfl
theorem zKo (a b:Int)(w0:World):Cr 332 [.int .i64 a,.int .i64 b] (.int .i64 (zCO a b)) w0:=by refine eS func332 ntmps332 fun H=>?_;(repeat' first|refine yW ?_|(refine c0 zMd ?_;refine⟨_,zD9 _ _ _,?_⟩;clear H;intro w H)|fail);exact zG rfl H.cl rfl
theorem zW9 (o:Odr)(i s:Int)(b1 b2:Nat){T1 T2:TypeId}{fr1 fr2:Nat × Nat}{F:zA}(w0:World)(hF:Mem w0 F)(h1:(b1,Obj.cells [Value.int .i64 i].toArray T1 fr1)∈F)(h2:(b2,Obj.cells [Value.int .u8 s].toArray T2 fr2)∈F) :
  Cr 93 [.agg o.cells.toArray,(pt b1),(pt b2)] (.bool (o.inst != i||o.side != s)) w0:=by refine eS func93 ntmps93 fun H=>?_;(repeat' first|refine yW ?_|(refine yB ?_;intro b w H)|refine z13 (zF sg rfl rfl (H.memF hF) h1 rfl rfl) ?_|refine z13 (zF sg rfl rfl (H.memF hF) h2 rfl rfl) ?_|(refine y17 ?_ ?_;all_goals intro h)|fail);all_goals exact zG rfl H.cl (by simp[*])
theorem zO6 (a:Nat)(ha:a<18446744073709551616):IntKind.u64.wrap ((BitVec.ofInt IntKind.u64.bits (a:Int) &&& BitVec.ofInt IntKind.u64.bits 4294967295).toNat:Int)=((a % 4294967296:Nat):Int):=by have h:=bits_and_u64_nat a 4294967295 ha qO;have e:a &&& 4294967295=a % 4294967296:=Nat.and_two_pow_sub_one_eq_mod a 32;rw[e] at h;exact h
theorem m_div (a:Nat):(a:Int).fdiv (2 ^ min 32 IntKind.u64.bits)=((a / 4294967296:Nat):Int):=by show(a:Int).fdiv 4294967296=_;rw[Int.fdiv_eq_ediv_of_nonneg _ qO];omega
theorem zQW (a b:Nat):(a:Int)*(b:Int)=((a*b:Nat):Int):=(Int.natCast_mul a b).symm
theorem m_add (a b:Nat):(a:Int)+(b:Int)=((a+b:Nat):Int):=(Int.natCast_add a b).symm
theorem zHC (a:Nat)(ha:a<18446744073709551616):IntKind.u64.wrap (a:Int)=(a:Int):=by rw[IntKind.wrap_u64];omega
theorem m_wrM (a:Nat):IntKind.u64.wrap (a:Int)=((a % 18446744073709551616:Nat):Int):=by rw[IntKind.wrap_u64];omega
theorem zQX (x y:Nat)(hx:x<18446744073709551616)(hy:y<18446744073709551616)(w0:World) :
  Cr 248 [.int .u64 x,.int .u64 y] (.tuple #[.int .u64 ((x*y / 18446744073709551616:Nat):Int),.int .u64 ((x*y % 18446744073709551616:Nat):Int)]) w0:=by{
obtain⟨bd,bt,bw,hhi⟩:=Lib.mul64_hi x y hx hy;have ba:=Lib.half_mul_le (a:=x / 4294967296) (b:=y / 4294967296) qO qO;have bb:=Lib.half_mul_le (a:=x / 4294967296) (b:=y % 4294967296) qO qO;have bc:=Lib.half_mul_le (a:=x % 4294967296) (b:=y / 4294967296) qO qO;have ba':x / 4294967296*(y / 4294967296)<18446744073709551616:=by omega
have bb':x / 4294967296*(y % 4294967296)<18446744073709551616:=by omega
have bc':x % 4294967296*(y / 4294967296)<18446744073709551616:=by omega
have bh1:x / 4294967296*(y / 4294967296)+(x / 4294967296*(y % 4294967296)+x % 4294967296*(y % 4294967296) / 4294967296) / 4294967296<18446744073709551616:=by omega
refine eS func248 ntmps248 fun H=>?_;(repeat' first|refine yW ?_|fail);refine zFL rfl rfl H.cl ?_;simp only[zO6 x hx,zO6 y hy,m_div,zQW,m_add,zHC _ bd,zHC _ bb',zHC _ bt,zO6 _ bt,zHC _ bc',zHC _ bw,zHC _ ba',zHC _ bh1];rw[hhi,zHC _ (Nat.div_lt_of_lt_mul (Nat.mul_lt_mul'' hx hy)),m_wrM]}
theorem c_Div0 (lo y:Nat)(hl:lo<18446744073709551616)(hy:0<y)(hy2:y<18446744073709551616)(w0:World) :
  Cr 249 [.int .u64 0,.int .u64 lo,.int .u64 y] (.tuple #[.int .u64 ((lo / y:Nat):Int),.int .u64 ((lo % y:Nat):Int)]) w0:=by have h1:((y:Int)==0)=false:=beq_eq_false_iff_ne.2 qO;have h2:decide ((y:Int)<=0)=false:=yyc qO;have h3:((0:Int)==0)=true:=rfl;refine eS func249 ntmps249 fun H=>?_;(repeat' first|refine yW ?_|refine zq (Yq.quo rfl rfl rfl qO) ?_|refine zq (Yq.rem rfl rfl rfl qO) ?_|(refine qN H ?_;clear H;intro w H)|refine y20 mixed ?_|fail);refine zFL rfl rfl H.cl ?_;rw[show(lo:Int).tdiv (y:Int)=((lo / y:Nat):Int) from rfl,show(lo:Int).tmod (y:Int)=((lo % y:Nat):Int) from rfl,zHC _ (Nat.lt_of_le_of_lt (Nat.div_le_self _ _) hl)]
theorem c_Mul (p q:Int)(hp:0<=p)(hq:0<=q)(hpq:p*q<=4611686018427387904)(hp2:p<=9223372036854775807)(hq2:q<=9223372036854775807)(w0:World) :
  Cr 258 [.int .i64 p,.int .i64 q] (.tuple #[.int .i64 (zIR p q).1,.int .i64 (zIR p q).2]) w0:=by
 obtain⟨m,rfl⟩:∃ m:Nat,p=(m:Int):=⟨p.toNat,by omega⟩;obtain⟨n,rfl⟩:∃ n:Nat,q=(n:Int):=⟨q.toNat,by omega⟩;rw[zQW] at hpq;have h1:decide ((m:Int)<0)=false:=yyc qO;have h2:decide ((n:Int)<0)=false:=yyc qO;have hz:m*n / 18446744073709551616=0:=Nat.div_eq_of_lt qO;have hl:m*n % 18446744073709551616=m*n:=Nat.mod_eq_of_lt qO;have hc:=fun w=>zQX m n qO qO w;rw[hz,hl] at hc;rw[<- zHC m qO,<- zHC n qO] at hc;have h3:decide (((m*n:Nat):Int)>4611686018427387904)=false:=yyc qO;refine eS func258 ntmps258 fun H=>?_;(repeat' first|refine yW ?_|(refine c0 zTS ?_;refine⟨_,hc _,?_⟩;clear H;intro w H)|fail);refine zFL rfl rfl H.cl ?_;have e:zIR (m:Int) (n:Int)=(((m*n:Nat):Int),0):=by unfold zIR;rw[if_neg qO,zQW,if_neg qO]
 rw[e,w64 qO qO]
theorem zJc (p q:Int)(hp:0<=p)(hp2:p<=4503599627370496)(hq:0<=q)(hq2:q<=1000)(w0:World) :
  Cr 206 [.int .i64 p,.int .i64 q] (.tuple #[.int .i64 (zBq p q).1,.int .i64 (zBq p q).2]) w0:=by
 obtain⟨m,rfl⟩:∃ m:Nat,p=(m:Int):=⟨p.toNat,by omega⟩;obtain⟨n,rfl⟩:∃ n:Nat,q=(n:Int):=⟨q.toNat,by omega⟩;have hmn:m*n<=4503599627370496*1000:=Nat.mul_le_mul qO qO;have h1:decide ((m:Int)<0)=false:=yyc qO;have h2:decide ((n:Int)<0)=false:=yyc qO;have h3:decide ((n:Int)>1000)=false:=yyc qO;have h4:decide ((m:Int)>4611686018427387904)=false:=yyc qO;have hz:m*n / 18446744073709551616=0:=Nat.div_eq_of_lt qO;have hl:m*n % 18446744073709551616=m*n:=Nat.mod_eq_of_lt qO;have hc:=fun w=>zQX m n qO qO w;have hd:=fun w=>c_Div0 (m*n) 10000 qO (by decide) (by decide) w;rw[hz,hl] at hc;rw[<- zHC m qO,<- zHC n qO] at hc;refine eS func206 ntmps206 fun H=>?_;(repeat' first|refine yW ?_|(refine c0 zTS ?_;refine⟨_,hc _,?_⟩;clear H;intro w H)|(refine c0 ent249 ?_;refine⟨_,hd _,?_⟩;clear H;intro w H)|fail);refine zFL rfl rfl H.cl ?_;have e:zBq (m:Int) (n:Int)=(((m*n / 10000:Nat):Int),0):=by unfold zBq;rw[if_neg qO,if_neg qO,zQW];rfl
 rw[e,w64 qO qO]
theorem half_w {i j:Nat}(h:i+j<4611686018427387904):IntKind.i64.wrap ((IntKind.u64.wrap (IntKind.i64.wrap ((i:Int)+(j:Int)))).fdiv (2 ^ min 1 IntKind.u64.bits))=(((i+j) / 2:Nat):Int):=by rw[m_add,w64 (x:=((i+j:Nat):Int)) qO qO,zHC _ qO];show IntKind.i64.wrap (((i+j:Nat):Int).fdiv 2)=_;rw[Int.fdiv_eq_ediv_of_nonneg _ qO,w64 qO qO];rfl
def lbF (l:List Odr)(id:Int)(i:Nat):Prop:=i<=l.length/\(∀ t,t<i->(od_ l t).id<id)/\∀ t,i<=t->t<l.length->id<=(od_ l t).id
def Ris (l:List Odr):Prop:=∀ s t,s<t->t<l.length->(od_ l s).id<(od_ l t).id
theorem zUp (l:List Odr)(hr:Ris l)(id:Int):∃ i,lbF l id i:=by{
have:∀ k,k<=l.length->∃ i,i<=k/\(∀ t,t<i->(od_ l t).id<id)/\∀ t,i<=t->t<k->id<=(od_ l t).id:=by
 intro k;induction k with
 | zero=>intro _;exact⟨0,zzC _,fun t h=>absurd h (zzE _),fun t _ h=>absurd h (zzE _)⟩
 | succ k ih =>
   intro hk;obtain⟨i,h1,h2,h3⟩:=ih qO;by_cases e:i=k/\(od_ l k).id<id
   .obtain⟨rfl,e⟩:=e;exact⟨i+1,zzC _,fun t h=>by by_cases g:t=i;(· rw[g];exact e);exact h2 t qO,fun t h h'=>by omega⟩
   .refine⟨i,by omega,h2,fun t h h'=>?_⟩;by_cases g:t=k
    .rw[g];by_cases gi:i=k
     .exact Int.not_lt.1 fun x=>e ⟨gi,x⟩
     .exact Int.le_of_lt (Int.lt_of_le_of_lt (h3 i (zzC _) qO) (hr i k qO qO))
    .exact h3 t h qO
obtain⟨i,h1,h2,h3⟩:=this l.length (zzC _);exact⟨i,h1,h2,h3⟩}
theorem zUq {x y:Int}:zCO x y<0↔x<y:=by unfold zCO;split<;>(try split)<;>omega
theorem cmp_eq (x y:Int):(zCO x y==0)=(x==y):=by rw[Bool.eq_iff_iff,beq_iff_eq,beq_iff_eq];unfold zCO;split<;>(try split)<;>omega
theorem zR3 {a:OA}{cap:Nat}(l:List Odr)(id:Int)(hl:l.length<=1000000)(hr:Ris l)(i0:Nat)(h0:lbF l id i0){F:zA}(w0:World)(hF:Mem w0 F)(hs0:SlA F 6 a l.length cap (odl l)) :
  Cr 204 [.slice a l.length cap,.int .i64 id,.func (.func 205) #[] #[]] (.tuple #[.int .i64 (i0:Int),.bool (decide (i0<l.length)&&(od_ l i0).id==id)]) w0:=by{
obtain⟨hn,hc,b0,off,cs,T,fr,hs⟩:=hs0;refine eS func204 ntmps204 fun H=>?_;(repeat' first|refine yX ?_|fail);refine zD [(9,11),(15,34)] (fun x:Nat × Nat=>[(9,.int .i64 (x.1:Int)),(10,.int .i64 (x.2:Int))]) (fun x w=>x.1<=x.2/\x.2<=l.length/\(∀ t,t<x.1->(od_ l t).id<id)/\(∀ t,x.2<=t->t<l.length->id<=(od_ l t).id)/\St w0 [] w) (fun x=>x.2 - x.1) (0,l.length) ⟨rfl,rfl,trivial⟩ ⟨zzD _,zzC _,fun t ht=>absurd ht (zzE _),fun t h1 h2=>by omega,H⟩ ?_;clear H;rintro⟨i,j⟩ g w ⟨hij,hj,hlo,hhi,H⟩;simp only at hij hj hlo hhi H ⊢;have hq:=half_w (i:=i) (j:=j) qO;(repeat' first|refine yX ?_|fail);refine zB rfl (fun h=>?_) (fun h=>?_)
.have hlt:i<j:=by have:=zzA h;omega
 clear h;have hm:(i+j) / 2<l.length:=by omega
 rw[<- Int.toNat_natCast ((i+j) / 2)] at hm;rw[<- hq] at hm;have hqm:(IntKind.i64.wrap ((IntKind.u64.wrap (IntKind.i64.wrap ((i:Int)+(j:Int)))).fdiv (2 ^ min 1 IntKind.u64.bits))).toNat=(i+j) / 2:=by rw[hq];exact zz1 _
 (repeat' first|refine yX ?_|(refine y40 sg (hs) ?_ ?_ ?_;(rw[hq];omega);(rw[hq];omega))|refine x42 sg hs (H.memF hF) ?_|(refine OX.call rfl rfl (zAq zTI (caps:=[]) rfl rfl rfl) (zNS (od_ l _) id _) ?_;refine wQ H ?_;clear H;intro w H)|fail);rw[hqm];rw[hqm] at hm;refine zB rfl (fun h=>?_) (fun h=>?_)
 .have hb:(od_ l ((i+j) / 2)).id<id:=zUq.1 (zzA h);clear h;(repeat' first|refine yX ?_|fail)
  exact zC ((i+j) / 2+1,j) rfl ⟨by show Value.int .i64 (IntKind.i64.wrap (IntKind.i64.wrap _+1))=_;rw[hq];exact zU qO,rfl,trivial⟩ ⟨by show(i+j) / 2+1<=j;omega,hj,fun t (ht:t<(i+j) / 2+1)=>by
   by_cases e:t=(i+j) / 2
   .rw[e];exact hb
   .exact Int.lt_trans (hr t _ qO hm) hb,hhi,H⟩ (by show j - ((i+j) / 2+1)<j - i;omega)
 .have hb:id<=(od_ l ((i+j) / 2)).id:=Int.not_lt.1 fun e=>absurd (zUq.2 e) (zzB h);clear h;(repeat' first|refine yX ?_|fail)
  exact zC (i,(i+j) / 2) rfl ⟨rfl,by show Value.int .i64 (IntKind.i64.wrap _)=_;rw[hq],trivial⟩ ⟨by show i<=(i+j) / 2;omega,by show(i+j) / 2<=l.length;omega,hlo,fun t (ht:(i+j) / 2<=t) h2=>by
   by_cases e:t=(i+j) / 2
   .rw[e];exact hb
   .exact Int.le_trans hb (Int.le_of_lt (hr _ t qO h2)),H⟩ (by show(i+j) / 2 - i<j - i;omega)
.obtain rfl:i=j:=by have:=zzB h;omega
 clear h;obtain rfl:i=i0:=by
  rcases Nat.lt_trichotomy i i0 with e|e|e
  .have h1:=h0.2.1 i e;have h2:=hhi i (zzC _) (by have:=h0.1;omega);omega
  .exact e
  .have h1:=hlo i0 e;have h2:=h0.2.2 i0 (zzC _) qO;omega
 rcases Nat.lt_or_ge i l.length with hil|hil
 .have d1:decide ((i:Int)<(l.length:Int))=true:=yyb qO;(repeat' first|refine yW ?_|refine x40 sg hs ?_|refine x42 sg hs (H.memF hF) ?_|(refine OX.call rfl rfl (zAq zTI (caps:=[]) rfl rfl rfl) (zNS (od_ l _) id _) ?_;refine wQ H ?_;clear H;intro w H)|fail);exact zFL rfl rfl H.cl (by rw[cmp_eq,yyb hil,Bool.true_and])
 .have d1:decide ((i:Int)<(l.length:Int))=false:=yyc qO;(repeat' first|refine yW ?_|fail);exact zFL rfl rfl H.cl (by rw[yyc (Nat.not_lt.2 hil),Bool.false_and])}
end Go.Proofs.YtejhijhnlogikaaGreatDoor
