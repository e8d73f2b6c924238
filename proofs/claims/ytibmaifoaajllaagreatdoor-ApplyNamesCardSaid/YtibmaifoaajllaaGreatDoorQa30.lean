/- Texts of ours, joined: the steps of the proof, or the claim's theorem. -/
import Derived.Test.YtibmaifoaajllaaGreatDoorQa29
set_option linter.unusedSimpArgs false
set_option linter.unusedVariables false
set_option maxHeartbeats 16000000
namespace Go.Proofs.YtibmaifoaajllaaGreatDoor
open Go Go.Sk Go.RowKit
attribute [local irreducible] Go.Calls
def KI:KeyT Tryz.prog 3 Int where
 v:=.int .i64
 eq x y w:=by
  show(Op.equalIn 10000 3 (.int .i64 x) (.int .i64 y)).run Tryz.prog w=_
  exact zQs sg (t:=3) rfl (by rfl) (by rfl) rfl 9999 w
 chk b x w:=by
  show(Instr.checkKey b (9999+1) 3 _).run Tryz.prog w=_
  rw[Instr.checkKey]
  simp only[Sem.run_bind,run_underlying (show Tryz.prog.underlying 3=some (.int .i64) from sg.und (t:=3) rfl),Result.andThen_ok]
  rfl
 same x:=by
  show Instr.sameBits (9999+1) _ _=true
  simp[Instr.sameBits]
 d:=_
 und:=sg.und (t:=3) rfl
 now x y:=.inr rfl
def Ln.wf (x:Ln):Prop:=(-9223372036854775808≤x.delta∧x.delta≤9223372036854775807)∧(-9223372036854775808≤x.bal∧x.bal≤9223372036854775807)
end Go.Proofs.YtibmaifoaajllaaGreatDoor
namespace Go.Sk
open Go Go.RowKit
attribute [local semireducible] OX OW QX QW Yq
section
variable {P:Program}{n:Nw}{ops:Array Oper}{Q:zAX}{o:Oper}{rest:List Oper}{L:List (Nat × Value)}{b0:Env}{w:World}(S:Sig P)
theorem Yq.sliceHM {e:Env}{t E:TypeId}{x h m:Operand}{a:Option Addr}{len cap j:Nat}{k k':IntKind}{q:Int}{ti te:TI}(ho:o.op=.slice t x none (some h) (some m))
  (hx:ev e x=.slice a len cap) (hh:ev e h=.int k q) (hm:ev e m=.int k' q) (ht:lk S.tab t=some ti) (htd:ti.d=.slice E) (he:lk S.tab E=some te)
  (hj:q.toNat=j) (h0:0≤q) (h1:q≤cap):Yq P o e w (.slice a j j):=by
 subst hj
 intro w' _
 have hu:=S.run_und ht w'
 rw[htd] at hu
 have b1:=run_sliceBound (P:=P) w' k' q cap .slice3Acap h0 h1
 have b2:=run_sliceBound (P:=P) w' k q q.toNat .slice3B h0 (by omega)
 have hadd:(if q.toNat=0 then a else a.map (·.add (0*te.size)))=a:=by
  split
  ·rfl
  ·cases a with
   | none=>rfl
   | some a=>simp[Addr.add]
 simp only[execOp,ho,Instr.sliceAt,Instr.slice,Instr.sliceBounds,hx,hu,Option.map_none,Option.map_some,hh,hm,Sem.run_bind,Sem.run_pure,Result.andThen_ok,if_true,b1,b2,S.run_size he,Nat.sub_zero,hadd]
theorem Yq.sliceLHM {e:Env}{t E:TypeId}{x l h m:Operand}{a:Option Addr}{len cap:Nat}{k1 k2 k3:IntKind}{p q r:Int}{ti te:TI}(ho:o.op=.slice t x (some l) (some h) (some m))
  (hx:ev e x=.slice a len cap) (hl:ev e l=.int k1 p) (hh:ev e h=.int k2 q) (hm:ev e m=.int k3 r) (ht:lk S.tab t=some ti) (htd:ti.d=.slice E) (he:lk S.tab E=some te)
  (h0:0≤p) (h1:p≤q) (h2:q≤r) (h3:r≤cap):Yq P o e w (.slice (if r.toNat=p.toNat then a else a.map (·.add (p.toNat*te.size))) (q.toNat - p.toNat) (r.toNat - p.toNat)):=by
 intro w' _
 have hu:=S.run_und ht w'
 rw[htd] at hu
 have b1:=run_sliceBound (P:=P) w' k3 r cap .slice3Acap (by omega) h3
 have b2:=run_sliceBound (P:=P) w' k2 q r.toNat .slice3B (by omega) (by omega)
 have b3:=run_sliceBound (P:=P) w' k1 p q.toNat .slice3C h0 (by omega)
 simp only[execOp,ho,Instr.sliceAt,Instr.slice,Instr.sliceBounds,hx,hu,Option.map_some,hl,hh,hm,Sem.run_bind,Sem.run_pure,Result.andThen_ok,if_true,Option.isSome_some,b1,b2,b3,S.run_size he]
theorem Yq.sliceLH {e:Env}{t E:TypeId}{x l h:Operand}{g off len cap i j:Nat}{k k':IntKind}{p q:Int}{ti te:TI}(ho:o.op=.slice t x (some l) (some h) none)
  (hx:ev e x=.slice (some ⟨g,off,none⟩) len cap) (hl:ev e l=.int k p) (hh:ev e h=.int k' q) (ht:lk S.tab t=some ti) (htd:ti.d=.slice E) (he:lk S.tab E=some te)
  (hp:p.toNat=i) (hq:q.toNat=j) (h0:0≤p) (h1:p≤q) (h2:q≤cap) (h3:p<cap):Yq P o e w (.slice (some ⟨g,off+i*te.size,none⟩) (j - i) (cap - i)):=by
 intro w' _
 have hu:=S.run_und ht w'
 rw[htd] at hu
 subst hp
 subst hq
 have b1:=run_sliceBound (P:=P) w' k' q cap .sliceAcap (by omega) h2
 have b2:=run_sliceBound (P:=P) w' k p q.toNat .sliceB h0 (by omega)
 have hc:¬ cap=p.toNat:=by omega
 simp[execOp,ho,Instr.sliceAt,Instr.slice,Instr.sliceBounds,hx,hl,hh,hu,b1,b2,S.run_size he,hc,zz]
end
def Full (w:World)(size:Nat)(a0:Option Addr)(n:Nat)(xs:List Value):Prop:=xs.length=n*size∧(0<n→∃ b,a0=some b∧∀ j u,xs[j]?=some u→w.cell? (b.add j)=some u)
theorem zRw {P:Program}{w0 w:World}{G:zH}{E t ty:TypeId}{n m bytes:Nat}{a0:Option Addr}{src:Value}{xs news:List Value}{i:TypeInfo}{z:Value}(H:St w0 G w)
  (ht:P.underlying t=some (.slice E)) (hi:P.info? E=some i) (hz:i.zero=some z) (hby:i.bytes=bytes) (hzs:z.cells.size=i.size)
  (h:Full w i.size a0 n xs) (hsrc:Src w src m news) (hm:0<m) (hl:news.length=m*i.size) (h1:∀ u∈news,u.oneCell'=true)
  (h63:n+m≤maxLen) (hbytes:(n+m)*bytes≤140737488355328) :
  ∃ a' cap' M' w',(Builtin.append_ #[t,t] ty #[.slice a0 n n,src]).run P w=.ok (.slice a' (n+m) cap') w'∧Own M' E i.size a' (n+m) cap' (xs++news)∧St w0 (M'++G) w':=by
 rcases Nat.eq_zero_or_pos n with h0|h0
 ·subst h0
  have hx:xs=[]:=List.eq_nil_of_length_eq_zero (by simpa using h.1)
  subst hx
  exact zNQ (M:=[]) H ht hi hz hby hzs (zTC _ _ _) hsrc hl h1 h63 hbytes
 ·subst hby
  obtain⟨hxl,hd⟩:=h
  obtain⟨b,rfl,holds⟩:=hd h0
  have hsmall:n+m≤9223372036854775807:=by simp only[maxLen] at h63;omega
  have hlen:(xs++news).length=(n+m)*i.size:=by rw[List.length_append,hxl,hl,Nat.add_mul]
  obtain⟨a,c,rfl,hnews⟩:=hsrc.resolve_right (fun⟨_,_,h0⟩=>by omega)
  have hr:=run_append_grow (P:=P) w t ty E i z ht hi hz b n n xs hxl holds a m c news hl hnews (by omega) (by omega) (growslice_fits (by omega) hbytes)
  have hge:=grownCap_ge w (n+m) n E
  have hcm:grownCap w (n+m) n E≤maxLen:=grownCap_le_maxLen w (n+m) n E h63
  refine⟨_,_,[cb w.heap.size (xs++news++(Builtin.zeroCells z.cells (grownCap w (n+m) n E - (n+m))).toList) E],_,hr,⟨hlen,.inr ⟨_,_,rfl,rfl,hge,hcm,?_,?_⟩⟩,?_⟩
  ·simp only[List.length_append,Array.length_toList,size_zeroCells,hzs,hxl,hl,← Nat.add_mul]
   congr 1
   omega
  ·rw[← hlen];exact List.take_left
  ·have:=H.drewAlloc (.cells (xs.toArray++news.toArray++Builtin.zeroCells z.cells (grownCap w (n+m) n E - (n+m))) E)
   have he:(xs.toArray++news.toArray++Builtin.zeroCells z.cells (grownCap w (n+m) n E - (n+m)))=(xs++news++(Builtin.zeroCells z.cells (grownCap w (n+m) n E - (n+m))).toList).toArray:=by
    apply Array.ext';simp
   rw[he] at this ⊢
   exact this
section
variable {P:Program}{n:Nw}{ops:Array Oper}{Q:zAX}{o:Oper}{rest:List Oper}{L:List (Nat × Value)}{b0:Env}{w:World}(S:Sig P)
theorem OX.appendF {w0:World}{G:zH}{x y:Operand}{t E:TypeId}{d k m:Nat}(size bytes:Nat){a0:Option Addr}{src:Value}{xs news:List Value}{ti te:TI}(H:St w0 G w)
  (ho:o.op=.call { callee:=.builtin .append,args:=#[x,y],argTypes:=#[t,t] }) (hd:o.dst=some d) (hlt:Nat.blt d n.n=true)
  (hx:ev (ovl L b0) x=.slice a0 k k) (hy:ev (ovl L b0) y=src) (ht:lk S.tab t=some ti) (htd:ti.d=.slice E) (he:lk S.tab E=some te) (hz:Nat.beq te.zero.length te.size=true)
  (hsz:Nat.beq te.size size=true) (hby:Nat.ble te.bytes bytes=true)
  (h:Full w size a0 k xs) (hsrc:Src w src m news) (hm:0<m) (hl:news.length=m*size) (h1:∀ u∈news,u.oneCell'=true)
  (h63:k+m≤maxLen) (hbytes:(k+m)*bytes≤140737488355328)
  (kk:∀ a' cap' M' w',Own M' E size a' (k+m) cap' (xs++news)→St w0 (M'++G) w'→OW P n ops Q rest (ovl ((d,.slice a' (k+m) cap')::L) b0) w'):OX P n ops Q o rest (ovl L b0) w:=by
 intro a ha
 unfold Oper.wp
 rw[ha.eval]
 have hu:=S.und ht
 rw[htd] at hu
 obtain⟨f,hf1,hf2,hf3⟩:=S.inf he
 obtain⟨zv,hz1,hz2⟩:=Option.map_eq_some_iff.1 hf3
 obtain⟨i2,hi2,hb2⟩:=S.byt he
 rw[hf1] at hi2
 cases hi2
 obtain rfl:=Nat.eq_of_beq_eq_true hsz
 have hby':=Nat.le_of_ble_eq_true hby
 rw[← hf2] at h hl
 obtain⟨a',cap',M',w',hr,ho',hs⟩:=zRw (P:=P) (t:=t) (ty:=o.type) (src:=src) (m:=m) H hu hf1 hz1 hb2 (by rw[hz2,hf2];simpa using Nat.eq_of_beq_eq_true hz) h hsrc hm hl h1 h63 (Nat.le_trans (Nat.mul_le_mul_left _ hby') hbytes)
 simp only[execOp,ho,resolve,invoke,builtin,Sem.run_bind,Sem.run_pure,Result.andThen_ok,List.map_toArray,List.map_cons,List.map_nil,hx,hy,hr,Oper.upon_value,hd]
 rw[hf2] at ho'
 exact kk a' cap' M' w' ho' hs _ (ha.put hlt _)
theorem OX.appendR {w0:World}{G:zH}{x y:Operand}{t E:TypeId}{d k m g cap:Nat}(size:Nat){src:Value}{cs news:List Value}{ti te:TI}(H:St w0 (cb g cs E::G) w)
  (ho:o.op=.call { callee:=.builtin .append,args:=#[x,y],argTypes:=#[t,t] }) (hd:o.dst=some d) (hlt:Nat.blt d n.n=true)
  (hx:ev (ovl L b0) x=.slice (some ⟨g,0,none⟩) k cap) (hy:ev (ovl L b0) y=src) (ht:lk S.tab t=some ti) (htd:ti.d=.slice E) (he:lk S.tab E=some te)
  (hsz:Nat.beq te.size size=true) (hsrc:Src w src m news) (hl:news.length=m*size) (h1:∀ u∈news,u.oneCell'=true) (hroom:k+m≤cap) (hfit:k*size+news.length≤cs.length)
  (kk:∀ w',St w0 (cb g (wr cs (k*size) news) E::G) w'→OW P n ops Q rest (ovl ((d,.slice (some ⟨g,0,none⟩) (k+m) cap)::L) b0) w'):OX P n ops Q o rest (ovl L b0) w:=by
 intro a ha
 unfold Oper.wp
 rw[ha.eval]
 have hu:=S.und ht
 rw[htd] at hu
 obtain⟨f,hf1,hf2,hf3⟩:=S.inf he
 obtain rfl:=Nat.eq_of_beq_eq_true hsz
 rw[← hf2] at hl hfit kk
 have hg:=H.mem (cb g cs E) (by simp)
 have hr:∃ w',(Builtin.append_ #[t,t] o.type #[.slice (some ⟨g,0,none⟩) k cap,src]).run P w=.ok (.slice (some ⟨g,0,none⟩) (k+m) cap) w'∧St w0 (cb g (wr cs (k*f.size) news) E::G) w':=by
  by_cases hm0:m=0
  ·subst hm0
   have hn0:news=[]:=List.eq_nil_of_length_eq_zero (by simpa using hl)
   subst hn0
   have hfc:(Builtin.firstCells f.size 0 src).run P w=.ok #[] w:=by
    rcases hsrc with ⟨a,c,rfl,_⟩|⟨c,rfl,_⟩<;>simp[Builtin.firstCells,loadCells,loadCellsFrom]
   have hlo:(Builtin.lenOf src).run P w=.ok 0 w:=by
    rcases hsrc with ⟨a,c,rfl,_⟩|⟨c,rfl,_⟩<;>simp[Builtin.lenOf]
   have hwr:wr cs (k*f.size) []=cs:=by unfold wr;simp
   refine⟨w,?_,by rw[hwr];exact H⟩
   simp[Builtin.append_,run_underlying hu,sizeOf,typeInfo,hf1,hlo,hfc,storeCells,show k≤cap by omega]
  ·obtain⟨a,c,rfl,hnews⟩:=hsrc.resolve_right (fun⟨_,_,h0⟩=>hm0 h0)
   exact⟨_,run_append_room (P:=P) w t o.type E f hu hf1 g k cap cs.toArray hg a m c news hl hnews h1 hroom (by simpa using hfit),H.row Up.here⟩
 obtain⟨w',hr,hs⟩:=hr
 simp only[execOp,ho,resolve,invoke,builtin,Sem.run_bind,Sem.run_pure,Result.andThen_ok,List.map_toArray,List.map_cons,List.map_nil,hx,hy,hr,Oper.upon_value,hd]
 exact kk w' hs _ (ha.put hlt _)
end
theorem Els.cut {cs:List Value}{size n i:Nat}{el:Nat→List Value}(h:Els cs size n el)(hel:∀ j,j<n→(el j).length=size)(hi:i<n) :
  Els (Go.Sk.wr cs (i*size) ((List.range (n - (i+1))).flatMap fun t=>el (i+1+t))) size (n - 1) (fun j=>if j<i then el j else el (j+1)):=by
 have hfl:((List.range (n - (i+1))).flatMap fun t=>el (i+1+t)).length=(n - (i+1))*size:=flat_len _ fun j hj=>hel _ (by omega)
 have hend:=(h (n - 1) (by omega)).1
 have hn1:(n - 1)*size=i*size+(n - (i+1))*size:=by rw[← Nat.add_mul];congr 1;omega
 have hfit:i*size+((List.range (n - (i+1))).flatMap fun t=>el (i+1+t)).length≤cs.length:=by rw[hfl];omega
 intro j hj
 have hj1:(j+1)*size≤(n - 1)*size:=Nat.mul_le_mul_right _ (by omega)
 rw[Nat.add_mul,Nat.one_mul] at hj1
 refine⟨by rw[zB0 hfit];omega,?_⟩
 apply List.ext_getElem?
 intro q
 show _=(if j<i then el j else el (j+1))[q]?
 rw[List.getElem?_take]
 have hlen:(if j<i then el j else el (j+1)).length=size:=by split;exact hel _ (by omega);exact hel _ (by omega)
 by_cases hq:q<size
 ·rw[if_pos hq,List.getElem?_drop,zEn hfit,hfl]
  by_cases hji:j<i
  ·have:(j+1)*size≤i*size:=Nat.mul_le_mul_right _ hji
   rw[Nat.add_mul,Nat.one_mul] at this
   rw[if_neg (by omega),if_pos hji,← (h j (by omega)).2,List.getElem?_take,if_pos hq,List.getElem?_drop]
  ·have e1:j*size=i*size+(j - i)*size:=by rw[← Nat.add_mul];congr 1;omega
   have h3:(j - i+1)*size≤(n - (i+1))*size:=Nat.mul_le_mul_right _ (by omega)
   rw[Nat.add_mul,Nat.one_mul] at h3
   rw[if_pos (by omega),if_neg hji]
   have:=flat_at (el:=fun t=>el (i+1+t)) (n - (i+1)) (fun t ht=>hel _ (by omega)) (j - i) (by omega)
   rw[show i+1+(j - i)=j+1 by omega] at this
   rw[← this,List.getElem?_take,if_pos hq,List.getElem?_drop]
   congr 1;omega
 ·rw[if_neg hq,List.getElem?_eq_none (by omega)]
theorem Yq.entryM {P:Program}{o:Oper}{kt:TypeId}{ι ν:Type}[DecidableEq ι]{e:Env}{w:World}{M:zH}{b r clock s0:Nat}{seen:Array Nat}(K:KeyT P kt ι)(val:ν→Value)(es:List (ME ι ν)){x:ME ι ν}{X:Operand}(hM:Mem w M)(hr:(r,Obj.mapIter (some b) s0 (seen.push x.2.2) clock)∈M)(hm:(b,mo K val es clock)∈M)
  (hx:x∈es) (hn:(es.map (·.2.2)).Nodup) (ho:o.op=.entry X) (hX:ev e X=.pointer (some ⟨r,0,none⟩)):Yq P o e w (.tuple #[K.v x.1,val x.2.1]):=by
 intro w' hw'
 have:=run_entry_at (P:=P) w' r b s0 seen (zAs K val es).toArray clock ⟨K.v x.1,val x.2.1,x.2.2⟩ ((hM.ext hw') _ hr) ((hM.ext hw') _ hm) (List.mem_map.2 ⟨x,hx,rfl⟩) (by unfold zAs;simpa [List.map_map,Function.comp_def] using hn)
 simp only[execOp,ho,hX,Sem.run_bind,this,Result.andThen_ok,Sem.run_pure]
end Go.Sk
namespace Go.Proofs.YtibmaifoaajllaaGreatDoor
section
open Go Go.Sk Go.RowKit
attribute [local irreducible] Go.Calls
instance:Inhabited Pst:=⟨⟨0,0,0,0⟩⟩
def Pst.cells (q:Pst):List Value:=[.int .i64 q.acct,.int .i64 q.asset,.int .i64 q.free,.int .i64 q.held]
def qs_ (p:List Pst)(j:Nat):Pst:=p.getD j default
def qsl (p:List Pst)(j:Nat):List Value:=(qs_ p j).cells
theorem zKJ {p:List Pst}{k:Nat}(hk:k<p.length):p.take (k+1)=p.take k++[qs_ p k]:=by
 rw[List.take_succ_eq_append_getElem hk];simp[qs_,List.getElem?_eq_getElem hk]
theorem zJI (p:List Pst)(q:Pst)(s:Int):zBU (p++[q]) s=zBU p s+if q.asset=s then q.free+q.held else 0:=by
 unfold zBU
 rw[List.foldl_append,List.foldl_cons,List.foldl_nil]
 split<;>simp
theorem zT2 {p:List Pst}{s:Int}(h:zBU p s≠0):∃ q∈p,q.asset=s:=by
 have:∀ (l:List Pst) (z:Int),(∀ q∈l,q.asset≠s)→l.foldl (fun z q=>if q.asset=s then z+(q.free+q.held) else z) z=z:=by
  intro l
  induction l with
  | nil=>intro z _;rfl
  | cons q l ih=>intro z hq;rw[List.foldl_cons,if_neg (hq q (List.Mem.head _))];exact ih z fun x hx=>hq x (zz5 _ hx)
 by_cases hq:∃ q∈p,q.asset=s
 ·exact hq
 ·exact absurd (this p 0 fun q hm he=>hq ⟨q,hm,he⟩) h
structure PstOk (q:Pst):Prop where
 a:0≤q.acct∧q.acct≤64
 s:0≤q.asset∧q.asset≤16
 f:-1125899906842624≤q.free∧q.free≤1125899906842624
 h:-1125899906842624≤q.held∧q.held≤1125899906842624
 z:q.acct=0→q.held=0
theorem zEW {q:Pst}:zCs q=false↔PstOk q:=by
 unfold zCs zIn
 simp only[Bool.or_eq_false_iff,Bool.not_eq_false',zC9,Bool.and_eq_false_iff,decide_eq_false_iff_not,beq_eq_false_iff_ne,ne_eq,bne_eq_false_iff_eq]
 constructor
 ·rintro⟨⟨⟨h1,h2⟩,h3⟩,h4⟩
  exact⟨by omega,by omega,by omega,by omega,fun h=>h4.resolve_left (fun g=>g h)⟩
 ·rintro⟨h1,h2,h3,h4,h5⟩
  refine⟨⟨⟨by omega,by omega,by omega⟩,by omega,by omega⟩,?_⟩
  by_cases h:q.acct=0
  ·exact .inr (h5 h)
  ·exact .inl h
theorem zT3 {p:List Pst}(h:∀ q∈p,PstOk q)(s:Int):-((p.length:Int)*2251799813685248)≤zBU p s∧zBU p s≤(p.length:Int)*2251799813685248:=by
 induction p with
 | nil=>exact⟨by simp[zBU],by simp[zBU]⟩
 | cons q p ih =>
   obtain⟨h1,h2⟩:=ih fun x hx=>h x (zz5 _ hx)
   have hq:=h q (zz2 _)
   have:=hq.f
   have:=hq.h
   rw[zBh,List.length_cons]
   split<;>omega
theorem zPN {p:List Pst}(hl:p.length≤64){q:Pst}(hq:q∈p)(h:zCs q=true):zAd p=1:=by
 unfold zAd
 rw[if_neg (by omega),if_pos (List.any_eq_true.2 ⟨q,hq,h⟩)]
theorem zPO {p:List Pst}(hl:p.length≤64)(hb:∀ q∈p,zCs q=false):zAd p=if (List.range 17).any fun s=>zBU p (s:Nat) != 0 then 1 else 0:=by
 unfold zAd
 rw[if_neg (by omega),if_neg (by rw[List.any_eq_true];rintro⟨q,hq,h⟩;rw[hb q hq] at h;cases h)]
theorem zT4 {p:List Pst}(hb:∀ q∈p,zCs q=false){s:Int}(h:zBU p s≠0):((List.range 17).any fun s=>zBU p (s:Nat) != 0)=true:=by
 obtain⟨q,hq,rfl⟩:=zT2 h
 have:=(zEW.1 (hb q hq)).s
 refine List.any_eq_true.2 ⟨q.asset.toNat,List.mem_range.2 (by omega),?_⟩
 rw[Int.toNat_of_nonneg this.1]
 simpa using h
theorem zLT {ι ν:Type}[DecidableEq ι]{es:List (ME ι ν)}{x:ι}{v:ν}(h:atM es x=some v):∃ e∈es,e.1=x∧e.2.1=v:=by
 induction es with
 | nil=>cases h
 | cons e es ih =>
   rw[zBC] at h
   by_cases hx:x=e.1
   ·rw[if_pos hx] at h
    exact⟨e,zz2 _,hx.symm,Option.some.inj h⟩
   ·rw[if_neg hx] at h
    obtain⟨f,hf,h1⟩:=ih h
    exact⟨f,zz5 _ hf,h1⟩
theorem zKK {ι ν:Type}[DecidableEq ι]{es:List (ME ι ν)}{clock:Nat}(h:MI es clock){e:ME ι ν}(he:e∈es):atM es e.1=some e.2.1:=by
 have hk:=h.keys
 clear h
 induction es with
 | nil=>cases he
 | cons f es ih =>
   rw[List.map_cons,List.nodup_cons] at hk
   rw[zBC]
   rcases List.mem_cons.1 he with rfl|g
   ·rw[if_pos rfl]
   ·rw[if_neg (fun hx=>hk.1 (List.mem_map.2 ⟨e,g,hx⟩))]
    exact ih g hk.2
theorem zN6 {ap:Option Addr}{cp:Nat}(p:List Pst){F:zH}(w0:World)(hF:Mem w0 F)(hp:SlA F 4 ap p.length cp (qsl p)) :
  Calls Tryz.prog 217 [.slice ap p.length cp].toArray w0 (Ret (.int .i64 (zAd p)) w0):=by
 obtain⟨hn,hc,b0,off,cs,T,fr,hs⟩:=hp
 by_cases hl:p.length≤64
 ·have d1:decide ((p.length:Int)>64)=false:=decide_eq_false (by omega)
  have hz:∀ w:World,(zeroValue 2).run Tryz.prog w=.ok (Value.int .i64 0) w:=fun w=>Tryz.zeroValue2 w
  refine enter [.tmp 2] Tryz.func217 rfl Tryz.ntmps217 rfl rfl ?_
  have H:=zB w0
  repeat' (first|refine yT ?_|refine yU ?_|fail)
  refine zJ rfl (fun h=>by rw[d1] at h;cases h) (fun h=>?_)
  clear h
  repeat' (first|refine yT ?_|(refine m1 H ?_;intro bm w H)|refine yU ?_|with_reducible apply zA|fail)
  refine zM [(2,2),(5,5),(14,55)] (fun x:Nat × List (ME Int Int) × Nat=>[(14,.int .i64 (x.1:Int))])
   (fun x w=>x.1≤p.length∧(∀ j,j<x.1→zCs (qs_ p j)=false)∧MI x.2.1 x.2.2∧(∀ s,(atM x.2.1 s).getD 0=zBU (p.take x.1) s)∧St w0 [(bm,mo KI (Value.int .i64) x.2.1 x.2.2)] w) (fun x=>p.length - x.1) (0,[],0) ⟨rfl,trivial⟩ ⟨zzD _,fun j hj=>absurd hj (zzE _),MI.nil,fun s=>rfl,H⟩ ?_
  clear H
  rintro⟨k,es,clock⟩ gh w ⟨hk,hbk,hMI,hat,H⟩
  simp only at hk hbk hMI hat H ⊢
  have hbt:∀ q∈p.take k,zCs q=false:=by
   intro q hq
   obtain⟨j,hj,rfl⟩:=List.getElem_of_mem hq
   rw[List.length_take] at hj
   have:=hbk j (by omega)
   rw[List.getElem_take]
   simpa [qs_,List.getElem?_eq_getElem (show j<p.length by omega)] using this
  repeat' (first|refine yT ?_|refine yU ?_|fail)
  refine zJ rfl (fun h=>?_) (fun h=>?_)
  ·have hlt:k<p.length:=by have:=zzA h;omega
   clear h
   have hmem:qs_ p k∈p:=zAK _ hlt
   cases hbad:zCs (qs_ p k) with
   | true =>
     have hret:=zPN hl hmem hbad
     repeat' (first|refine yT ?_|refine y7 sg H ?_|(refine y10 sg H ?_;intro b w H)|(refine y11 sg H ?_;intro w H)|(refine y40 sg (hs) ?_ ?_ ?_;(omega);(omega))|(refine y42 sg (hs) ((H.memF hF)) ?_ ?_;(omega))|(refine' y30 zJj ?_ ?_;rotate_left;exact zJn _ _ _;intro w hcl;replace H:=H.ext hcl;clear hcl)|(refine' y30 zMB ?_ ?_;rotate_left;exact zRY _ _;intro w hcl;replace H:=H.ext hcl;clear hcl)|refine yU ?_|(refine y17 ?_ ?_;all_goals intro h)|with_reducible apply zA|(refine y23 ?_ ?_;all_goals intro h)|fail)
     all_goals first
      | exact zQ rfl H.cl (by rw[hret])
      | (exfalso;unfold zCs at hbad;simp_all;done)
   | false =>
     have hok:=zEW.1 hbad
     have g1:zCX (qs_ p k).acct (qs_ p k).asset=true:=(zC9 _ _).2 ⟨hok.a.1,hok.a.2,hok.s.1,hok.s.2⟩
     have g2:zIn (qs_ p k).free=false:=by have:=hok.f;unfold zIn;simp;omega
     have g3:zIn (qs_ p k).held=false:=by have:=hok.h;unfold zIn;simp;omega
     have hb1:=zT3 (fun q hq=>zEW.1 (hbt q hq)) (qs_ p k).asset
     have hlen:(p.take k).length≤64:=by rw[List.length_take];omega
     have hf:=hok.f
     have hh:=hok.h
     have w1:IntKind.i64.wrap ((qs_ p k).free+(qs_ p k).held)=(qs_ p k).free+(qs_ p k).held:=w64 (by omega) (by omega)
     have w2:IntKind.i64.wrap ((atM es (qs_ p k).asset).getD 0+IntKind.i64.wrap ((qs_ p k).free+(qs_ p k).held))=zBU (p.take (k+1)) (qs_ p k).asset:=by
      rw[w1,hat,zKJ hlt,zJI,if_pos rfl]
      exact w64 (by omega) (by omega)
     have key:∀ w',St w0 [(bm,mo KI (Value.int .i64) (zFQ es clock (qs_ p k).asset (IntKind.i64.wrap ((atM es (qs_ p k).asset).getD 0+IntKind.i64.wrap ((qs_ p k).free+(qs_ p k).held)))) (zFR es clock (qs_ p k).asset))] w' →
       k+1≤p.length∧(∀ j,j<k+1→zCs (qs_ p j)=false)∧MI (zFQ es clock (qs_ p k).asset (IntKind.i64.wrap ((atM es (qs_ p k).asset).getD 0+IntKind.i64.wrap ((qs_ p k).free+(qs_ p k).held)))) (zFR es clock (qs_ p k).asset)∧(∀ s,(atM (zFQ es clock (qs_ p k).asset (IntKind.i64.wrap ((atM es (qs_ p k).asset).getD 0+IntKind.i64.wrap ((qs_ p k).free+(qs_ p k).held)))) s).getD 0=zBU (p.take (k+1)) s)∧St w0 [(bm,mo KI (Value.int .i64) (zFQ es clock (qs_ p k).asset (IntKind.i64.wrap ((atM es (qs_ p k).asset).getD 0+IntKind.i64.wrap ((qs_ p k).free+(qs_ p k).held)))) (zFR es clock (qs_ p k).asset))] w':=by
      intro w' hw
      refine⟨hlt,fun j hj=>?_,zHx hMI _ _,fun s=>?_,hw⟩
      ·rcases(show j<k∨j=k by omega) with g|rfl
       ·exact hbk j g
       ·exact hbad
      ·rw[zJw]
       by_cases hsx:s=(qs_ p k).asset
       ·rw[if_pos hsx,hsx];exact w2
       ·rw[if_neg hsx,hat,zKJ hlt,zJI,if_neg (Ne.symm hsx),Int.add_zero]
     by_cases hz0:(qs_ p k).acct=0
     ·have g4:((qs_ p k).acct==0)=true:=by rw[hz0];rfl
      have g5:((qs_ p k).held != 0)=false:=by rw[hok.z hz0];rfl
      repeat' (first|refine yT ?_|refine y7 sg H ?_|(refine y10 sg H ?_;intro b w H)|(refine y11 sg H ?_;intro w H)|(refine y40 sg (hs) ?_ ?_ ?_;(omega);(omega))|(refine y42 sg (hs) ((H.memF hF)) ?_ ?_;(omega))|(refine' y30 zJj ?_ ?_;rotate_left;exact zJn _ _ _;intro w hcl;replace H:=H.ext hcl;clear hcl)|(refine' y30 zMB ?_ ?_;rotate_left;exact zRY _ _;intro w hcl;replace H:=H.ext hcl;clear hcl)|(refine zf rfl rfl (Yq.lookM sg KI (Value.int .i64) es (qs_ p k).asset 0 hz H.mem qC rfl rfl rfl rfl rfl) ?_)|(refine m3 sg KI (Value.int .i64) es (qs_ p k).asset (IntKind.i64.wrap ((atM es (qs_ p k).asset).getD 0+IntKind.i64.wrap ((qs_ p k).free+(qs_ p k).held))) H (Up.there Up.here) rfl rfl ?_;intro w H)|refine yU ?_|(refine y17 ?_ ?_;all_goals(intro h;try (exfalso;first|((rw[g1] at h;cases h);done)|((rw[g2] at h;cases h);done)|((rw[g3] at h;cases h);done)|((rw[g4] at h;cases h);done)|((rw[g5] at h;cases h);done))))|with_reducible apply zA|(refine y23 ?_ ?_;all_goals(intro h;try (exfalso;first|((rw[g1] at h;cases h);done)|((rw[g2] at h;cases h);done)|((rw[g3] at h;cases h);done)|((rw[g4] at h;cases h);done)|((rw[g5] at h;cases h);done))))|fail)
      exact zK (k+1,_,_) rfl ⟨zZ (by omega),trivial⟩ (key _ (H.sub (zz7 _ _))) (by show p.length - (k+1)<p.length - k;omega)
     ·have g4:((qs_ p k).acct==0)=false:=beq_eq_false_iff_ne.2 hz0
      repeat' (first|refine yT ?_|refine y7 sg H ?_|(refine y10 sg H ?_;intro b w H)|(refine y11 sg H ?_;intro w H)|(refine y40 sg (hs) ?_ ?_ ?_;(omega);(omega))|(refine y42 sg (hs) ((H.memF hF)) ?_ ?_;(omega))|(refine' y30 zJj ?_ ?_;rotate_left;exact zJn _ _ _;intro w hcl;replace H:=H.ext hcl;clear hcl)|(refine' y30 zMB ?_ ?_;rotate_left;exact zRY _ _;intro w hcl;replace H:=H.ext hcl;clear hcl)|(refine zf rfl rfl (Yq.lookM sg KI (Value.int .i64) es (qs_ p k).asset 0 hz H.mem qC rfl rfl rfl rfl rfl) ?_)|(refine m3 sg KI (Value.int .i64) es (qs_ p k).asset (IntKind.i64.wrap ((atM es (qs_ p k).asset).getD 0+IntKind.i64.wrap ((qs_ p k).free+(qs_ p k).held))) H (Up.there Up.here) rfl rfl ?_;intro w H)|refine yU ?_|(refine y17 ?_ ?_;all_goals(intro h;try (exfalso;first|((rw[g1] at h;cases h);done)|((rw[g2] at h;cases h);done)|((rw[g3] at h;cases h);done)|((rw[g4] at h;cases h);done))))|with_reducible apply zA|fail)
      exact zK (k+1,_,_) rfl ⟨zZ (by omega),trivial⟩ (key _ (H.sub (zz7 _ _))) (by show p.length - (k+1)<p.length - k;omega)
  ·obtain rfl:k=p.length:=by have:=zzB h;omega
   clear h
   rw[List.take_length] at hat hbt
   have hsum:=zPO hl hbt
   repeat' (first|refine yT ?_|(refine m8 sg KI (Value.int .i64) es H (zz2 _) ?_;intro r w H)|refine yU ?_|with_reducible apply zA|fail)
   refine zM [(2,2),(7,7),(58,63)] (fun _:Array Nat × List (ME Int Int)=>[]) (fun x w=>Todo es x.1 x.2∧(∀ e∈es,e∈x.2∨e.2.1=0)∧St w0 [(r,.mapIter (some bm) clock x.1 clock),(bm,mo KI (Value.int .i64) es clock)] w) (fun x=>x.2.length) (#[],es) trivial ⟨Todo.start es,fun e he=>.inl he,H⟩ ?_
   clear H
   rintro⟨seen,todo⟩ gh w ⟨hT,hze,H⟩
   simp only at hT hze H ⊢
   repeat' (first|refine yT ?_|(refine m9 KI (Value.int .i64) es H (zz5 _ (zz2 _)) (zz2 _) hMI (zzC _) hT ?_ ?_)|refine yU ?_|fail)
   ·intro h0
    subst h0
    repeat' (first|refine yT ?_|refine yU ?_|fail)
    refine zQ rfl H.cl (congrArg (Value.int .i64) ?_)
    rw[hsum,if_neg]
    rw[List.any_eq_true]
    rintro⟨s,_,h⟩
    have hne:zBU p (s:Nat)≠0:=by simpa using h
    rw[← hat] at hne
    cases hx:atM es ((s:Nat):Int) with
    | none=>rw[hx] at hne;exact hne rfl
    | some v =>
      rw[hx] at hne
      obtain⟨e,he,h1,h2⟩:=zLT hx
      rcases hze e he with g|g
      ·cases g
      ·exact hne (by rw[← h2,g];rfl)
   ·intro e todo2 w hperm he hT2 hH
    have H2:=hH _ Up.here
    clear H hH
    have H:=H2
    clear H2
    repeat' (first|refine yT ?_|refine z13 (Yq.entryM KI (Value.int .i64) es H.mem (zz2 _) (zz5 _ (zz2 _)) he hMI.stamps rfl rfl) ?_|refine yU ?_|with_reducible apply zA|fail)
    have hae:(atM es e.1).getD 0=e.2.1:=by rw[zKK hMI he];rfl
    refine zJ rfl (fun h=>?_) (fun h=>?_)
    ·repeat' (first|refine yT ?_|refine yU ?_|fail)
     refine zQ rfl H.cl (congrArg (Value.int .i64) ?_)
     have hne:zBU p e.1≠0:=by rw[← hat,hae];simpa using h
     rw[hsum,if_pos (zT4 hbt hne)]
    ·repeat' (first|refine yU ?_|fail)
     have h0:e.2.1=0:=by simpa using h
     refine zK (seen.push e.2.2,todo2) rfl trivial ⟨hT2,fun x hx=>?_,H⟩ (by have:=hperm.length_eq;simp only[List.length_cons] at this;show todo2.length<todo.length;omega)
     rcases hze x hx with g|g
     ·rcases List.mem_cons.1 (hperm.mem_iff.1 g) with rfl|g
      ·exact .inr h0
      ·exact .inl g
     ·exact .inr g
 ·have d1:decide ((p.length:Int)>64)=true:=decide_eq_true (by omega)
  have e:zAd p=40:=by unfold zAd;rw[if_pos (by omega)]
  refine enter [.tmp 2] Tryz.func217 rfl Tryz.ntmps217 rfl rfl ?_
  have H:=zB w0
  repeat' (first|refine yT ?_|refine yU ?_|(refine y23 ?_ ?_;all_goals(intro h;try (exfalso;first|((rw[d1] at h;cases h);done))))|fail)
  exact zQ rfl H.cl (by rw[e])
end
section
open Go Go.Sk Go.RowKit
theorem zRx {g:Nat→Int}{c:Int}(h:∀ a,0≤g a∧g a≤c):∀ l:List Nat,0≤(l.map g).sum∧(l.map g).sum≤l.length*c
 | []=>⟨by simp,by simp⟩
 | a::l=>by
   have:=zRx h l
   have:=h a
   rw[List.map_cons,List.sum_cons,List.length_cons,Int.natCast_add,Int.add_mul]
   omega
theorem zIQ {l:List Row4}(h:zAJ l=true)(x:Pl):(-72057594037927936≤(atR l x).1∧(atR l x).1≤1125899906842624)∧0≤(atR l x).2∧(atR l x).2≤1125899906842624:=by
 obtain⟨h1,h2⟩:=zBc h x
 by_cases hg:x∈zBb
 ·by_cases h0:x.1=0
  ·have h3:=h1 h0
   have hs:=zCL.1 hg
   have hc:=zIA h x.2.toNat (by omega)
   have hx:x=(((0:Nat):Int),((x.2.toNat:Nat):Int)):=Prod.ext h0 (by simp only;omega)
   unfold zGr at hc
   rw[show List.range 65=0::(List.range 64).map Nat.succ from List.range_succ_eq_map,List.map_cons,List.sum_cons,List.map_map] at hc
   have hb:=zRx (g:=(fun(a:Nat)=>(atR l ((a:Int),((x.2.toNat:Nat):Int))).1+(atR l ((a:Int),((x.2.toNat:Nat):Int))).2) ∘ Nat.succ) (c:=1125899906842624) (fun a=>by
    have:=(zBc h (((a.succ:Nat):Int),((x.2.toNat:Nat):Int))).2 (by simp only;omega)
    simp only[Function.comp_apply];omega) (List.range 64)
   rw[List.length_range] at hb
   rw[← hx] at hc
   omega
  ·have:=h2 h0;omega
 ·rw[zH9 h hg];exact⟨⟨by decide,by decide⟩,by decide,by decide⟩
theorem zN7 (p:List Pst)(q:Pst)(x:Pl):dlF (p++[q]) x=if q.acct=x.1∧q.asset=x.2 then((dlF p x).1+q.free,(dlF p x).2+q.held) else dlF p x:=by
 unfold dlF
 rw[List.foldl_append,List.foldl_cons,List.foldl_nil]
theorem dl_bd {p:List Pst}(h:∀ q∈p,PstOk q)(x:Pl):(-((p.length:Int)*1125899906842624)≤(dlF p x).1∧(dlF p x).1≤(p.length:Int)*1125899906842624)∧-((p.length:Int)*1125899906842624)≤(dlF p x).2∧(dlF p x).2≤(p.length:Int)*1125899906842624:=by
 induction p with
 | nil=>exact⟨⟨by simp[dlF],by simp[dlF]⟩,by simp[dlF],by simp[dlF]⟩
 | cons q p ih =>
   have h1:=ih fun x hx=>h x (zz5 _ hx)
   have hq:=h q (zz2 _)
   have:=hq.f
   have:=hq.h
   rw[zAW,List.length_cons]
   split
   ·simp only;omega
   ·omega
def zB2 (l:List Row4)(p:List Pst)(x:Pl):Bool:=(l.any fun r=>decide (zAD r=x))||p.any fun q=>decide (((q.acct,q.asset):Pl)=x)
def zFY (l:List Row4)(p:List Pst)(x:Pl):Row4:=⟨x.1,x.2,(zm l p x).1,(zm l p x).2⟩
def zE0 (l:List Row4)(p:List Pst)(x:Pl):Option Row4:=if zB2 l p x then some (zFY l p x) else none
theorem zIR {l:List Row4}{p:List Pst}{x:Pl}(h:zB2 l p x=false):zm l p x=(0,0):=by
 unfold zB2 at h
 rw[Bool.or_eq_false_iff,List.any_eq_false,List.any_eq_false] at h
 have h1:atR l x=(0,0):=zGo fun r hr he=>by have:=h.1 r hr;simp[he] at this
 have h2:dlF p x=(0,0):=by
  by_cases hd:dlF p x=(0,0)
  ·exact hd
  ·obtain⟨q,hq,e1,e2⟩:=zRn hd
   have:=h.2 q hq
   simp[e1,e2] at this
 unfold zm
 rw[h1,h2];rfl
theorem zRy (l:List Row4)(p:List Pst)(x:Pl):((zE0 l p x).getD ⟨0,0,0,0⟩).free=(zm l p x).1∧((zE0 l p x).getD ⟨0,0,0,0⟩).held=(zm l p x).2:=by
 unfold zE0
 cases h:zB2 l p x with
 | true=>exact⟨rfl,rfl⟩
 | false=>rw[zIR h];exact⟨rfl,rfl⟩
theorem zMn {l:List Row4}(h:zAJ l=true){i j:Nat}(hi:i<l.length)(hj:j<i):zAD (rw_ l j)≠zAD (rw_ l i):=by
 have:=zEu h
 rw[List.pairwise_iff_getElem] at this
 have:=this j i (by omega) hi hj
 rw[show rw_ l j=l[j] by simp[rw_,List.getElem?_eq_getElem (show j<l.length by omega)],show rw_ l i=l[i] by simp[rw_,List.getElem?_eq_getElem hi]]
 intro he
 unfold LtR at this;unfold zAD at he
 have:=Prod.mk.inj he
 omega
theorem zPP {l:List Row4}(h:zAJ l=true){k:Nat}(hk:k<l.length)(x:Pl):(l.take (k+1)).find? (fun r=>decide (zAD r=x))=if x=zAD (rw_ l k) then some (rw_ l k) else(l.take k).find? fun r=>decide (zAD r=x):=by
 have e:l.take (k+1)=l.take k++[rw_ l k]:=by
  rw[List.take_succ_eq_append_getElem hk];simp[rw_,List.getElem?_eq_getElem hk]
 rw[e,List.find?_append]
 by_cases hx:x=zAD (rw_ l k)
 ·rw[if_pos hx,List.find?_eq_none.2,Option.none_or]
  ·simp[hx]
  ·intro r hr
   obtain⟨j,hj,rfl⟩:=List.getElem_of_mem hr
   rw[List.length_take] at hj
   have:=zMn h hk (show j<k by omega)
   rw[List.getElem_take,hx]
   rw[show rw_ l j=l[j] by simp[rw_,List.getElem?_eq_getElem (show j<l.length by omega)]] at this
   simpa using this
 ·rw[if_neg hx]
  simp[Ne.symm hx]
theorem zT5 {l:List Row4}(h:zAJ l=true)(x:Pl):l.find? (fun r=>decide (zAD r=x))=zE0 l [] x:=by
 unfold zE0 zB2
 rw[List.any_nil,Bool.or_false]
 cases hf:l.find? fun r=>decide (zAD r=x) with
 | none =>
   rw[if_neg]
   rw[List.any_eq_true];rintro⟨r,hr,he⟩
   have:=List.find?_eq_none.1 hf r hr
   exact this he
 | some r =>
   have h1:=List.mem_of_find?_eq_some hf
   have h2:zAD r=x:=by have:=List.find?_some hf;simpa using this
   rw[if_pos (List.any_eq_true.2 ⟨r,h1,by simp[h2]⟩)]
   have:=zGH (zEu h) h1
   rw[h2] at this
   unfold zFY zm
   rw[this]
   subst h2
   simp[dlF,zAD]
theorem zRz (l:List Row4)(p:List Pst)(q:Pst)(x:Pl):zE0 l (p++[q]) x=if x=(q.acct,q.asset) then some ⟨q.acct,q.asset,(zm l p (q.acct,q.asset)).1+q.free,(zm l p (q.acct,q.asset)).2+q.held⟩ else zE0 l p x:=by
 by_cases hx:x=(q.acct,q.asset)
 ·subst hx
  rw[if_pos rfl]
  unfold zE0 zB2
  rw[if_pos (by simp)]
  unfold zFY zm
  rw[zN7,if_pos ⟨rfl,rfl⟩]
  simp[Int.add_assoc]
 ·rw[if_neg hx]
  have h1:zm l (p++[q]) x=zm l p x:=by
   unfold zm
   rw[zN7,if_neg fun h=>hx (Prod.ext h.1.symm h.2.symm)]
  have h2:zB2 l (p++[q]) x=zB2 l p x:=by
   unfold zB2
   rw[List.any_append]
   simp[Ne.symm hx]
  unfold zE0 zFY
  rw[h1,h2]
def wrR (r:Row4):Int:=zAN r.acct r.free r.held
def wOf (v:List Row4):Int:=if v.any (fun r=>wrR r==47) then 47 else if v.any (fun r=>wrR r==41) then 41 else 0
theorem zR0 (r:Row4):wrR r=0∨wrR r=47∨wrR r=41:=by
 rcases zCm r.acct r.free r.held with h|h|h
 ·exact .inl h.1
 ·exact .inr (.inl h.1)
 ·exact .inr (.inr h.1)
theorem zR1 (v:List Row4)(r:Row4):wOf (v++[r])=if wrR r=47∨wOf v=0 then wrR r else wOf v:=by
 unfold wOf
 simp only[List.any_append,List.any_cons,List.any_nil,Bool.or_false]
 rcases zR0 r with h|h|h<;>cases v.any (fun r=>wrR r==47)<;>cases v.any (fun r=>wrR r==41)<;>simp[h]
def nzR (r:Row4):Bool:=r.free != 0||r.held != 0
theorem zIS {l:List Row4}{p:List Pst}(h:zAJ l=true)(hp:∀ q∈p,zCs q=false){x:Pl}(hk:zB2 l p x=true):x∈zBb:=by
 unfold zB2 at hk
 rw[Bool.or_eq_true,List.any_eq_true,List.any_eq_true] at hk
 rcases hk with ⟨r,hr,he⟩|⟨q,hq,he⟩
 ·rw[← of_decide_eq_true he];exact zGp (zDw h r hr)
 ·rw[← of_decide_eq_true he]
  have:=zEW.1 (hp q hq)
  exact zCL.2 ⟨this.a,this.s⟩
theorem zT6 {l:List Row4}{p:List Pst}(h:zAJ l=true)(hp:∀ q∈p,zCs q=false){v:List Row4}(hv:∀ r,r∈v↔zE0 l p (zAD r)=some r) :
  wOf v=zAt (zm l p)∧∀ r,r∈mkR (zm l p)↔r∈v.filter nzR:=by
 have hin:∀ x,zB2 l p x=true→zFY l p x∈v:=fun x hx=>by
  rw[hv];show zE0 l p x=_;unfold zE0;rw[if_pos hx]
 have hof:∀ r∈v,zB2 l p (zAD r)=true∧r=zFY l p (zAD r):=fun r hr=>by
  have:=(hv r).1 hr
  unfold zE0 at this
  split at this
  ·rename_i hk;exact⟨hk,(Option.some.inj this).symm⟩
  ·cases this
 have hz:zAN 0 0 0=0:=rfl
 have hany:∀ c:Int,c≠0→v.any (fun r=>wrR r==c)=zBb.any fun x=>zAN x.1 (zm l p x).1 (zm l p x).2==c:=by
  intro c hc
  rw[Bool.eq_iff_iff,List.any_eq_true,List.any_eq_true]
  constructor
  ·rintro⟨r,hr,he⟩
   obtain⟨h1,h2⟩:=hof r hr
   refine⟨zAD r,zIS h hp h1,?_⟩
   rw[h2] at he
   exact he
  ·rintro⟨x,hx,he⟩
   cases hk:zB2 l p x with
   | true=>exact⟨_,hin x hk,he⟩
   | false =>
     rw[zIR hk] at he
     have h0:zAN x.1 0 0=0:=by unfold zAN;split<;>simp
     simp only[h0] at he
     exact absurd (eq_of_beq he).symm hc
 constructor
 ·unfold wOf zAt
  rw[hany 47 (by decide),hany 41 (by decide)]
 ·intro r
  rw[zFF,List.mem_filter]
  constructor
  ·rintro⟨h1,h2,h3⟩
   have hk:zB2 l p (zAD r)=true:=by
    rw[← Bool.not_eq_false]
    intro hk
    rw[zIR hk] at h2
    have:=Prod.mk.inj h2
    exact h3 ⟨this.1.symm,this.2.symm⟩
   have hr:r=zFY l p (zAD r):=by
    unfold zFY;rw[h2]
    rfl
   refine⟨hr ▸ hin _ hk,?_⟩
   unfold nzR
   rw[Bool.or_eq_true,bne_iff_ne,bne_iff_ne]
   omega
  ·rintro⟨h1,h2⟩
   obtain⟨hk,hr⟩:=hof r h1
   refine⟨zIS h hp hk,?_,?_⟩
   ·conv=>rhs;rw[hr]
    rfl
   ·unfold nzR at h2
    rw[Bool.or_eq_true,bne_iff_ne,bne_iff_ne] at h2
    omega
def priF (s a b:Int):Int:=if s=1 then zCB b a else zCB a b
def zGz (a b:Odr):Int:=orF (priF a.side a.price b.price) (zCB a.id b.id)
theorem zR2 {a b:Odr}:zGz a b<0↔zAE a b=true:=by
 unfold zGz zAE priF orF zCB
 by_cases h1:a.price=b.price
 ·rw[if_pos h1,h1];simp;split<;>(try split)<;>omega
 ·rw[if_neg h1]
  by_cases h2:a.side=1
  ·simp only[if_pos h2,decide_eq_true_eq];repeat' split
   all_goals omega
  ·simp only[if_neg h2,decide_eq_true_eq];repeat' split
   all_goals omega
def ofS (i s:Int)(o:Odr):Bool:=o.inst==i&&o.side==s
def zEX (a b:Odr):Prop:=zAE a b=true∧zAE b a=false
theorem zPQ (a:Odr):¬ zEX a a:=fun h=>by have g:=h.2;rw[h.1] at g;cases g
theorem zPR (a b:Odr)(h:zEX a b):¬ zEX b a:=fun k=>by have g:=k.2;rw[h.1] at g;cases g
theorem zPS {a b:Odr}(hs:a.side=b.side)(hi:a.id≠b.id)(h:zAE b a=false):zEX a b:=by
 refine⟨?_,h⟩
 unfold zAE at h ⊢
 by_cases h1:a.price=b.price
 ·rw[if_pos h1.symm,decide_eq_false_iff_not] at h;rw[if_pos h1,decide_eq_true_eq];omega
 ·rw[if_neg (Ne.symm h1),← hs] at h
  rw[if_neg h1]
  by_cases h2:a.side=1
  ·rw[if_pos h2,decide_eq_false_iff_not] at h;rw[if_pos h2,decide_eq_true_eq];omega
  ·rw[if_neg h2,decide_eq_false_iff_not] at h;rw[if_neg h2,decide_eq_true_eq];omega
theorem zMo {s:Int}{l:List Odr}(hs:∀ o∈l,o.side=s)(hn:(l.map (·.id)).Nodup)(h:l.Pairwise fun a b=>zAE b a=false):l.Pairwise zEX:=by
 rw[List.nodup_iff_pairwise_ne,List.pairwise_map] at hn
 refine(h.and hn).imp_of_mem fun{a b} ha hb hab=>zPS ((hs a ha).trans (hs b hb).symm) hab.2 hab.1
theorem zIT {s:Int}{a b c:Odr}(ha:a.side=s)(hb:b.side=s)(hc:c.side=s)(h1:zAE b a=false)(h2:zAE c b=false):zAE c a=false:=by
 unfold zAE at *
 rw[hb] at h1;rw[hc] at h2 ⊢
 by_cases hs:s=1
 ·simp only[if_pos hs] at *
  revert h1 h2
  repeat' split
  all_goals simp only[decide_eq_false_iff_not];omega
 ·simp only[if_neg hs] at *
  revert h1 h2
  repeat' split
  all_goals simp only[decide_eq_false_iff_not];omega
theorem zR3 {s:Int}{a b:Odr}(ha:a.side=s)(hb:b.side=s):zAE b a=false∨zAE a b=false:=by
 unfold zAE
 rw[hb,ha]
 by_cases hs:s=1
 ·simp only[if_pos hs];repeat' split
  all_goals simp only[decide_eq_false_iff_not];omega
 ·simp only[if_neg hs];repeat' split
  all_goals simp only[decide_eq_false_iff_not];omega
def zMp:List Odr→Option Odr→Option Odr
 | [],b=>b
 | o::l,b=>zMp l (match b with|none=>some o|some x=>some (if zAE o x then o else x))
theorem zPT (l:List Odr)(b:Option Odr):l.foldl (fun b o=>match b with|none=>some o|some x=>some (if zAE o x then o else x)) b=zMp l b:=by
 induction l generalizing b with
 | nil=>rfl
 | cons o l ih=>rw[List.foldl_cons,ih];rfl
theorem zJJ {s:Int}:∀ (l:List Odr) (x:Odr),(∀ o∈l,o.side=s)→x.side=s→∃ m,zMp l (some x)=some m∧(m=x∨m∈l)∧zAE x m=false∧∀ o∈l,zAE o m=false
 | [],x,_,_=>⟨x,rfl,.inl rfl,by unfold zAE;simp,fun o h=>nomatch h⟩
 | o::l,x,hs,hx=>by
   have ho:=hs o (zz2 _)
   have hl:∀ q∈l,q.side=s:=fun q hq=>hs q (zz5 _ hq)
   have key:∀ y:Odr,y.side=s→zAE x y=false→zAE o y=false→(y=x∨y=o)→∃ m,zMp l (some y)=some m∧(m=x∨m∈o::l)∧zAE x m=false∧∀ q∈o::l,zAE q m=false:=by
    intro y hy h1 h2 h3
    obtain⟨m,e,hm,h4,h5⟩:=zJJ l y hl hy
    have hms:m.side=s:=by rcases hm with rfl|h;exact hy;exact hl m h
    refine⟨m,e,?_,zIT hms hy hx h4 h1,fun q hq=>?_⟩
    ·rcases hm with rfl|h
     ·rcases h3 with h|h
      ·exact .inl h
      ·exact .inr (h ▸ zz2 _)
     ·exact .inr (zz5 _ h)
    ·rcases List.mem_cons.1 hq with rfl|hq
     ·exact zIT hms hy ho h4 h2
     ·exact h5 q hq
   have hself:∀ y:Odr,zAE y y=false:=fun y=>by unfold zAE;simp
   show ∃ m,zMp l (some (if zAE o x then o else x))=some m∧_
   by_cases h:zAE o x=true
   ·rw[if_pos h]
    refine key o ho ?_ (hself o) (.inr rfl)
    rcases zR3 hx ho with e|e
    ·rw[h] at e;cases e
    ·exact e
   ·rw[if_neg h]
    exact key x hx (hself x) (by simpa using h) (.inl rfl)
theorem zPU {s:Int}{l m:List Odr}(hs:∀ o∈l,o.side=s)(hp:m.Perm l)(hm:m.Pairwise zEX):zMp l none=m.head?:=by
 cases l with
 | nil=>rw[List.perm_nil.1 hp];rfl
 | cons o l =>
   show zMp l (some o)=_
   obtain⟨x,e,hx,h1,h2⟩:=zJJ l o (fun q hq=>hs q (zz5 _ hq)) (hs o (zz2 _))
   rw[e]
   cases m with
   | nil=>exact absurd hp.length_eq (by simp)
   | cons y m =>
     rw[List.head?_cons]
     have hxm:x∈y::m:=hp.mem_iff.2 (by rcases hx with rfl|h;exact zz2 _;exact zz5 _ h)
     have hyl:y∈o::l:=hp.mem_iff.1 (zz2 _)
     have hyx:zAE y x=false:=by rcases List.mem_cons.1 hyl with rfl|h;exact h1;exact h2 y h
     rcases List.mem_cons.1 hxm with rfl|h
     ·rfl
     ·have:=(List.pairwise_cons.1 hm).1 x h
      have g:=this.1;rw[hyx] at g;cases g
def zDn (s:Int)(a b:Odr):Bool:=if a.price=b.price then decide (a.id<b.id) else if s=1 then decide (a.price>b.price) else decide (a.price<b.price)
def zCT (l:List Odr)(i s:Int):List Odr:=if zd l=true then(l.filter (ofS i s)).mergeSort (fun a b=>!zDn s b a) else[]
theorem zC5 {l:List Odr}{i s:Int}(h:zd l=true):(zCT l i s).Perm (l.filter (ofS i s)):=by
 unfold zCT;rw[if_pos h];exact List.mergeSort_perm _ _
theorem zDQ {l:List Odr}{i s:Int}:∀ o∈l.filter (ofS i s),o.side=s:=fun o ho=>by
 have:=(List.mem_filter.1 ho).2
 unfold ofS at this
 rw[Bool.and_eq_true,beq_iff_eq,beq_iff_eq] at this
 exact this.2
theorem zG0 {l:List Odr}(h:zd l=true)(p:Odr→Bool):((l.filter p).map (·.id)).Nodup:=by
 rw[List.nodup_iff_pairwise_ne,List.pairwise_map]
 exact((zAP.1 h).2.2.sublist List.filter_sublist).imp fun h=>Int.ne_of_lt h
theorem zPV (s:Int)(a b c:Odr)(h1:(!zDn s b a)=true)(h2:(!zDn s c b)=true):(!zDn s c a)=true:=by
 simp only[Bool.not_eq_true'] at *
 unfold zDn at *
 by_cases hs:s=1
 ·simp only[if_pos hs] at *
  revert h1 h2
  repeat' split
  all_goals simp only[decide_eq_false_iff_not];omega
 ·simp only[if_neg hs] at *
  revert h1 h2
  repeat' split
  all_goals simp only[decide_eq_false_iff_not];omega
theorem zPW (s:Int)(a b:Odr):((!zDn s b a)||(!zDn s a b))=true:=by
 simp only[Bool.or_eq_true,Bool.not_eq_true']
 unfold zDn
 by_cases hs:s=1
 ·simp only[if_pos hs];repeat' split
  all_goals simp only[decide_eq_false_iff_not];omega
 ·simp only[if_neg hs];repeat' split
  all_goals simp only[decide_eq_false_iff_not];omega
theorem zHJ {s:Int}{l:List Odr}(hs:∀ o∈l,o.side=s):(l.mergeSort fun a b=>!zDn s b a).Pairwise fun a b=>zAE b a=false:=by
 refine(List.pairwise_mergeSort (zPV s) (zPW s) l).imp_of_mem fun{a b} ha hb hab=>?_
 have hb:=hs b ((List.mergeSort_perm _ _).mem_iff.1 hb)
 show zDn b.side b a=false
 rw[hb];simpa using hab
theorem zPX {l m:List Odr}{i s:Int}(h:zd l=true)(hp:m.Perm (l.filter (ofS i s)))(hm:m.Pairwise fun a b=>zAE b a=false):m=zCT l i s∧m.Pairwise zEX:=by
 have hms:=zMo (s:=s) (fun o ho=>zDQ o (hp.mem_iff.1 ho)) ((hp.map _).nodup_iff.2 (zG0 h _)) hm
 refine⟨?_,hms⟩
 have hq:=zC5 (i:=i) (s:=s) h
 have hls:(zCT l i s).Pairwise zEX:=by
  refine zMo (s:=s) (fun o ho=>zDQ o (hq.mem_iff.1 ho)) ((hq.map _).nodup_iff.2 (zG0 h _)) ?_
  unfold zCT;rw[if_pos h];exact zHJ zDQ
 exact zHV zPQ zPR hms hls fun x=>by rw[hp.mem_iff,hq.mem_iff]
theorem zR4 {l:List Odr}{i s:Int}(h:zd l=true):(zCT l i s).Pairwise zEX:=by
 have hq:=zC5 (i:=i) (s:=s) h
 refine zMo (s:=s) (fun o ho=>zDQ o (hq.mem_iff.1 ho)) ((hq.map _).nodup_iff.2 (zG0 h _)) ?_
 unfold zCT;rw[if_pos h];exact zHJ zDQ
theorem zIU {l:List Odr}{i s:Int}:zDF l i s=match (zCT l i s).head? with|some o=>(o,true)|none=>(Odr.zero,false):=by
 unfold zDF
 by_cases h:zd l=true
 ·rw[if_pos h]
  refine Eq.trans (congrArg (fun r:Option Odr=>(match r with|some o=>(o,true)|none=>(Odr.zero,false):Odr × Bool)) (zPT (l.filter (ofS i s)) none)) ?_
  rw[zPU zDQ (zC5 h) (zR4 h)]
 ·rw[if_neg h];unfold zCT;rw[if_neg h];rfl
end
end Go.Proofs.YtibmaifoaajllaaGreatDoor
