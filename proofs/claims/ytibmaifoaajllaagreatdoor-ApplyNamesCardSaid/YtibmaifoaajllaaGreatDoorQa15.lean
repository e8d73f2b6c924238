/- Texts of ours, joined: the steps of the proof, or the claim's theorem. -/
import Derived.KernelRfl
import Derived.Laws.IdiomStrings
import Derived.Shelf.SlLaysE
import Derived.Shelf.SlLaysF0
import Derived.Shelf.SlLaysM
import Derived.Shelf.SlicesE.Compact
import Derived.Shelf.SortM.Plain
import Derived.Test.YtibmaifoaajllaaGreatDoorProg
import Derived.Test.YtibmaifoaajllaaGreatDoorQa11
import Derived.Test.YtibmaifoaajllaaGreatDoorQa12
set_option linter.unusedSimpArgs false
set_option linter.unusedVariables false
set_option maxHeartbeats 16000000
namespace Go.Proofs.YtibmaifoaajllaaGreatDoor
section
open Go Go.Sk Go.RowKit
attribute [local irreducible] Go.Calls
attribute [local semireducible] OX OW
def byE (s:ByteArray)(j:Nat):List Value:=[.int .u8 (zGi s j)]
set_option maxRecDepth 20000 in
theorem OX.bytes {P:Program}(S:Sig P){n:Nw}{ops:Array Oper}{Q:Exit→Env→World→Prop}{o:Oper}{rest:List Oper}{L:List (Nat × Value)}{b0:Env}{w w0:World}{G:zH}{src dst E:TypeId}{d:Nat}{x:Operand}{s:ByteArray}{ti td te:TI}(H:St w0 G w)
  (ho:o.op=.convert src dst x) (hd:o.dst=some d) (hlt:Nat.blt d n.n=true) (hx:ev (ovl L b0) x=.string s) (ht:lk S.tab src=some ti) (htd:ti.d=.string) (hdt:lk S.tab dst=some td) (hdd:td.d=.slice E) (he:lk S.tab E=some te) (hed:te.d=.int .u8) (hsz:s.size≤140737488355328)
  (k:∀ b cap w' o',St w0 ((b,o')::G) w'→Cl w w'→SlA ((b,o')::G) 1 (some ⟨b,0,none⟩) s.size cap (byE s)→OW P n ops Q rest (ovl ((d,.slice (some ⟨b,0,none⟩) s.size cap)::L) b0) w') :
  OX P n ops Q o rest (ovl L b0) w:=by
 intro a ha
 unfold Oper.wp
 rw[ha.eval]
 have h1:=run_bytes_of_string (P:=P) w src dst E s (by rw[S.und ht,htd]) (by rw[S.und hdt,hdd]) (by rw[S.und he,hed])
 simp only[execOp,ho,hx,Sem.run_bind,h1,Result.andThen_ok,Sem.run_pure,Oper.upon_value,hd]
 refine k _ _ _ _ (H.drewAlloc _) ?_ ?_ _ (ha.put hlt _)
 ·exact(Bel.refl _ _).drew.alloc (zzC _) _
 ·refine⟨grownCap_ge w s.size 0 E,hsz,_,0,(bytesRow s (grownCap w s.size 0 E)).toList,E,_,fun _=>⟨rfl,zz2 _,fun j hj=>?_⟩⟩
  have hl:(bytesRow s (grownCap w s.size 0 E)).toList=(s.data.toList.map fun(b:UInt8)=>Value.int .u8 b.toNat)++List.replicate (grownCap w s.size 0 E - s.size) (Value.int .u8 0):=by simp[bytesRow]
  have hsd:s.size=s.data.toList.length:=rfl
  rw[hl]
  have hlt:j<((s.data.toList.map fun(b:UInt8)=>Value.int .u8 b.toNat)++List.replicate (grownCap w s.size 0 E - s.size) (Value.int .u8 0)).length:=by simp only[List.length_append,List.length_map];omega
  refine⟨by omega,?_⟩
  rw[Nat.zero_add,Nat.mul_one,← List.getElem_cons_drop hlt,List.take_succ_cons,List.take_zero,List.getElem_append_left (by rw[List.length_map];omega),List.getElem_map]
  unfold byE zGi
  have h2:j<s.data.size:=hj
  rw[Array.getD,dif_pos h2]
  rfl
set_option maxRecDepth 20000 in
theorem zI3 (s:ByteArray)(hsz:s.size≤140737488355328)(w0:World):Calls Tryz.prog 54 [.string s].toArray w0 (Ret (.bool (zAR s)) w0):=by
 refine enter [.tmp 2] Tryz.func54 rfl Tryz.ntmps54 rfl rfl ?_
 have H:=zB w0
 repeat' (first|refine yT ?_|(refine OX.bytes sg H rfl rfl rfl rfl rfl rfl rfl rfl rfl rfl hsz ?_;intro b cap w o1 H _ hB)|refine yU ?_|with_reducible apply zA|fail)
 obtain⟨hcap,_,b2,off,cs,T,fr,hs⟩:=hB
 refine zM [(2,2),(4,4),(8,34)] (fun k:Nat=>[(8,.int .i64 (k:Int))]) (fun k w=>k≤s.size∧zKq s k=true∧St w0 [(b,o1)] w) (fun k=>s.size - k) 0 ⟨rfl,trivial⟩ ⟨zzD _,rfl,H⟩ ?_
 clear H
 rintro k gh w ⟨hk,ho,H⟩
 repeat' (first|refine yT ?_|refine yU ?_|fail)
 refine zJ rfl (fun h=>?_) (fun h=>?_)
 ·have hlt:k<s.size:=by have:=zzA h;omega
  clear h
  obtain⟨c,hc⟩:∃ c,zGi s k=c:=⟨_,rfl⟩
  have hb:=zTI c
  have good:okB c=true→zKq s (k+1)=true:=fun h=>by rw[zOo,ho,hc,h];rfl
  have bad:okB c=false→zAR s=false:=fun h=>by rw[zAR,zQu (hc ▸ h) hlt,Bool.and_false]
  have nok:∀ {p:Prop},¬ ((97≤c∧c≤122)∨(48≤c∧c≤57)∨c=45∨c=95)→okB c=false:=fun h=>by
   cases hq:okB c with
   | false=>rfl
   | true=>exact absurd (hb.1 hq) h
  repeat' (first|refine yT ?_|(refine zf rfl rfl (zF sg hs rfl rfl rfl rfl rfl rfl rfl (zz1 _) (by omega) (by omega)) ?_)|(refine y46 sg (hs) (H.mem) ?_ ?_;(omega))|refine yU ?_|(refine y17 ?_ ?_;all_goals intro h)|with_reducible apply zA|(refine y23 ?_ ?_;all_goals intro h)|fail)
  all_goals try rw[hc] at *
  all_goals simp only[decide_eq_true_eq,decide_eq_false_iff_not,ge_iff_le,Bool.not_eq_true',Bool.not_eq_false',beq_iff_eq,beq_eq_false_iff_ne,ne_eq,Bool.not_eq_true,Bool.not_eq_false,bne_iff_ne,bne_eq_false_iff_eq] at *
  all_goals first
   | exact zK (k+1) rfl ⟨zZ (by omega),trivial⟩ ⟨hlt,good (hb.2 (by omega)),H⟩ (by omega)
   | exact zQ rfl H.cl (congrArg Value.bool (bad (nok (p:=True) (by omega))).symm)
   | fail
 ·obtain rfl:k=s.size:=by have:=zzB h;omega
  repeat' (first|refine yT ?_|refine yU ?_|(refine y17 ?_ ?_;all_goals intro h)|fail)
  all_goals simp only[decide_eq_true_eq,decide_eq_false_iff_not,ge_iff_le] at *
  all_goals exact zQ rfl H.cl (congrArg Value.bool (by
   unfold zAR
   rw[ho,Bool.and_true]
   by_cases q1:1≤s.size
   ·by_cases q2:s.size≤24
    ·simp[q1,q2]<;>omega
    ·simp[q1,q2]<;>omega
   ·simp[q1]<;>omega))
end
section
open Go Go.Sk Go.RowKit
attribute [local irreducible] Go.Calls
theorem c_IdxS {n cap:Nat}{a:Option Addr}(nm:Nat→ByteArray){f:FuncId}{caps:List Value}{F:zH}(p:Nat→Bool)(w0:World)(hF:Mem w0 F)(hs:SlA F 1 a n cap fun j=>[.string (nm j)])(hf:Ent Tryz.prog f)
  (hp:∀ j,j<n→∀ w,Cl w0 w→Calls Tryz.prog f ([Value.string (nm j)]++caps).toArray w (Ret (.bool (p j)) w)) :
  Calls Tryz.prog 223 [.slice a n cap,.func (.func f) #[] caps.toArray].toArray w0 (Ret (.int .i64 (idx p n)) w0):=by
 obtain⟨hn,hc,b,off,cs,T,fr,hs⟩:=hs
 refine enter [.tmp 4] Tryz.func223 rfl Tryz.ntmps223 rfl rfl ?_
 have H:=zB w0
 repeat' (first|refine yT ?_|refine yU ?_|with_reducible apply zA|fail)
 refine zM [(4,5),(8,18)] (fun k:Nat=>[(8,.int .i64 (k:Int))]) (fun k w=>k≤n∧(∀ j,j<k→p j=false)∧St w0 [] w) (fun k=>n - k) 0 ⟨rfl,trivial⟩ ⟨zzD _,fun j hj=>by omega,H⟩ ?_
 clear H
 rintro k g w ⟨hk,hpk,H⟩
 repeat' (first|refine yT ?_|refine yU ?_|fail)
 refine zJ rfl (fun h=>?_) (fun h=>?_)
 ·have hlt:k<n:=by simpa using h
  repeat' (first|refine yT ?_|(refine zf rfl rfl (zF sg hs rfl rfl rfl rfl rfl rfl rfl (zz1 _) (by omega) (by omega)) ?_)|(refine y46 sg (hs) ((H.memF hF)) ?_ ?_;(omega))|(refine OX.call rfl rfl (zBf hf rfl rfl rfl) (hp k hlt _ H.cl) ?_;intro w hcl;replace H:=H.ext hcl;clear hcl)|refine yU ?_|with_reducible apply zA|fail)
  refine zJ rfl (fun h2=>?_) (fun h2=>?_)
  ·repeat' (first|refine yT ?_|refine yU ?_|fail)
   exact zQ rfl H.cl (by rw[zBx hlt hpk h2])
  ·repeat' (first|refine yT ?_|refine yU ?_|fail)
   refine zK (k+1) rfl ⟨zZ (by omega),trivial⟩ ⟨hlt,fun j hj=>?_,H⟩ (by omega)
   by_cases hj':j=k
   ·rw[hj',h2]
   ·exact hpk j (by omega)
 ·repeat' (first|refine yT ?_|refine yU ?_|fail)
  have hkn:k=n:=by simp at h;omega
  exact zQ rfl H.cl (by rw[zBB (hkn ▸ hpk)])
theorem zTY {n cap:Nat}{a:Option Addr}(nm:Nat→ByteArray){f:FuncId}{caps:List Value}{F:zH}(p:Nat→Bool)(w0:World)(hF:Mem w0 F)(hs:SlA F 1 a n cap fun j=>[.string (nm j)])(hf:Ent Tryz.prog f)
  (hp:∀ j,j<n→∀ w,Cl w0 w→Calls Tryz.prog f ([Value.string (nm j)]++caps).toArray w (Ret (.bool (p j)) w)) :
  Calls Tryz.prog 208 [.slice a n cap,.func (.func f) #[] caps.toArray].toArray w0 (Ret (.bool (decide (idx p n ≥ 0))) w0):=by
 refine enter [.tmp 4] Tryz.func208 rfl Tryz.ntmps208 rfl rfl ?_
 have H:=zB w0
 repeat' (first|refine yT ?_|(refine' y30 ent223 ?_ ?_;rotate_left;exact c_IdxS nm p _ (H.memF hF) hs hf (fun j hj w' hw'=>hp j hj w' (H.cl.trans hw'));intro w hcl;replace H:=H.ext hcl;clear hcl)|refine yU ?_|fail)
 all_goals exact zQ rfl H.cl rfl
theorem zRC {n cap:Nat}{a:Option Addr}(nm:Nat→ByteArray){F:zH}(w0:World)(hF:Mem w0 F)(hs:SlA F 1 a n cap fun j=>[.string (nm j)])(hn:n*16≤140737488355328) :
  Calls Tryz.prog 212 [.slice a n cap].toArray w0 (zn (fun M v=>∃ a' cap',v=.slice a' n cap'∧Go.Sk.Own M 9 1 a' n cap' ((List.range n).flatMap fun j=>[.string (nm j)])) w0):=by
 obtain⟨hnc,hcb,b,off,cs,T,fr,hs⟩:=hs
 refine enter [.tmp 2] Tryz.func212 rfl Tryz.ntmps212 rfl rfl ?_
 have H:=zB w0
 repeat' (first|refine yT ?_|(refine zf rfl rfl (Yq.nilS sg rfl rfl rfl rfl) ?_)|refine yU ?_|fail)
 refine zJ rfl (fun h=>?_) (fun h=>?_)
 ·have hn0:n=0:=by
   rcases Nat.eq_zero_or_pos n with h0|h0
   ·exact h0
   ·rw[(hs h0).1] at h;cases h
  subst hn0
  repeat' (first|refine yT ?_|refine yU ?_|fail)
  exact zU rfl H ⟨_,_,rfl,zTC _ _ _⟩
 ·have hlen:∀ m,((List.range m).flatMap fun j=>[Value.string (nm j)]).length=m*1:=by
   intro m
   induction m with
   | zero=>rfl
   | succ m ih=>rw[List.range_succ,List.flatMap_append,List.length_append,ih,List.flatMap_singleton];rfl
  have hsrc:∀ w,Mem w F→Src w (.slice a n cap) n ((List.range n).flatMap fun j=>[Value.string (nm j)]):=by
   intro w hM
   rcases Nat.eq_zero_or_pos n with h0|h0
   ·subst h0
    cases a with
    | none=>cases h
    | some a=>exact .inl ⟨a,cap,rfl,fun j u hj=>by cases hj⟩
   ·obtain⟨rfl,hm,hx⟩:=hs h0
    refine .inl ⟨_,_,rfl,fun j u hj=>?_⟩
    rw[zz,zBw hM hm]
    have hjn:j<n:=by
     have:=(List.getElem?_eq_some_iff.1 hj).1
     rw[hlen] at this;omega
    have hj2:((List.range n).flatMap fun j=>[Value.string (nm j)])=(List.range n).map fun j=>Value.string (nm j):=by
     rw[List.flatMap_def];induction (List.range n) with
     | nil=>rfl
     | cons x t ih=>simp only[List.map_cons,List.flatten_cons,ih,List.singleton_append]
    rw[hj2,List.getElem?_map,List.getElem?_range hjn] at hj
    have h3:=(hx j hjn).2
    have h4:((cs.drop (off+j*1)).take 1)[0]?=some (Value.string (nm j)):=by rw[h3];rfl
    rw[List.getElem?_take_of_lt (by omega),List.getElem?_drop] at h4
    rw[show off+j=off+j*1+0 by omega,h4,← hj];rfl
  have hone:∀ u∈((List.range n).flatMap fun j=>[Value.string (nm j)]),u.oneCell'=true:=by
   intro u hu;obtain⟨j,hj,hu⟩:=List.mem_flatMap.1 hu;rw[List.mem_singleton] at hu;subst hu;rfl
  repeat' (first|refine yT ?_|(refine zCV sg H rfl rfl rfl rfl rfl rfl ?_;intro b w H _)|(refine zo sg 1 16 (M:=[]) (G:=[]) H rfl rfl rfl rfl rfl rfl rfl rfl rfl rfl rfl (zTC _ _ _) (hsrc _ (H.memF hF)) (hlen n) hone (by unfold maxLen;omega) (by omega) ?_;intro a' cap' M w hO H;simp only[Nat.zero_add,List.nil_append] at hO;rw[List.append_nil] at H;rw[Nat.zero_add])|refine yU ?_|fail)
  exact zU rfl H ⟨_,_,rfl,hO⟩
theorem zRD (s:ByteArray)(hsz:s.size≤140737488355328)(w0:World):Calls Tryz.prog 209 [.string s].toArray w0 (Ret (.bool (!zAR s)) w0):=by
 refine enter [.tmp 2] Tryz.func209 rfl Tryz.ntmps209 rfl rfl ?_
 have H:=zB w0
 repeat' (first|refine yT ?_|(refine' y30 ent54 ?_ ?_;rotate_left;exact zI3 s hsz _;intro w hcl;replace H:=H.ext hcl;clear hcl)|refine yU ?_|fail)
 all_goals exact zQ rfl H.cl rfl
def zB1 (n lo hi:Int):Bool:=decide (lo≤n)&&decide (n≤hi)
theorem zEJ (n lo hi:Int):zB1 n lo hi=true↔(lo≤n∧n≤hi):=by simp[zB1]
theorem zHS (n lo hi:Int)(w:World):Calls Tryz.prog 171 [.int .i64 n,.int .i64 lo,.int .i64 hi].toArray w (Ret (.bool (zB1 n lo hi)) w):=by
 refine enter [.tmp 6] Tryz.func171 rfl Tryz.ntmps171 rfl rfl ?_
 have H:=zB w
 repeat' (first|refine yT ?_|refine yU ?_|(refine y17 ?_ ?_;all_goals intro h)|fail)
 all_goals simp only[decide_eq_true_eq,decide_eq_false_iff_not,ge_iff_le] at *
 all_goals exact zQ rfl H.cl (congrArg Value.bool (by unfold zB1;simp only[*,decide_true,decide_false,Bool.true_and,Bool.and_true,Bool.false_and,Bool.and_false]))
def zEp (l:List Ac)(s:ByteArray)(j:Nat):Bool:=(ac_ l j).name.toList==s.toList
def zA7 (l:List Ac)(s:ByteArray):Int:=idx (zEp l s) l.length
def zRE (l:List Ac)(k:Nat):Bool:=zAR (ac_ l k).name&&(zA7 l (ac_ l k).name==(k:Int))
def zEq (l:List Ac):Bool:=decide (l.length≤64)&&(List.range l.length).all fun k=>zRE l k
theorem zMT {l:List Ac}:zEq l=true↔l.length≤64∧∀ k,k<l.length→zAR (ac_ l k).name=true∧zA7 l (ac_ l k).name=k:=by
 unfold zEq zRE
 rw[Bool.and_eq_true,decide_eq_true_eq,List.all_eq_true]
 simp only[List.mem_range,Bool.and_eq_true,beq_iff_eq]
theorem zI4 (l:List Ac)(s:ByteArray):-1≤zA7 l s∧zA7 l s<l.length:=by
 rcases zY (zEp l s) l.length with ⟨k,h1,_,_,h2⟩|⟨_,h2⟩<;>(unfold zA7;rw[h2];omega)
def zJx (l:List Ins)(k:Nat)(n:Nat):Bool:=(List.range n).all fun j=>!((in_ l j).name.toList==(in_ l k).name.toList)
def zRF (l:List Ins)(k:Nat):Bool:=zAR (in_ l k).name&&zB1 (in_ l k).tick 1 1073741824&&zJx l k k
def zDC (l:List Ins):Bool:=decide (l.length≤16)&&(List.range l.length).all fun k=>zRF l k
theorem zKw {l:List Ins}{k n:Nat}:zJx l k n=true↔∀ j,j<n→((in_ l j).name.toList==(in_ l k).name.toList)=false:=by
 unfold zJx
 rw[List.all_eq_true]
 simp only[List.mem_range,Bool.not_eq_true']
theorem zH1 {l:List Ins}:zDC l=true↔l.length≤16∧∀ k,k<l.length→zAR (in_ l k).name=true∧(1≤(in_ l k).tick∧(in_ l k).tick≤1073741824)∧∀ j,j<k→((in_ l j).name.toList==(in_ l k).name.toList)=false:=by
 unfold zDC zRF
 rw[Bool.and_eq_true,decide_eq_true_eq,List.all_eq_true]
 simp only[List.mem_range,Bool.and_eq_true,zEJ,zKw,and_assoc]
def zEK (s:Sta)(k:Nat):Bool:=(decide ((rw_ s.rows k).acct≤0)||(zBG s.accts (rw_ s.rows k).acct).2)&&decide ((rw_ s.rows k).asset≤s.insts.length)
def zDD (s:Sta):Bool:=zAJ s.rows&&(List.range s.rows.length).all fun k=>zEK s k
theorem zEL {s:Sta}:zDD s=true↔zAJ s.rows=true∧∀ k,k<s.rows.length→zEK s k=true:=by
 unfold zDD
 rw[Bool.and_eq_true,List.all_eq_true]
 simp only[List.mem_range]
theorem zHD {s:Sta}{k:Nat}:zEK s k=true↔((rw_ s.rows k).acct≤0∨(zBG s.accts (rw_ s.rows k).acct).2=true)∧(rw_ s.rows k).asset≤s.insts.length:=by
 unfold zEK
 rw[Bool.and_eq_true,Bool.or_eq_true,decide_eq_true_eq,decide_eq_true_eq]
end
end Go.Proofs.YtibmaifoaajllaaGreatDoor
namespace Go.Sk
open Go Go.Proofs Go.RowKit
open Go.Sort (grow putRow Holds mapBlock putCells onCells)
variable {α:Type}[Inhabited α]
def zEc (enc:α→Value)(d:Array α)(cs:List Value):List Value:=d.toList.map enc++cs.drop d.size
theorem zJy (enc:α→Value)(d:Array α)(cs:List Value)(h:d.size≤cs.length):putCells enc 0 d cs.toArray=(zEc enc d cs).toArray:=by
 apply Array.ext_getElem?
 intro k
 simp only[putCells,Array.getElem?_mapIdx,List.getElem?_toArray,zEc]
 by_cases hk:k<d.size
 ·have hc:k<cs.length:=by omega
  rw[List.getElem?_append_left (by simpa using hk),List.getElem?_eq_getElem hc,Option.map_some,if_pos ⟨by omega,by omega⟩,List.getElem?_map,Array.getElem?_toList,Nat.sub_zero,
   Array.getElem?_eq_getElem hk,Option.map_some,getElem!_pos d k hk]
 ·rw[List.getElem?_append_right (by simpa using Nat.le_of_not_lt hk),List.getElem?_drop]
  simp only[List.length_map,Array.length_toList]
  rw[show d.size+(k - d.size)=k by omega]
  cases cs[k]? with
  | none=>rfl
  | some y=>rw[Option.map_some,if_neg (by omega)]
theorem St.put {enc:α→Value}{w0 w:World}{G G':zH}{b:Nat}{cs:List Value}{T:TypeId}{fr:Nat × Nat}{d:Array α}(n:Nat)(os:Array Obj)(H:St w0 G w)
  (hu:Up b (.cells cs.toArray T fr) (.cells (zEc enc d cs).toArray T fr) G G') (hl:d.size≤cs.length):St w0 G' (grow (putRow enc (Go.Sort.ahead w n) b 0 d) os):=by
 have hb:w.heap[b]?=some (.cells cs.toArray T fr):=H.mem _ hu.mem
 have h1:St w0 G' (putRow enc (Go.Sort.ahead w n) b 0 d):=by
  refine St.up H hu rfl rfl rfl (by simp[putRow,mapBlock,Go.Sort.ahead]) ?_ fun k hk=>?_
  ·show(w.heap.modify b (onCells (putCells enc 0 d)))[b]?=_
   rw[Array.getElem?_modify,if_pos rfl,hb]
   simp only[Option.map_some,onCells,zJy enc d cs hl]
  ·show(w.heap.modify b (onCells (putCells enc 0 d)))[k]?=_
   rw[Array.getElem?_modify,if_neg (Ne.symm hk)]
 refine St.ext h1 ⟨⟨rfl,rfl,rfl,by simp,fun k hk=>?_⟩,zzC _⟩
 show((putRow enc (Go.Sort.ahead w n) b 0 d).heap++os)[k]?=_
 rw[Array.getElem?_append_left hk]
theorem zH2 {enc:α→Value}{w0 w:World}{G:zH}{b:Nat}{cs:List Value}{T:TypeId}{d:Array α}(H:St w0 G w)(hm:cb b cs T∈G)(he:cs.take d.size=d.toList.map enc):Holds enc w b 0 d:=by
 intro j hj
 have hb:w.heap[b]?=some (.cells cs.toArray T (0,0)):=H.mem _ hm
 refine⟨?_,?_⟩
 ·rw[Nat.zero_add,cell_of_row w b j _ T (0,0) hb,List.getElem?_toArray]
  have:(cs.take d.size)[j]?=cs[j]?:=List.getElem?_take_of_lt hj
  rw[← this,he,List.getElem?_map,Array.getElem?_toList,Array.getElem?_eq_getElem hj,Option.map_some,getElem!_pos d j hj]
 ·simp only[World.frozen?,hb]
  simp
section
variable {β:Type}[Inhabited β][DecidableEq β]
open Go.Lib (compactUpTo)
theorem zKx (s:List β)(r:β→β→Prop)(hr:∀ x y,r x y→r y x→x=y)(hs:s.Pairwise r):(compactUpTo s.toArray s.length).length=s.length↔s.Nodup:=by
 have hg:∀ j,j<s.length→s.toArray[j]! = s[j]! := fun j hj=>by simp
 have e0:(compactUpTo s.toArray s.length).length=((List.range s.length).filter (Lib.keeps s.toArray)).length:=by unfold compactUpTo;rw[List.length_map]
 have e1:(compactUpTo s.toArray s.length).length=s.length↔∀ j,j<s.length→Lib.keeps s.toArray j=true:=by
  rw[e0]
  constructor
  ·intro h j hj
   have h2:((List.range s.length).filter (Lib.keeps s.toArray)).length=(List.range s.length).length:=by rw[h,List.length_range]
   exact(List.length_filter_eq_length_iff.1 h2) j (List.mem_range.2 hj)
  ·intro h
   rw[List.filter_eq_self.2 fun j hj=>h j (List.mem_range.1 hj),List.length_range]
 rw[e1]
 have hk:∀ j,j<s.length→(Lib.keeps s.toArray j=true↔(j=0∨s[j]! ≠ s[j - 1]!)):=fun j hj=>by
  unfold Lib.keeps;rw[decide_eq_true_eq,hg j hj,hg (j - 1) (by omega)]
 constructor
 ·intro h
  rw[List.nodup_iff_pairwise_ne,List.pairwise_iff_getElem]
  intro i j hi hj hij he
  have hne:s[j]! ≠ s[j - 1]! := ((hk j hj).1 (h j hj)).resolve_left (by omega)
  rw[getElem!_pos s j hj,getElem!_pos s (j - 1) (by omega)] at hne
  have hp:=List.pairwise_iff_getElem.1 hs
  rcases Nat.lt_or_ge i (j - 1) with g|g
  ·exact hne (hr _ _ (he ▸ hp i (j - 1) hi (by omega) g) (hp (j - 1) j (by omega) hj (by omega)))
  ·have:i=j - 1:=by omega
   subst this
   exact hne he.symm
 ·intro h j hj
  refine(hk j hj).2 ?_
  rcases Nat.eq_zero_or_pos j with g|g
  ·exact .inl g
  ·refine .inr fun he=>?_
   rw[getElem!_pos s j hj,getElem!_pos s (j - 1) (by omega)] at he
   have:=(List.nodup_iff_pairwise_ne.1 h)
   exact(List.pairwise_iff_getElem.1 this (j - 1) j (by omega) hj (by omega)) he.symm
end
theorem zKy (l:List (List UInt8)):(Go.Lib.compactUpTo (l.mergeSort fun x y=>decide (x≤y)).toArray l.length).length=l.length↔l.Nodup:=by
 have hp:=List.mergeSort_perm l fun x y=>decide (x≤y)
 have h:=zKx (l.mergeSort fun x y=>decide (x≤y)) (fun x y=>decide (x≤y)=true) (fun x y h1 h2=>List.le_antisymm (zzA h1) (zzA h2))
  (List.pairwise_mergeSort (fun a b c h1 h2=>by simp only[decide_eq_true_eq] at *;exact List.le_trans h1 h2) (fun a b=>by simp only[Bool.or_eq_true,decide_eq_true_eq];exact List.le_total a b) l)
 rw[hp.length_eq] at h
 exact h.trans hp.nodup_iff
end Go.Sk
set_option maxRecDepth 100000
namespace Go.Proofs.YtibmaifoaajllaaGreatDoor
open Go Go.Proofs Go.Shelf
def zRG:Go.Shelf.Ren:=⟨fun|6=>210|8=>120|9=>224|19=>168|20=>169|21=>230|22=>231|23=>232|24=>233|25=>234|26=>235|27=>236|28=>237|29=>238|36=>249|31=>204|32=>205|37=>250|38=>251|39=>252|41=>257|n=>n,fun|27=>30|29=>9|3=>3|32=>63|26=>30|0=>0|44=>208|46=>128|4=>4|36=>202|35=>201|41=>80|5=>5|9=>9|53=>241|57=>245|63=>266|64=>267|n=>n,fun|n=>n⟩
theorem layS:Go.Proofs.SlLaysM.n6 Tryz.prog zRG:={
 mixed:=(by kernel_rfl),
 f6:=⟨Tryz.f210.name,by decide,Tryz.func210.trans (congrArg some (by kernel_rfl))⟩,
 f8:=Tryz.func120.trans (congrArg some (by kernel_rfl)),
 f9:=⟨Tryz.f224.name,by decide,Tryz.func224.trans (congrArg some (by kernel_rfl))⟩,
 f19:=Tryz.func168.trans (congrArg some (by kernel_rfl)),
 f20:=Tryz.func169.trans (congrArg some (by kernel_rfl)),
 f21:=⟨Tryz.f230.name,by decide,Tryz.func230.trans (congrArg some (by kernel_rfl))⟩,
 f22:=⟨Tryz.f231.name,by decide,Tryz.func231.trans (congrArg some (by kernel_rfl))⟩,
 f23:=⟨Tryz.f232.name,by decide,Tryz.func232.trans (congrArg some (by kernel_rfl))⟩,
 f24:=⟨Tryz.f233.name,by decide,Tryz.func233.trans (congrArg some (by kernel_rfl))⟩,
 f25:=⟨Tryz.f234.name,by decide,Tryz.func234.trans (congrArg some (by kernel_rfl))⟩,
 f26:=⟨Tryz.f235.name,by decide,Tryz.func235.trans (congrArg some (by kernel_rfl))⟩,
 f27:=⟨Tryz.f236.name,by decide,Tryz.func236.trans (congrArg some (by kernel_rfl))⟩,
 f28:=⟨Tryz.f237.name,by decide,Tryz.func237.trans (congrArg some (by kernel_rfl))⟩,
 f29:=⟨Tryz.f238.name,by decide,Tryz.func238.trans (congrArg some (by kernel_rfl))⟩,
 f31:=Tryz.func204.trans (congrArg some (by kernel_rfl)),
 f32:=Tryz.func205.trans (congrArg some (by kernel_rfl)),
 f36:=⟨Tryz.f249.name,by decide,Tryz.func249.trans (congrArg some (by kernel_rfl))⟩,
 f37:=⟨Tryz.f250.name,by decide,Tryz.func250.trans (congrArg some (by kernel_rfl))⟩,
 f38:=⟨Tryz.f251.name,by decide,Tryz.func251.trans (congrArg some (by kernel_rfl))⟩,
 f39:=⟨Tryz.f252.name,by decide,Tryz.func252.trans (congrArg some (by kernel_rfl))⟩,
 f41:=⟨Tryz.f257.name,by decide,Tryz.func257.trans (congrArg some (by kernel_rfl))⟩,
 t0:=Tryz.underlying0,
 a0:=Tryz.isAgg0,
 z0:=Tryz.sizeOf0,
 v0:=Tryz.zeroValue0,
 t3:=Tryz.underlying3,
 a3:=Tryz.isAgg3,
 z3:=Tryz.sizeOf3,
 v3:=Tryz.zeroValue3,
 t4:=Tryz.underlying4,
 a4:=Tryz.isAgg4,
 z4:=Tryz.sizeOf4,
 v4:=Tryz.zeroValue4,
 t5:=Tryz.underlying5,
 a5:=Tryz.isAgg5,
 z5:=Tryz.sizeOf5,
 v5:=Tryz.zeroValue5,
 t9:=Tryz.underlying9,
 a9:=Tryz.isAgg9,
 z9:=Tryz.sizeOf9,
 v9:=Tryz.zeroValue9,
 t26:=Tryz.underlying30,
 a26:=Tryz.isAgg30,
 z26:=Tryz.sizeOf30,
 v26:=Tryz.zeroValue30,
 t27:=Tryz.underlying30,
 a27:=Tryz.isAgg30,
 z27:=Tryz.sizeOf30,
 v27:=Tryz.zeroValue30,
 t29:=Tryz.underlying9,
 a29:=Tryz.isAgg9,
 z29:=Tryz.sizeOf9,
 v29:=Tryz.zeroValue9,
 t32:=Tryz.underlying63,
 a32:=Tryz.isAgg63,
 z32:=Tryz.sizeOf63,
 v32:=Tryz.zeroValue63,
 t35:=Tryz.underlying201,
 a35:=Tryz.isAgg201,
 z35:=Tryz.sizeOf201,
 v35:=Tryz.zeroValue201,
 t36:=Tryz.underlying202,
 a36:=Tryz.isAgg202,
 z36:=Tryz.sizeOf202,
 v36:=Tryz.zeroValue202,
 t41:=Tryz.underlying80,
 a41:=Tryz.isAgg80,
 z41:=Tryz.sizeOf80,
 v41:=Tryz.zeroValue80,
 t44:=Tryz.underlying208,
 a44:=Tryz.isAgg208,
 z44:=Tryz.sizeOf208,
 v44:=Tryz.zeroValue208,
 t46:=Tryz.underlying128,
 a46:=Tryz.isAgg128,
 z46:=Tryz.sizeOf128,
 v46:=Tryz.zeroValue128,
 t53:=Tryz.underlying241,
 a53:=Tryz.isAgg241,
 z53:=Tryz.sizeOf241,
 v53:=Tryz.zeroValue241,
 t57:=Tryz.underlying245,
 a57:=Tryz.isAgg245,
 z57:=Tryz.sizeOf245,
 v57:=Tryz.zeroValue245,
 t63:=Tryz.underlying266,
 a63:=Tryz.isAgg266,
 z63:=Tryz.sizeOf266,
 v63:=Tryz.zeroValue266,
 t64:=Tryz.underlying267,
 a64:=Tryz.isAgg267,
 z64:=Tryz.sizeOf267,
 v64:=Tryz.zeroValue267 }
def zO0:Go.Shelf.Ren:=⟨fun|43=>211|n=>n,fun|22=>30|23=>9|3=>3|4=>4|0=>0|n=>n,fun|n=>n⟩
theorem layCS:Go.Proofs.SlLaysE.n43 Tryz.prog zO0:={
 mixed:=(by kernel_rfl),
 f43:=⟨Tryz.f211.name,by decide,Tryz.func211.trans (congrArg some (by kernel_rfl))⟩,
 t0:=Tryz.underlying0,
 a0:=Tryz.isAgg0,
 z0:=Tryz.sizeOf0,
 v0:=Tryz.zeroValue0,
 t3:=Tryz.underlying3,
 a3:=Tryz.isAgg3,
 z3:=Tryz.sizeOf3,
 v3:=Tryz.zeroValue3,
 t4:=Tryz.underlying4,
 a4:=Tryz.isAgg4,
 z4:=Tryz.sizeOf4,
 v4:=Tryz.zeroValue4,
 t22:=Tryz.underlying30,
 a22:=Tryz.isAgg30,
 z22:=Tryz.sizeOf30,
 v22:=Tryz.zeroValue30,
 a23:=Tryz.isAgg9,
 z23:=Tryz.sizeOf9 }
def zO1:Go.Shelf.Ren:=⟨fun|6=>218|15=>120|14=>227|28=>168|29=>169|20=>240|21=>241|22=>242|23=>243|24=>244|25=>245|26=>246|27=>247|46=>253|47=>204|48=>205|49=>254|50=>255|57=>258|n=>n,fun|22=>259|24=>254|25=>261|3=>3|39=>63|0=>0|53=>208|55=>128|4=>4|46=>202|45=>201|50=>80|5=>5|9=>9|66=>241|70=>245|76=>266|77=>267|n=>n,fun|n=>n⟩
theorem layFE:Go.Proofs.SlLaysF0.n6 Tryz.prog zO1:={
 mixed:=(by kernel_rfl),
 f6:=⟨Tryz.f218.name,by decide,Tryz.func218.trans (congrArg some (by kernel_rfl))⟩,
 f14:=⟨Tryz.f227.name,by decide,Tryz.func227.trans (congrArg some (by kernel_rfl))⟩,
 f15:=Tryz.func120.trans (congrArg some (by kernel_rfl)),
 f20:=⟨Tryz.f240.name,by decide,Tryz.func240.trans (congrArg some (by kernel_rfl))⟩,
 f21:=⟨Tryz.f241.name,by decide,Tryz.func241.trans (congrArg some (by kernel_rfl))⟩,
 f22:=⟨Tryz.f242.name,by decide,Tryz.func242.trans (congrArg some (by kernel_rfl))⟩,
 f23:=⟨Tryz.f243.name,by decide,Tryz.func243.trans (congrArg some (by kernel_rfl))⟩,
 f24:=⟨Tryz.f244.name,by decide,Tryz.func244.trans (congrArg some (by kernel_rfl))⟩,
 f25:=⟨Tryz.f245.name,by decide,Tryz.func245.trans (congrArg some (by kernel_rfl))⟩,
 f26:=⟨Tryz.f246.name,by decide,Tryz.func246.trans (congrArg some (by kernel_rfl))⟩,
 f27:=⟨Tryz.f247.name,by decide,Tryz.func247.trans (congrArg some (by kernel_rfl))⟩,
 f28:=Tryz.func168.trans (congrArg some (by kernel_rfl)),
 f29:=Tryz.func169.trans (congrArg some (by kernel_rfl)),
 f46:=⟨Tryz.f253.name,by decide,Tryz.func253.trans (congrArg some (by kernel_rfl))⟩,
 f47:=Tryz.func204.trans (congrArg some (by kernel_rfl)),
 f48:=Tryz.func205.trans (congrArg some (by kernel_rfl)),
 f49:=⟨Tryz.f254.name,by decide,Tryz.func254.trans (congrArg some (by kernel_rfl))⟩,
 f50:=⟨Tryz.f255.name,by decide,Tryz.func255.trans (congrArg some (by kernel_rfl))⟩,
 f57:=⟨Tryz.f258.name,by decide,Tryz.func258.trans (congrArg some (by kernel_rfl))⟩,
 t0:=Tryz.underlying0,
 a0:=Tryz.isAgg0,
 z0:=Tryz.sizeOf0,
 v0:=Tryz.zeroValue0,
 t3:=Tryz.underlying3,
 a3:=Tryz.isAgg3,
 z3:=Tryz.sizeOf3,
 v3:=Tryz.zeroValue3,
 t4:=Tryz.underlying4,
 a4:=Tryz.isAgg4,
 z4:=Tryz.sizeOf4,
 v4:=Tryz.zeroValue4,
 t5:=Tryz.underlying5,
 a5:=Tryz.isAgg5,
 z5:=Tryz.sizeOf5,
 v5:=Tryz.zeroValue5,
 t9:=Tryz.underlying9,
 a9:=Tryz.isAgg9,
 z9:=Tryz.sizeOf9,
 v9:=Tryz.zeroValue9,
 t22:=Tryz.underlying259,
 a22:=Tryz.isAgg259,
 z22:=Tryz.sizeOf259,
 v22:=Tryz.zeroValue259,
 t25:=Tryz.underlying261,
 a25:=Tryz.isAgg261,
 z25:=Tryz.sizeOf261,
 v25:=Tryz.zeroValue261,
 t39:=Tryz.underlying63,
 a39:=Tryz.isAgg63,
 z39:=Tryz.sizeOf63,
 v39:=Tryz.zeroValue63,
 t45:=Tryz.underlying201,
 a45:=Tryz.isAgg201,
 z45:=Tryz.sizeOf201,
 v45:=Tryz.zeroValue201,
 t46:=Tryz.underlying202,
 a46:=Tryz.isAgg202,
 z46:=Tryz.sizeOf202,
 v46:=Tryz.zeroValue202,
 t50:=Tryz.underlying80,
 a50:=Tryz.isAgg80,
 z50:=Tryz.sizeOf80,
 v50:=Tryz.zeroValue80,
 t53:=Tryz.underlying208,
 a53:=Tryz.isAgg208,
 z53:=Tryz.sizeOf208,
 v53:=Tryz.zeroValue208,
 t55:=Tryz.underlying128,
 a55:=Tryz.isAgg128,
 z55:=Tryz.sizeOf128,
 v55:=Tryz.zeroValue128,
 t66:=Tryz.underlying241,
 a66:=Tryz.isAgg241,
 z66:=Tryz.sizeOf241,
 v66:=Tryz.zeroValue241,
 t70:=Tryz.underlying245,
 a70:=Tryz.isAgg245,
 z70:=Tryz.sizeOf245,
 v70:=Tryz.zeroValue245,
 t76:=Tryz.underlying266,
 a76:=Tryz.isAgg266,
 z76:=Tryz.sizeOf266,
 v76:=Tryz.zeroValue266,
 t77:=Tryz.underlying267,
 a77:=Tryz.isAgg267,
 z77:=Tryz.sizeOf267,
 v77:=Tryz.zeroValue267 }
def zO2:Go.Shelf.Ren:=⟨fun|6=>69|15=>120|14=>119|28=>168|29=>169|20=>160|21=>161|22=>162|23=>163|24=>164|25=>165|26=>166|27=>167|46=>203|47=>204|48=>205|49=>206|50=>207|57=>222|n=>n,fun|22=>25|24=>43|25=>120|3=>3|39=>63|0=>0|53=>208|55=>128|4=>4|46=>202|45=>201|50=>80|5=>5|9=>9|66=>241|70=>245|76=>266|77=>267|n=>n,fun|n=>n⟩
theorem layFO:Go.Proofs.SlLaysF0.n6 Tryz.prog zO2:={
 mixed:=(by kernel_rfl),
 f6:=⟨Tryz.f69.name,by decide,Tryz.func69.trans (congrArg some (by kernel_rfl))⟩,
 f14:=⟨Tryz.f119.name,by decide,Tryz.func119.trans (congrArg some (by kernel_rfl))⟩,
 f15:=Tryz.func120.trans (congrArg some (by kernel_rfl)),
 f20:=⟨Tryz.f160.name,by decide,Tryz.func160.trans (congrArg some (by kernel_rfl))⟩,
 f21:=⟨Tryz.f161.name,by decide,Tryz.func161.trans (congrArg some (by kernel_rfl))⟩,
 f22:=⟨Tryz.f162.name,by decide,Tryz.func162.trans (congrArg some (by kernel_rfl))⟩,
 f23:=⟨Tryz.f163.name,by decide,Tryz.func163.trans (congrArg some (by kernel_rfl))⟩,
 f24:=⟨Tryz.f164.name,by decide,Tryz.func164.trans (congrArg some (by kernel_rfl))⟩,
 f25:=⟨Tryz.f165.name,by decide,Tryz.func165.trans (congrArg some (by kernel_rfl))⟩,
 f26:=⟨Tryz.f166.name,by decide,Tryz.func166.trans (congrArg some (by kernel_rfl))⟩,
 f27:=⟨Tryz.f167.name,by decide,Tryz.func167.trans (congrArg some (by kernel_rfl))⟩,
 f28:=Tryz.func168.trans (congrArg some (by kernel_rfl)),
 f29:=Tryz.func169.trans (congrArg some (by kernel_rfl)),
 f46:=⟨Tryz.f203.name,by decide,Tryz.func203.trans (congrArg some (by kernel_rfl))⟩,
 f47:=Tryz.func204.trans (congrArg some (by kernel_rfl)),
 f48:=Tryz.func205.trans (congrArg some (by kernel_rfl)),
 f49:=⟨Tryz.f206.name,by decide,Tryz.func206.trans (congrArg some (by kernel_rfl))⟩,
 f50:=⟨Tryz.f207.name,by decide,Tryz.func207.trans (congrArg some (by kernel_rfl))⟩,
 f57:=⟨Tryz.f222.name,by decide,Tryz.func222.trans (congrArg some (by kernel_rfl))⟩,
 t0:=Tryz.underlying0,
 a0:=Tryz.isAgg0,
 z0:=Tryz.sizeOf0,
 v0:=Tryz.zeroValue0,
 t3:=Tryz.underlying3,
 a3:=Tryz.isAgg3,
 z3:=Tryz.sizeOf3,
 v3:=Tryz.zeroValue3,
 t4:=Tryz.underlying4,
 a4:=Tryz.isAgg4,
 z4:=Tryz.sizeOf4,
 v4:=Tryz.zeroValue4,
 t5:=Tryz.underlying5,
 a5:=Tryz.isAgg5,
 z5:=Tryz.sizeOf5,
 v5:=Tryz.zeroValue5,
 t9:=Tryz.underlying9,
 a9:=Tryz.isAgg9,
 z9:=Tryz.sizeOf9,
 v9:=Tryz.zeroValue9,
 t22:=Tryz.underlying25,
 a22:=Tryz.isAgg25,
 z22:=Tryz.sizeOf25,
 v22:=Tryz.zeroValue25,
 t25:=Tryz.underlying120,
 a25:=Tryz.isAgg120,
 z25:=Tryz.sizeOf120,
 v25:=Tryz.zeroValue120,
 t39:=Tryz.underlying63,
 a39:=Tryz.isAgg63,
 z39:=Tryz.sizeOf63,
 v39:=Tryz.zeroValue63,
 t45:=Tryz.underlying201,
 a45:=Tryz.isAgg201,
 z45:=Tryz.sizeOf201,
 v45:=Tryz.zeroValue201,
 t46:=Tryz.underlying202,
 a46:=Tryz.isAgg202,
 z46:=Tryz.sizeOf202,
 v46:=Tryz.zeroValue202,
 t50:=Tryz.underlying80,
 a50:=Tryz.isAgg80,
 z50:=Tryz.sizeOf80,
 v50:=Tryz.zeroValue80,
 t53:=Tryz.underlying208,
 a53:=Tryz.isAgg208,
 z53:=Tryz.sizeOf208,
 v53:=Tryz.zeroValue208,
 t55:=Tryz.underlying128,
 a55:=Tryz.isAgg128,
 z55:=Tryz.sizeOf128,
 v55:=Tryz.zeroValue128,
 t66:=Tryz.underlying241,
 a66:=Tryz.isAgg241,
 z66:=Tryz.sizeOf241,
 v66:=Tryz.zeroValue241,
 t70:=Tryz.underlying245,
 a70:=Tryz.isAgg245,
 z70:=Tryz.sizeOf245,
 v70:=Tryz.zeroValue245,
 t76:=Tryz.underlying266,
 a76:=Tryz.isAgg266,
 z76:=Tryz.sizeOf266,
 v76:=Tryz.zeroValue266,
 t77:=Tryz.underlying267,
 a77:=Tryz.isAgg267,
 z77:=Tryz.sizeOf267,
 v77:=Tryz.zeroValue267 }
end Go.Proofs.YtibmaifoaajllaaGreatDoor
