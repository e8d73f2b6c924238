/- Texts of ours, joined: the steps of the proof, or the claim's theorem. -/
import Derived.Laws.RangeString
import Derived.Test.YtibmaifoaajllaaGreatDoorQa21
set_option linter.unusedSimpArgs false
set_option linter.unusedVariables false
set_option maxHeartbeats 16000000
namespace Go.Proofs.YtibmaifoaajllaaGreatDoor
section
open Go Go.Sk Go.RowKit
def zH6 (v:Int)(c:Nat):Int × Int × Bool:=match zEP v c with|some (l,h)=>(l,h,true)|none=>(0,0,false)
theorem zO7 (v:Int)(c:Nat)(w0:World)(hc:c∈[97,105,111,99,113,109,122,112,107,98,116,115]) :
  Calls Tryz.prog 131 [.int .u8 v,.int .u8 c].toArray w0 (Ret (.tuple #[.int .i64 (zH6 v c).1,.int .i64 (zH6 v c).2.1,.bool (zH6 v c).2.2]) w0):=by
 simp only[List.mem_cons,List.not_mem_nil,or_false] at hc
 rcases hc with rfl|rfl|rfl|rfl|rfl|rfl|rfl|rfl|rfl|rfl|rfl|rfl
 all_goals
  refine enter [.tmp 4,.tmp 5,.tmp 6] Tryz.func131 rfl Tryz.ntmps131 rfl rfl ?_
  have H:=zB w0
  repeat' (first|refine yT ?_|refine yU ?_|(refine y17 ?_ ?_;all_goals(intro h;try (exfalso;first|((exact absurd h (by decide));done)|((simp at *;omega);done))))|with_reducible apply zA|(refine y23 ?_ ?_;all_goals(intro h;try (exfalso;first|((exact absurd h (by decide));done)|((simp at *;omega);done))))|fail)
 all_goals
  refine zBT (vs:=[_,_,_]) ⟨zh rfl,zh rfl,zh rfl,trivial⟩ H.cl ?_
  simp only[decide_eq_true_eq,decide_eq_false_iff_not] at *
  by_cases hv:1≤v∧v≤3
  ·by_cases h3:v<3
   ·by_cases h2:v<2
    ·first|(exfalso;omega)|(simp only[zH6,zEP,zNq,if_pos hv,h3,h2];rfl)
    ·first|(exfalso;omega)|(simp only[zH6,zEP,zNq,if_pos hv,h3,h2];rfl)
   ·have h2:¬ v<2:=fun e=>h3 (by omega)
    first|(exfalso;omega)|(simp only[zH6,zEP,zNq,if_pos hv,h3,h2];rfl)
  ·first|(exfalso;omega)|(simp only[zH6,zEP,if_neg hv];rfl)
end
section
open Go Go.Sk Go.RowKit
attribute [local irreducible] Go.Calls
attribute [local semireducible] OX OW
def zDm (l:List Nat):ByteArray:=⟨(l.map UInt8.ofNat).toArray⟩
theorem zGm (l:List Nat):(zDm l).size=l.length:=by show(l.map UInt8.ofNat).toArray.size=_;simp
theorem zTk {l:List Nat}(hl:∀ x∈l,x<128){k:Nat}(h:k<(zDm l).size):((zDm l)[k]'h).toNat=l.getD k 0∧((zDm l)[k]'h).toNat<128:=by
 have hk:k<l.length:=by rw[zGm] at h;exact h
 have e:(zDm l)[k]'h=UInt8.ofNat (l[k]):=by
  simp only[ByteArray.getElem_eq_getElem_data,zDm,List.getElem_toArray,List.getElem_map]
 have hm:=hl _ (List.getElem_mem hk)
 have e2:(UInt8.ofNat (l[k])).toNat=l[k]:=by rw[UInt8.toNat_ofNat'];omega
 rw[e,e2,List.getD_eq_getElem?_getD,List.getElem?_eq_getElem hk]
 exact⟨rfl,hm⟩
theorem OX.rgS {P:Program}(S:Sig P){n:Nw}{ops:Array Oper}{Q:Exit→Env→World→Prop}{o:Oper}{rest:List Oper}{L:List (Nat × Value)}{b0:Env}{w w0:World}{G:zH}{t:TypeId}{d:Nat}{X:Operand}{s:ByteArray}{ti:TI}(H:St w0 G w)
  (ho:o.op=.range t X) (hd:o.dst=some d) (hlt:Nat.blt d n.n=true) (hx:ev (ovl L b0) X=.string s) (ht:lk S.tab t=some ti) (htd:ti.d=.string)
  (k:∀ r w',St w0 ((r,.stringIter s 0)::G) w'→OW P n ops Q rest (ovl ((d,.pointer (some ⟨r,0,none⟩))::L) b0) w'):OX P n ops Q o rest (ovl L b0) w:=by
 intro a ha
 unfold Oper.wp
 rw[ha.eval]
 have hr:=run_range_string (P:=P) w t s (by rw[S.und ht,htd])
 simp only[execOp,ho,hx,Sem.run_bind,hr,Result.andThen_ok,Sem.run_pure,Oper.upon_value,hd]
 exact k _ _ (H.alloc _) _ (ha.put hlt _)
theorem OX.nxS {P:Program}{n:Nw}{ops:Array Oper}{Q:Exit→Env→World→Prop}{o:Oper}{rest:List Oper}{L:List (Nat × Value)}{b0:Env}{w w0:World}{G:zH}{r d p:Nat}{X:Operand}{l:List Nat}(hl:∀ x∈l,x<128)(H:St w0 G w)(hr:(r,Obj.stringIter (zDm l) p)∈G)
  (ho:o.op=.next X true) (hd:o.dst=some d) (hlt:Nat.blt d n.n=true) (hx:ev (ovl L b0) X=.pointer (some ⟨r,0,none⟩))
  (k0:l.length≤p→OW P n ops Q rest (ovl ((d,.tuple #[.bool false])::L) b0) w)
  (k:p<l.length→∀ w',(∀ G',Up r (.stringIter (zDm l) p) (.stringIter (zDm l) (p+1)) G G'→St w0 G' w')→OW P n ops Q rest (ovl ((d,.tuple #[.bool true,.int .i64 p,.int .i32 (l.getD p 0)])::L) b0) w'):OX P n ops Q o rest (ovl L b0) w:=by
 intro a ha
 unfold Oper.wp
 rw[ha.eval]
 have hg:=H.mem _ hr
 simp only at hg
 by_cases h:p<(zDm l).size
 ·have hat:=zTk hl h
  have hr:(Instr.next (.pointer (some ⟨r,0,none⟩)) true o.type).run P w=.ok (.tuple #[.bool true,.int .i64 p,.int .i32 (l.getD p 0)]) { w with heap:=w.heap.setIfInBounds r (.stringIter (zDm l) (p+1)) }:=by
   simp only[Instr.next,getObj,setObj,Sem.run_bind,Sem.run,hg,Result.andThen,h,if_true,decode_ascii _ p h hat.2,hat.1]
   rfl
  simp only[execOp,ho,hx,Sem.run_bind,hr,Result.andThen_ok,Sem.run_pure,Oper.upon_value,hd]
  exact k (by rwa [zGm] at h) _ (fun G' hu=>H.setO hu) _ (ha.put hlt _)
 ·have hr:(Instr.next (.pointer (some ⟨r,0,none⟩)) true o.type).run P w=.ok (.tuple #[.bool false]) w:=by
   simp only[Instr.next,getObj,Sem.run_bind,Sem.run,hg,Result.andThen,h,if_false]
   rfl
  simp only[execOp,ho,hx,Sem.run_bind,hr,Result.andThen_ok,Sem.run_pure,Oper.upon_value,hd]
  exact k0 (by rw[zGm] at h;omega) _ (ha.put hlt _)
set_option maxRecDepth 20000 in
theorem zRO (v:Int)(c:Nat)(m:Int)(w0:World)(hc:c∈[97,105,111,99,113,109,122,112,107,98,116,115]) :
  Calls Tryz.prog 88 [.int .u8 v,.int .u8 c,.int .i64 m].toArray w0 (Ret (.bool (zBk v c m)) w0):=by
 refine enter [.tmp 6] Tryz.func88 rfl Tryz.ntmps88 rfl rfl ?_
 have H:=zB w0
 repeat' (first|refine yT ?_|(refine' y30 ent131 ?_ ?_;rotate_left;exact zO7 v c _ hc;intro w hcl;replace H:=H.ext hcl;clear hcl)|refine yU ?_|(refine y17 ?_ ?_;all_goals intro h)|fail)
 all_goals
  refine zQ rfl H.cl (congrArg Value.bool ?_)
  have hf:zBk v c m=((zH6 v c).2.2&&decide (m ≥ (zH6 v c).1)&&decide (m≤(zH6 v c).2.1)):=by
   unfold zBk zH6
   cases zEP v c<;>rfl
  rw[hf];simp[*]
end
section
open Go Go.Sk Go.RowKit
attribute [local irreducible] Go.Calls
section
attribute [local semireducible] Yq
theorem Yq.buildR {P:Program}(S:Sig P){o:Oper}{e:Env}{w:World}{t E:TypeId}{n:Nat}{ti te:TI}{parts:Array (Nat × Operand)}{cs:Array Value}(ho:o.op=.build t parts)(ht:lk S.tab t=some ti)(htd:ti.d=.array n E)(he:lk S.tab E=some te)
  (hf:Instr.fill (fun i=>some (i*te.size,te.size)) ti.zero.toArray (parts.toList.map fun p=>(p.1,ev e p.2))=some cs):Yq P o e w (.agg cs):=by
 intro w' _
 have hu:=S.run_und ht w'
 rw[htd] at hu
 obtain⟨f,h1,_,h3⟩:=S.inf ht
 obtain⟨zv,hz1,hz2⟩:=Option.map_eq_some_iff.1 h3
 have hzv:(zeroValue t).run P w'=.ok zv w':=by simp[zeroValue,typeInfo,h1,hz1]
 have hp:(parts.map fun p=>(p.1,ev e p.2)).toList=parts.toList.map fun p=>(p.1,ev e p.2):=by simp
 simp only[execOp,ho,Instr.build,Sem.run_bind,hzv,Result.andThen_ok,hu,S.run_size he,hz2]
 simp[hf]
end
def kindW:List (List Nat):=[[111,112,101,110,101,100],[99,108,111,115,101,100],[108,105,115,116,101,100],[104,97,108,116,101,100],[114,101,115,117,109,101,100],[100,101,112,111,115,105,116,101,100],[119,105,116,104,100,114,97,119,110],[105,115,115,117,101,100],[114,101,100,101,101,109,101,100],[102,101,101,32,115,101,116],[112,108,97,99,101,100],[99,97,110,99,101,108,108,101,100],[116,114,97,100,101,100],[101,110,103,108,105,115,104],[114,97,105,115,101,100],[115,101,97,108,101,100],[98,105,100],[115,111,108,100],[117,110,115,111,108,100],[109,111,118,101,100],[116,114,97,110,115,102,101,114,114,101,100],[114,101,110,97,109,101,100],[116,105,99,107,101,100]]
structure KRow where
 name:List Nat
 f1:List Nat
 f2:List Nat
 f3:List Nat
 text:Bool
def KRow.cells (r:KRow):List Value:=[.string (zDm r.name),.string (zDm r.f1),.string (zDm r.f2),.string (zDm r.f3),.bool r.text]
def zH7 (i:Nat):KRow:=⟨kindW.getD i [],(zK1.getD i (([32],[32],[32]),false)).1.1,(zK1.getD i (([32],[32],[32]),false)).1.2.1,(zK1.getD i (([32],[32],[32]),false)).1.2.2,(zK1.getD i (([32],[32],[32]),false)).2⟩
def KinM (F:zH):Prop:=∃ cs T fr,SlB F 5 (some ⟨3,0,none⟩) 23 3 0 cs T fr (fun i=>(zH7 i).cells)
attribute [local irreducible] zH7
theorem KinM.mono {F G:zH}(h:KinM F)(hs:F⊆G):KinM G:=let ⟨a,b,c,d⟩:=h;⟨a,b,c,d.mono hs⟩
def zBl (kind:Int):KRow:=if 1≤kind∧kind≤23 then zH7 (kind - 1).toNat else⟨[],[32],[32],[32],false⟩
theorem zRP {F:zH}(kind:Int)(hk:0≤kind∧kind≤255)(w0:World)(hF:Mem w0 F)(hK:KinM F) :
  Calls Tryz.prog 86 [.int .u8 kind].toArray w0 (Ret (.agg (zBl kind).cells.toArray) w0):=by
 obtain⟨cs,T,fr,hs⟩:=hK
 rcases Int.lt_or_le kind 1 with h1|h1
 ·have hlt:decide (kind<1)=true:=decide_eq_true h1
  refine enter [.cell 2 149] Tryz.func86 rfl Tryz.ntmps86 rfl rfl ?_
  have H:=zB w0
  repeat' (first|refine yT ?_|(refine y10 sg H ?_;intro b w H)|(refine y11 sg H ?_;intro w H)|refine z13 (Yq.buildR (cs:=#[.string ⟨#[32]⟩,.string ⟨#[32]⟩,.string ⟨#[32]⟩]) sg rfl rfl rfl rfl rfl) ?_|refine yU ?_|(refine y17 ?_ ?_;all_goals(intro h;try (exfalso;first|((rw[hlt] at h;cases h);done))))|fail)
  refine zBT (vs:=[_]) ⟨zAf sg rfl H.mem (zz2 _) rfl rfl,trivial⟩ H.cl ?_
  unfold zBl
  rw[if_neg (by omega)];rfl
 rcases Int.lt_or_le 23 kind with h2|h2
 ·have hlt:decide (kind<1)=false:=decide_eq_false (by omega)
  have hgt:decide (IntKind.i64.wrap kind>23)=true:=by rw[w64 (by omega) (by omega)];exact decide_eq_true h2
  refine enter [.cell 2 149] Tryz.func86 rfl Tryz.ntmps86 rfl rfl ?_
  have H:=zB w0
  repeat' (first|refine yT ?_|(refine y10 sg H ?_;intro b w H)|(refine y11 sg H ?_;intro w H)|refine z13 (Yq.buildR (cs:=#[.string ⟨#[32]⟩,.string ⟨#[32]⟩,.string ⟨#[32]⟩]) sg rfl rfl rfl rfl rfl) ?_|refine yU ?_|(refine y17 ?_ ?_;all_goals(intro h;try (exfalso;first|((rw[hlt] at h;cases h);done)|((rw[hgt] at h;cases h);done))))|(refine y23 ?_ ?_;all_goals(intro h;try (exfalso;first|((rw[hlt] at h;cases h);done)|((rw[hgt] at h;cases h);done))))|fail)
  refine zBT (vs:=[_]) ⟨zAf sg rfl H.mem (zz2 _) rfl rfl,trivial⟩ H.cl ?_
  unfold zBl
  rw[if_neg (by omega)];rfl
 ·have hlt:decide (kind<1)=false:=decide_eq_false (by omega)
  have hgt:decide (IntKind.i64.wrap kind>23)=false:=by rw[w64 (by omega) (by omega)];exact decide_eq_false (by omega)
  have hq:IntKind.u8.wrap (kind - 1)=((kind - 1).toNat:Int):=by
   obtain⟨m,hm⟩:∃ m:Nat,kind - 1=(m:Int):=⟨(kind - 1).toNat,by omega⟩
   rw[hm,Int.toNat_natCast]
   have:m<256:=by omega
   simp[IntKind.wrap,IntKind.bits,IntKind.signed]
   omega
  refine enter [.cell 2 149] Tryz.func86 rfl Tryz.ntmps86 rfl rfl ?_
  have H:=zB w0
  repeat' (first|refine yT ?_|(refine y10 sg H ?_;intro b w H)|(refine y11 sg H ?_;intro w H)|(refine zf rfl rfl (Yq.ixP sg (n:=23) (j:=(kind - 1).toNat) (by rw[hq];exact zz1 _) (by rw[hq];omega) (by rw[hq];omega) rfl rfl rfl rfl rfl rfl) ?_)|(refine zf rfl rfl (zBX sg hs (H.memF hF) rfl rfl rfl rfl rfl (by omega)) ?_)|refine yU ?_|(refine y17 ?_ ?_;all_goals(intro h;try (exfalso;first|((rw[hlt] at h;cases h);done)|((rw[hgt] at h;cases h);done))))|(refine y23 ?_ ?_;all_goals(intro h;try (exfalso;first|((rw[hlt] at h;cases h);done)|((rw[hgt] at h;cases h);done))))|fail)
  refine zBT (vs:=[_]) ⟨zAf sg rfl H.mem (zz2 _) rfl rfl,trivial⟩ H.cl ?_
  unfold zBl
  rw[if_pos (by omega)];rfl
def zCb (r:KRow)(v:Int):List Nat:=if v=1 then r.f1 else if v=2 then r.f2 else r.f3
def u8L (l:List Nat):List Value:=l.map fun(c:Nat)=>Value.int .u8 (c:Int)
def ToldR (r:KRow)(v:Int):zH→Value→Prop:=fun M z =>
 if 1≤v∧v≤3∧32 ∉ zCb r v then ∃ a cap,z=.tuple #[.slice a (zCb r v).length cap,.bool r.text,.bool true]∧Go.Sk.Own M 152 1 a (zCb r v).length cap (u8L (zCb r v))
 else M=[]∧z=.tuple #[.slice none 0 0,.bool false,.bool false]
theorem zTl (r:KRow)(v:Int)(hv:v<1∨3<v)(w0:World) :
  Calls Tryz.prog 87 [.agg r.cells.toArray,.int .u8 v].toArray w0 (zn (ToldR r v) w0):=by
 refine enter [.tmp 4,.tmp 5,.tmp 6] Tryz.func87 rfl Tryz.ntmps87 rfl rfl ?_
 have H:=zB w0
 have hor:decide (v<1)=false→decide (v>3)=true:=fun h=>decide_eq_true (by have:=zzB h;omega)
 repeat' (first|refine yT ?_|(refine y9 H ?_;intro b w H)|refine yU ?_|(refine y17 ?_ ?_;all_goals(intro h;try (exfalso;first|((have:=hor ‹_›;rw[h] at this;cases this);done))))|(refine y23 ?_ ?_;all_goals(intro h;try (exfalso;first|((have:=hor ‹_›;rw[h] at this;cases this);done))))|fail)
 all_goals
  refine zAY (vs:=[_,_,_]) (M:=[]) ⟨zh rfl,zh rfl,zh rfl,trivial⟩ (H.sub (zz9 _)) ?_
  unfold ToldR
  rw[if_neg (by omega)]
  exact⟨rfl,rfl⟩
end
section
open Go Go.Sk Go.RowKit
attribute [local irreducible] Go.Calls
theorem zJ3 (l:List Nat){k:Nat}(hk:k<l.length):u8L (l.take k)++[Value.int .u8 (l.getD k 0:Nat)]=u8L (l.take (k+1)):=by
 unfold u8L
 rw[List.take_succ_eq_append_getElem hk,List.map_append]
 simp[List.getElem?_eq_getElem hk]
theorem w8n {n:Nat}(h:n<256):IntKind.u8.wrap (n:Int)=(n:Int):=by simp[IntKind.wrap,IntKind.bits,IntKind.signed];omega
def KAsc (r:KRow):Prop:=(∀ x∈r.f1,x<128)∧(∀ x∈r.f2,x<128)∧(∀ x∈r.f3,x<128)∧r.f1.length≤100∧r.f2.length≤100∧r.f3.length≤100
theorem zRQ (r:KRow)(hr:KAsc r)(w0:World) :
  Calls Tryz.prog 87 [.agg r.cells.toArray,.int .u8 1].toArray w0 (zn (ToldR r 1) w0):=by
 obtain⟨nm,f1,f2,f3,tx⟩:=r
 have hl:∀ x∈f1,x<128:=by obtain⟨a1,a2,a3,a4,a5,a6⟩:=hr;assumption
 have hlen:f1.length≤100:=by obtain⟨a1,a2,a3,a4,a5,a6⟩:=hr;assumption
 have hsel:zCb ⟨nm,f1,f2,f3,tx⟩ 1=f1:=rfl
 refine enter [.tmp 4,.tmp 5,.tmp 6] Tryz.func87 rfl Tryz.ntmps87 rfl rfl ?_
 have H:=zB w0
 repeat' (first|refine yT ?_|refine y7 sg H ?_|(refine y9 H ?_;intro b w H)|refine z13 (Yq.ixP sg (n:=3) (j:=1 - 1) (by decide) (by decide) (by decide) rfl rfl rfl rfl rfl rfl) ?_|(refine OX.rgS sg (s:=zDm f1) H rfl rfl rfl rfl rfl rfl ?_;intro rr w H)|refine yU ?_|with_reducible apply zA|fail)
 refine zM [(4,6),(8,8),(21,30)] (fun x:Gr=>[(4,.slice x.a x.k x.cap)]) (fun x w=>x.k≤f1.length∧(∀ j,j<x.k→f1.getD j 0≠32)∧Go.Sk.Own x.M 152 1 x.a x.k x.cap (u8L (f1.take x.k))∧St w0 ((rr,Obj.stringIter (zDm f1) x.k)::cb _ (KRow.mk nm f1 f2 f3 tx).cells 149::x.M) w) (fun x=>f1.length - x.k) ⟨0,none,0,[]⟩ ⟨rfl,trivial⟩ ⟨zzD _,fun j hj=>absurd hj (zzE _),zTC _ _ _,H⟩ ?_
 clear H
 rintro⟨k,ao,co,M⟩ gh w ⟨hk,hno,hO,H⟩
 simp only at hk hno hO H ⊢
 repeat' (first|refine yT ?_|refine y8 sg H ?_|(refine OX.nxS hl H (zz2 _) rfl rfl rfl rfl (fun hnx=>?_) ?_;rotate_left;intro hnx w hup;replace H:=hup _ Up.here;clear hup)|refine yU ?_|(with_reducible apply zL;intro w hcl;replace H:=H.ext hcl;clear hcl)|refine y20 mixed ?_|with_reducible apply zA|fail)
 ·refine zJ rfl (fun h=>?_) (fun h=>?_)
  ·have h32:f1.getD k 0=32:=by have:=eqI h;omega
   have hmem:32∈f1:=by rw[← h32];exact zAK 0 hnx
   clear h
   repeat' (first|refine yT ?_|refine yU ?_|fail)
   refine zAY (vs:=[_,_,_]) (M:=[]) ⟨zh rfl,zh rfl,zh rfl,trivial⟩ (H.sub (zz9 _)) ?_
   unfold ToldR
   rw[hsel,if_neg (fun e=>e.2.2 hmem)]
   exact⟨rfl,rfl⟩
  ·have h32:f1.getD k 0≠32:=fun e=>by rw[e] at h;exact absurd h (by decide)
   have hlt:f1.getD k 0<256:=by have:=hl _ (zAK 0 hnx);omega
   clear h
   repeat' (first|refine yT ?_|(refine z14 sg H ?_;intro b w H)|(have hp:=H.perm (List.perm_append_comm (l₁:=[_,_,_]) (l₂:=M));refine zo sg 1 1 (M:=M) hp rfl rfl rfl rfl rfl rfl rfl rfl rfl rfl rfl hO (zAM hp.mem (zz3 _ (zz2 _))) rfl (zAh rfl) (by unfold maxLen;omega) (by omega) ?_;clear hp hO;intro ao co M w hO H;replace H:=H.perm (List.perm_append_comm (l₁:=M) (l₂:=[_,_,_])))|refine yU ?_|fail)
   exact zK ⟨k+1,ao,co,M⟩ rfl ⟨rfl,trivial⟩ ⟨hnx,fun j (hj:j<k+1)=>by by_cases e:j=k;(· rw[e];exact h32);exact hno j (by omega),by show Go.Sk.Own M _ 1 ao (k+1) co _;rw[← zJ3 _ hnx,← w8n hlt];exact hO,H.sub (zz7 _ _)⟩ (by show f1.length - (k+1)<f1.length - k;omega)
 ·obtain rfl:k=f1.length:=by omega
  rw[List.take_length] at hO
  have hm:32 ∉ f1:=fun hm=>by
   obtain⟨j,hj,e⟩:=zBO (d:=0) hm
   exact hno j hj e
  refine zAY (vs:=[_,_,_]) (M:=M) ⟨zh rfl,zh rfl,zh rfl,trivial⟩ ((H.sub (zz7 _ _)).sub (zz7 _ _)) ?_
  unfold ToldR
  rw[hsel,if_pos ⟨by decide,by decide,hm⟩]
  exact⟨ao,co,rfl,hO⟩
theorem zRR (r:KRow)(hr:KAsc r)(w0:World) :
  Calls Tryz.prog 87 [.agg r.cells.toArray,.int .u8 2].toArray w0 (zn (ToldR r 2) w0):=by
 obtain⟨nm,f1,f2,f3,tx⟩:=r
 have hl:∀ x∈f2,x<128:=by obtain⟨a1,a2,a3,a4,a5,a6⟩:=hr;assumption
 have hlen:f2.length≤100:=by obtain⟨a1,a2,a3,a4,a5,a6⟩:=hr;assumption
 have hsel:zCb ⟨nm,f1,f2,f3,tx⟩ 2=f2:=rfl
 refine enter [.tmp 4,.tmp 5,.tmp 6] Tryz.func87 rfl Tryz.ntmps87 rfl rfl ?_
 have H:=zB w0
 repeat' (first|refine yT ?_|refine y7 sg H ?_|(refine y9 H ?_;intro b w H)|refine z13 (Yq.ixP sg (n:=3) (j:=2 - 1) (by decide) (by decide) (by decide) rfl rfl rfl rfl rfl rfl) ?_|(refine OX.rgS sg (s:=zDm f2) H rfl rfl rfl rfl rfl rfl ?_;intro rr w H)|refine yU ?_|with_reducible apply zA|fail)
 refine zM [(4,6),(8,8),(21,30)] (fun x:Gr=>[(4,.slice x.a x.k x.cap)]) (fun x w=>x.k≤f2.length∧(∀ j,j<x.k→f2.getD j 0≠32)∧Go.Sk.Own x.M 152 1 x.a x.k x.cap (u8L (f2.take x.k))∧St w0 ((rr,Obj.stringIter (zDm f2) x.k)::cb _ (KRow.mk nm f1 f2 f3 tx).cells 149::x.M) w) (fun x=>f2.length - x.k) ⟨0,none,0,[]⟩ ⟨rfl,trivial⟩ ⟨zzD _,fun j hj=>absurd hj (zzE _),zTC _ _ _,H⟩ ?_
 clear H
 rintro⟨k,ao,co,M⟩ gh w ⟨hk,hno,hO,H⟩
 simp only at hk hno hO H ⊢
 repeat' (first|refine yT ?_|refine y8 sg H ?_|(refine OX.nxS hl H (zz2 _) rfl rfl rfl rfl (fun hnx=>?_) ?_;rotate_left;intro hnx w hup;replace H:=hup _ Up.here;clear hup)|refine yU ?_|(with_reducible apply zL;intro w hcl;replace H:=H.ext hcl;clear hcl)|refine y20 mixed ?_|with_reducible apply zA|fail)
 ·refine zJ rfl (fun h=>?_) (fun h=>?_)
  ·have h32:f2.getD k 0=32:=by have:=eqI h;omega
   have hmem:32∈f2:=by rw[← h32];exact zAK 0 hnx
   clear h
   repeat' (first|refine yT ?_|refine yU ?_|fail)
   refine zAY (vs:=[_,_,_]) (M:=[]) ⟨zh rfl,zh rfl,zh rfl,trivial⟩ (H.sub (zz9 _)) ?_
   unfold ToldR
   rw[hsel,if_neg (fun e=>e.2.2 hmem)]
   exact⟨rfl,rfl⟩
  ·have h32:f2.getD k 0≠32:=fun e=>by rw[e] at h;exact absurd h (by decide)
   have hlt:f2.getD k 0<256:=by have:=hl _ (zAK 0 hnx);omega
   clear h
   repeat' (first|refine yT ?_|(refine z14 sg H ?_;intro b w H)|(have hp:=H.perm (List.perm_append_comm (l₁:=[_,_,_]) (l₂:=M));refine zo sg 1 1 (M:=M) hp rfl rfl rfl rfl rfl rfl rfl rfl rfl rfl rfl hO (zAM hp.mem (zz3 _ (zz2 _))) rfl (zAh rfl) (by unfold maxLen;omega) (by omega) ?_;clear hp hO;intro ao co M w hO H;replace H:=H.perm (List.perm_append_comm (l₁:=M) (l₂:=[_,_,_])))|refine yU ?_|fail)
   exact zK ⟨k+1,ao,co,M⟩ rfl ⟨rfl,trivial⟩ ⟨hnx,fun j (hj:j<k+1)=>by by_cases e:j=k;(· rw[e];exact h32);exact hno j (by omega),by show Go.Sk.Own M _ 1 ao (k+1) co _;rw[← zJ3 _ hnx,← w8n hlt];exact hO,H.sub (zz7 _ _)⟩ (by show f2.length - (k+1)<f2.length - k;omega)
 ·obtain rfl:k=f2.length:=by omega
  rw[List.take_length] at hO
  have hm:32 ∉ f2:=fun hm=>by
   obtain⟨j,hj,e⟩:=zBO (d:=0) hm
   exact hno j hj e
  refine zAY (vs:=[_,_,_]) (M:=M) ⟨zh rfl,zh rfl,zh rfl,trivial⟩ ((H.sub (zz7 _ _)).sub (zz7 _ _)) ?_
  unfold ToldR
  rw[hsel,if_pos ⟨by decide,by decide,hm⟩]
  exact⟨ao,co,rfl,hO⟩
theorem zRS (r:KRow)(hr:KAsc r)(w0:World) :
  Calls Tryz.prog 87 [.agg r.cells.toArray,.int .u8 3].toArray w0 (zn (ToldR r 3) w0):=by
 obtain⟨nm,f1,f2,f3,tx⟩:=r
 have hl:∀ x∈f3,x<128:=by obtain⟨a1,a2,a3,a4,a5,a6⟩:=hr;assumption
 have hlen:f3.length≤100:=by obtain⟨a1,a2,a3,a4,a5,a6⟩:=hr;assumption
 have hsel:zCb ⟨nm,f1,f2,f3,tx⟩ 3=f3:=rfl
 refine enter [.tmp 4,.tmp 5,.tmp 6] Tryz.func87 rfl Tryz.ntmps87 rfl rfl ?_
 have H:=zB w0
 repeat' (first|refine yT ?_|refine y7 sg H ?_|(refine y9 H ?_;intro b w H)|refine z13 (Yq.ixP sg (n:=3) (j:=3 - 1) (by decide) (by decide) (by decide) rfl rfl rfl rfl rfl rfl) ?_|(refine OX.rgS sg (s:=zDm f3) H rfl rfl rfl rfl rfl rfl ?_;intro rr w H)|refine yU ?_|with_reducible apply zA|fail)
 refine zM [(4,6),(8,8),(21,30)] (fun x:Gr=>[(4,.slice x.a x.k x.cap)]) (fun x w=>x.k≤f3.length∧(∀ j,j<x.k→f3.getD j 0≠32)∧Go.Sk.Own x.M 152 1 x.a x.k x.cap (u8L (f3.take x.k))∧St w0 ((rr,Obj.stringIter (zDm f3) x.k)::cb _ (KRow.mk nm f1 f2 f3 tx).cells 149::x.M) w) (fun x=>f3.length - x.k) ⟨0,none,0,[]⟩ ⟨rfl,trivial⟩ ⟨zzD _,fun j hj=>absurd hj (zzE _),zTC _ _ _,H⟩ ?_
 clear H
 rintro⟨k,ao,co,M⟩ gh w ⟨hk,hno,hO,H⟩
 simp only at hk hno hO H ⊢
 repeat' (first|refine yT ?_|refine y8 sg H ?_|(refine OX.nxS hl H (zz2 _) rfl rfl rfl rfl (fun hnx=>?_) ?_;rotate_left;intro hnx w hup;replace H:=hup _ Up.here;clear hup)|refine yU ?_|(with_reducible apply zL;intro w hcl;replace H:=H.ext hcl;clear hcl)|refine y20 mixed ?_|with_reducible apply zA|fail)
 ·refine zJ rfl (fun h=>?_) (fun h=>?_)
  ·have h32:f3.getD k 0=32:=by have:=eqI h;omega
   have hmem:32∈f3:=by rw[← h32];exact zAK 0 hnx
   clear h
   repeat' (first|refine yT ?_|refine yU ?_|fail)
   refine zAY (vs:=[_,_,_]) (M:=[]) ⟨zh rfl,zh rfl,zh rfl,trivial⟩ (H.sub (zz9 _)) ?_
   unfold ToldR
   rw[hsel,if_neg (fun e=>e.2.2 hmem)]
   exact⟨rfl,rfl⟩
  ·have h32:f3.getD k 0≠32:=fun e=>by rw[e] at h;exact absurd h (by decide)
   have hlt:f3.getD k 0<256:=by have:=hl _ (zAK 0 hnx);omega
   clear h
   repeat' (first|refine yT ?_|(refine z14 sg H ?_;intro b w H)|(have hp:=H.perm (List.perm_append_comm (l₁:=[_,_,_]) (l₂:=M));refine zo sg 1 1 (M:=M) hp rfl rfl rfl rfl rfl rfl rfl rfl rfl rfl rfl hO (zAM hp.mem (zz3 _ (zz2 _))) rfl (zAh rfl) (by unfold maxLen;omega) (by omega) ?_;clear hp hO;intro ao co M w hO H;replace H:=H.perm (List.perm_append_comm (l₁:=M) (l₂:=[_,_,_])))|refine yU ?_|fail)
   exact zK ⟨k+1,ao,co,M⟩ rfl ⟨rfl,trivial⟩ ⟨hnx,fun j (hj:j<k+1)=>by by_cases e:j=k;(· rw[e];exact h32);exact hno j (by omega),by show Go.Sk.Own M _ 1 ao (k+1) co _;rw[← zJ3 _ hnx,← w8n hlt];exact hO,H.sub (zz7 _ _)⟩ (by show f3.length - (k+1)<f3.length - k;omega)
 ·obtain rfl:k=f3.length:=by omega
  rw[List.take_length] at hO
  have hm:32 ∉ f3:=fun hm=>by
   obtain⟨j,hj,e⟩:=zBO (d:=0) hm
   exact hno j hj e
  refine zAY (vs:=[_,_,_]) (M:=M) ⟨zh rfl,zh rfl,zh rfl,trivial⟩ ((H.sub (zz7 _ _)).sub (zz7 _ _)) ?_
  unfold ToldR
  rw[hsel,if_pos ⟨by decide,by decide,hm⟩]
  exact⟨ao,co,rfl,hO⟩
theorem zTm (r:KRow)(hr:KAsc r)(v:Int)(w0:World):Calls Tryz.prog 87 [.agg r.cells.toArray,.int .u8 v].toArray w0 (zn (ToldR r v) w0):=by
 by_cases h:v<1∨3<v
 ·exact zTl r v h w0
 ·have h3:v=1∨v=2∨v=3:=by omega
  rcases h3 with rfl|rfl|rfl
  ·exact zRQ r hr w0
  ·exact zRR r hr w0
  ·exact zRS r hr w0
theorem zRT (kind:Int):KAsc (zBl kind):=by
 have key:∀ i,i<23→KAsc (zH7 i):=by
  intro i hi
  have:∀ r∈(List.range 23).map zH7,(r.f1.all (fun x=>decide (x<128))&&r.f2.all (fun x=>decide (x<128))&&r.f3.all (fun x=>decide (x<128))&&decide (r.f1.length≤100)&&decide (r.f2.length≤100)&&decide (r.f3.length≤100))=true:=by
   unfold zH7
   decide
  have h:=this _ (List.mem_map.2 ⟨i,List.mem_range.2 hi,rfl⟩)
  simp only[Bool.and_eq_true,List.all_eq_true,decide_eq_true_eq] at h
  exact⟨h.1.1.1.1.1,h.1.1.1.1.2,h.1.1.1.2,h.1.1.2,h.1.2,h.2⟩
 unfold zBl
 split
 ·exact key _ (by omega)
 ·exact⟨by simp,by simp,by simp,by simp,by simp,by simp⟩
theorem ToldR.out {r:KRow}{v:Int}{M:zH}{z:Value}(h:ToldR r v M z):∃ a n cap t i,z=.tuple #[.slice a n cap,.bool t,.bool i]∧ToldR r v M (.tuple #[.slice a n cap,.bool t,.bool i]):=by
 have h0:=h
 unfold ToldR at h
 split at h
 ·obtain⟨a,cap,rfl,hO⟩:=h;exact⟨_,_,_,_,_,rfl,h0⟩
 ·obtain⟨rfl,rfl⟩:=h;exact⟨_,_,_,_,_,rfl,h0⟩
theorem zRU {F:zH}(v kind:Int)(hk:0≤kind∧kind≤255)(w0:World)(hF:Mem w0 F)(hK:KinM F) :
  Calls Tryz.prog 52 [.int .u8 v,.int .u8 kind].toArray w0 (zn (ToldR (zBl kind) v) w0):=by
 refine enter [.tmp 4,.tmp 5,.tmp 6] Tryz.func52 rfl Tryz.ntmps52 rfl rfl ?_
 have H:=zB w0
 repeat' (first|refine yT ?_|(refine' y30 ent86 ?_ ?_;rotate_left;exact zRP kind hk _ (H.memF hF) hK;intro w hcl;replace H:=H.ext hcl;clear hcl)|(refine' y32 ent87 ?_ ?_;rotate_left;exact zTm (zBl kind) (zRT kind) v _;intro z M w hR hS;replace H:=H.addR hS;clear hS;(try simp only[List.cons_append,List.nil_append] at H);obtain⟨a,n,cap,t,i,rfl,hR⟩:=hR.out)|refine yU ?_|fail)
 exact zAY (vs:=[_,_,_]) (M:=M) ⟨zh rfl,zh rfl,zh rfl,trivial⟩ H hR
end
end Go.Proofs.YtibmaifoaajllaaGreatDoor
