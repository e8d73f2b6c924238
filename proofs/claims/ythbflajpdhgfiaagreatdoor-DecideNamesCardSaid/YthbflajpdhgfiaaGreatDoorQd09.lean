/- Texts of ours, joined: the steps of the proof, or the claim's theorem. -/
import Derived.Test.YthbflajpdhgfiaaGreatDoorQd08
set_option linter.all false
set_option maxHeartbeats 16000000
namespace Go.Proofs.YthbflajpdhgfiaaGreatDoor
section
open Go Go.Sk Go.RowKit
attribute [local irreducible] Go.Calls
section
attribute [local semireducible] Yq
theorem Yq.buildR {P:Program}(S:Sig P){o:Oper}{e:Env}{w:World}{t E:TypeId}{n:Nat}{ti te:TI}{parts:Array (Nat × Operand)}{cs:Array Value}(ho:o.op=.build t parts)(ht:lk S.tab t=some ti)(htd:ti.d=.array n E)(he:lk S.tab E=some te)
  (hf:Instr.fill (fun i=>some (i*te.size,te.size)) ti.zero.toArray (parts.toList.map fun p=>(p.1,ev e p.2))=some cs):Yq P o e w (.agg cs):=by
 intro w' _
 have hu:=S.run_und ht w'
 rw[htd] at hu
 obtain⟨f,h1,_,h3⟩:=S.inf ht
 obtain⟨zv,hz1,hz2⟩:=Option.map_eq_some_iff.1 h3
 have hzv:(zeroValue t).run P w'=.ok zv w':=by simp[zeroValue,typeInfo,h1,hz1]
 have hp:(parts.map fun p=>(p.1,ev e p.2)).toList=parts.toList.map fun p=>(p.1,ev e p.2):=by simp
 simp only[execOp,ho,Instr.build,Sem.run_bind,hzv,Result.andThen_ok,hu,S.run_size he,hz2]
 simp[hf]
end
def kindW:List (List Nat):=[[111,112,101,110,101,100],[99,108,111,115,101,100],[108,105,115,116,101,100],[104,97,108,116,101,100],[114,101,115,117,109,101,100],[100,101,112,111,115,105,116,101,100],[119,105,116,104,100,114,97,119,110],[105,115,115,117,101,100],[114,101,100,101,101,109,101,100],[102,101,101,32,115,101,116],[112,108,97,99,101,100],[99,97,110,99,101,108,108,101,100],[116,114,97,100,101,100],[101,110,103,108,105,115,104],[114,97,105,115,101,100],[115,101,97,108,101,100],[98,105,100],[115,111,108,100],[117,110,115,111,108,100],[109,111,118,101,100],[116,114,97,110,115,102,101,114,114,101,100],[114,101,110,97,109,101,100],[116,105,99,107,101,100]]
structure KRow where
 name:List Nat
 f1:List Nat
 f2:List Nat
 f3:List Nat
 text:Bool
def KRow.cells (r:KRow):List Value:=[.string (zDX r.name),.string (zDX r.f1),.string (zDX r.f2),.string (zDX r.f3),.bool r.text]
def zHw (i:Nat):KRow:=⟨kindW.getD i [],(zK8.getD i (([32],[32],[32]),false)).1.1,(zK8.getD i (([32],[32],[32]),false)).1.2.1,(zK8.getD i (([32],[32],[32]),false)).1.2.2,(zK8.getD i (([32],[32],[32]),false)).2⟩
def KinM (F:zC):Prop:=∃ cs T fr,SlB F 5 (some ⟨2,0,none⟩) 23 2 0 cs T fr (fun i=>(zHw i).cells)
attribute [local irreducible] zHw
theorem KinM.mono {F G:zC}(h:KinM F)(hs:F⊆G):KinM G:=let ⟨a,b,c,d⟩:=h;⟨a,b,c,d.mono hs⟩
def zBl (kind:Int):KRow:=if 1≤kind∧kind≤23 then zHw (kind - 1).toNat else⟨[],[32],[32],[32],false⟩
theorem zRY {F:zC}(kind:Int)(hk:0≤kind∧kind≤255)(w0:World)(hF:Mem w0 F)(hK:KinM F) :
  Calls Tryz.prog 141 [.int .u8 kind].toArray w0 (Ret (.agg (zBl kind).cells.toArray) w0):=by
 obtain⟨cs,T,fr,hs⟩:=hK
 rcases Int.lt_or_le kind 1 with h1|h1
 ·have hlt:decide (kind<1)=true:=decide_eq_true h1
  refine enter [.cell 2 188] Tryz.func141 rfl Tryz.ntmps141 rfl rfl ?_
  have H:=zA w0
  repeat' (first|refine yT ?_|(refine y10 sg H ?_;intro b w H)|(refine y11 sg H ?_;intro w H)|refine z13 (Yq.buildR (cs:=#[.string ⟨#[32]⟩,.string ⟨#[32]⟩,.string ⟨#[32]⟩]) sg rfl rfl rfl rfl rfl) ?_|refine yU ?_|(refine y17 ?_ ?_;all_goals(intro h;try (exfalso;first|((rw[hlt] at h;cases h);done))))|fail)
  refine zA5 (vs:=[_]) ⟨zy sg rfl H.mem (zz2 _) rfl rfl,trivial⟩ H.cl ?_
  unfold zBl
  rw[if_neg qO];rfl
 rcases Int.lt_or_le 23 kind with h2|h2
 ·have hlt:decide (kind<1)=false:=decide_eq_false qO
  have hgt:decide (IntKind.i64.wrap kind>23)=true:=by rw[w64 qO qO];exact decide_eq_true h2
  refine enter [.cell 2 188] Tryz.func141 rfl Tryz.ntmps141 rfl rfl ?_
  have H:=zA w0
  repeat' (first|refine yT ?_|(refine y10 sg H ?_;intro b w H)|(refine y11 sg H ?_;intro w H)|refine z13 (Yq.buildR (cs:=#[.string ⟨#[32]⟩,.string ⟨#[32]⟩,.string ⟨#[32]⟩]) sg rfl rfl rfl rfl rfl) ?_|refine yU ?_|((first|refine y17 ?_ ?_|refine y23 ?_ ?_);all_goals(intro h;try (exfalso;first|((rw[hlt] at h;cases h);done)|((rw[hgt] at h;cases h);done))))|fail)
  refine zA5 (vs:=[_]) ⟨zy sg rfl H.mem (zz2 _) rfl rfl,trivial⟩ H.cl ?_
  unfold zBl
  rw[if_neg qO];rfl
 ·have hlt:decide (kind<1)=false:=decide_eq_false qO
  have hgt:decide (IntKind.i64.wrap kind>23)=false:=by rw[w64 qO qO];exact decide_eq_false qO
  have hq:IntKind.u8.wrap (kind - 1)=((kind - 1).toNat:Int):=by
   obtain⟨m,hm⟩:∃ m:Nat,kind - 1=(m:Int):=⟨(kind - 1).toNat,by omega⟩
   rw[hm,Int.toNat_natCast]
   have:m<256:=by omega
   simp[IntKind.wrap,IntKind.bits,IntKind.signed]
   omega
  refine enter [.cell 2 188] Tryz.func141 rfl Tryz.ntmps141 rfl rfl ?_
  have H:=zA w0
  repeat' (first|refine yT ?_|(refine y10 sg H ?_;intro b w H)|(refine y11 sg H ?_;intro w H)|(refine zd rfl rfl (Yq.ixP sg (n:=23) (j:=(kind - 1).toNat) (by rw[hq];exact zz1 _) (by rw[hq];omega) (by rw[hq];omega) rfl rfl rfl rfl rfl rfl) ?_)|(refine zd rfl rfl (zAn sg hs (H.memF hF) rfl rfl rfl rfl rfl qO) ?_)|refine yU ?_|((first|refine y17 ?_ ?_|refine y23 ?_ ?_);all_goals(intro h;try (exfalso;first|((rw[hlt] at h;cases h);done)|((rw[hgt] at h;cases h);done))))|fail)
  refine zA5 (vs:=[_]) ⟨zy sg rfl H.mem (zz2 _) rfl rfl,trivial⟩ H.cl ?_
  unfold zBl
  rw[if_pos qO];rfl
def zBc (r:KRow)(v:Int):List Nat:=if v=1 then r.f1 else if v=2 then r.f2 else r.f3
def u8L (l:List Nat):List Value:=l.map fun(c:Nat)=>Value.int .u8 (c:Int)
def ToldR (r:KRow)(v:Int):zC→Value→Prop:=fun M z =>
 if 1≤v∧v≤3∧32 ∉ zBc r v then ∃ a cap,z=.tuple #[.slice a (zBc r v).length cap,.bool r.text,.bool true]∧Go.Sk.Own M 190 1 a (zBc r v).length cap (u8L (zBc r v))
 else M=[]∧z=.tuple #[.slice none 0 0,.bool false,.bool false]
theorem zTz (r:KRow)(v:Int)(hv:v<1∨3<v)(w0:World) :
  Calls Tryz.prog 139 [.agg r.cells.toArray,.int .u8 v].toArray w0 (zi (ToldR r v) w0):=by
 refine enter [.tmp 4,.tmp 5,.tmp 6] Tryz.func139 rfl Tryz.ntmps139 rfl rfl ?_
 have H:=zA w0
 have hor:decide (v<1)=false→decide (v>3)=true:=fun h=>decide_eq_true (by have:=zzB h;omega)
 repeat' (first|refine yT ?_|(refine y9 H ?_;intro b w H)|refine yU ?_|((first|refine y17 ?_ ?_|refine y23 ?_ ?_);all_goals(intro h;try (exfalso;first|((have:=hor ‹_›;rw[h] at this;cases this);done))))|fail)
 all_goals
  refine zq (vs:=[_,_,_]) (M:=[]) ⟨zb rfl,zb rfl,zb rfl,trivial⟩ (H.sub (zz9 _)) ?_
  unfold ToldR
  rw[if_neg qO]
  exact⟨rfl,rfl⟩
end
section
open Go Go.Sk Go.RowKit
attribute [local irreducible] Go.Calls
theorem zJ0 (l:List Nat){k:Nat}(hk:k<l.length):u8L (l.take k)++[Value.int .u8 (l.getD k 0:Nat)]=u8L (l.take (k+1)):=by
 unfold u8L
 rw[List.take_succ_eq_append_getElem hk,List.map_append]
 simp[List.getElem?_eq_getElem hk]
theorem w8n {n:Nat}(h:n<256):IntKind.u8.wrap (n:Int)=(n:Int):=by simp[IntKind.wrap,IntKind.bits,IntKind.signed];omega
def zK9 (r:KRow):Prop:=(∀ x∈r.f1,x<128)∧(∀ x∈r.f2,x<128)∧(∀ x∈r.f3,x<128)∧r.f1.length≤100∧r.f2.length≤100∧r.f3.length≤100
theorem zRZ (r:KRow)(hr:zK9 r)(w0:World) :
  Calls Tryz.prog 139 [.agg r.cells.toArray,.int .u8 1].toArray w0 (zi (ToldR r 1) w0):=by
 obtain⟨nm,f1,f2,f3,tx⟩:=r
 have hl:∀ x∈f1,x<128:=by obtain⟨a1,a2,a3,a4,a5,a6⟩:=hr;assumption
 have hlen:f1.length≤100:=by obtain⟨a1,a2,a3,a4,a5,a6⟩:=hr;assumption
 have hsel:zBc ⟨nm,f1,f2,f3,tx⟩ 1=f1:=rfl
 refine enter [.tmp 4,.tmp 5,.tmp 6] Tryz.func139 rfl Tryz.ntmps139 rfl rfl ?_
 have H:=zA w0
 repeat' (first|refine yT ?_|refine y7 sg H ?_|(refine y9 H ?_;intro b w H)|refine z13 (Yq.ixP sg (n:=3) (j:=1 - 1) (by decide) (by decide) (by decide) rfl rfl rfl rfl rfl rfl) ?_|(refine OX.rgS sg (s:=zDX f1) H rfl rfl rfl rfl rfl rfl ?_;intro rr w H)|refine yU ?_|with_reducible apply zB|fail)
 refine zI [(4,6),(8,8),(21,30)] (fun x:Gr=>[(4,.slice x.a x.k x.cap)]) (fun x w=>x.k≤f1.length∧(∀ j,j<x.k→f1.getD j 0≠32)∧Go.Sk.Own x.M 190 1 x.a x.k x.cap (u8L (f1.take x.k))∧St w0 ((rr,Obj.stringIter (zDX f1) x.k)::cb _ (KRow.mk nm f1 f2 f3 tx).cells 188::x.M) w) (fun x=>f1.length - x.k) ⟨0,none,0,[]⟩ ⟨rfl,trivial⟩ ⟨zzD _,fun j hj=>absurd hj (zzE _),zTP _ _ _,H⟩ ?_
 clear H
 rintro⟨k,ao,co,M⟩ gh w ⟨hk,hno,hO,H⟩
 simp only at hk hno hO H ⊢
 repeat' (first|refine yT ?_|refine y8 sg H ?_|(refine OX.nxS hl H (zz2 _) rfl rfl rfl rfl (fun hnx=>?_) ?_;rotate_left;intro hnx w hup;replace H:=hup _ Up.here;clear hup)|refine yU ?_|(with_reducible apply zO;refine w2 H ?_;clear H;intro w H)|refine y20 mixed ?_|with_reducible apply zB|fail)
 ·refine zD rfl (fun h=>?_) (fun h=>?_)
  ·have h32:f1.getD k 0=32:=by have:=eqI h;omega
   have hmem:32∈f1:=by rw[← h32];exact zz 0 hnx
   clear h
   repeat' (first|refine yT ?_|refine yU ?_|fail)
   refine zq (vs:=[_,_,_]) (M:=[]) ⟨zb rfl,zb rfl,zb rfl,trivial⟩ (H.sub (zz9 _)) ?_
   unfold ToldR
   rw[hsel,if_neg (fun e=>e.2.2 hmem)]
   exact⟨rfl,rfl⟩
  ·have h32:f1.getD k 0≠32:=fun e=>by rw[e] at h;exact absurd h (by decide)
   have hlt:f1.getD k 0<256:=by have:=hl _ (zz 0 hnx);omega
   clear h
   repeat' (first|refine yT ?_|(refine z14 sg H ?_;intro b w H)|(have hp:=H.perm (List.perm_append_comm (l₁:=[_,_,_]) (l₂:=M));refine zj sg 1 1 (M:=M) hp rfl rfl rfl rfl rfl rfl rfl rfl rfl rfl rfl hO (zAL hp.mem (zz3 _ (zz2 _))) rfl (zAU rfl) (by unfold maxLen;omega) qO ?_;clear hp hO;intro ao co M w hO H;replace H:=H.perm (List.perm_append_comm (l₁:=M) (l₂:=[_,_,_])))|refine yU ?_|fail)
   exact zF ⟨k+1,ao,co,M⟩ rfl ⟨rfl,trivial⟩ ⟨hnx,fun j (hj:j<k+1)=>by by_cases e:j=k;(· rw[e];exact h32);exact hno j qO,by show Go.Sk.Own M _ 1 ao (k+1) co _;rw[← zJ0 _ hnx,← w8n hlt];exact hO,H.sub (zz7 _ _)⟩ (by show f1.length - (k+1)<f1.length - k;omega)
 ·obtain rfl:k=f1.length:=by omega
  rw[List.take_length] at hO
  have hm:32 ∉ f1:=fun hm=>by
   obtain⟨j,hj,e⟩:=zBP (d:=0) hm
   exact hno j hj e
  refine zq (vs:=[_,_,_]) (M:=M) ⟨zb rfl,zb rfl,zb rfl,trivial⟩ ((H.sub (zz7 _ _)).sub (zz7 _ _)) ?_
  unfold ToldR
  rw[hsel,if_pos ⟨by decide,by decide,hm⟩]
  exact⟨ao,co,rfl,hO⟩
theorem zRa (r:KRow)(hr:zK9 r)(w0:World) :
  Calls Tryz.prog 139 [.agg r.cells.toArray,.int .u8 2].toArray w0 (zi (ToldR r 2) w0):=by
 obtain⟨nm,f1,f2,f3,tx⟩:=r
 have hl:∀ x∈f2,x<128:=by obtain⟨a1,a2,a3,a4,a5,a6⟩:=hr;assumption
 have hlen:f2.length≤100:=by obtain⟨a1,a2,a3,a4,a5,a6⟩:=hr;assumption
 have hsel:zBc ⟨nm,f1,f2,f3,tx⟩ 2=f2:=rfl
 refine enter [.tmp 4,.tmp 5,.tmp 6] Tryz.func139 rfl Tryz.ntmps139 rfl rfl ?_
 have H:=zA w0
 repeat' (first|refine yT ?_|refine y7 sg H ?_|(refine y9 H ?_;intro b w H)|refine z13 (Yq.ixP sg (n:=3) (j:=2 - 1) (by decide) (by decide) (by decide) rfl rfl rfl rfl rfl rfl) ?_|(refine OX.rgS sg (s:=zDX f2) H rfl rfl rfl rfl rfl rfl ?_;intro rr w H)|refine yU ?_|with_reducible apply zB|fail)
 refine zI [(4,6),(8,8),(21,30)] (fun x:Gr=>[(4,.slice x.a x.k x.cap)]) (fun x w=>x.k≤f2.length∧(∀ j,j<x.k→f2.getD j 0≠32)∧Go.Sk.Own x.M 190 1 x.a x.k x.cap (u8L (f2.take x.k))∧St w0 ((rr,Obj.stringIter (zDX f2) x.k)::cb _ (KRow.mk nm f1 f2 f3 tx).cells 188::x.M) w) (fun x=>f2.length - x.k) ⟨0,none,0,[]⟩ ⟨rfl,trivial⟩ ⟨zzD _,fun j hj=>absurd hj (zzE _),zTP _ _ _,H⟩ ?_
 clear H
 rintro⟨k,ao,co,M⟩ gh w ⟨hk,hno,hO,H⟩
 simp only at hk hno hO H ⊢
 repeat' (first|refine yT ?_|refine y8 sg H ?_|(refine OX.nxS hl H (zz2 _) rfl rfl rfl rfl (fun hnx=>?_) ?_;rotate_left;intro hnx w hup;replace H:=hup _ Up.here;clear hup)|refine yU ?_|(with_reducible apply zO;refine w2 H ?_;clear H;intro w H)|refine y20 mixed ?_|with_reducible apply zB|fail)
 ·refine zD rfl (fun h=>?_) (fun h=>?_)
  ·have h32:f2.getD k 0=32:=by have:=eqI h;omega
   have hmem:32∈f2:=by rw[← h32];exact zz 0 hnx
   clear h
   repeat' (first|refine yT ?_|refine yU ?_|fail)
   refine zq (vs:=[_,_,_]) (M:=[]) ⟨zb rfl,zb rfl,zb rfl,trivial⟩ (H.sub (zz9 _)) ?_
   unfold ToldR
   rw[hsel,if_neg (fun e=>e.2.2 hmem)]
   exact⟨rfl,rfl⟩
  ·have h32:f2.getD k 0≠32:=fun e=>by rw[e] at h;exact absurd h (by decide)
   have hlt:f2.getD k 0<256:=by have:=hl _ (zz 0 hnx);omega
   clear h
   repeat' (first|refine yT ?_|(refine z14 sg H ?_;intro b w H)|(have hp:=H.perm (List.perm_append_comm (l₁:=[_,_,_]) (l₂:=M));refine zj sg 1 1 (M:=M) hp rfl rfl rfl rfl rfl rfl rfl rfl rfl rfl rfl hO (zAL hp.mem (zz3 _ (zz2 _))) rfl (zAU rfl) (by unfold maxLen;omega) qO ?_;clear hp hO;intro ao co M w hO H;replace H:=H.perm (List.perm_append_comm (l₁:=M) (l₂:=[_,_,_])))|refine yU ?_|fail)
   exact zF ⟨k+1,ao,co,M⟩ rfl ⟨rfl,trivial⟩ ⟨hnx,fun j (hj:j<k+1)=>by by_cases e:j=k;(· rw[e];exact h32);exact hno j qO,by show Go.Sk.Own M _ 1 ao (k+1) co _;rw[← zJ0 _ hnx,← w8n hlt];exact hO,H.sub (zz7 _ _)⟩ (by show f2.length - (k+1)<f2.length - k;omega)
 ·obtain rfl:k=f2.length:=by omega
  rw[List.take_length] at hO
  have hm:32 ∉ f2:=fun hm=>by
   obtain⟨j,hj,e⟩:=zBP (d:=0) hm
   exact hno j hj e
  refine zq (vs:=[_,_,_]) (M:=M) ⟨zb rfl,zb rfl,zb rfl,trivial⟩ ((H.sub (zz7 _ _)).sub (zz7 _ _)) ?_
  unfold ToldR
  rw[hsel,if_pos ⟨by decide,by decide,hm⟩]
  exact⟨ao,co,rfl,hO⟩
theorem zRb (r:KRow)(hr:zK9 r)(w0:World) :
  Calls Tryz.prog 139 [.agg r.cells.toArray,.int .u8 3].toArray w0 (zi (ToldR r 3) w0):=by
 obtain⟨nm,f1,f2,f3,tx⟩:=r
 have hl:∀ x∈f3,x<128:=by obtain⟨a1,a2,a3,a4,a5,a6⟩:=hr;assumption
 have hlen:f3.length≤100:=by obtain⟨a1,a2,a3,a4,a5,a6⟩:=hr;assumption
 have hsel:zBc ⟨nm,f1,f2,f3,tx⟩ 3=f3:=rfl
 refine enter [.tmp 4,.tmp 5,.tmp 6] Tryz.func139 rfl Tryz.ntmps139 rfl rfl ?_
 have H:=zA w0
 repeat' (first|refine yT ?_|refine y7 sg H ?_|(refine y9 H ?_;intro b w H)|refine z13 (Yq.ixP sg (n:=3) (j:=3 - 1) (by decide) (by decide) (by decide) rfl rfl rfl rfl rfl rfl) ?_|(refine OX.rgS sg (s:=zDX f3) H rfl rfl rfl rfl rfl rfl ?_;intro rr w H)|refine yU ?_|with_reducible apply zB|fail)
 refine zI [(4,6),(8,8),(21,30)] (fun x:Gr=>[(4,.slice x.a x.k x.cap)]) (fun x w=>x.k≤f3.length∧(∀ j,j<x.k→f3.getD j 0≠32)∧Go.Sk.Own x.M 190 1 x.a x.k x.cap (u8L (f3.take x.k))∧St w0 ((rr,Obj.stringIter (zDX f3) x.k)::cb _ (KRow.mk nm f1 f2 f3 tx).cells 188::x.M) w) (fun x=>f3.length - x.k) ⟨0,none,0,[]⟩ ⟨rfl,trivial⟩ ⟨zzD _,fun j hj=>absurd hj (zzE _),zTP _ _ _,H⟩ ?_
 clear H
 rintro⟨k,ao,co,M⟩ gh w ⟨hk,hno,hO,H⟩
 simp only at hk hno hO H ⊢
 repeat' (first|refine yT ?_|refine y8 sg H ?_|(refine OX.nxS hl H (zz2 _) rfl rfl rfl rfl (fun hnx=>?_) ?_;rotate_left;intro hnx w hup;replace H:=hup _ Up.here;clear hup)|refine yU ?_|(with_reducible apply zO;refine w2 H ?_;clear H;intro w H)|refine y20 mixed ?_|with_reducible apply zB|fail)
 ·refine zD rfl (fun h=>?_) (fun h=>?_)
  ·have h32:f3.getD k 0=32:=by have:=eqI h;omega
   have hmem:32∈f3:=by rw[← h32];exact zz 0 hnx
   clear h
   repeat' (first|refine yT ?_|refine yU ?_|fail)
   refine zq (vs:=[_,_,_]) (M:=[]) ⟨zb rfl,zb rfl,zb rfl,trivial⟩ (H.sub (zz9 _)) ?_
   unfold ToldR
   rw[hsel,if_neg (fun e=>e.2.2 hmem)]
   exact⟨rfl,rfl⟩
  ·have h32:f3.getD k 0≠32:=fun e=>by rw[e] at h;exact absurd h (by decide)
   have hlt:f3.getD k 0<256:=by have:=hl _ (zz 0 hnx);omega
   clear h
   repeat' (first|refine yT ?_|(refine z14 sg H ?_;intro b w H)|(have hp:=H.perm (List.perm_append_comm (l₁:=[_,_,_]) (l₂:=M));refine zj sg 1 1 (M:=M) hp rfl rfl rfl rfl rfl rfl rfl rfl rfl rfl rfl hO (zAL hp.mem (zz3 _ (zz2 _))) rfl (zAU rfl) (by unfold maxLen;omega) qO ?_;clear hp hO;intro ao co M w hO H;replace H:=H.perm (List.perm_append_comm (l₁:=M) (l₂:=[_,_,_])))|refine yU ?_|fail)
   exact zF ⟨k+1,ao,co,M⟩ rfl ⟨rfl,trivial⟩ ⟨hnx,fun j (hj:j<k+1)=>by by_cases e:j=k;(· rw[e];exact h32);exact hno j qO,by show Go.Sk.Own M _ 1 ao (k+1) co _;rw[← zJ0 _ hnx,← w8n hlt];exact hO,H.sub (zz7 _ _)⟩ (by show f3.length - (k+1)<f3.length - k;omega)
 ·obtain rfl:k=f3.length:=by omega
  rw[List.take_length] at hO
  have hm:32 ∉ f3:=fun hm=>by
   obtain⟨j,hj,e⟩:=zBP (d:=0) hm
   exact hno j hj e
  refine zq (vs:=[_,_,_]) (M:=M) ⟨zb rfl,zb rfl,zb rfl,trivial⟩ ((H.sub (zz7 _ _)).sub (zz7 _ _)) ?_
  unfold ToldR
  rw[hsel,if_pos ⟨by decide,by decide,hm⟩]
  exact⟨ao,co,rfl,hO⟩
theorem zN0 (r:KRow)(hr:zK9 r)(v:Int)(w0:World):Calls Tryz.prog 139 [.agg r.cells.toArray,.int .u8 v].toArray w0 (zi (ToldR r v) w0):=by
 by_cases h:v<1∨3<v
 ·exact zTz r v h w0
 ·have h3:v=1∨v=2∨v=3:=by omega
  rcases h3 with rfl|rfl|rfl
  ·exact zRZ r hr w0
  ·exact zRa r hr w0
  ·exact zRb r hr w0
theorem zRc (kind:Int):zK9 (zBl kind):=by
 have key:∀ i,i<23→zK9 (zHw i):=by
  intro i hi
  have:∀ r∈(List.range 23).map zHw,(r.f1.all (fun x=>decide (x<128))&&r.f2.all (fun x=>decide (x<128))&&r.f3.all (fun x=>decide (x<128))&&decide (r.f1.length≤100)&&decide (r.f2.length≤100)&&decide (r.f3.length≤100))=true:=by
   unfold zHw
   decide
  have h:=this _ (List.mem_map.2 ⟨i,List.mem_range.2 hi,rfl⟩)
  simp only[Bool.and_eq_true,List.all_eq_true,decide_eq_true_eq] at h
  exact⟨h.1.1.1.1.1,h.1.1.1.1.2,h.1.1.1.2,h.1.1.2,h.1.2,h.2⟩
 unfold zBl
 split
 ·exact key _ qO
 ·exact⟨by simp,by simp,by simp,by simp,by simp,by simp⟩
theorem ToldR.out {r:KRow}{v:Int}{M:zC}{z:Value}(h:ToldR r v M z):∃ a n cap t i,z=.tuple #[.slice a n cap,.bool t,.bool i]∧ToldR r v M (.tuple #[.slice a n cap,.bool t,.bool i]):=by
 have h0:=h
 unfold ToldR at h
 split at h
 ·obtain⟨a,cap,rfl,hO⟩:=h;exact⟨_,_,_,_,_,rfl,h0⟩
 ·obtain⟨rfl,rfl⟩:=h;exact⟨_,_,_,_,_,rfl,h0⟩
theorem zRd {F:zC}(v kind:Int)(hk:0≤kind∧kind≤255)(w0:World)(hF:Mem w0 F)(hK:KinM F) :
  Calls Tryz.prog 90 [.int .u8 v,.int .u8 kind].toArray w0 (zi (ToldR (zBl kind) v) w0):=by
 refine enter [.tmp 4,.tmp 5,.tmp 6] Tryz.func90 rfl Tryz.ntmps90 rfl rfl ?_
 have H:=zA w0
 repeat' (first|refine yT ?_|(refine' y30 ent141 ?_ ?_;rotate_left;exact zRY kind hk _ (H.memF hF) hK;refine w2 H ?_;clear H;intro w H)|(refine' y32 zQg ?_ ?_;rotate_left;exact zN0 (zBl kind) (zRc kind) v _;intro z M w hR hS;replace H:=H.addR hS;clear hS;(try simp only[List.cons_append,List.nil_append] at H);obtain⟨a,n,cap,t,i,rfl,hR⟩:=hR.out)|refine yU ?_|fail)
 exact zq (vs:=[_,_,_]) (M:=M) ⟨zb rfl,zb rfl,zb rfl,trivial⟩ H hR
def clsL:List Nat:=[97,105,111,99,113,109,122,112,107,98,116,115]
theorem zT0 (l:List Nat):u8L l=(List.range l.length).flatMap fun j=>[Value.int .u8 (l.getD j 0:Nat)]:=by
 unfold u8L
 have:∀ k,k≤l.length→(l.take k).map (fun(c:Nat)=>Value.int .u8 (c:Int))=(List.range k).flatMap fun j=>[Value.int .u8 (l.getD j 0:Nat)]:=by
  intro k
  induction k with
  | zero=>intro _;rfl
  | succ k ih =>
    intro hk
    rw[List.range_succ,List.flatMap_append,List.flatMap_singleton,← ih qO,List.take_succ_eq_append_getElem qO,List.map_append]
    simp[List.getElem?_eq_getElem (show k<l.length by omega)]
 rw[← this _ (Nat.le_refl _),List.take_length]
theorem zRe {F G:zC}(v:Int)(l:List Nat)(hl:∀ c∈l,c∈clsL)(nums:List Int){a an:Option Addr}{cap ncap:Nat}(w0:World)(hF:Mem w0 F)(hG:Mem w0 G)(h1:SlA G 1 a l.length cap fun j=>[Value.int .u8 (l.getD j 0:Nat)])(h2:Ints F an ncap nums) :
  Calls Tryz.prog 88 [.int .u8 v,.slice a l.length cap,.slice an nums.length ncap].toArray w0 (Ret (.bool (zBG v l nums)) w0):=by
 obtain⟨hn1,hc1,b1,off1,cs1,T1,fr1,hs1⟩:=h1
 obtain⟨hn2,hc2,b2,off2,cs2,T2,fr2,hs2⟩:=h2
 refine enter [.tmp 6] Tryz.func88 rfl Tryz.ntmps88 rfl rfl ?_
 have H:=zA w0
 repeat' (first|refine yT ?_|refine yU ?_|fail)
 refine zD rfl (fun h=>?_) (fun h=>?_)
 ·repeat' (first|refine yT ?_|refine yU ?_|fail)
  refine zP rfl H.cl (congrArg Value.bool ?_)
  unfold zBG
  have h:l.length≠nums.length:=fun e=>by rw[e] at h;simp at h
  rw[beq_eq_false_iff_ne.2 h];rfl
 ·have he:l.length=nums.length:=by simp at h;omega
  clear h
  repeat' (first|refine yT ?_|refine yU ?_|with_reducible apply zB|fail)
  refine zI [(6,8),(16,29)] (fun k:Nat=>[(16,.int .i64 (k:Int))]) (fun k w=>k≤l.length∧(∀ j,j<k→zCe v (l.getD j 0) (nums.getD j 0)=true)∧St w0 [] w) (fun k=>l.length - k) 0 ⟨rfl,trivial⟩ ⟨zzD _,fun j hj=>absurd hj (zzE _),H⟩ ?_
  clear H
  rintro k g w ⟨hk,hpk,H⟩
  repeat' (first|refine yT ?_|refine yU ?_|fail)
  refine zD rfl (fun h=>?_) (fun h=>?_)
  ·have hlt:k<l.length:=by simpa using h
   clear h
   repeat' (first|refine yT ?_|refine x40 sg hs1 ?_|refine z13 (Yq.loadB1 sg hs1 (H.memF hG) rfl rfl rfl rfl hlt rfl) ?_|refine x40 sg hs2 ?_|refine z13 (Yq.loadB1 sg hs2 (H.memF hF) rfl rfl rfl rfl (show k<nums.length by omega) rfl) ?_|(refine' y30 ent140 ?_ ?_;rotate_left;exact zRX v (l.getD k 0) (nums.getD k 0) _ (hl _ (zz 0 hlt));refine w2 H ?_;clear H;intro w H)|refine yU ?_|with_reducible apply zB|fail)
   refine zD rfl (fun h=>?_) (fun h=>?_)
   ·repeat' (first|refine yT ?_|refine yU ?_|fail)
    refine zP rfl H.cl (congrArg Value.bool ?_)
    have hf:zCe v (l.getD k 0) (nums.getD k 0)=false:=by simpa using h
    symm
    unfold zBG
    rw[Bool.and_eq_false_iff]
    refine .inr (Bool.eq_false_iff.2 fun e=>?_)
    have:=List.all_eq_true.1 e k (List.mem_range.2 hlt)
    rw[hf] at this;cases this
   ·repeat' (first|refine yT ?_|refine yU ?_|fail)
    refine zF (k+1) rfl ⟨zf qO,trivial⟩ ⟨hlt,fun j hj=>?_,H⟩ qO
    by_cases hj':j=k
    ·rw[hj'];simpa using h
    ·exact hpk j qO
  ·repeat' (first|refine yT ?_|refine yU ?_|fail)
   have hkn:k=l.length:=by simp at h;omega
   refine zP rfl H.cl (congrArg Value.bool ?_)
   symm
   unfold zBG
   rw[Bool.and_eq_true,List.all_eq_true]
   exact⟨by rw[he];exact beq_self_eq_true _,fun j hj=>hpk j (by have:=List.mem_range.1 hj;omega)⟩
theorem cls_ev {v kind:Int}(h:32 ∉ zBc (zBl kind) v):∀ c∈zBc (zBl kind) v,c∈clsL:=by
 have key:∀ r∈(List.range 23).map zHw,∀ l∈[r.f1,r.f2,r.f3],32∈l∨∀ c∈l,c∈clsL:=by
  unfold zHw
  decide
 have h2:∀ r,zBc r v∈[r.f1,r.f2,r.f3]:=fun r=>by
  unfold zBc;split
  ·simp
  ·split<;>simp
 unfold zBl at h ⊢
 split at h
 ·rename_i hk
  rw[if_pos hk]
  rcases key _ (List.mem_map.2 ⟨(kind - 1).toNat,List.mem_range.2 qO,rfl⟩) _ (h2 _) with e|e
  ·exact absurd e h
  ·exact e
 ·exfalso;apply h;unfold zBc;split
  ·simp
  ·split<;>simp
theorem zI3 (v kind:Int):zF7 v kind=if 1≤v∧v≤3∧32 ∉ zBc (zBl kind) v then some (zBc (zBl kind) v,(zBl kind).text) else none:=by
 by_cases hv:1≤v∧v≤3
 ·have e:zJy v kind=(zBc (zBl kind) v,(zBl kind).text):=by
   unfold zJy zBl zBc zHw
   by_cases hk:1≤kind∧kind≤23
   ·rw[if_pos hk,if_pos hk]
   ·rw[if_neg hk,if_neg hk];simp
  unfold zF7
  rw[e]
 ·unfold zF7
  rw[if_neg (fun h=>hv ⟨h.1,h.2.1⟩),if_neg (fun h=>hv ⟨h.1,h.2.1⟩)]
structure EPt where
 na:Option Addr
 nc:Nat
 ta:Option Addr
 tc:Nat
def Evt.cells (e:Evt)(p:EPt):List Value:=[.int .u8 e.v,.int .u8 e.kind,.slice p.na e.nums.length p.nc,.slice p.ta e.texts.length p.tc]
structure EvtM (F:zC)(e:Evt)(p:EPt):Prop where
 nums:Ints F p.na p.nc e.nums
 texts:SlA F 1 p.ta e.texts.length p.tc fun j=>[Value.string (e.texts.getD j ByteArray.empty)]
theorem EvtM.mono {F G:zC}{e:Evt}{p:EPt}(h:EvtM F e p)(hs:F⊆G):EvtM G e p:=⟨SlA.mono h.nums hs,SlA.mono h.texts hs⟩
def zGZ (e:Evt):Prop:=(0≤e.v∧e.v≤255)∧(0≤e.kind∧e.kind≤255)∧∀ t∈e.texts,t.size≤140737488355328
theorem ToldR.cases {r:KRow}{v:Int}{M:zC}{z:Value}(h:ToldR r v M z)(hl:(zBc r v).length≤100) :
  ((1≤v∧v≤3∧32 ∉ zBc r v)∧∃ a cap,z=.tuple #[.slice a (zBc r v).length cap,.bool r.text,.bool true]∧SlA M 1 a (zBc r v).length cap fun j=>[Value.int .u8 ((zBc r v).getD j 0:Nat)]) ∨
  (¬(1≤v∧v≤3∧32 ∉ zBc r v)∧z=.tuple #[.slice none 0 0,.bool false,.bool false]):=by
 unfold ToldR at h
 split at h
 ·rename_i hc
  obtain⟨a,cap,rfl,hO⟩:=h
  rw[zT0] at hO
  exact .inl ⟨hc,a,cap,rfl,hO.sl (fun _ hx=>hx) (fun _ _=>rfl) qO⟩
 ·rename_i hc
  exact .inr ⟨hc,h.2⟩
theorem zT1 (kind v:Int):(zBc (zBl kind) v).length≤100:=by
 obtain⟨_,_,_,a,b,c⟩:=zRc kind
 unfold zBc;split
 ·exact a
 ·split
  ·exact b
  ·exact c
theorem zN1 {F:zC}(e:Evt)(p:EPt)(he:zGZ e)(w0:World)(hF:Mem w0 F)(hK:KinM F)(hE:EvtM F e p) :
  Calls Tryz.prog 54 [.agg (e.cells p).toArray].toArray w0 (Ret (.bool (zCE e)) w0):=by
 obtain⟨hn2,hc2,b2,off2,cs2,T2,fr2,hs2⟩:=hE.texts
 refine enter [.tmp 2] Tryz.func54 rfl Tryz.ntmps54 rfl rfl ?_
 have H:=zA w0
 repeat' (first|refine yT ?_|refine y7 sg H ?_|(refine y9 H ?_;intro b w H)|(refine' y32 ent90 ?_ ?_;rotate_left;exact zRd e.v e.kind he.2.1 _ (H.memF hF) hK;intro z M w hR hS;replace H:=H.addR hS;clear hS;(try simp only[List.cons_append,List.nil_append] at H);obtain⟨hc,a,cap,rfl,hO⟩|⟨hc,rfl⟩:=hR.cases (zT1 _ _))|(refine' y30 ent88 ?_ ?_;rotate_left;exact zRe e.v _ (cls_ev hc.2.2) e.nums _ (H.memF hF) H.mem (hO.mono (fun x hx=>zz4 _ hx)) hE.nums;refine w2 H ?_;clear H;intro w H)|refine yU ?_|fail)
 ·have hf:zCE e=(zBG e.v (zBc (zBl e.kind) e.v) e.nums&&(if (zBl e.kind).text then e.texts.length==1&&zAI (e.texts.getD 0 ByteArray.empty) else e.texts.length==0)):=by
   unfold zCE;rw[zI3,if_pos hc]
  refine zD rfl (fun h=>?_) (fun h=>?_)
  ·repeat' (first|refine yT ?_|refine yU ?_|fail)
   have h:zBG e.v (zBc (zBl e.kind) e.v) e.nums=false:=by simpa using h
   exact zP rfl H.cl (by rw[hf,h];rfl)
  ·have hnum:zBG e.v (zBc (zBl e.kind) e.v) e.nums=true:=by simpa using h
   clear h
   repeat' (first|refine yT ?_|refine yU ?_|fail)
   refine zD rfl (fun ht=>?_) (fun ht=>?_)
   ·by_cases h1:e.texts.length=1
    ·have hd:((e.texts.length:Int)==1)=true:=by rw[h1];rfl
     repeat' (first|refine yT ?_|refine y7 sg H ?_|refine x40 sg hs2 ?_|refine z13 (Yq.loadB1 sg hs2 (H.memF hF) rfl rfl rfl rfl (show 0<e.texts.length by omega) rfl) ?_|(refine' y30 zQf ?_ ?_;rotate_left;exact zGU (e.texts.getD 0 ByteArray.empty) (he.2.2 _ (zz _ qO)) _;refine w2 H ?_;clear H;intro w H)|refine yU ?_|(refine y17 ?_ ?_;all_goals(intro h;try (exfalso;first|((rw[hd] at h;cases h);done))))|fail)
     exact zP rfl H.cl (by rw[hf,hnum,ht,h1];rfl)
    ·have hd:((e.texts.length:Int)==1)=false:=beq_eq_false_iff_ne.2 qO
     repeat' (first|refine yT ?_|refine y7 sg H ?_|refine yU ?_|(refine y17 ?_ ?_;all_goals(intro h;try (exfalso;first|((rw[hd] at h;cases h);done))))|fail)
     exact zP rfl H.cl (by rw[hf,hnum,ht,beq_eq_false_iff_ne.2 h1];simp[*])
   ·repeat' (first|refine yT ?_|refine y7 sg H ?_|refine yU ?_|fail)
    exact zP rfl H.cl (by rw[hf,hnum,ht];simp;rw[Bool.eq_iff_iff];simp)
 ·have hf:zCE e=false:=by unfold zCE;rw[zI3,if_neg hc]
  exact zP rfl H.cl (by rw[hf])
structure Smal (s:Sta):Prop where
 n:s.accts.length+s.insts.length+s.rows.length+s.orders.length+s.aucs.length≤1500
 acN:∀ k,k<s.accts.length→(ac_ s.accts k).name.size≤451000
 insN:∀ k,k<s.insts.length→(in_ s.insts k).name.size≤451000
 bd:∀ k,k<s.aucs.length→(s.aucs.getD k default).bids.length≤1500
end
section
open Go Go.Sk Go.RowKit
theorem zMg {n cap:Nat}{a:Option Addr}{el:Nat→List Value}{f:FuncId}{caps:List Value}{F:zC}(p:Nat→Bool)(w0:World)(hF:Mem w0 F)(hs:SlA F 2 a n cap el)(hf:Ent Tryz.prog f)
  (hp:∀ j,j<n→∀ w,Cl w0 w→Calls Tryz.prog f ([Value.agg (el j).toArray]++caps).toArray w (Ret (.bool (p j)) w)) :
  Calls Tryz.prog 203 [.slice a n cap,.func (.func f) #[] caps.toArray].toArray w0 (Ret (.int .i64 (idx p n)) w0):=by
 obtain⟨hn,hc,b,off,cs,T,fr,hs⟩:=hs
 refine enter [.tmp 4] Tryz.func203 rfl Tryz.ntmps203 rfl rfl ?_
 have H:=zA w0
 repeat' (first|refine yT ?_|refine yU ?_|with_reducible apply zB|fail)
 refine zI [(4,5),(8,18)] (fun k:Nat=>[(8,.int .i64 (k:Int))]) (fun k w=>k≤n∧(∀ j,j<k→p j=false)∧St w0 [] w) (fun k=>n - k) 0 ⟨rfl,trivial⟩ ⟨zzD _,fun j hj=>by omega,H⟩ ?_
 clear H
 rintro k g w ⟨hk,hpk,H⟩
 repeat' (first|refine yT ?_|refine yU ?_|fail)
 refine zD rfl (fun h=>?_) (fun h=>?_)
 ·have hlt:k<n:=by simpa using h
  repeat' (first|refine yT ?_|(refine zd rfl rfl (zG sg hs rfl rfl rfl rfl rfl rfl rfl rfl qO qO) ?_)|(refine zd rfl rfl (zAn sg hs (H.memF hF) rfl rfl rfl rfl rfl hlt) ?_)|(refine OX.call rfl rfl (zBT hf rfl rfl rfl) (hp k hlt _ H.cl) ?_;refine w2 H ?_;clear H;intro w H)|refine yU ?_|with_reducible apply zB|fail)
  refine zD rfl (fun h2=>?_) (fun h2=>?_)
  ·repeat' (first|refine yT ?_|refine yU ?_|fail)
   exact zP rfl H.cl (by rw[zBh hlt hpk h2])
  ·repeat' (first|refine yT ?_|refine yU ?_|fail)
   refine zF (k+1) rfl ⟨zf qO,trivial⟩ ⟨hlt,fun j hj=>?_,H⟩ qO
   by_cases hj':j=k
   ·rw[hj',h2]
   ·exact hpk j qO
 ·repeat' (first|refine yT ?_|refine yU ?_|fail)
  have hkn:k=n:=by simp at h;omega
  exact zP rfl H.cl (by rw[zAo (hkn ▸ hpk)])
theorem zMh {n cap:Nat}{a:Option Addr}{el:Nat→List Value}{f:FuncId}{caps:List Value}{F:zC}(p:Nat→Bool)(w0:World)(hF:Mem w0 F)(hs:SlA F 3 a n cap el)(hf:Ent Tryz.prog f)
  (hp:∀ j,j<n→∀ w,Cl w0 w→Calls Tryz.prog f ([Value.agg (el j).toArray]++caps).toArray w (Ret (.bool (p j)) w)) :
  Calls Tryz.prog 208 [.slice a n cap,.func (.func f) #[] caps.toArray].toArray w0 (Ret (.int .i64 (idx p n)) w0):=by
 obtain⟨hn,hc,b,off,cs,T,fr,hs⟩:=hs
 refine enter [.tmp 4] Tryz.func208 rfl Tryz.ntmps208 rfl rfl ?_
 have H:=zA w0
 repeat' (first|refine yT ?_|refine yU ?_|with_reducible apply zB|fail)
 refine zI [(4,5),(8,18)] (fun k:Nat=>[(8,.int .i64 (k:Int))]) (fun k w=>k≤n∧(∀ j,j<k→p j=false)∧St w0 [] w) (fun k=>n - k) 0 ⟨rfl,trivial⟩ ⟨zzD _,fun j hj=>by omega,H⟩ ?_
 clear H
 rintro k g w ⟨hk,hpk,H⟩
 repeat' (first|refine yT ?_|refine yU ?_|fail)
 refine zD rfl (fun h=>?_) (fun h=>?_)
 ·have hlt:k<n:=by simpa using h
  repeat' (first|refine yT ?_|(refine zd rfl rfl (zG sg hs rfl rfl rfl rfl rfl rfl rfl rfl qO qO) ?_)|(refine zd rfl rfl (zAn sg hs (H.memF hF) rfl rfl rfl rfl rfl hlt) ?_)|(refine OX.call rfl rfl (zBT hf rfl rfl rfl) (hp k hlt _ H.cl) ?_;refine w2 H ?_;clear H;intro w H)|refine yU ?_|with_reducible apply zB|fail)
  refine zD rfl (fun h2=>?_) (fun h2=>?_)
  ·repeat' (first|refine yT ?_|refine yU ?_|fail)
   exact zP rfl H.cl (by rw[zBh hlt hpk h2])
  ·repeat' (first|refine yT ?_|refine yU ?_|fail)
   refine zF (k+1) rfl ⟨zf qO,trivial⟩ ⟨hlt,fun j hj=>?_,H⟩ qO
   by_cases hj':j=k
   ·rw[hj',h2]
   ·exact hpk j qO
 ·repeat' (first|refine yT ?_|refine yU ?_|fail)
  have hkn:k=n:=by simp at h;omega
  exact zP rfl H.cl (by rw[zAo (hkn ▸ hpk)])
theorem zIg {n cap:Nat}{a:Option Addr}{el:Nat→List Value}{f:FuncId}{caps:List Value}{F:zC}(p:Nat→Bool)(w0:World)(hF:Mem w0 F)(hs:SlA F 3 a n cap el)(hf:Ent Tryz.prog f)
  (hp:∀ j,j<n→∀ w,Cl w0 w→Calls Tryz.prog f ([Value.agg (el j).toArray]++caps).toArray w (Ret (.bool (p j)) w)) :
  Calls Tryz.prog 163 [.slice a n cap,.func (.func f) #[] caps.toArray].toArray w0 (Ret (.bool (decide (idx p n ≥ 0))) w0):=by
 refine enter [.tmp 4] Tryz.func163 rfl Tryz.ntmps163 rfl rfl ?_
 have H:=zA w0
 repeat' (first|refine yT ?_|(refine' y30 ent208 ?_ ?_;rotate_left;exact zMh p _ (H.memF hF) hs hf (fun j hj w' hw'=>hp j hj w' (H.cl.trans hw'));refine w2 H ?_;clear H;intro w H)|refine yU ?_|fail)
 all_goals exact zP rfl H.cl rfl
theorem zMi {n cap:Nat}{a:Option Addr}{el:Nat→List Value}{F:zC}(w0:World)(hF:Mem w0 F)(hs:SlA F 2 a n cap el)(h1:∀ j,j<n→∀ u∈el j,u.oneCell'=true)(hel:∀ j,j<n→(el j).length=2)(hn:n*24≤140737488355328) :
  Calls Tryz.prog 76 [.slice a n cap].toArray w0 (zi (fun M v=>∃ a' cap',v=.slice a' n cap'∧Go.Sk.Own M 92 2 a' n cap' ((List.range n).flatMap el)) w0):=by
 obtain⟨hnc,hcb,b,off,cs,T,fr,hs⟩:=hs
 refine enter [.tmp 2] Tryz.func76 rfl Tryz.ntmps76 rfl rfl ?_
 have H:=zA w0
 repeat' (first|refine yT ?_|(refine zd rfl rfl (Yq.nilS sg rfl rfl rfl rfl) ?_)|refine yU ?_|fail)
 refine zD rfl (fun h=>?_) (fun h=>?_)
 ·have hn0:n=0:=by
   rcases Nat.eq_zero_or_pos n with h0|h0
   ·exact h0
   ·rw[(hs h0).1] at h;cases h
  subst hn0
  repeat' (first|refine yT ?_|refine yU ?_|fail)
  exact zS rfl H ⟨_,_,rfl,zTP _ _ _⟩
 ·have hM:=H.memF hF
  have hlen:∀ m,m≤n→((List.range m).flatMap el).length=m*2:=by
   intro m
   induction m with
   | zero=>intro _;rfl
   | succ m ih=>intro hm;rw[List.range_succ,List.flatMap_append,List.length_append,ih qO,List.flatMap_singleton,hel m qO];omega
  have hflat:∀ m,m≤n→∀ j u,((List.range m).flatMap el)[j]?=some u→0<n→cs[off+j]?=some u:=by
   intro m
   induction m with
   | zero=>intro _ j u hj;cases hj
   | succ m ih =>
     intro hm j u hj h0
     rw[List.range_succ,List.flatMap_append,List.flatMap_singleton] at hj
     by_cases hjm:j<m*2
     ·rw[List.getElem?_append_left (by rw[hlen m qO];exact hjm)] at hj
      exact ih qO j u hj h0
     ·rw[List.getElem?_append_right (by rw[hlen m qO];omega),hlen m qO] at hj
      have h2:=((hs h0).2.2 m qO).2
      rw[← h2,List.getElem?_take] at hj
      split at hj
      ·rw[List.getElem?_drop] at hj
       rw[show off+j=off+m*2+(j - m*2) by omega];exact hj
      ·cases hj
  have hsrc:∀ w,Mem w F→Src w (.slice a n cap) n ((List.range n).flatMap el):=by
   intro w hM
   rcases Nat.eq_zero_or_pos n with h0|h0
   ·subst h0
    cases a with
    | none=>cases h
    | some a=>exact .inl ⟨a,cap,rfl,fun j u hj=>by cases hj⟩
   ·obtain⟨rfl,hm,_⟩:=hs h0
    refine .inl ⟨_,_,rfl,fun j u hj=>?_⟩
    rw[zAC,zBq hM hm]
    exact hflat n (zzC _) j u hj h0
  clear hM
  have hone:∀ u∈(List.range n).flatMap el,u.oneCell'=true:=by
   intro u hu;obtain⟨j,hj,hu⟩:=List.mem_flatMap.1 hu;exact h1 j (List.mem_range.1 hj) u hu
  repeat' (first|refine yT ?_|(refine zBy sg H rfl rfl rfl rfl rfl rfl ?_;intro b w H _)|(refine zj sg 2 24 (M:=[]) (G:=[]) H rfl rfl rfl rfl rfl rfl rfl rfl rfl rfl rfl (zTP _ _ _) (hsrc _ (H.memF hF)) (hlen n (zzC _)) hone (by unfold maxLen;omega) qO ?_;intro a' cap' M w hO H;simp only[Nat.zero_add,List.nil_append] at hO;rw[List.append_nil] at H;rw[Nat.zero_add])|refine yU ?_|fail)
  exact zS rfl H ⟨_,_,rfl,hO⟩
theorem zMj {n cap:Nat}{a:Option Addr}{el:Nat→List Value}{F:zC}(w0:World)(hF:Mem w0 F)(hs:SlA F 3 a n cap el)(h1:∀ j,j<n→∀ u∈el j,u.oneCell'=true)(hel:∀ j,j<n→(el j).length=3)(hn:n*32≤140737488355328) :
  Calls Tryz.prog 77 [.slice a n cap].toArray w0 (zi (fun M v=>∃ a' cap',v=.slice a' n cap'∧Go.Sk.Own M 94 3 a' n cap' ((List.range n).flatMap el)) w0):=by
 obtain⟨hnc,hcb,b,off,cs,T,fr,hs⟩:=hs
 refine enter [.tmp 2] Tryz.func77 rfl Tryz.ntmps77 rfl rfl ?_
 have H:=zA w0
 repeat' (first|refine yT ?_|(refine zd rfl rfl (Yq.nilS sg rfl rfl rfl rfl) ?_)|refine yU ?_|fail)
 refine zD rfl (fun h=>?_) (fun h=>?_)
 ·have hn0:n=0:=by
   rcases Nat.eq_zero_or_pos n with h0|h0
   ·exact h0
   ·rw[(hs h0).1] at h;cases h
  subst hn0
  repeat' (first|refine yT ?_|refine yU ?_|fail)
  exact zS rfl H ⟨_,_,rfl,zTP _ _ _⟩
 ·have hM:=H.memF hF
  have hlen:∀ m,m≤n→((List.range m).flatMap el).length=m*3:=by
   intro m
   induction m with
   | zero=>intro _;rfl
   | succ m ih=>intro hm;rw[List.range_succ,List.flatMap_append,List.length_append,ih qO,List.flatMap_singleton,hel m qO];omega
  have hflat:∀ m,m≤n→∀ j u,((List.range m).flatMap el)[j]?=some u→0<n→cs[off+j]?=some u:=by
   intro m
   induction m with
   | zero=>intro _ j u hj;cases hj
   | succ m ih =>
     intro hm j u hj h0
     rw[List.range_succ,List.flatMap_append,List.flatMap_singleton] at hj
     by_cases hjm:j<m*3
     ·rw[List.getElem?_append_left (by rw[hlen m qO];exact hjm)] at hj
      exact ih qO j u hj h0
     ·rw[List.getElem?_append_right (by rw[hlen m qO];omega),hlen m qO] at hj
      have h2:=((hs h0).2.2 m qO).2
      rw[← h2,List.getElem?_take] at hj
      split at hj
      ·rw[List.getElem?_drop] at hj
       rw[show off+j=off+m*3+(j - m*3) by omega];exact hj
      ·cases hj
  have hsrc:∀ w,Mem w F→Src w (.slice a n cap) n ((List.range n).flatMap el):=by
   intro w hM
   rcases Nat.eq_zero_or_pos n with h0|h0
   ·subst h0
    cases a with
    | none=>cases h
    | some a=>exact .inl ⟨a,cap,rfl,fun j u hj=>by cases hj⟩
   ·obtain⟨rfl,hm,_⟩:=hs h0
    refine .inl ⟨_,_,rfl,fun j u hj=>?_⟩
    rw[zAC,zBq hM hm]
    exact hflat n (zzC _) j u hj h0
  clear hM
  have hone:∀ u∈(List.range n).flatMap el,u.oneCell'=true:=by
   intro u hu;obtain⟨j,hj,hu⟩:=List.mem_flatMap.1 hu;exact h1 j (List.mem_range.1 hj) u hu
  repeat' (first|refine yT ?_|(refine zBy sg H rfl rfl rfl rfl rfl rfl ?_;intro b w H _)|(refine zj sg 3 32 (M:=[]) (G:=[]) H rfl rfl rfl rfl rfl rfl rfl rfl rfl rfl rfl (zTP _ _ _) (hsrc _ (H.memF hF)) (hlen n (zzC _)) hone (by unfold maxLen;omega) qO ?_;intro a' cap' M w hO H;simp only[Nat.zero_add,List.nil_append] at hO;rw[List.append_nil] at H;rw[Nat.zero_add])|refine yU ?_|fail)
  exact zS rfl H ⟨_,_,rfl,hO⟩
theorem zHx {n cap:Nat}{a:Option Addr}{el:Nat→List Value}{F:zC}(w0:World)(hF:Mem w0 F)(hs:SlA F 4 a n cap el)(h1:∀ j,j<n→∀ u∈el j,u.oneCell'=true)(hel:∀ j,j<n→(el j).length=4)(hn:n*32≤140737488355328) :
  Calls Tryz.prog 78 [.slice a n cap].toArray w0 (zi (fun M v=>∃ a' cap',v=.slice a' n cap'∧Go.Sk.Own M 137 4 a' n cap' ((List.range n).flatMap el)) w0):=by
 obtain⟨hnc,hcb,b,off,cs,T,fr,hs⟩:=hs
 refine enter [.tmp 2] Tryz.func78 rfl Tryz.ntmps78 rfl rfl ?_
 have H:=zA w0
 repeat' (first|refine yT ?_|(refine zd rfl rfl (Yq.nilS sg rfl rfl rfl rfl) ?_)|refine yU ?_|fail)
 refine zD rfl (fun h=>?_) (fun h=>?_)
 ·have hn0:n=0:=by
   rcases Nat.eq_zero_or_pos n with h0|h0
   ·exact h0
   ·rw[(hs h0).1] at h;cases h
  subst hn0
  repeat' (first|refine yT ?_|refine yU ?_|fail)
  exact zS rfl H ⟨_,_,rfl,zTP _ _ _⟩
 ·have hM:=H.memF hF
  have hlen:∀ m,m≤n→((List.range m).flatMap el).length=m*4:=by
   intro m
   induction m with
   | zero=>intro _;rfl
   | succ m ih=>intro hm;rw[List.range_succ,List.flatMap_append,List.length_append,ih qO,List.flatMap_singleton,hel m qO];omega
  have hflat:∀ m,m≤n→∀ j u,((List.range m).flatMap el)[j]?=some u→0<n→cs[off+j]?=some u:=by
   intro m
   induction m with
   | zero=>intro _ j u hj;cases hj
   | succ m ih =>
     intro hm j u hj h0
     rw[List.range_succ,List.flatMap_append,List.flatMap_singleton] at hj
     by_cases hjm:j<m*4
     ·rw[List.getElem?_append_left (by rw[hlen m qO];exact hjm)] at hj
      exact ih qO j u hj h0
     ·rw[List.getElem?_append_right (by rw[hlen m qO];omega),hlen m qO] at hj
      have h2:=((hs h0).2.2 m qO).2
      rw[← h2,List.getElem?_take] at hj
      split at hj
      ·rw[List.getElem?_drop] at hj
       rw[show off+j=off+m*4+(j - m*4) by omega];exact hj
      ·cases hj
  have hsrc:∀ w,Mem w F→Src w (.slice a n cap) n ((List.range n).flatMap el):=by
   intro w hM
   rcases Nat.eq_zero_or_pos n with h0|h0
   ·subst h0
    cases a with
    | none=>cases h
    | some a=>exact .inl ⟨a,cap,rfl,fun j u hj=>by cases hj⟩
   ·obtain⟨rfl,hm,_⟩:=hs h0
    refine .inl ⟨_,_,rfl,fun j u hj=>?_⟩
    rw[zAC,zBq hM hm]
    exact hflat n (zzC _) j u hj h0
  clear hM
  have hone:∀ u∈(List.range n).flatMap el,u.oneCell'=true:=by
   intro u hu;obtain⟨j,hj,hu⟩:=List.mem_flatMap.1 hu;exact h1 j (List.mem_range.1 hj) u hu
  repeat' (first|refine yT ?_|(refine zBy sg H rfl rfl rfl rfl rfl rfl ?_;intro b w H _)|(refine zj sg 4 32 (M:=[]) (G:=[]) H rfl rfl rfl rfl rfl rfl rfl rfl rfl rfl rfl (zTP _ _ _) (hsrc _ (H.memF hF)) (hlen n (zzC _)) hone (by unfold maxLen;omega) qO ?_;intro a' cap' M w hO H;simp only[Nat.zero_add,List.nil_append] at hO;rw[List.append_nil] at H;rw[Nat.zero_add])|refine yU ?_|fail)
  exact zS rfl H ⟨_,_,rfl,hO⟩
theorem zFi {n cap:Nat}{a:Option Addr}{el:Nat→List Value}{F:zC}(w0:World)(hF:Mem w0 F)(hs:SlA F 6 a n cap el)(h1:∀ j,j<n→∀ u∈el j,u.oneCell'=true)(hel:∀ j,j<n→(el j).length=6)(hn:n*48≤140737488355328) :
  Calls Tryz.prog 38 [.slice a n cap].toArray w0 (zi (fun M v=>∃ a' cap',v=.slice a' n cap'∧Go.Sk.Own M 55 6 a' n cap' ((List.range n).flatMap el)) w0):=by
 obtain⟨hnc,hcb,b,off,cs,T,fr,hs⟩:=hs
 refine enter [.tmp 2] Tryz.func38 rfl Tryz.ntmps38 rfl rfl ?_
 have H:=zA w0
 repeat' (first|refine yT ?_|(refine zd rfl rfl (Yq.nilS sg rfl rfl rfl rfl) ?_)|refine yU ?_|fail)
 refine zD rfl (fun h=>?_) (fun h=>?_)
 ·have hn0:n=0:=by
   rcases Nat.eq_zero_or_pos n with h0|h0
   ·exact h0
   ·rw[(hs h0).1] at h;cases h
  subst hn0
  repeat' (first|refine yT ?_|refine yU ?_|fail)
  exact zS rfl H ⟨_,_,rfl,zTP _ _ _⟩
 ·have hM:=H.memF hF
  have hlen:∀ m,m≤n→((List.range m).flatMap el).length=m*6:=by
   intro m
   induction m with
   | zero=>intro _;rfl
   | succ m ih=>intro hm;rw[List.range_succ,List.flatMap_append,List.length_append,ih qO,List.flatMap_singleton,hel m qO];omega
  have hflat:∀ m,m≤n→∀ j u,((List.range m).flatMap el)[j]?=some u→0<n→cs[off+j]?=some u:=by
   intro m
   induction m with
   | zero=>intro _ j u hj;cases hj
   | succ m ih =>
     intro hm j u hj h0
     rw[List.range_succ,List.flatMap_append,List.flatMap_singleton] at hj
     by_cases hjm:j<m*6
     ·rw[List.getElem?_append_left (by rw[hlen m qO];exact hjm)] at hj
      exact ih qO j u hj h0
     ·rw[List.getElem?_append_right (by rw[hlen m qO];omega),hlen m qO] at hj
      have h2:=((hs h0).2.2 m qO).2
      rw[← h2,List.getElem?_take] at hj
      split at hj
      ·rw[List.getElem?_drop] at hj
       rw[show off+j=off+m*6+(j - m*6) by omega];exact hj
      ·cases hj
  have hsrc:∀ w,Mem w F→Src w (.slice a n cap) n ((List.range n).flatMap el):=by
   intro w hM
   rcases Nat.eq_zero_or_pos n with h0|h0
   ·subst h0
    cases a with
    | none=>cases h
    | some a=>exact .inl ⟨a,cap,rfl,fun j u hj=>by cases hj⟩
   ·obtain⟨rfl,hm,_⟩:=hs h0
    refine .inl ⟨_,_,rfl,fun j u hj=>?_⟩
    rw[zAC,zBq hM hm]
    exact hflat n (zzC _) j u hj h0
  clear hM
  have hone:∀ u∈(List.range n).flatMap el,u.oneCell'=true:=by
   intro u hu;obtain⟨j,hj,hu⟩:=List.mem_flatMap.1 hu;exact h1 j (List.mem_range.1 hj) u hu
  repeat' (first|refine yT ?_|(refine zBy sg H rfl rfl rfl rfl rfl rfl ?_;intro b w H _)|(refine zj sg 6 48 (M:=[]) (G:=[]) H rfl rfl rfl rfl rfl rfl rfl rfl rfl rfl rfl (zTP _ _ _) (hsrc _ (H.memF hF)) (hlen n (zzC _)) hone (by unfold maxLen;omega) qO ?_;intro a' cap' M w hO H;simp only[Nat.zero_add,List.nil_append] at hO;rw[List.append_nil] at H;rw[Nat.zero_add])|refine yU ?_|fail)
  exact zS rfl H ⟨_,_,rfl,hO⟩
end
section
open Go Go.Sk Go.RowKit
attribute [local irreducible] Go.Calls
def SPt.n0:SPt:=⟨none,0,none,0,none,0,none,0,none,0,fun _=>(none,0)⟩
theorem zRf (w0:World):Calls Tryz.prog 17 [].toArray w0 (Ret (.agg (Sta.cells zBJ SPt.n0).toArray) w0):=by
 refine enter [.cell 0 48] Tryz.func17 rfl Tryz.ntmps17 rfl rfl ?_
 have H:=zA w0
 repeat' (first|refine yT ?_|(refine y10 sg H ?_;intro b w H)|(refine y11 sg H ?_;intro w H)|refine yU ?_|fail)
 exact zA5 (vs:=[_]) ⟨zy sg rfl H.mem (zz2 _) rfl rfl,trivial⟩ H.cl rfl
theorem zRg (x:Ac)(nm:ByteArray)(b1:Nat){T1:TypeId}{fr1:Nat × Nat}{F:zC}(w0:World)(hF:Mem w0 F)(h1:(b1,Obj.cells [Value.string nm].toArray T1 fr1)∈F) :
  Calls Tryz.prog 204 [.agg x.cells.toArray,.pointer (some ⟨b1,0,none⟩)].toArray w0 (Ret (.bool (x.name.toList==nm.toList)) w0):=by
 refine enter [.tmp 3] Tryz.func204 rfl Tryz.ntmps204 rfl rfl ?_
 have H:=zA w0
 repeat' (first|refine yT ?_|refine y7 sg H ?_|(refine y9 H ?_;intro b w H)|refine z13 (zH sg rfl rfl (H.memF hF) h1 rfl rfl) ?_|refine yU ?_|fail)
 exact zP rfl H.cl rfl
theorem zN2 {F:zC}(s:Sta)(p:SPt)(nm:ByteArray)(w0:World)(hF:Mem w0 F)(hs:StaM F s p) :
  Calls Tryz.prog 159 [.agg (s.cells p).toArray,.string nm].toArray w0 (Ret (.int .i64 (zA3 s.accts nm+1)) w0):=by
 have hb:-1≤idx (fun j=>(ac_ s.accts j).name.toList==nm.toList) s.accts.length∧idx (fun j=>(ac_ s.accts j).name.toList==nm.toList) s.accts.length<s.accts.length:=by
  rcases zZ (fun j=>(ac_ s.accts j).name.toList==nm.toList) s.accts.length with ⟨k,h1,_,_,h2⟩|⟨_,h2⟩<;>(rw[h2];omega)
 have hl:=hs.ac.2.1
 refine enter [.tmp 4] Tryz.func159 rfl Tryz.ntmps159 rfl rfl ?_
 have H:=zA w0
 repeat' (first|refine yT ?_|refine y7 sg H ?_|(refine y9 H ?_;intro b w H)|(refine' y30 ent203 ?_ ?_;rotate_left;exact zMg (caps:=[.pointer (some ⟨_,0,none⟩)]) (fun j=>(ac_ s.accts j).name.toList==nm.toList) _ (H.memF hF) hs.ac ent204 (fun j hj w hw=>zRg (ac_ s.accts j) nm _ _ (H.ext hw).mem (zz2 _));refine w2 H ?_;clear H;intro w H)|refine yU ?_|fail)
 refine zP rfl H.cl ?_
 rw[w64 qO qO,Int.add_comm];rfl
end
section
open Go Go.Sk Go.RowKit
theorem zHO {α:Type}{lt:α→α→Prop}(hi:∀ a,¬ lt a a)(ha:∀ a b,lt a b→¬ lt b a):∀ {l m:List α},l.Pairwise lt→m.Pairwise lt→(∀ x,x∈l↔x∈m)→l=m
 | [],m,_,_,h=>by
   cases m with
   | nil=>rfl
   | cons b m=>exact absurd ((h b).2 (zz2 _)) (by simp)
 | a::l,[],_,_,h=>absurd ((h a).1 (zz2 _)) (by simp)
 | a::l,b::m,hl,hm,h=>by
   rw[List.pairwise_cons] at hl hm
   have hab:a=b:=by
    rcases List.mem_cons.1 ((h a).1 (zz2 _)) with e|e
    ·exact e
    ·rcases List.mem_cons.1 ((h b).2 (zz2 _)) with e'|e'
     ·exact e'.symm
     ·exact absurd (hl.1 b e') (ha _ _ (hm.1 a e))
   subst hab
   congr 1
   refine zHO hi ha hl.2 hm.2 fun x=>⟨fun hx=>?_,fun hx=>?_⟩
   ·rcases List.mem_cons.1 ((h x).1 (zz5 _ hx)) with e|e
    ·subst e;exact absurd (hl.1 _ hx) (hi _)
    ·exact e
   ·rcases List.mem_cons.1 ((h x).2 (zz5 _ hx)) with e|e
    ·subst e;exact absurd (hm.1 _ hx) (hi _)
    ·exact e
def ltPl (x y:Pl):Prop:=x.1<y.1∨x.1=y.1∧x.2<y.2
theorem zC0 {x:Pl}:x∈zBo↔(0≤x.1∧x.1≤64)∧0≤x.2∧x.2≤16:=by
 unfold zBo
 simp only[List.mem_flatMap,List.mem_map,List.mem_range]
 constructor
 ·rintro⟨a,ha,s,hs,rfl⟩;simp only;omega
 ·rintro⟨⟨h1,h2⟩,h3,h4⟩
  exact⟨x.1.toNat,by omega,x.2.toNat,by omega,by ext<;>simp only<;>omega⟩
theorem zLA (n:Nat):(List.range n).Pairwise (·<·):=List.pairwise_lt_range
theorem zRh:zBo.Pairwise ltPl:=by
 unfold zBo
 rw[List.pairwise_flatMap]
 constructor
 ·intro a _
  rw[List.pairwise_map]
  exact(zLA 17).imp fun h=>.inr ⟨rfl,by simpa using h⟩
 ·refine(zLA 65).imp fun{a b} h=>?_
  intro x hx y hy
  obtain⟨s,_,rfl⟩:=List.mem_map.1 hx
  obtain⟨t,_,rfl⟩:=List.mem_map.1 hy
  exact .inl (by simpa using h)
theorem zFG {E:Pl→Int × Int}{r:Row4}:r∈mkR E↔zAH r∈zBo∧E (zAH r)=(r.free,r.held)∧¬ (r.free=0∧r.held=0):=by
 unfold mkR
 rw[List.mem_filterMap]
 constructor
 ·rintro⟨x,hx,he⟩
  by_cases h0:E x=(0,0)
  ·rw[if_pos h0] at he;cases he
  ·rw[if_neg h0] at he
   obtain rfl:=Option.some.inj he
   exact⟨hx,rfl,fun h=>h0 (Prod.ext h.1 h.2)⟩
 ·rintro⟨hx,he,hn⟩
  refine⟨zAH r,hx,?_⟩
  rw[if_neg (by rw[he];exact fun h=>hn (Prod.mk.inj h)),he]
  rfl
theorem zHP (E:Pl→Int × Int):(mkR E).Pairwise LtR:=by
 unfold mkR
 rw[List.pairwise_filterMap]
 refine zRh.imp fun{x y} h=>?_
 intro r hr t ht
 by_cases h1:E x=(0,0)
 ·rw[if_pos h1] at hr;cases hr
 ·by_cases h2:E y=(0,0)
  ·rw[if_pos h2] at ht;cases ht
  ·rw[if_neg h1] at hr;rw[if_neg h2] at ht
   obtain rfl:=Option.some.inj hr
   obtain rfl:=Option.some.inj ht
   exact h
theorem LtR.tr {a b c:Row4}(h:LtR a b)(k:LtR b c):LtR a c:=by
 unfold LtR at *;omega
theorem LtR.irr (a:Row4):¬ LtR a a:=by unfold LtR;omega
theorem LtR.asy (a b:Row4)(h:LtR a b):¬ LtR b a:=by unfold LtR at *;omega
theorem zPL {l:List Row4}(h:RowsP l l.length):l.Pairwise LtR:=by
 rw[List.pairwise_iff_getElem]
 intro i j hi hj hij
 simpa [rw_,List.getD_eq_getElem?_getD,List.getElem?_eq_getElem hi,List.getElem?_eq_getElem hj] using h.lt hij hj
theorem zT2 {l:List Row4}(h:l.Pairwise LtR){r t:Row4}(hr:r∈l)(ht:t∈l)(he:zAH r=zAH t):r=t:=by
 obtain⟨i,hi,rfl⟩:=List.getElem_of_mem hr
 obtain⟨j,hj,rfl⟩:=List.getElem_of_mem ht
 rw[List.pairwise_iff_getElem] at h
 rcases Nat.lt_trichotomy i j with hij|rfl|hij
 ·have:=h i j hi hj hij;unfold LtR at this;unfold zAH at he;have:=Prod.mk.inj he;omega
 ·rfl
 ·have:=h j i hj hi hij;unfold LtR at this;unfold zAH at he;have:=Prod.mk.inj he;omega
theorem zGA {l:List Row4}(h:l.Pairwise LtR){r:Row4}(hr:r∈l):atR l (zAH r)=(r.free,r.held):=by
 unfold atR
 cases hf:l.find? (fun q=>q.acct==(zAH r).1&&q.asset==(zAH r).2) with
 | none=>exact absurd (List.find?_eq_none.1 hf r hr) (by simp[zAH])
 | some q =>
   have h1:=List.find?_some hf
   have h2:=List.mem_of_find?_eq_some hf
   have:q=r:=zT2 h h2 hr (by simp only[zAH,Bool.and_eq_true,beq_iff_eq] at h1 ⊢;rw[h1.1,h1.2])
   rw[this]
theorem zHy {l:List Row4}{x:Pl}(h:∀ r∈l,zAH r≠x):atR l x=(0,0):=by
 unfold atR
 rw[List.find?_eq_none.2 (fun r hr=>by
  have:=h r hr
  simp only[zAH] at this
  simp only[Bool.and_eq_true,beq_iff_eq,not_and]
  exact fun h1 h2=>this (by rw[h1,h2]))]
theorem zT3 (E:Pl→Int × Int){x:Pl}(hx:x∈zBo):atR (mkR E) x=E x:=by
 by_cases h0:E x=(0,0)
 ·rw[h0]
  refine zHy fun r hr he=>?_
  have:=zFG.1 hr
  rw[he,h0] at this
  have h1:=Prod.mk.inj this.2.1
  exact this.2.2 ⟨h1.1.symm,h1.2.symm⟩
 ·have hm:(⟨x.1,x.2,(E x).1,(E x).2⟩:Row4)∈mkR E:=zFG.2 ⟨hx,rfl,fun h=>h0 (Prod.ext h.1 h.2)⟩
  exact zGA (zHP E) hm
theorem zT4 {l:List Row4}(h:∀ r∈l,zAH r∈zBo){x:Pl}(hx:x ∉ zBo):atR l x=(0,0):=zHy fun r hr he=>hx (he ▸ h r hr)
theorem mkR_at {l:List Row4}(h:l.Pairwise LtR)(hg:∀ r∈l,zAH r∈zBo)(hn:∀ r∈l,¬ (r.free=0∧r.held=0)):mkR (atR l)=l:=by
 refine zHO LtR.irr LtR.asy (zHP _) h fun r=>?_
 rw[zFG]
 constructor
 ·rintro⟨_,he,hz⟩
  unfold atR at he
  cases hf:l.find? (fun q=>q.acct==(zAH r).1&&q.asset==(zAH r).2) with
  | none=>rw[hf] at he;have h1:=Prod.mk.inj he;exact absurd ⟨h1.1.symm,h1.2.symm⟩ hz
  | some q =>
    rw[hf] at he
    have h1:=List.find?_some hf
    have h2:=List.mem_of_find?_eq_some hf
    simp only[zAH,Bool.and_eq_true,beq_iff_eq] at h1
    have h3:=Prod.mk.inj he
    obtain⟨a,b,c,d⟩:=q
    obtain⟨a',b',c',d'⟩:=r
    simp only at h1 h3
    obtain⟨rfl,rfl⟩:=h1
    obtain⟨rfl,rfl⟩:=h3
    exact h2
 ·exact fun hr=>⟨hg r hr,zGA h hr,hn r hr⟩
theorem zDj {l:List Row4}(h:zAY l=true):∀ r∈l,zEX r:=fun r hr=>by
 obtain⟨k,hk,rfl⟩:=List.getElem_of_mem hr
 have:=((zBi.1 h).1 k hk).1
 simpa [rw_,List.getD_eq_getElem?_getD,List.getElem?_eq_getElem hk] using this
theorem zEr {l:List Row4}(h:zAY l=true):l.Pairwise LtR:=zPL (zBi.1 h).1
theorem zGa {r:Row4}(h:zEX r):zAH r∈zBo:=zC0.2 ⟨⟨h.1.1,h.1.2.1⟩,h.1.2.2⟩
theorem zN3 {l:List Row4}(h:zAY l=true):mkR (atR l)=l :=
 mkR_at (zEr h) (fun r hr=>zGa (zDj h r hr)) (fun r hr=>(zDj h r hr).2.1)
theorem zRi {l:List Row4}(h:zAY l=true){x:Pl}(hx:x ∉ zBo):atR l x=(0,0):=zT4 (fun r hr=>zGa (zDj h r hr)) hx
theorem zDk {l:List Row4}(h:zAY l=true)(x:Pl):(x.1=0→(atR l x).2=0)∧(x.1≠0→0≤(atR l x).1∧0≤(atR l x).2∧(atR l x).1+(atR l x).2≤1125899906842624):=by
 by_cases hm:∃ r∈l,zAH r=x
 ·obtain⟨r,hr,rfl⟩:=hm
  rw[zGA (zEr h) hr]
  have:=zDj h r hr
  exact⟨this.2.2.1,this.2.2.2⟩
 ·rw[zHy fun r hr he=>hm ⟨r,hr,he⟩]
  exact⟨fun _=>rfl,fun _=>⟨Int.le_refl _,Int.le_refl _,by decide⟩⟩
end
section
open Go Go.Sk Go.RowKit
attribute [local irreducible] Go.Calls
theorem zRj {α:Type}(l:List α)(q:α→Bool)(d:α):l.find? q=if idx (fun j=>q (l.getD j d)) l.length<0 then none else some (l.getD (idx (fun j=>q (l.getD j d)) l.length).toNat d):=by
 rcases zZ (fun j=>q (l.getD j d)) l.length with ⟨k,hk,hlo,hpk,hix⟩|⟨hall,hix⟩
 ·rw[hix,if_neg qO,Int.toNat_natCast]
  rw[List.find?_eq_some_iff_getElem]
  have e:l.getD k d=l[k]:=by simp[List.getElem?_eq_getElem hk]
  refine⟨hpk,k,hk,e.symm,fun j hj=>?_⟩
  have:=hlo j hj
  rw[show l.getD j d=l[j] by simp[List.getElem?_eq_getElem (show j<l.length by omega)]] at this
  simpa using this
 ·rw[hix,if_pos (by decide),List.find?_eq_none]
  intro x hx
  obtain⟨k,hk,rfl⟩:=zBP (d:=d) hx
  simpa using hall k hk
theorem zT5 (r:Row4)(a s:Int)(b1 b2:Nat){T1 T2:TypeId}{fr1 fr2:Nat × Nat}{F:zC}(w0:World)(hF:Mem w0 F)(h1:(b1,Obj.cells [Value.int .i64 a].toArray T1 fr1)∈F)(h2:(b2,Obj.cells [Value.int .i64 s].toArray T2 fr2)∈F) :
  Calls Tryz.prog 238 [.agg r.cells.toArray,.pointer (some ⟨b1,0,none⟩),.pointer (some ⟨b2,0,none⟩)].toArray w0 (Ret (.bool (r.acct==a&&r.asset==s)) w0):=by
 refine enter [.tmp 4] Tryz.func238 rfl Tryz.ntmps238 rfl rfl ?_
 have H:=zA w0
 repeat' (first|refine yT ?_|refine y7 sg H ?_|(refine y9 H ?_;intro b w H)|refine z13 (zH sg rfl rfl (H.memF hF) h1 rfl rfl) ?_|refine z13 (zH sg rfl rfl (H.memF hF) h2 rfl rfl) ?_|refine yU ?_|(refine y17 ?_ ?_;all_goals intro h)|fail)
 all_goals exact zP rfl H.cl (by simp[*])
def lgR (l:List Row4)(a s:Int):Row4:=⟨a,s,(atR l (a,s)).1,(atR l (a,s)).2⟩
theorem c_lGet {a0:Option Addr}{cap:Nat}(l:List Row4)(a s:Int){F:zC}(w0:World)(hF:Mem w0 F)(hs0:SlA F 4 a0 l.length cap (rwl l)) :
  Calls Tryz.prog 228 [.slice a0 l.length cap,.int .i64 a,.int .i64 s].toArray w0 (Ret (.agg (lgR l a s).cells.toArray) w0):=by
 have hs1:=hs0
 obtain⟨hn,hc,b0,off,cs,T,fr,hs⟩:=hs1
 have hfi:=zRj l (fun r=>r.acct==a&&r.asset==s) default
 refine enter [.cell 6 137] Tryz.func228 rfl Tryz.ntmps228 rfl rfl ?_
 have H:=zA w0
 repeat' (first|refine yT ?_|(refine y9 H ?_;intro b w H)|(refine y10 sg H ?_;intro b w H)|(refine' y30 zJg ?_ ?_;rotate_left;exact zD3 (caps:=[.pointer (some ⟨_,0,none⟩),.pointer (some ⟨_,0,none⟩)]) (fun j=>(rw_ l j).acct==a&&(rw_ l j).asset==s) _ (H.memF hF) hs0 ent238 (fun j hj w hw=>zT5 (rw_ l j) a s _ _ _ (H.ext hw).mem (zz5 _ (zz5 _ (zz2 _))) (zz5 _ (zz2 _)));refine w2 H ?_;clear H;intro w H)|refine yU ?_|fail)
 have hix:-1≤idx (fun j=>(rw_ l j).acct==a&&(rw_ l j).asset==s) l.length∧idx (fun j=>(rw_ l j).acct==a&&(rw_ l j).asset==s) l.length<l.length:=by
  rcases zZ (fun j=>(rw_ l j).acct==a&&(rw_ l j).asset==s) l.length with ⟨k,h1,_,_,h2⟩|⟨_,h2⟩<;>(rw[h2];omega)
 have hfi:l.find? (fun r=>r.acct==a&&r.asset==s)=if idx (fun j=>(rw_ l j).acct==a&&(rw_ l j).asset==s) l.length<0 then none else some (rw_ l (idx (fun j=>(rw_ l j).acct==a&&(rw_ l j).asset==s) l.length).toNat):=hfi
 generalize idx (fun j=>(rw_ l j).acct==a&&(rw_ l j).asset==s) l.length=i at hix hfi ⊢
 refine zD rfl (fun h=>?_) (fun h=>?_)
 ·repeat' (first|refine yT ?_|refine y7 sg H ?_|(refine y11 sg H ?_;intro w H)|refine yU ?_|fail)
  rw[if_pos (of_decide_eq_true h)] at hfi
  refine zA5 (vs:=[_]) ⟨zy sg rfl H.mem (zz2 _) rfl rfl,trivial⟩ H.cl ?_
  have e:lgR l a s=⟨a,s,0,0⟩:=by unfold lgR atR;rw[hfi]
  rw[e];rfl
 ·have hlt:=zzB h
  rw[if_neg hlt] at hfi
  repeat' (first|refine yT ?_|(refine y11 sg H ?_;intro w H)|refine x40 sg hs ?_|refine x42 sg hs (H.memF hF) ?_|refine yU ?_|fail)
  refine zA5 (vs:=[_]) ⟨zy sg rfl H.mem (zz2 _) rfl rfl,trivial⟩ H.cl ?_
  have hq:=List.find?_some hfi
  simp only[Bool.and_eq_true,beq_iff_eq] at hq
  have e:lgR l a s=rw_ l i.toNat:=by
   unfold lgR atR;rw[hfi]
   rw[← hq.1,← hq.2]
  rw[e];rfl
def R64 (l:List Row4):Prop:=∀ r∈l,(-9223372036854775808≤r.free∧r.free≤9223372036854775807)∧-9223372036854775808≤r.held∧r.held≤9223372036854775807
theorem atR_64 {l:List Row4}(h:R64 l)(x:Pl):(-9223372036854775808≤(atR l x).1∧(atR l x).1≤9223372036854775807)∧-9223372036854775808≤(atR l x).2∧(atR l x).2≤9223372036854775807:=by
 unfold atR
 cases hf:l.find? fun r=>r.acct==x.1&&r.asset==x.2 with
 | none=>exact⟨⟨by decide,by decide⟩,by decide,by decide⟩
 | some r=>exact h r (List.mem_of_find?_eq_some hf)
theorem zRk {a0:Option Addr}{cap:Nat}(l:List Row4)(h64:R64 l)(a s:Int){F:zC}(w0:World)(hF:Mem w0 F)(hs0:SlA F 4 a0 l.length cap (rwl l)) :
  Calls Tryz.prog 201 [.slice a0 l.length cap,.int .i64 a,.int .i64 s].toArray w0 (Ret (.int .i64 (zAi l a s)) w0):=by
 obtain⟨⟨h1,h2⟩,h3,h4⟩:=atR_64 h64 (a,s)
 refine enter [.tmp 6] Tryz.func201 rfl Tryz.ntmps201 rfl rfl ?_
 have H:=zA w0
 repeat' (first|refine yT ?_|refine y7 sg H ?_|(refine y10 sg H ?_;intro b w H)|(refine y11 sg H ?_;intro w H)|(refine' y30 ent228 ?_ ?_;rotate_left;exact c_lGet l a s _ (H.memF hF) hs0;refine w2 H ?_;clear H;intro w H)|(refine' y30 zQy ?_ ?_;rotate_left;exact c_Add (atR l (a,s)).1 (atR l (a,s)).2 _ h1 h2 h3 h4;refine w2 H ?_;clear H;intro w H)|refine yU ?_|fail)
 exact zP rfl H.cl rfl
theorem c_Of1 (r:Row4)(a:Int)(b1:Nat){T1:TypeId}{fr1:Nat × Nat}{F:zC}(w0:World)(hF:Mem w0 F)(h1:(b1,Obj.cells [Value.int .i64 a].toArray T1 fr1)∈F) :
  Calls Tryz.prog 207 [.agg r.cells.toArray,.pointer (some ⟨b1,0,none⟩)].toArray w0 (Ret (.bool (r.acct != a)) w0):=by
 refine enter [.tmp 3] Tryz.func207 rfl Tryz.ntmps207 rfl rfl ?_
 have H:=zA w0
 repeat' (first|refine yT ?_|refine y7 sg H ?_|(refine y9 H ?_;intro b w H)|refine z13 (zH sg rfl rfl (H.memF hF) h1 rfl rfl) ?_|refine yU ?_|fail)
 exact zP rfl H.cl rfl
theorem zRl (n:Int)(w0:World):Calls Tryz.prog 239 [.int .i64 n].toArray w0 (Ret (.bool (zIf n)) w0):=by
 refine enter [.tmp 2] Tryz.func239 rfl Tryz.ntmps239 rfl rfl ?_
 have H:=zA w0
 repeat' (first|refine yT ?_|refine yU ?_|(refine y17 ?_ ?_;all_goals intro h)|fail)
 all_goals exact zP rfl H.cl (by simp[zIf, *])
end
section
open Go Go.Sk Go.RowKit
abbrev AE:=Auc × Option Addr × Nat
def AE.c (p:AE):List Value:=p.1.cells p.2.1 p.2.2
theorem AE.c_len (p:AE):p.c.length=9:=rfl
theorem AE.c_one (p:AE):∀ u∈p.c,u.oneCell'=true:=by
 intro u hu
 simp only[AE.c,Auc.cells,List.mem_cons,List.not_mem_nil,or_false] at hu
 rcases hu with rfl|rfl|rfl|rfl|rfl|rfl|rfl|rfl|rfl<;>rfl
def altb (x y:AE):Bool:=decide (x.1.fin<y.1.fin)
theorem zJ1 (x y:AE)(w:World):Calls Tryz.prog 62 [.agg x.c.toArray,.agg y.c.toArray].toArray w (Ret (.int .i64 (zB7 x.1.fin y.1.fin)) w):=by
 obtain⟨x,a,cap⟩:=x
 obtain⟨y,a',cap'⟩:=y
 refine enter [.tmp 4] Tryz.func62 rfl Tryz.ntmps62 rfl rfl ?_
 have H:=zA w
 repeat' (first|refine yT ?_|refine y7 sg H ?_|(refine y9 H ?_;intro b w H)|(refine' y30 zKu ?_ ?_;rotate_left;exact zDf _ _ _;intro w hcl;replace H:=H.ext hcl;clear hcl)|refine yU ?_|fail)
 exact zP rfl H.cl rfl
def sw (d:Nat→AE)(i j:Nat):Nat→AE:=fun k=>if k=i then d j else if k=j then d i else d k
def zBK (a:Nat):Nat→(Nat→AE)→(Nat→AE)
 | 0,d=>d
 | j+1,d=>if a<j+1∧altb (d (j+1)) (d j)=true then zBK a j (sw d (j+1) j) else d
def zBQ (a:Nat):Nat→Nat→(Nat→AE)→(Nat→AE)
 | 0,_,d=>d
 | m+1,i,d=>zBQ a m (i+1) (zBK a i d)
def zEZ (a b:Nat)(d:Nat→AE):Nat→AE:=zBQ a (b - (a+1)) (a+1) d
structure Arr (w0:World)(g:Nat)(len n:Nat)(G:zC)(d:Nat→AE)(cs:List Value)(w:World):Prop where
 st:St w0 (cb g cs 67::G) w
 len:cs.length=len
 els:Els cs 9 n (fun j=>(d j).c)
theorem Arr.slb {w0 w:World}{g len n:Nat}{G:zC}{d:Nat→AE}{cs:List Value}(h:Arr w0 g len n G d cs w):SlB (cb g cs 67::G) 9 (some ⟨g,0,none⟩) n g 0 cs 67 (0,0) (fun j=>(d j).c):=h.els.slb (zz2 _)
theorem Arr.ext {w0 w w':World}{g len n:Nat}{G:zC}{d:Nat→AE}{cs:List Value}(h:Arr w0 g len n G d cs w)(k:Cl w w'):Arr w0 g len n G d cs w':=⟨h.st.ext k,h.len,h.els⟩
def upd (d:Nat→AE)(k:Nat)(v:AE):Nat→AE:=fun t=>if t=k then v else d t
theorem Arr.fit {w0 w:World}{g len n k:Nat}{G:zC}{d:Nat→AE}{cs:List Value}(h:Arr w0 g len n G d cs w)(hk:k<n)(v:AE):0+k*9+v.c.length≤cs.length:=by
 have:=(h.els k hk).1
 rw[AE.c_len];omega
theorem Arr.put {w0 w w':World}{g len n k:Nat}{G:zC}{d:Nat→AE}{cs:List Value}{v:AE}(h:Arr w0 g len n G d cs w)(hk:k<n)(hs:St w0 (cb g (wr cs (0+k*9) v.c) 67::G) w') :
  Arr w0 g len n G (upd d k v) (wr cs (0+k*9) v.c) w' :=
 ⟨hs,by rw[zBt (h.fit hk v)];exact h.len,by rw[Nat.zero_add];exact(h.els.wr hk (AE.c_len v)).congr (fun j _=>by unfold upd;split<;>rfl)⟩
theorem zJ2 {d:Nat→AE}{i j:Nat}(h:i≠j):upd (upd d i (d j)) j (d i)=sw d i j:=by
 funext k
 unfold upd sw
 by_cases h1:k=j
 ·subst h1;rw[if_pos rfl,if_neg (Ne.symm h),if_pos rfl]
 ·rw[if_neg h1,if_neg h1]
theorem zJ3 {w0 w:World}{g len n cap a e:Nat}{G:zC}{d:Nat→AE}{cs:List Value}(hA:Arr w0 g len n G d cs w)(hae:a≤e)(hen:e≤n)(hn:n<4611686018427387904) :
  Calls Tryz.prog 149 [.slice (some ⟨g,0,none⟩) n cap,.int .i64 (a:Int),.int .i64 (e:Int),.func (.func 62) #[] #[]].toArray w
   (zi (fun M v=>v=.tuple #[]∧∃ cs',M=cb g cs' 67::G∧cs'.length=len∧Els cs' 9 n (fun j=>(zEZ a e d j).c)) w0):=by
 refine enter [] Tryz.func149 rfl Tryz.ntmps149 rfl rfl ?_
 have H:=hA
 repeat' (first|refine yT ?_|refine yU ?_|with_reducible apply zB|fail)
 refine zI [(8,9),(12,52)] (fun x:Nat × (Nat→AE) × List Value=>[(8,.int .i64 (x.1:Int))]) (fun x w=>a+1≤x.1∧(x.1≤e∨x.1=a+1)∧zBQ a (e - x.1) x.1 x.2.1=zEZ a e d∧Arr w0 g len n G x.2.1 x.2.2 w) (fun x=>e - x.1) (a+1,d,cs) ⟨zf qO,trivial⟩ ⟨zzC _,.inr rfl,rfl,H⟩ ?_
 clear H hA
 rintro⟨i,d1,cs1⟩ gh w ⟨hi1,hi2,hi3,H⟩
 simp only at hi1 hi2 hi3 H ⊢
 repeat' (first|refine yT ?_|refine yU ?_|fail)
 refine zD rfl (fun h=>?_) (fun h=>?_)
 ·have hie:i<e:=by simpa using h
  repeat' (first|refine yT ?_|refine yU ?_|with_reducible apply zB|fail)
  refine zI [(9,9),(18,52)] (fun x:Nat × (Nat→AE) × List Value=>[(9,.int .i64 (x.1:Int))]) (fun x w=>x.1≤i∧a≤x.1∧zBK a x.1 x.2.1=zBK a i d1∧Arr w0 g len n G x.2.1 x.2.2 w) (fun x=>x.1) (i,d1,cs1) ⟨rfl,trivial⟩ ⟨zzC _,by omega,rfl,H⟩ ?_
  clear H
  rintro⟨j,d2,cs2⟩ gh2 w ⟨hj1,hj2,hj3,H⟩
  simp only at hj1 hj2 hj3 H ⊢
  rcases Nat.lt_or_ge a j with hja|hja
  ·repeat' (first|refine yT ?_|(refine y41 sg (H.slb) ?_ ?_ ?_;(first|omega|(rw[w64 qO qO];omega));(first|omega|(rw[w64 qO qO];omega)))|refine x43 sg H.slb H.st.mem ?_|(refine' y35 zNj ?_ ?_;rotate_left;exact(fun _ hcl=>zJ1 (d2 j) (d2 (j - 1)) _))|refine yU ?_|(refine y18 ?_ ?_;all_goals intro h)|(with_reducible apply zO;intro w hcl;replace H:=H.ext hcl;clear hcl)|refine y20 mixed ?_|fail)
   all_goals first|(exfalso;simp at h;omega)|skip
   obtain⟨jj,rfl⟩:∃ jj,j=jj+1:=⟨j - 1,by omega⟩
   simp only[Nat.add_sub_cancel] at *
   refine zD rfl (fun h3=>?_) (fun h3=>?_)
   ·repeat' (first|refine yT ?_|(refine zA2 mixed 18 ?_ ?_;exact rfl;intro w hcl;replace H:=H.ext hcl;clear hcl)|((with_reducible apply zEg);decide +kernel)|(refine' z8 0 ?_ ?_;rotate_left;first|exact z9 sg|exact(fun w=>zG sg H.slb rfl rfl rfl rfl rfl rfl rfl (by first|with_reducible exact zz1 _|exact zt qO qO|with_reducible exact zAj|exact zs _) (by first|omega|(rw[w64 qO qO];omega)) (by first|omega|(rw[w64 qO qO];omega))))|(refine' z8 1 ?_ ?_;rotate_left;first|exact z9 sg|exact(fun w=>zG sg H.slb rfl rfl rfl rfl rfl rfl rfl (by first|with_reducible exact zz1 _|exact zt qO qO|with_reducible exact zAj|exact zs _) (by first|omega|(rw[w64 qO qO];omega)) (by first|omega|(rw[w64 qO qO];omega))))|(refine' z8 2 ?_ ?_;rotate_left;first|exact z9 sg|exact(fun w=>zG sg H.slb rfl rfl rfl rfl rfl rfl rfl (by first|with_reducible exact zz1 _|exact zt qO qO|with_reducible exact zAj|exact zs _) (by first|omega|(rw[w64 qO qO];omega)) (by first|omega|(rw[w64 qO qO];omega))))|(refine' z8 3 ?_ ?_;rotate_left;first|exact z9 sg|exact(fun w=>zG sg H.slb rfl rfl rfl rfl rfl rfl rfl (by first|with_reducible exact zz1 _|exact zt qO qO|with_reducible exact zAj|exact zs _) (by first|omega|(rw[w64 qO qO];omega)) (by first|omega|(rw[w64 qO qO];omega))))|(refine' z8 4 ?_ ?_;rotate_left;first|exact z9 sg|exact(fun w=>zG sg H.slb rfl rfl rfl rfl rfl rfl rfl (by first|with_reducible exact zz1 _|exact zt qO qO|with_reducible exact zAj|exact zs _) (by first|omega|(rw[w64 qO qO];omega)) (by first|omega|(rw[w64 qO qO];omega))))|(refine' z8 5 ?_ ?_;rotate_left;first|exact z9 sg|exact(fun w=>zG sg H.slb rfl rfl rfl rfl rfl rfl rfl (by first|with_reducible exact zz1 _|exact zt qO qO|with_reducible exact zAj|exact zs _) (by first|omega|(rw[w64 qO qO];omega)) (by first|omega|(rw[w64 qO qO];omega))))|(refine' z8 6 ?_ ?_;rotate_left;first|exact z9 sg|exact(fun w=>zG sg H.slb rfl rfl rfl rfl rfl rfl rfl (by first|with_reducible exact zz1 _|exact zt qO qO|with_reducible exact zAj|exact zs _) (by first|omega|(rw[w64 qO qO];omega)) (by first|omega|(rw[w64 qO qO];omega))))|(refine' z8 7 ?_ ?_;rotate_left;first|exact z9 sg|exact(fun w=>zG sg H.slb rfl rfl rfl rfl rfl rfl rfl (by first|with_reducible exact zz1 _|exact zt qO qO|with_reducible exact zAj|exact zs _) (by first|omega|(rw[w64 qO qO];omega)) (by first|omega|(rw[w64 qO qO];omega))))|(refine' z8 8 ?_ ?_;rotate_left;first|exact z9 sg|exact(fun w=>zG sg H.slb rfl rfl rfl rfl rfl rfl rfl (by first|with_reducible exact zz1 _|exact zt qO qO|with_reducible exact zAj|exact zs _) (by first|omega|(rw[w64 qO qO];omega)) (by first|omega|(rw[w64 qO qO];omega))))|(refine' z8 10 ?_ ?_;rotate_left;first|exact z9 sg|exact(fun w=>zG sg H.slb rfl rfl rfl rfl rfl rfl rfl (by first|with_reducible exact zz1 _|exact zt qO qO|with_reducible exact zAj|exact zs _) (by first|omega|(rw[w64 qO qO];omega)) (by first|omega|(rw[w64 qO qO];omega))))|(refine' z8 11 ?_ ?_;rotate_left;first|exact z9 sg|exact(fun w=>zG sg H.slb rfl rfl rfl rfl rfl rfl rfl (by first|with_reducible exact zz1 _|exact zt qO qO|with_reducible exact zAj|exact zs _) (by first|omega|(rw[w64 qO qO];omega)) (by first|omega|(rw[w64 qO qO];omega))))|(refine' z8 12 ?_ ?_;rotate_left;first|exact z9 sg|exact(fun w=>zG sg H.slb rfl rfl rfl rfl rfl rfl rfl (by first|with_reducible exact zz1 _|exact zt qO qO|with_reducible exact zAj|exact zs _) (by first|omega|(rw[w64 qO qO];omega)) (by first|omega|(rw[w64 qO qO];omega))))|(refine' z8 14 ?_ ?_;rotate_left;first|exact z9 sg|exact(fun w=>zG sg H.slb rfl rfl rfl rfl rfl rfl rfl (by first|with_reducible exact zz1 _|exact zt qO qO|with_reducible exact zAj|exact zs _) (by first|omega|(rw[w64 qO qO];omega)) (by first|omega|(rw[w64 qO qO];omega))))|(refine' z8 16 ?_ ?_;rotate_left;first|exact z9 sg|exact(fun w=>zG sg H.slb rfl rfl rfl rfl rfl rfl rfl (by first|with_reducible exact zz1 _|exact zt qO qO|with_reducible exact zAj|exact zs _) (by first|omega|(rw[w64 qO qO];omega)) (by first|omega|(rw[w64 qO qO];omega))))|refine z10 9 ?_|refine z10 13 ?_|refine z10 15 ?_|refine z10 17 ?_|refine z11 9 13 ?_ ?_|refine x42 sg H.slb H.st.mem ?_|(refine OX.storeB sg H.st rfl rfl rfl rfl rfl (AE.c_len _) (H.fit qO _) (AE.c_one _) ?_;intro w HS;replace H:=H.put qO HS;clear HS)|refine yU ?_|with_reducible apply zB|fail)
    all_goals
     rw[show jj+1 - 1=jj from rfl,zJ2 qO] at H
     have hlt:altb (d2 (jj+1)) (d2 jj)=true:=by unfold altb;rw[← zFw];exact h3
     exact zF (jj,sw d2 (jj+1) jj,_) rfl ⟨vint qO qO qO,trivial⟩ ⟨by show jj≤i;omega,by show a≤jj;omega,by rw[← hj3,zBK,if_pos ⟨hja,hlt⟩],H⟩ (by show jj<jj+1;omega)
   ·repeat' (first|refine yT ?_|refine yU ?_|fail)
    have hlt:altb (d2 (jj+1)) (d2 jj)=false:=by unfold altb;rw[← zFw];exact h3
    have hd:zBK a i d1=d2:=by rw[← hj3,zBK,if_neg (fun hh=>by rw[hlt] at hh;exact absurd hh.2 (by simp))]
    exact zCj (i+1,d2,cs2) rfl ⟨zf qO,trivial⟩ ⟨by show a+1≤i+1;omega,.inl hie,by rw[← hi3,show e - i=(e - (i+1))+1 by omega,zBQ,hd],H⟩ (by show e - (i+1)<e - i;omega)
  ·repeat' (first|refine yT ?_|refine yU ?_|(refine y18 ?_ ?_;all_goals intro h)|(with_reducible apply zO;intro w hcl;replace H:=H.ext hcl;clear hcl)|refine y20 mixed ?_|fail)
   all_goals first|(exfalso;simp at h;omega)|skip
   have hd:zBK a i d1=d2:=by
    rw[← hj3]
    cases j with
    | zero=>rfl
    | succ j=>rw[zBK,if_neg (fun hh=>by omega)]
   exact zCj (i+1,d2,cs2) rfl ⟨zf qO,trivial⟩ ⟨by show a+1≤i+1;omega,.inl hie,by rw[← hi3,show e - i=(e - (i+1))+1 by omega,zBQ,hd],H⟩ (by show e - (i+1)<e - i;omega)
 ·repeat' (first|refine yU ?_|fail)
  have h0:e - i=0:=by simp at h;omega
  rw[h0] at hi3
  exact zBn (vs:=[]) (M:=_) trivial H.st ⟨rfl,cs1,rfl,H.len,by rw[← hi3];exact H.els⟩
def Sorts (w0:World)(g len n:Nat)(G:zC)(d:Nat→AE):Ending→World→Prop:=zi (fun M v=>v=.tuple #[]∧∃ cs',M=cb g cs' 67::G∧cs'.length=len∧Els cs' 9 n (fun j=>(d j).c)) w0
theorem zRm {w0 w:World}{g len n cap:Nat}{G:zC}{d:Nat→AE}{cs:List Value}(hA:Arr w0 g len n G d cs w)(hn:n<20) :
  Calls Tryz.prog 93 [.slice (some ⟨g,0,none⟩) n cap,.int .i64 (n:Int),.func (.func 62) #[] #[]].toArray w (Sorts w0 g len n G (zEZ 0 n d)):=by
 refine enter [] Tryz.func93 rfl Tryz.ntmps93 rfl rfl ?_
 have H:=hA
 clear hA
 repeat' (first|refine yT ?_|refine yU ?_|with_reducible apply zB|fail)
 refine zI [(7,8),(11,22)] (fun _:Unit=>[(7,.int .i64 0),(8,.int .i64 20)]) (fun _ w=>Arr w0 g len n G d cs w) (fun _=>0) () ⟨rfl,rfl,trivial⟩ H ?_
 clear H
 rintro _ gh w H
 repeat' (first|refine yT ?_|refine yU ?_|fail)
 refine zD rfl (fun h=>?_) (fun h=>?_)
 ·exact absurd (zzA h) qO
 repeat' (first|refine yT ?_|(refine za rfl rfl (En.fn zJV rfl rfl) (zJ3 (a:=0) (e:=n) H (zzD _) (zzC _) qO) ?_;rintro _ _ w ⟨rfl,cs',rfl,hl,he⟩ HS;have H':Arr w0 g len n G (zEZ 0 n d) cs' w:=⟨HS,hl,he⟩;clear H HS hl he;have H:=H';clear H')|refine yU ?_|with_reducible apply zB|fail)
 refine zI [(6,9),(28,62)] (fun _:Unit=>[(6,.int .i64 20)]) (fun _ w=>Arr w0 g len n G (zEZ 0 n d) cs' w) (fun _=>0) () ⟨rfl,trivial⟩ H ?_
 clear H
 rintro _ gh w H
 repeat' (first|refine yT ?_|refine yU ?_|fail)
 refine zD rfl (fun h=>?_) (fun h=>?_)
 ·exact absurd (zzA h) qO
 repeat' (first|refine yU ?_|fail)
 exact zBn (vs:=[]) (M:=_) trivial H.st ⟨rfl,cs',rfl,H.len,H.els⟩
end
end Go.Proofs.YthbflajpdhgfiaaGreatDoor
