/- Steps of the proof. -/
import Derived.Test.YtejhijhnlogikaaGreatDoorMe15
set_option linter.all false
set_option maxHeartbeats 16000000
namespace Go.Proofs.YtejhijhnlogikaaGreatDoor
section
open Go Go.Sk Go.RowKit Tryz
attribute [local irreducible] Go.Calls
def priF (s a b:Int):Int:=if s=1 then zCO b a else zCO a b
def zHr (a b:Odr):Int:=orF (priF a.side a.price b.price) (zCO a.id b.id)
theorem zUe {a b:Odr}:zHr a b<0↔zAB a b=true:=by{
unfold zHr zAB priF orF zCO;by_cases h1:a.price=b.price
.rw[if_pos h1,h1];simp;split<;>(try split)<;>omega
.rw[if_neg h1];by_cases h2:a.side=1
 .simp only[if_pos h2,decide_eq_true_eq];repeat' split
  all_goals omega
 .simp only[if_neg h2,decide_eq_true_eq];repeat' split
  all_goals omega}
def ofS (i s:Int)(o:Odr):Bool:=o.inst==i&&o.side==s
def zEv (a b:Odr):Prop:=zAB a b=true/\zAB b a=false
theorem zRs (a:Odr):¬ zEv a a:=fun h=>by have g:=h.2;rw[h.1] at g;cases g
theorem zRt (a b:Odr)(h:zEv a b):¬ zEv b a:=fun k=>by have g:=k.2;rw[h.1] at g;cases g
theorem zRu {a b:Odr}(hs:a.side=b.side)(hi:a.id≠b.id)(h:zAB b a=false):zEv a b:=by{
refine⟨?_,h⟩;unfold zAB at h ⊢;by_cases h1:a.price=b.price
.rw[if_pos h1.symm,yyy] at h;rw[if_pos h1,decide_eq_true_eq];omega
.rw[if_neg (Ne.symm h1),<- hs] at h;rw[if_neg h1];by_cases h2:a.side=1
 .rw[if_pos h2,yyy] at h;rw[if_pos h2,decide_eq_true_eq];omega
 .rw[if_neg h2,yyy] at h;rw[if_neg h2,decide_eq_true_eq];omega}
theorem zO1 {s:Int}{l:List Odr}(hs:∀ o∈l,o.side=s)(hn:(l.map (·.id)).Nodup)(h:l.Pairwise fun a b=>zAB b a=false):l.Pairwise zEv:=by rw[List.nodup_iff_pairwise_ne,List.pairwise_map] at hn;refine(h.and hn).imp_of_mem fun{a b} ha hb hab=>zRu ((hs a ha).trans (hs b hb).symm) hab.2 hab.1
theorem zJY {s:Int}{a b c:Odr}(ha:a.side=s)(hb:b.side=s)(hc:c.side=s)(h1:zAB b a=false)(h2:zAB c b=false):zAB c a=false:=by{
unfold zAB at *;rw[hb] at h1;rw[hc] at h2 ⊢;by_cases hs:s=1
.simp only[if_pos hs] at *;revert h1 h2;repeat' split
 all_goals simp only[yyy];omega
.simp only[if_neg hs] at *;revert h1 h2;repeat' split
 all_goals simp only[yyy];omega}
theorem zUf {s:Int}{a b:Odr}(ha:a.side=s)(hb:b.side=s):zAB b a=false\/zAB a b=false:=by{
unfold zAB;rw[hb,ha];by_cases hs:s=1
.simp only[if_pos hs];repeat' split
 all_goals simp only[yyy];omega
.simp only[if_neg hs];repeat' split
 all_goals simp only[yyy];omega}
def zO2:List Odr->Option Odr->Option Odr
 | [],b=>b
 | o::l,b=>zO2 l (match b with|none=>some o|some x=>some (if zAB o x then o else x))
theorem zRv (l:List Odr)(b:Option Odr):l.foldl (fun b o=>match b with|none=>some o|some x=>some (if zAB o x then o else x)) b=zO2 l b:=by{
induction l generalizing b with
| nil=>rfl
| cons o l ih=>rw[List.foldl_cons,ih];rfl}
theorem zKk {s:Int}:∀ (l:List Odr) (x:Odr),(∀ o∈l,o.side=s)->x.side=s->∃ m,zO2 l (some x)=some m/\(m=x\/m∈l)/\zAB x m=false/\∀ o∈l,zAB o m=false
 | [],x,_,_=>⟨x,rfl,.inl rfl,by unfold zAB;simp,fun o h=>nomatch h⟩
 | o::l,x,hs,hx=>by
   have ho:=hs o (zz2 _)
   have hl:∀ q∈l,q.side=s:=fun q hq=>hs q (zz5 _ hq)
   have key:∀ y:Odr,y.side=s->zAB x y=false->zAB o y=false->(y=x\/y=o)->∃ m,zO2 l (some y)=some m/\(m=x\/m∈o::l)/\zAB x m=false/\∀ q∈o::l,zAB q m=false:=by
    intro y hy h1 h2 h3
    obtain⟨m,e,hm,h4,h5⟩:=zKk l y hl hy
    have hms:m.side=s:=by rcases hm with rfl|h;exact hy;exact hl m h
    refine⟨m,e,?_,zJY hms hy hx h4 h1,fun q hq=>?_⟩
    .rcases hm with rfl|h
     .rcases h3 with h|h
      .exact .inl h
      .exact .inr (h ▸ zz2 _)
     .exact .inr (zz5 _ h)
    .rcases List.mem_cons.1 hq with rfl|hq
     .exact zJY hms hy ho h4 h2
     .exact h5 q hq
   have hself:∀ y:Odr,zAB y y=false:=fun y=>by unfold zAB;simp
   show ∃ m,zO2 l (some (if zAB o x then o else x))=some m/\_
   by_cases h:zAB o x=true
   .rw[if_pos h]
    refine key o ho ?_ (hself o) (.inr rfl)
    rcases zUf hx ho with e|e
    .rw[h] at e;cases e
    .exact e
   .rw[if_neg h]
    exact key x hx (hself x) (by simpa using h) (.inl rfl)
theorem zRw {s:Int}{l m:List Odr}(hs:∀ o∈l,o.side=s)(hp:m.Perm l)(hm:m.Pairwise zEv):zO2 l none=m.head?:=by{
cases l with
| nil=>rw[List.perm_nil.1 hp];rfl
| cons o l =>
  show zO2 l (some o)=_;obtain⟨x,e,hx,h1,h2⟩:=zKk l o (fun q hq=>hs q (zz5 _ hq)) (hs o (zz2 _));rw[e];cases m with
  | nil=>exact absurd hp.length_eq (by simp)
  | cons y m =>
    rw[List.head?_cons];have hxm:x∈y::m:=hp.mem_iff.2 (by rcases hx with rfl|h;exact zz2 _;exact zz5 _ h);have hyl:y∈o::l:=hp.mem_iff.1 (zz2 _);have hyx:zAB y x=false:=by rcases List.mem_cons.1 hyl with rfl|h;exact h1;exact h2 y h
    rcases List.mem_cons.1 hxm with rfl|h
    .rfl
    .have:=(List.pairwise_cons.1 hm).1 x h;have g:=this.1;rw[hyx] at g;cases g}
def zD1 (s:Int)(a b:Odr):Bool:=if a.price=b.price then decide (a.id<b.id) else if s=1 then decide (a.price>b.price) else decide (a.price<b.price)
def zCL (l:List Odr)(i s:Int):List Odr:=if zb l=true then(l.filter (ofS i s)).mergeSort (fun a b=>!zD1 s b a) else[]
theorem zCM {l:List Odr}{i s:Int}(h:zb l=true):(zCL l i s).Perm (l.filter (ofS i s)):=by unfold zCL;rw[if_pos h];exact List.mergeSort_perm _ _
theorem zDa {l:List Odr}{i s:Int}:∀ o∈l.filter (ofS i s),o.side=s:=fun o ho=>by have:=(List.mem_filter.1 ho).2;unfold ofS at this;rw[yy3,beq_iff_eq,beq_iff_eq] at this;exact this.2
theorem zHs {l:List Odr}(h:zb l=true)(p:Odr->Bool):((l.filter p).map (·.id)).Nodup:=by rw[List.nodup_iff_pairwise_ne,List.pairwise_map];exact((zAK.1 h).2.2.sublist List.filter_sublist).imp fun h=>Int.ne_of_lt h
theorem zRx (s:Int)(a b c:Odr)(h1:(!zD1 s b a)=true)(h2:(!zD1 s c b)=true):(!zD1 s c a)=true:=by{
simp only[Bool.not_eq_true'] at *;unfold zD1 at *;by_cases hs:s=1
.simp only[if_pos hs] at *;revert h1 h2;repeat' split
 all_goals simp only[yyy];omega
.simp only[if_neg hs] at *;revert h1 h2;repeat' split
 all_goals simp only[yyy];omega}
theorem zRy (s:Int)(a b:Odr):((!zD1 s b a)||(!zD1 s a b))=true:=by{
simp only[Bool.or_eq_true,Bool.not_eq_true'];unfold zD1;by_cases hs:s=1
.simp only[if_pos hs];repeat' split
 all_goals simp only[yyy];omega
.simp only[if_neg hs];repeat' split
 all_goals simp only[yyy];omega}
theorem zII {s:Int}{l:List Odr}(hs:∀ o∈l,o.side=s):(l.mergeSort fun a b=>!zD1 s b a).Pairwise fun a b=>zAB b a=false:=by refine(List.pairwise_mergeSort (zRx s) (zRy s) l).imp_of_mem fun{a b} ha hb hab=>?_;have hb:=hs b ((List.mergeSort_perm _ _).mem_iff.1 hb);show zD1 b.side b a=false;rw[hb];simpa using hab
theorem zRz {l m:List Odr}{i s:Int}(h:zb l=true)(hp:m.Perm (l.filter (ofS i s)))(hm:m.Pairwise fun a b=>zAB b a=false):m=zCL l i s/\m.Pairwise zEv:=by
 have hms:=zO1 (s:=s) (fun o ho=>zDa o (hp.mem_iff.1 ho)) ((hp.map _).nodup_iff.2 (zHs h _)) hm;refine⟨?_,hms⟩;have hq:=zCM (i:=i) (s:=s) h;have hls:(zCL l i s).Pairwise zEv:=by refine zO1 (s:=s) (fun o ho=>zDa o (hq.mem_iff.1 ho)) ((hq.map _).nodup_iff.2 (zHs h _)) ?_;unfold zCL;rw[if_pos h];exact zII zDa
 exact zIf zRs zRt hms hls fun x=>by rw[hp.mem_iff,hq.mem_iff]
theorem zNO {l:List Odr}{i s:Int}(h:zb l=true):(zCL l i s).Pairwise zEv:=by have hq:=zCM (i:=i) (s:=s) h;refine zO1 (s:=s) (fun o ho=>zDa o (hq.mem_iff.1 ho)) ((hq.map _).nodup_iff.2 (zHs h _)) ?_;unfold zCL;rw[if_pos h];exact zII zDa
theorem zEw {l:List Odr}{i s:Int}:zBM l i s=match (zCL l i s).head? with|some o=>(o,true)|none=>(Odr.zero,false):=by{
unfold zBM;by_cases h:zb l=true
.rw[if_pos h];refine Eq.trans (congrArg (fun r:Option Odr=>(match r with|some o=>(o,true)|none=>(Odr.zero,false):Odr × Bool)) (zRv (l.filter (ofS i s)) none)) ?_;rw[zRw zDa (zCM h) (zNO h)]
.rw[if_neg h];unfold zCL;rw[if_neg h];rfl}
structure Cmd where
 kind:Int
 nums:List Int
 text:ByteArray
def comT:List (List Nat × Bool):=[([],true),([97],false),([107],true),([105],false),([105],false),([97,109],false),([97,109],false),([97,105,113],false),([97,105,113],false),([98],false),([97,105,115,112,113],false),([97,111],false),([97,105,113,109,109,116],false),([97,99,109],false),([97,105,113,109,116],false),([97,99,109],false),([116],false),([97,97,109],false),([97],true),([105,107],false)]
def zNP (k:Int):List Nat × Bool:=comT.getD (k - 1).toNat ([32],false)
def zGF (c:Cmd):Bool:=decide (1<=c.kind)&&decide (c.kind<=20)&&zBU 3 (zNP c.kind).1 c.nums&&(if (zNP c.kind).2 then zAE c.text else c.text.size==0)
def zNQ:List (Int × List (Option Nat)):=[(1,[none]),(2,[some 0]),(3,[none,some 0]),(4,[some 0]),(5,[some 0]),(6,[some 0,some 1]),(7,[some 0,some 1]),(8,[some 0,some 1,some 2]),(9,[some 0,some 1,some 2]),(10,[some 0]),(11,[none,some 0,some 1,some 2,some 3,some 4]),(12,[some 1]),(14,[none,some 0,some 1,some 2,some 3,some 4,some 5]),(15,[some 1,some 0,some 2]),(16,[none,some 0,some 1,some 2,some 3,some 4]),(17,[some 1,some 0,some 2]),(20,[some 0]),(21,[some 0,some 1,some 2]),(22,[some 0]),(23,[some 0,some 1])]
def zA0 (k:Int):Int × List (Option Nat):=zNQ.getD (k - 1).toNat (0,[])
def zDs (s:Sta)(k:Int):Int × Int:=if k=1 then((s.accts.length:Int)+1,64) else if k=3 then((s.insts.length:Int)+1,16) else if k=11 then(s.nextO,1099511627776) else(s.nextA,1099511627776)
def evZ:Evt:=⟨0,0,[],[]⟩
def zj (s:Sta)(c:Cmd):Evt × Int :=
 if zCP s=false then(evZ,4) else
 if zGF c=false then(evZ,1) else
 if c.kind=12/\(zO s.orders (nF c.nums 1)).2=false then(evZ,5) else
 if c.kind=12/\(zO s.orders (nF c.nums 1)).1.acct≠nF c.nums 0 then(evZ,49) else
 if none∈(zA0 c.kind).2/\(zDs s (zA0 c.kind).1).1>(zDs s (zA0 c.kind).1).2 then(evZ,40) else
 (⟨3,(zA0 c.kind).1,(zA0 c.kind).2.map fun o=>match o with|some i=>nF c.nums i|none=>(zDs s (zA0 c.kind).1).1,if c.text.size=0 then[] else[c.text]⟩,0)
theorem zFe {c:Cmd}(h:zGF c=true):1<=c.kind/\c.kind<=20:=by unfold zGF at h;simp only[yy3,decide_eq_true_eq] at h;exact⟨h.1.1.1,h.1.1.2⟩
theorem zEK {k:Int}(h:1<=k/\k<=20):k=1\/k=2\/k=3\/k=4\/k=5\/k=6\/k=7\/k=8\/k=9\/k=10\/k=11\/k=12\/k=13\/k=14\/k=15\/k=16\/k=17\/k=18\/k=19\/k=20:=by omega
def cmN (k:Int)(t:ByteArray)(n:List Int):Cmd:=⟨k,n,t⟩
theorem zKl {α β:Type}{f g:α->List β}:∀ {l:List α},(∀ x∈l,f x=g x)->l.flatMap f=l.flatMap g
 | [],_=>rfl
 | x::l,h=>by rw[List.flatMap_cons,List.flatMap_cons,h x (List.Mem.head _),zKl fun y hy=>h y (List.mem_cons_of_mem _ hy)]
end
section
open Go Go.Sk Go.RowKit Tryz
attribute [local irreducible] Go.Calls
def comW:List (List Nat):=[[111,112,101,110],[99,108,111,115,101],[108,105,115,116],[104,97,108,116],[114,101,115,117,109,101],[100,101,112,111,115,105,116],[119,105,116,104,100,114,97,119],[105,115,115,117,101],[114,101,100,101,101,109],[102,101,101],[112,108,97,99,101],[99,97,110,99,101,108],[101,110,103,108,105,115,104],[114,97,105,115,101],[115,101,97,108,101,100],[98,105,100],[109,111,118,101],[116,114,97,110,115,102,101,114],[114,101,110,97,109,101],[116,105,99,107]]
def zIU (i:Nat):KRow:=⟨comW.getD i [],[32],[32],(comT.getD i ([32],false)).1,(comT.getD i ([32],false)).2⟩
def ComM (F:zA):Prop:=∃ cs T fr,SlB F 5 (some ⟨2,0,none⟩) 20 2 0 cs T fr (fun i=>(zIU i).cells)
theorem ComM.mono {F G:zA}(h:ComM F)(hs:F⊆G):ComM G:=let ⟨a,b,c,d⟩:=h;⟨a,b,c,d.mono hs⟩
def zB1 (kind:Int):KRow:=if 1<=kind/\kind<=20 then zIU (kind - 1).toNat else⟨[],[32],[32],[32],false⟩
theorem zUg (kind:Int):zMu (zB1 kind):=by{
have key:∀ i,i<20->zMu (zIU i):=by
 intro i hi;have:∀ r∈(List.range 20).map zIU,(r.f1.all (fun x=>decide (x<128))&&r.f2.all (fun x=>decide (x<128))&&r.f3.all (fun x=>decide (x<128))&&decide (r.f1.length<=100)&&decide (r.f2.length<=100)&&decide (r.f3.length<=100))=true:=by unfold zIU;decide
 have h:=this _ (List.mem_map.2 ⟨i,List.mem_range.2 hi,rfl⟩);simp only[yy3,yye,decide_eq_true_eq] at h;exact⟨h.1.1.1.1.1,h.1.1.1.1.2,h.1.1.1.2,h.1.1.2,h.1.2,h.2⟩
unfold zB1;split
.exact key _ qO
.exact⟨by simp,by simp,by simp,by simp,by simp,by simp⟩}
theorem cls_co {kind:Int}(h:32 ∉ zAn (zB1 kind) 3):∀ c∈zAn (zB1 kind) 3,c∈clsL:=by{
have key:∀ r∈(List.range 20).map zIU,∀ c∈r.f3,c∈clsL:=by unfold zIU;decide
have h2:∀ r,zAn r 3=r.f3:=fun r=>rfl;rw[h2] at h ⊢;unfold zB1 at h ⊢;split at h
.rename_i hk;rw[if_pos hk];exact key _ (List.mem_map.2 ⟨(kind - 1).toNat,List.mem_range.2 qO,rfl⟩)
.exact absurd (zz2 _) h}
theorem co_len (kind:Int):(zAn (zB1 kind) 3).length<=100:=(zUg kind).2.2.2.2.2
theorem zUh {kind:Int}:32 ∉ zAn (zB1 kind) 3↔1<=kind/\kind<=20:=by{
have key:∀ r∈(List.range 20).map zIU,32 ∉ r.f3:=by unfold zIU;decide
show 32 ∉ (zB1 kind).f3↔_;unfold zB1;by_cases hk:1<=kind/\kind<=20
.rw[if_pos hk];exact⟨fun _=>hk,fun _=>key _ (List.mem_map.2 ⟨(kind - 1).toNat,List.mem_range.2 qO,rfl⟩)⟩
.rw[if_neg hk];exact⟨fun h=>absurd (zz2 _) h,fun h=>absurd h hk⟩}
theorem co_f {kind:Int}(hk:1<=kind/\kind<=20):zAn (zB1 kind) 3=(zNP kind).1/\(zB1 kind).text=(zNP kind).2:=by unfold zB1;rw[if_pos hk];exact⟨rfl,rfl⟩
attribute [local irreducible] zIU
theorem zO3 {F:zA}(kind:Int)(hk:0<=kind/\kind<=255)(w0:World)(hF:Mem w0 F)(hK:ComM F) :
  Cr 203 [.int .u8 kind] (.agg (zB1 kind).cells.toArray) w0:=by{
obtain⟨cs,T,fr,hs⟩:=hK;rcases Int.lt_or_le kind 1 with h1|h1
.have hlt:decide (kind<1)=true:=yyb h1;refine eS func203 ntmps203 fun H=>?_;(repeat' first|refine yW ?_|(refine yB ?_;intro b w H)|(refine y11 sg H ?_;intro w H)|refine z13 (Yq.buildR (cs:=#[.string ⟨#[32]⟩,.string ⟨#[32]⟩,.string ⟨#[32]⟩]) sg rfl rfl rfl rfl rfl) ?_|fail);refine zAv (vs:=[_]) ⟨zg sg rfl H.mem (zz2 _) rfl rfl,trivial⟩ H.cl ?_;unfold zB1;rw[if_neg qO];rfl
rcases Int.lt_or_le 20 kind with h2|h2
.have hlt:decide (kind<1)=false:=yyc qO;have hgt:decide (IntKind.i64.wrap kind>20)=true:=by rw[w64 qO qO];exact yyb h2
 refine eS func203 ntmps203 fun H=>?_;(repeat' first|refine yW ?_|(refine yB ?_;intro b w H)|(refine y11 sg H ?_;intro w H)|refine z13 (Yq.buildR (cs:=#[.string ⟨#[32]⟩,.string ⟨#[32]⟩,.string ⟨#[32]⟩]) sg rfl rfl rfl rfl rfl) ?_|fail);refine zAv (vs:=[_]) ⟨zg sg rfl H.mem (zz2 _) rfl rfl,trivial⟩ H.cl ?_;unfold zB1;rw[if_neg qO];rfl
.have hlt:decide (kind<1)=false:=yyc qO;have hgt:decide (IntKind.i64.wrap kind>20)=false:=by rw[w64 qO qO];exact yyc qO
 have hq:IntKind.u8.wrap (kind - 1)=((kind - 1).toNat:Int):=by
  obtain⟨m,hm⟩:∃ m:Nat,kind - 1=(m:Int):=⟨(kind - 1).toNat,by omega⟩;rw[hm,Int.toNat_natCast];have:m<256:=by{omega};simp[IntKind.wrap,IntKind.bits,IntKind.signed]
  omega
 refine eS func203 ntmps203 fun H=>?_;(repeat' first|refine yW ?_|(refine yB ?_;intro b w H)|(refine y11 sg H ?_;intro w H)|(refine za rfl rfl (Yq.ixP sg (n:=20) (j:=(kind - 1).toNat) (by rw[hq];exact zz1 _) (by rw[hq];omega) (by rw[hq];omega) rfl rfl rfl rfl rfl rfl) ?_)|(refine za rfl rfl (zA7 sg hs (H.memF hF) rfl rfl rfl rfl rfl qO) ?_)|fail);refine zAv (vs:=[_]) ⟨zg sg rfl H.mem (zz2 _) rfl rfl,trivial⟩ H.cl ?_;unfold zB1;rw[if_pos qO];rfl}
theorem zO4 {F:zA}(kind:Int)(hk:0<=kind/\kind<=255)(w0:World)(hF:Mem w0 F)(hK:ComM F) :
  Cf 145 [.int .u8 kind] (ToldR (zB1 kind) 3) w0:=by refine eS func145 ntmps145 fun H=>?_;(repeat' first|refine yX ?_|(refine c0 ent203 ?_;refine⟨_,zO3 kind hk _ (H.memF hF) hK,?_⟩;clear H;intro w H)|(refine f0 zS9 ?_;refine⟨_,zQB (zB1 kind) (zUg kind) 3 _,?_⟩;clear H;intro z M w hR H;(try simp only[zca,zcb] at H);obtain⟨a,n,cap,t,i,rfl,hR⟩:=hR.out)|fail);exact zc (vs:=[_,_,_]) (M:=M) ⟨zP rfl,zP rfl,zP rfl,trivial⟩ H hR
theorem zL3 (t:ByteArray):(t.toList==(⟨#[]⟩:ByteArray).toList)=(t.size==0):=by rw[ByteArray.toList_eq,ByteArray.toList_eq,Bool.eq_iff_iff,beq_iff_eq,beq_iff_eq];show t.data.toList=[]↔t.data.size=0;rw[<- Array.length_toList,List.length_eq_zero_iff]
def Cmd.cells (c:Cmd)(a:OA)(cap:Nat):List Value:=[.int .u8 c.kind,.slice a c.nums.length cap,.string c.text]
def zGG (c:Cmd):Prop:=(0<=c.kind/\c.kind<=255)/\c.text.size<=140737488355328
theorem zL4 {F:zA}{na:OA}{nc:Nat}(c:Cmd)(hc:zGG c)(w0:World)(hF:Mem w0 F)(hK:ComM F)(hN:Ints F na nc c.nums) :
  Cr 111 [.agg (c.cells na nc).toArray] (.bool (zGF c)) w0:=by{
refine eS func111 ntmps111 fun H=>?_;(repeat' first|refine yX ?_|(refine yB ?_;intro b w H)|(refine f0 ent145 ?_;refine⟨_,zO4 c.kind hc.1 _ (H.memF hF) hK,?_⟩;clear H;intro z M w hR H;(try simp only[zca,zcb] at H);obtain⟨hx,a,cap,rfl,hO⟩|⟨hx,rfl⟩:=hR.cases (co_len _))|(refine c0 ent67 ?_;refine⟨_,zUC 3 _ (cls_co hx.2.2) c.nums _ (H.memF hF) H.mem (hO.mono (fun x hx=>zz4 _ hx)) hN,?_⟩;clear H;intro w H)|fail)
.have hk:=zUh.1 hx.2.2;obtain⟨e1,e2⟩:=co_f hk;have hf:zGF c=(zBU 3 (zAn (zB1 c.kind) 3) c.nums&&(if (zB1 c.kind).text then zAE c.text else c.text.size==0)):=by unfold zGF;rw[yyb hk.1,yyb hk.2,e1,e2,Bool.true_and,Bool.true_and]
 rw[hf];clear e1 e2 hf;generalize zBU 3 (zAn (zB1 c.kind) 3) c.nums=q1;generalize (zB1 c.kind).text=q2;cases q1<;>cases q2<;>repeat' (first|refine yW ?_|(refine c0 zS5 ?_;refine⟨_,zHe c.text hc.2 _,?_⟩;clear H;intro w H)|(refine y17 ?_ ?_;all_goals(intro h;try (exfalso;first|((cases h);done))))|fail)
 all_goals first
  | exact zG rfl H.cl rfl
  | exact zG rfl H.cl (by rw[h];rfl)
  | exact zG rfl H.cl (congrArg Value.bool (zL3 c.text))
.have hf:zGF c=false:=by
  unfold zGF;have:=fun e=>hx ⟨by decide,by decide,zUh.2 e⟩;by_cases h1:1<=c.kind
  .rw[yyc (fun h2=>this ⟨h1,h2⟩)];simp
  .rw[yyc h1];simp
 exact zG rfl H.cl (by rw[hf])}
end
section
open Go Go.Sk Go.RowKit Tryz
attribute [local irreducible] Go.Calls
theorem CW.cutT {P:Program}{nw:Nw}{c:Code}{K:Env->World->Prop}{Z:zAM}{e:Env}{w:World}(R:Env->World->Prop)(h:CW P nw c (thn R (fun _ _ _=>False)) e w)(hk:∀ e w,R e w->K e w):CW P nw c (thn K Z) e w :=
 CW.mono (fun x e w q=>by cases x<;>first|exact hk _ _ q|exact q.elim) h
theorem zUi {e:Env}{i j:Nat}{x y:Value}(h1:e i=x)(h2:e j=y):e=ovl [(i,x),(j,y)] e:=by{
funext k;rw[zBk,zBk];by_cases hi:k=i
.rw[if_pos hi,hi,h1]
.rw[if_neg hi];by_cases hj:k=j
 .rw[if_pos hj,hj,h2]
 .rw[if_neg hj];rfl}
theorem zA2 {e:Env}{i j k:Nat}{x y z:Value}(h1:e i=x)(h2:e j=y)(h3:e k=z):e=ovl [(i,x),(j,y),(k,z)] e:=by{
have:=zUi h2 h3;funext q;rw[zBk];by_cases hi:q=i
.rw[if_pos hi,hi,h1]
.rw[if_neg hi];exact congrFun this q}
theorem zz {e:Env}{l:List (Nat × Value)}{i:Nat}{x:Value}(h1:e i=x)(h2:e=ovl l e):e=ovl ((i,x)::l) e:=by{
funext q;rw[zBk];by_cases hi:q=i
.rw[if_pos hi,hi,h1]
.rw[if_neg hi];exact congrFun h2 q}
theorem CW.named {P:Program}{nw:Nw}{c:Code}{Q:zAM}{e:Env}{w:World}(R:Env->World->Prop)(h:R e w)(k:∀ e w,R e w->CW P nw c Q e w):CW P nw c Q e w:=k e w h
abbrev CPt:=OA × Nat
def cmZ:Cmd:=⟨0,[],ByteArray.empty⟩
def cm_ (l:List Cmd)(j:Nat):Cmd:=l.getD j cmZ
def cml (l:List Cmd)(q:Nat->CPt)(j:Nat):List Value:=(cm_ l j).cells (q j).1 (q j).2
def CmsM (F:zA)(a:OA)(cap:Nat)(l:List Cmd)(q:Nat->CPt):Prop:=SlA F 3 a l.length cap (cml l q)/\∀ j,j<l.length->Ints F (q j).1 (q j).2 (cm_ l j).nums
theorem CmsM.mono {F G:zA}{a:OA}{cap:Nat}{l:List Cmd}{q:Nat->CPt}(h:CmsM F a cap l q)(hs:F⊆G):CmsM G a cap l q:=⟨SlA.mono h.1 hs,fun j hj=>SlA.mono (h.2 j hj) hs⟩
theorem zEL {F:zA}:Ints F none 0 []:=⟨zzD _,zzD _,0,0,[],0,(0,0),fun h=>absurd h (yyz 0)⟩
structure Opn where
 acct:Int
 id:Int
 inst:Int
 side:Int
 price:Int
 left:Int
 deriving DecidableEq,Inhabited
structure Lt where
 id:Int
 seller:Int
 inst:Int
 qty:Int
 deriving DecidableEq,Inhabited
structure Psn where
 acct:Int
 inst:Int
 bought:Int
 sold:Int
 spent:Int
 got:Int
 deriving DecidableEq,Inhabited
structure Ln where
 acct:Int
 seq:Int
 kind:Int
 delta:Int
 bal:Int
 deriving DecidableEq,Inhabited
def Opn.cells (x:Opn):List Value:=[.int .i64 x.acct,.int .i64 x.id,.int .i64 x.inst,.int .u8 x.side,.int .i64 x.price,.int .i64 x.left]
def Lt.cells (x:Lt):List Value:=[.int .i64 x.id,.int .i64 x.seller,.int .i64 x.inst,.int .i64 x.qty]
def Psn.cells (x:Psn):List Value:=[.int .i64 x.acct,.int .i64 x.inst,.int .i64 x.bought,.int .i64 x.sold,.int .i64 x.spent,.int .i64 x.got]
def Ln.cells (x:Ln):List Value:=[.int .i64 x.acct,.int .i64 x.seq,.int .u8 x.kind,.int .i64 x.delta,.int .i64 x.bal]
def op_ (l:List Opn)(j:Nat):Opn:=l.getD j default
def lt_ (l:List Lt)(j:Nat):Lt:=l.getD j default
def ps_ (l:List Psn)(j:Nat):Psn:=l.getD j default
def ln_ (l:List Ln)(j:Nat):Ln:=l.getD j default
def opl (l:List Opn)(j:Nat):List Value:=(op_ l j).cells
def ltl (l:List Lt)(j:Nat):List Value:=(lt_ l j).cells
def psl (l:List Psn)(j:Nat):List Value:=(ps_ l j).cells
def lnl (l:List Ln)(j:Nat):List Value:=(ln_ l j).cells
structure Vws where
 opn:List Opn
 lots:List Lt
 poss:List Psn
 lins:List Ln
structure VPt where
 opA:OA
 opC:Nat
 ltA:OA
 ltC:Nat
 psA:OA
 psC:Nat
 lnA:OA
 lnC:Nat
def Vws.cells (v:Vws)(p:VPt):List Value:=[.slice p.opA v.opn.length p.opC,.slice p.ltA v.lots.length p.ltC,.slice p.psA v.poss.length p.psC,.slice p.lnA v.lins.length p.lnC]
structure VwM (F:zA)(v:Vws)(p:VPt):Prop where
 op:SlA F 6 p.opA v.opn.length p.opC (opl v.opn)
 lt:SlA F 4 p.ltA v.lots.length p.ltC (ltl v.lots)
 ps:SlA F 6 p.psA v.poss.length p.psC (psl v.poss)
 ln:SlA F 5 p.lnA v.lins.length p.lnC (lnl v.lins)
theorem VwM.mono {F G:zA}{v:Vws}{p:VPt}(h:VwM F v p)(hs:F⊆G):VwM G v p:=⟨SlA.mono h.op hs,SlA.mono h.lt hs,SlA.mono h.ps hs,SlA.mono h.ln hs⟩
def tot (n:Int):Bool:=zB3 n 0 4611686018427387904
end
end Go.Proofs.YtejhijhnlogikaaGreatDoor
