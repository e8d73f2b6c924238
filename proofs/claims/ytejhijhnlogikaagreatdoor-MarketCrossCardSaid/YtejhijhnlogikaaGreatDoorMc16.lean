/- Texts of ours, joined: the steps of the proof, or the claim's theorem. -/
import Derived.Test.YtejhijhnlogikaaGreatDoorMc15
set_option linter.all false
set_option maxHeartbeats 16000000
namespace Go.Proofs.YtejhijhnlogikaaGreatDoor
section
open Go Go.Sk Go.RowKit Tryz
def priF (s a b:Int):Int:=if s=1 then zCC b a else zCC a b
def zGu (a b:Odr):Int:=orF (priF a.side a.price b.price) (zCC a.id b.id)
theorem zSf {a b:Odr}:zGu a b<0↔zAC a b=true:=by
 unfold zGu zAC priF orF zCC
 by_cases h1:a.price=b.price
 ·rw[if_pos h1,h1];simp;split<;>(try split)<;>omega
 ·rw[if_neg h1]
  by_cases h2:a.side=1
  ·simp only[if_pos h2,decide_eq_true_eq];repeat' split
   all_goals omega
  ·simp only[if_neg h2,decide_eq_true_eq];repeat' split
   all_goals omega
def ofS (i s:Int)(o:Odr):Bool:=o.inst==i&&o.side==s
def zEU (a b:Odr):Prop:=zAC a b=true∧zAC b a=false
theorem zPy (a:Odr):¬ zEU a a:=fun h=>by have g:=h.2;rw[h.1] at g;cases g
theorem zPz (a b:Odr)(h:zEU a b):¬ zEU b a:=fun k=>by have g:=k.2;rw[h.1] at g;cases g
theorem zP0 {a b:Odr}(hs:a.side=b.side)(hi:a.id≠b.id)(h:zAC b a=false):zEU a b:=by
 refine⟨?_,h⟩
 unfold zAC at h ⊢
 by_cases h1:a.price=b.price
 ·rw[if_pos h1.symm,decide_eq_false_iff_not] at h;rw[if_pos h1,decide_eq_true_eq];omega
 ·rw[if_neg (Ne.symm h1),← hs] at h
  rw[if_neg h1]
  by_cases h2:a.side=1
  ·rw[if_pos h2,decide_eq_false_iff_not] at h;rw[if_pos h2,decide_eq_true_eq];omega
  ·rw[if_neg h2,decide_eq_false_iff_not] at h;rw[if_neg h2,decide_eq_true_eq];omega
theorem zNO {s:Int}{l:List Odr}(hs:∀ o∈l,o.side=s)(hn:(l.map (·.id)).Nodup)(h:l.Pairwise fun a b=>zAC b a=false):l.Pairwise zEU:=by
 rw[List.nodup_iff_pairwise_ne,List.pairwise_map] at hn
 refine(h.and hn).imp_of_mem fun{a b} ha hb hab=>zP0 ((hs a ha).trans (hs b hb).symm) hab.2 hab.1
theorem zIU {s:Int}{a b c:Odr}(ha:a.side=s)(hb:b.side=s)(hc:c.side=s)(h1:zAC b a=false)(h2:zAC c b=false):zAC c a=false:=by
 unfold zAC at *
 rw[hb] at h1;rw[hc] at h2 ⊢
 by_cases hs:s=1
 ·simp only[if_pos hs] at *
  revert h1 h2
  repeat' split
  all_goals simp only[decide_eq_false_iff_not];omega
 ·simp only[if_neg hs] at *
  revert h1 h2
  repeat' split
  all_goals simp only[decide_eq_false_iff_not];omega
theorem zSg {s:Int}{a b:Odr}(ha:a.side=s)(hb:b.side=s):zAC b a=false∨zAC a b=false:=by
 unfold zAC
 rw[hb,ha]
 by_cases hs:s=1
 ·simp only[if_pos hs];repeat' split
  all_goals simp only[decide_eq_false_iff_not];omega
 ·simp only[if_neg hs];repeat' split
  all_goals simp only[decide_eq_false_iff_not];omega
def zNP:List Odr→Option Odr→Option Odr
 | [],b=>b
 | o::l,b=>zNP l (match b with|none=>some o|some x=>some (if zAC o x then o else x))
theorem zP1 (l:List Odr)(b:Option Odr):l.foldl (fun b o=>match b with|none=>some o|some x=>some (if zAC o x then o else x)) b=zNP l b:=by
 induction l generalizing b with
 | nil=>rfl
 | cons o l ih=>rw[List.foldl_cons,ih];rfl
theorem zJS {s:Int}:∀ (l:List Odr) (x:Odr),(∀ o∈l,o.side=s)→x.side=s→∃ m,zNP l (some x)=some m∧(m=x∨m∈l)∧zAC x m=false∧∀ o∈l,zAC o m=false
 | [],x,_,_=>⟨x,rfl,.inl rfl,by unfold zAC;simp,fun o h=>nomatch h⟩
 | o::l,x,hs,hx=>by
   have ho:=hs o (zz2 _)
   have hl:∀ q∈l,q.side=s:=fun q hq=>hs q (zz5 _ hq)
   have key:∀ y:Odr,y.side=s→zAC x y=false→zAC o y=false→(y=x∨y=o)→∃ m,zNP l (some y)=some m∧(m=x∨m∈o::l)∧zAC x m=false∧∀ q∈o::l,zAC q m=false:=by
    intro y hy h1 h2 h3
    obtain⟨m,e,hm,h4,h5⟩:=zJS l y hl hy
    have hms:m.side=s:=by rcases hm with rfl|h;exact hy;exact hl m h
    refine⟨m,e,?_,zIU hms hy hx h4 h1,fun q hq=>?_⟩
    ·rcases hm with rfl|h
     ·rcases h3 with h|h
      ·exact .inl h
      ·exact .inr (h ▸ zz2 _)
     ·exact .inr (zz5 _ h)
    ·rcases List.mem_cons.1 hq with rfl|hq
     ·exact zIU hms hy ho h4 h2
     ·exact h5 q hq
   have hself:∀ y:Odr,zAC y y=false:=fun y=>by unfold zAC;simp
   show ∃ m,zNP l (some (if zAC o x then o else x))=some m∧_
   by_cases h:zAC o x=true
   ·rw[if_pos h]
    refine key o ho ?_ (hself o) (.inr rfl)
    rcases zSg hx ho with e|e
    ·rw[h] at e;cases e
    ·exact e
   ·rw[if_neg h]
    exact key x hx (hself x) (by simpa using h) (.inl rfl)
theorem zP2 {s:Int}{l m:List Odr}(hs:∀ o∈l,o.side=s)(hp:m.Perm l)(hm:m.Pairwise zEU):zNP l none=m.head?:=by
 cases l with
 | nil=>rw[List.perm_nil.1 hp];rfl
 | cons o l =>
   show zNP l (some o)=_
   obtain⟨x,e,hx,h1,h2⟩:=zJS l o (fun q hq=>hs q (zz5 _ hq)) (hs o (zz2 _))
   rw[e]
   cases m with
   | nil=>exact absurd hp.length_eq (by simp)
   | cons y m =>
     rw[List.head?_cons]
     have hxm:x∈y::m:=hp.mem_iff.2 (by rcases hx with rfl|h;exact zz2 _;exact zz5 _ h)
     have hyl:y∈o::l:=hp.mem_iff.1 (zz2 _)
     have hyx:zAC y x=false:=by rcases List.mem_cons.1 hyl with rfl|h;exact h1;exact h2 y h
     rcases List.mem_cons.1 hxm with rfl|h
     ·rfl
     ·have:=(List.pairwise_cons.1 hm).1 x h
      have g:=this.1;rw[hyx] at g;cases g
def zDe (s:Int)(a b:Odr):Bool:=if a.price=b.price then decide (a.id<b.id) else if s=1 then decide (a.price>b.price) else decide (a.price<b.price)
def zB9 (l:List Odr)(i s:Int):List Odr:=if za l=true then(l.filter (ofS i s)).mergeSort (fun a b=>!zDe s b a) else[]
theorem zCA {l:List Odr}{i s:Int}(h:za l=true):(zB9 l i s).Perm (l.filter (ofS i s)):=by
 unfold zB9;rw[if_pos h];exact List.mergeSort_perm _ _
theorem zDI {l:List Odr}{i s:Int}:∀ o∈l.filter (ofS i s),o.side=s:=fun o ho=>by
 have:=(List.mem_filter.1 ho).2
 unfold ofS at this
 rw[Bool.and_eq_true,beq_iff_eq,beq_iff_eq] at this
 exact this.2
theorem zGv {l:List Odr}(h:za l=true)(p:Odr→Bool):((l.filter p).map (·.id)).Nodup:=by
 rw[List.nodup_iff_pairwise_ne,List.pairwise_map]
 exact((zAK.1 h).2.2.sublist List.filter_sublist).imp fun h=>Int.ne_of_lt h
theorem zP3 (s:Int)(a b c:Odr)(h1:(!zDe s b a)=true)(h2:(!zDe s c b)=true):(!zDe s c a)=true:=by
 simp only[Bool.not_eq_true'] at *
 unfold zDe at *
 by_cases hs:s=1
 ·simp only[if_pos hs] at *
  revert h1 h2
  repeat' split
  all_goals simp only[decide_eq_false_iff_not];omega
 ·simp only[if_neg hs] at *
  revert h1 h2
  repeat' split
  all_goals simp only[decide_eq_false_iff_not];omega
theorem zP4 (s:Int)(a b:Odr):((!zDe s b a)||(!zDe s a b))=true:=by
 simp only[Bool.or_eq_true,Bool.not_eq_true']
 unfold zDe
 by_cases hs:s=1
 ·simp only[if_pos hs];repeat' split
  all_goals simp only[decide_eq_false_iff_not];omega
 ·simp only[if_neg hs];repeat' split
  all_goals simp only[decide_eq_false_iff_not];omega
theorem zHI {s:Int}{l:List Odr}(hs:∀ o∈l,o.side=s):(l.mergeSort fun a b=>!zDe s b a).Pairwise fun a b=>zAC b a=false:=by
 refine(List.pairwise_mergeSort (zP3 s) (zP4 s) l).imp_of_mem fun{a b} ha hb hab=>?_
 have hb:=hs b ((List.mergeSort_perm _ _).mem_iff.1 hb)
 show zDe b.side b a=false
 rw[hb];simpa using hab
theorem zP5 {l m:List Odr}{i s:Int}(h:za l=true)(hp:m.Perm (l.filter (ofS i s)))(hm:m.Pairwise fun a b=>zAC b a=false):m=zB9 l i s∧m.Pairwise zEU:=by
 have hms:=zNO (s:=s) (fun o ho=>zDI o (hp.mem_iff.1 ho)) ((hp.map _).nodup_iff.2 (zGv h _)) hm
 refine⟨?_,hms⟩
 have hq:=zCA (i:=i) (s:=s) h
 have hls:(zB9 l i s).Pairwise zEU:=by
  refine zNO (s:=s) (fun o ho=>zDI o (hq.mem_iff.1 ho)) ((hq.map _).nodup_iff.2 (zGv h _)) ?_
  unfold zB9;rw[if_pos h];exact zHI zDI
 exact zHY zPy zPz hms hls fun x=>by rw[hp.mem_iff,hq.mem_iff]
theorem zLu {l:List Odr}{i s:Int}(h:za l=true):(zB9 l i s).Pairwise zEU:=by
 have hq:=zCA (i:=i) (s:=s) h
 refine zNO (s:=s) (fun o ho=>zDI o (hq.mem_iff.1 ho)) ((hq.map _).nodup_iff.2 (zGv h _)) ?_
 unfold zB9;rw[if_pos h];exact zHI zDI
theorem zEV {l:List Odr}{i s:Int}:zAQ l i s=match (zB9 l i s).head? with|some o=>(o,true)|none=>(Odr.zero,false):=by
 unfold zAQ
 by_cases h:za l=true
 ·rw[if_pos h]
  refine Eq.trans (congrArg (fun r:Option Odr=>(match r with|some o=>(o,true)|none=>(Odr.zero,false):Odr × Bool)) (zP1 (l.filter (ofS i s)) none)) ?_
  rw[zP2 zDI (zCA h) (zLu h)]
 ·rw[if_neg h];unfold zB9;rw[if_neg h];rfl
structure Cmd where
 kind:Int
 nums:List Int
 text:ByteArray
def comT:List (List Nat × Bool):=[([],true),([97],false),([107],true),([105],false),([105],false),([97,109],false),([97,109],false),([97,105,113],false),([97,105,113],false),([98],false),([97,105,115,112,113],false),([97,111],false),([97,105,113,109,109,116],false),([97,99,109],false),([97,105,113,109,116],false),([97,99,109],false),([116],false),([97,97,109],false),([97],true),([105,107],false)]
def zLv (k:Int):List Nat × Bool:=comT.getD (k - 1).toNat ([32],false)
def zFT (c:Cmd):Bool:=decide (1≤c.kind)&&decide (c.kind≤20)&&zBL 3 (zLv c.kind).1 c.nums&&(if (zLv c.kind).2 then zAF c.text else c.text.size==0)
def zLw:List (Int × List (Option Nat)):=[(1,[none]),(2,[some 0]),(3,[none,some 0]),(4,[some 0]),(5,[some 0]),(6,[some 0,some 1]),(7,[some 0,some 1]),(8,[some 0,some 1,some 2]),(9,[some 0,some 1,some 2]),(10,[some 0]),(11,[none,some 0,some 1,some 2,some 3,some 4]),(12,[some 1]),(14,[none,some 0,some 1,some 2,some 3,some 4,some 5]),(15,[some 1,some 0,some 2]),(16,[none,some 0,some 1,some 2,some 3,some 4]),(17,[some 1,some 0,some 2]),(20,[some 0]),(21,[some 0,some 1,some 2]),(22,[some 0]),(23,[some 0,some 1])]
def zAw (k:Int):Int × List (Option Nat):=zLw.getD (k - 1).toNat (0,[])
def zDW (s:Sta)(k:Int):Int × Int:=if k=1 then((s.accts.length:Int)+1,64) else if k=3 then((s.insts.length:Int)+1,16) else if k=11 then(s.nextO,1099511627776) else(s.nextA,1099511627776)
def evZ:Evt:=⟨0,0,[],[]⟩
def zk (s:Sta)(c:Cmd):Evt × Int :=
 if zCU s=false then(evZ,4) else
 if zFT c=false then(evZ,1) else
 if c.kind=12∧(zT s.orders (nF c.nums 1)).2=false then(evZ,5) else
 if c.kind=12∧(zT s.orders (nF c.nums 1)).1.acct≠nF c.nums 0 then(evZ,49) else
 if none∈(zAw c.kind).2∧(zDW s (zAw c.kind).1).1>(zDW s (zAw c.kind).1).2 then(evZ,40) else
 (⟨3,(zAw c.kind).1,(zAw c.kind).2.map fun o=>match o with|some i=>nF c.nums i|none=>(zDW s (zAw c.kind).1).1,if c.text.size=0 then[] else[c.text]⟩,0)
theorem zE2 {c:Cmd}(h:zFT c=true):1≤c.kind∧c.kind≤20:=by
 unfold zFT at h
 simp only[Bool.and_eq_true,decide_eq_true_eq] at h
 exact⟨h.1.1.1,h.1.1.2⟩
theorem zDx {k:Int}(h:1≤k∧k≤20):k=1∨k=2∨k=3∨k=4∨k=5∨k=6∨k=7∨k=8∨k=9∨k=10∨k=11∨k=12∨k=13∨k=14∨k=15∨k=16∨k=17∨k=18∨k=19∨k=20:=by omega
def cmN (k:Int)(t:ByteArray)(n:List Int):Cmd:=⟨k,n,t⟩
theorem zJT {α β:Type}{f g:α→List β}:∀ {l:List α},(∀ x∈l,f x=g x)→l.flatMap f=l.flatMap g
 | [],_=>rfl
 | x::l,h=>by rw[List.flatMap_cons,List.flatMap_cons,h x (List.Mem.head _),zJT fun y hy=>h y (List.mem_cons_of_mem _ hy)]
end
section
open Go Go.Sk Go.RowKit Tryz
attribute [local irreducible] Go.Calls
def comW:List (List Nat):=[[111,112,101,110],[99,108,111,115,101],[108,105,115,116],[104,97,108,116],[114,101,115,117,109,101],[100,101,112,111,115,105,116],[119,105,116,104,100,114,97,119],[105,115,115,117,101],[114,101,100,101,101,109],[102,101,101],[112,108,97,99,101],[99,97,110,99,101,108],[101,110,103,108,105,115,104],[114,97,105,115,101],[115,101,97,108,101,100],[98,105,100],[109,111,118,101],[116,114,97,110,115,102,101,114],[114,101,110,97,109,101],[116,105,99,107]]
def zHQ (i:Nat):KRow:=⟨comW.getD i [],[32],[32],(comT.getD i ([32],false)).1,(comT.getD i ([32],false)).2⟩
def ComM (F:zB):Prop:=∃ cs T fr,SlB F 5 (some ⟨2,0,none⟩) 20 2 0 cs T fr (fun i=>(zHQ i).cells)
theorem ComM.mono {F G:zB}(h:ComM F)(hs:F⊆G):ComM G:=let ⟨a,b,c,d⟩:=h;⟨a,b,c,d.mono hs⟩
def zBr (kind:Int):KRow:=if 1≤kind∧kind≤20 then zHQ (kind - 1).toNat else⟨[],[32],[32],[32],false⟩
theorem zSh (kind:Int):zLU (zBr kind):=by
 have key:∀ i,i<20→zLU (zHQ i):=by
  intro i hi
  have:∀ r∈(List.range 20).map zHQ,(r.f1.all (fun x=>decide (x<128))&&r.f2.all (fun x=>decide (x<128))&&r.f3.all (fun x=>decide (x<128))&&decide (r.f1.length≤100)&&decide (r.f2.length≤100)&&decide (r.f3.length≤100))=true:=by
   unfold zHQ
   decide
  have h:=this _ (List.mem_map.2 ⟨i,List.mem_range.2 hi,rfl⟩)
  simp only[Bool.and_eq_true,List.all_eq_true,decide_eq_true_eq] at h
  exact⟨h.1.1.1.1.1,h.1.1.1.1.2,h.1.1.1.2,h.1.1.2,h.1.2,h.2⟩
 unfold zBr
 split
 ·exact key _ qO
 ·exact⟨by simp,by simp,by simp,by simp,by simp,by simp⟩
theorem cls_co {kind:Int}(h:32 ∉ zAn (zBr kind) 3):∀ c∈zAn (zBr kind) 3,c∈clsL:=by
 have key:∀ r∈(List.range 20).map zHQ,∀ c∈r.f3,c∈clsL:=by
  unfold zHQ
  decide
 have h2:∀ r,zAn r 3=r.f3:=fun r=>rfl
 rw[h2] at h ⊢
 unfold zBr at h ⊢
 split at h
 ·rename_i hk
  rw[if_pos hk]
  exact key _ (List.mem_map.2 ⟨(kind - 1).toNat,List.mem_range.2 qO,rfl⟩)
 ·exact absurd (zz2 _) h
theorem co_len (kind:Int):(zAn (zBr kind) 3).length≤100:=(zSh kind).2.2.2.2.2
theorem zSi {kind:Int}:32 ∉ zAn (zBr kind) 3↔1≤kind∧kind≤20:=by
 have key:∀ r∈(List.range 20).map zHQ,32 ∉ r.f3:=by
  unfold zHQ
  decide
 show 32 ∉ (zBr kind).f3↔_
 unfold zBr
 by_cases hk:1≤kind∧kind≤20
 ·rw[if_pos hk]
  exact⟨fun _=>hk,fun _=>key _ (List.mem_map.2 ⟨(kind - 1).toNat,List.mem_range.2 qO,rfl⟩)⟩
 ·rw[if_neg hk]
  exact⟨fun h=>absurd (zz2 _) h,fun h=>absurd h hk⟩
theorem co_f {kind:Int}(hk:1≤kind∧kind≤20):zAn (zBr kind) 3=(zLv kind).1∧(zBr kind).text=(zLv kind).2:=by
 unfold zBr
 rw[if_pos hk]
 exact⟨rfl,rfl⟩
attribute [local irreducible] zHQ
theorem zNQ {F:zB}(kind:Int)(hk:0≤kind∧kind≤255)(w0:World)(hF:Mem w0 F)(hK:ComM F) :
  Calls prog 203 [.int .u8 kind].toArray w0 (Ret (.agg (zBr kind).cells.toArray) w0):=by
 obtain⟨cs,T,fr,hs⟩:=hK
 rcases Int.lt_or_le kind 1 with h1|h1
 ·have hlt:decide (kind<1)=true:=decide_eq_true h1
  refine eN func203 ntmps203 ?_
  have H:=zA w0
  repeat' (first|refine yW ?_|(refine yB ?_;intro b w H)|(refine y11 sg H ?_;intro w H)|refine z13 (Yq.buildR (cs:=#[.string ⟨#[32]⟩,.string ⟨#[32]⟩,.string ⟨#[32]⟩]) sg rfl rfl rfl rfl rfl) ?_|fail)
  refine zA7 (vs:=[_]) ⟨zm sg rfl H.mem (zz2 _) rfl rfl,trivial⟩ H.cl ?_
  unfold zBr
  rw[if_neg qO];rfl
 rcases Int.lt_or_le 20 kind with h2|h2
 ·have hlt:decide (kind<1)=false:=decide_eq_false qO
  have hgt:decide (IntKind.i64.wrap kind>20)=true:=by rw[w64 qO qO];exact decide_eq_true h2
  refine eN func203 ntmps203 ?_
  have H:=zA w0
  repeat' (first|refine yW ?_|(refine yB ?_;intro b w H)|(refine y11 sg H ?_;intro w H)|refine z13 (Yq.buildR (cs:=#[.string ⟨#[32]⟩,.string ⟨#[32]⟩,.string ⟨#[32]⟩]) sg rfl rfl rfl rfl rfl) ?_|fail)
  refine zA7 (vs:=[_]) ⟨zm sg rfl H.mem (zz2 _) rfl rfl,trivial⟩ H.cl ?_
  unfold zBr
  rw[if_neg qO];rfl
 ·have hlt:decide (kind<1)=false:=decide_eq_false qO
  have hgt:decide (IntKind.i64.wrap kind>20)=false:=by rw[w64 qO qO];exact decide_eq_false qO
  have hq:IntKind.u8.wrap (kind - 1)=((kind - 1).toNat:Int):=by
   obtain⟨m,hm⟩:∃ m:Nat,kind - 1=(m:Int):=⟨(kind - 1).toNat,by omega⟩
   rw[hm,Int.toNat_natCast]
   have:m<256:=by omega
   simp[IntKind.wrap,IntKind.bits,IntKind.signed]
   omega
  refine eN func203 ntmps203 ?_
  have H:=zA w0
  repeat' (first|refine yW ?_|(refine yB ?_;intro b w H)|(refine y11 sg H ?_;intro w H)|(refine zb rfl rfl (Yq.ixP sg (n:=20) (j:=(kind - 1).toNat) (by rw[hq];exact zz1 _) (by rw[hq];omega) (by rw[hq];omega) rfl rfl rfl rfl rfl rfl) ?_)|(refine zb rfl rfl (zBD sg hs (H.memF hF) rfl rfl rfl rfl rfl qO) ?_)|fail)
  refine zA7 (vs:=[_]) ⟨zm sg rfl H.mem (zz2 _) rfl rfl,trivial⟩ H.cl ?_
  unfold zBr
  rw[if_pos qO];rfl
theorem zNR {F:zB}(kind:Int)(hk:0≤kind∧kind≤255)(w0:World)(hF:Mem w0 F)(hK:ComM F) :
  Calls prog 145 [.int .u8 kind].toArray w0 (zf (ToldR (zBr kind) 3) w0):=by
 refine eN func145 ntmps145 ?_
 have H:=zA w0
 repeat' (first|refine yX ?_|(refine c0 ent203 ?_;refine⟨_,zNQ kind hk _ (H.memF hF) hK,?_⟩;clear H;intro w H)|(refine f0 zRB ?_;refine⟨_,zOV (zBr kind) (zSh kind) 3 _,?_⟩;clear H;intro z M w hR H;(try simp only[zca,zcb] at H);obtain⟨a,n,cap,t,i,rfl,hR⟩:=hR.out)|fail)
 exact zi (vs:=[_,_,_]) (M:=M) ⟨zW rfl,zW rfl,zW rfl,trivial⟩ H hR
theorem zKY (t:ByteArray):(t.toList==(⟨#[]⟩:ByteArray).toList)=(t.size==0):=by
 rw[ByteArray.toList_eq,ByteArray.toList_eq,Bool.eq_iff_iff,beq_iff_eq,beq_iff_eq]
 show t.data.toList=[]↔t.data.size=0
 rw[← Array.length_toList,List.length_eq_zero_iff]
def Cmd.cells (c:Cmd)(a:Option Addr)(cap:Nat):List Value:=[.int .u8 c.kind,.slice a c.nums.length cap,.string c.text]
def zIy (c:Cmd):Prop:=(0≤c.kind∧c.kind≤255)∧c.text.size≤140737488355328
theorem zKZ {F:zB}{na:Option Addr}{nc:Nat}(c:Cmd)(hc:zIy c)(w0:World)(hF:Mem w0 F)(hK:ComM F)(hN:Ints F na nc c.nums) :
  Calls prog 111 [.agg (c.cells na nc).toArray].toArray w0 (Ret (.bool (zFT c)) w0):=by
 refine eN func111 ntmps111 ?_
 have H:=zA w0
 repeat' (first|refine yX ?_|(refine yB ?_;intro b w H)|(refine f0 ent145 ?_;refine⟨_,zNR c.kind hc.1 _ (H.memF hF) hK,?_⟩;clear H;intro z M w hR H;(try simp only[zca,zcb] at H);obtain⟨hx,a,cap,rfl,hO⟩|⟨hx,rfl⟩:=hR.cases (co_len _))|(refine c0 ent67 ?_;refine⟨_,zSE 3 _ (cls_co hx.2.2) c.nums _ (H.memF hF) H.mem (hO.mono (fun x hx=>zz4 _ hx)) hN,?_⟩;clear H;intro w H)|fail)
 ·have hk:=zSi.1 hx.2.2
  obtain⟨e1,e2⟩:=co_f hk
  have hf:zFT c=(zBL 3 (zAn (zBr c.kind) 3) c.nums&&(if (zBr c.kind).text then zAF c.text else c.text.size==0)):=by
   unfold zFT;rw[decide_eq_true hk.1,decide_eq_true hk.2,e1,e2,Bool.true_and,Bool.true_and]
  rw[hf]
  clear e1 e2 hf
  generalize zBL 3 (zAn (zBr c.kind) 3) c.nums=q1
  generalize (zBr c.kind).text=q2
  cases q1<;>cases q2<;>repeat' (first|refine yW ?_|(refine c0 zQ6 ?_;refine⟨_,zGg c.text hc.2 _,?_⟩;clear H;intro w H)|(refine y17 ?_ ?_;all_goals(intro h;try (exfalso;first|((cases h);done))))|fail)
  all_goals first
   | exact zP rfl H.cl rfl
   | exact zP rfl H.cl (by rw[h];rfl)
   | exact zP rfl H.cl (congrArg Value.bool (zKY c.text))
 ·have hf:zFT c=false:=by
   unfold zFT
   have:=fun e=>hx ⟨by decide,by decide,zSi.2 e⟩
   by_cases h1:1≤c.kind
   ·rw[decide_eq_false (fun h2=>this ⟨h1,h2⟩)];simp
   ·rw[decide_eq_false h1];simp
  exact zP rfl H.cl (by rw[hf])
end
section
open Go Go.Sk Go.RowKit Tryz
theorem CW.cutT {P:Program}{nw:Nw}{c:Code}{K:Env→World→Prop}{Z:zAN}{e:Env}{w:World}(R:Env→World→Prop)(h:CW P nw c (thn R (fun _ _ _=>False)) e w)(hk:∀ e w,R e w→K e w):CW P nw c (thn K Z) e w :=
 CW.mono (fun x e w q=>by cases x<;>first|exact hk _ _ q|exact q.elim) h
theorem zSj {e:Env}{i j:Nat}{x y:Value}(h1:e i=x)(h2:e j=y):e=ovl [(i,x),(j,y)] e:=by
 funext k
 rw[zBc,zBc]
 by_cases hi:k=i
 ·rw[if_pos hi,hi,h1]
 ·rw[if_neg hi]
  by_cases hj:k=j
  ·rw[if_pos hj,hj,h2]
  ·rw[if_neg hj];rfl
theorem zBG {e:Env}{i j k:Nat}{x y z:Value}(h1:e i=x)(h2:e j=y)(h3:e k=z):e=ovl [(i,x),(j,y),(k,z)] e:=by
 have:=zSj h2 h3
 funext q
 rw[zBc]
 by_cases hi:q=i
 ·rw[if_pos hi,hi,h1]
 ·rw[if_neg hi];exact congrFun this q
theorem zAc {e:Env}{l:List (Nat × Value)}{i:Nat}{x:Value}(h1:e i=x)(h2:e=ovl l e):e=ovl ((i,x)::l) e:=by
 funext q
 rw[zBc]
 by_cases hi:q=i
 ·rw[if_pos hi,hi,h1]
 ·rw[if_neg hi];exact congrFun h2 q
theorem CW.named {P:Program}{nw:Nw}{c:Code}{Q:zAN}{e:Env}{w:World}(R:Env→World→Prop)(h:R e w)(k:∀ e w,R e w→CW P nw c Q e w):CW P nw c Q e w:=k e w h
end
section
open Go Go.Sk Go.RowKit Tryz
attribute [local irreducible] Go.Calls
abbrev CPt:=Option Addr × Nat
def cmZ:Cmd:=⟨0,[],ByteArray.empty⟩
def cm_ (l:List Cmd)(j:Nat):Cmd:=l.getD j cmZ
def cml (l:List Cmd)(q:Nat→CPt)(j:Nat):List Value:=(cm_ l j).cells (q j).1 (q j).2
def CmsM (F:zB)(a:Option Addr)(cap:Nat)(l:List Cmd)(q:Nat→CPt):Prop:=SlA F 3 a l.length cap (cml l q)∧∀ j,j<l.length→Ints F (q j).1 (q j).2 (cm_ l j).nums
theorem CmsM.mono {F G:zB}{a:Option Addr}{cap:Nat}{l:List Cmd}{q:Nat→CPt}(h:CmsM F a cap l q)(hs:F⊆G):CmsM G a cap l q:=⟨SlA.mono h.1 hs,fun j hj=>SlA.mono (h.2 j hj) hs⟩
theorem zLx {F:zB}:Ints F none 0 []:=⟨zzD _,zzD _,0,0,[],0,(0,0),fun h=>absurd h (Nat.lt_irrefl 0)⟩
end
section
open Go Go.Sk Go.RowKit Tryz
structure Opn where
 acct:Int
 id:Int
 inst:Int
 side:Int
 price:Int
 left:Int
 deriving DecidableEq,Inhabited
structure Lt where
 id:Int
 seller:Int
 inst:Int
 qty:Int
 deriving DecidableEq,Inhabited
structure Psn where
 acct:Int
 inst:Int
 bought:Int
 sold:Int
 spent:Int
 got:Int
 deriving DecidableEq,Inhabited
structure Ln where
 acct:Int
 seq:Int
 kind:Int
 delta:Int
 bal:Int
 deriving DecidableEq,Inhabited
def Opn.cells (x:Opn):List Value:=[.int .i64 x.acct,.int .i64 x.id,.int .i64 x.inst,.int .u8 x.side,.int .i64 x.price,.int .i64 x.left]
def Lt.cells (x:Lt):List Value:=[.int .i64 x.id,.int .i64 x.seller,.int .i64 x.inst,.int .i64 x.qty]
def Psn.cells (x:Psn):List Value:=[.int .i64 x.acct,.int .i64 x.inst,.int .i64 x.bought,.int .i64 x.sold,.int .i64 x.spent,.int .i64 x.got]
def Ln.cells (x:Ln):List Value:=[.int .i64 x.acct,.int .i64 x.seq,.int .u8 x.kind,.int .i64 x.delta,.int .i64 x.bal]
def op_ (l:List Opn)(j:Nat):Opn:=l.getD j default
def lt_ (l:List Lt)(j:Nat):Lt:=l.getD j default
def ps_ (l:List Psn)(j:Nat):Psn:=l.getD j default
def ln_ (l:List Ln)(j:Nat):Ln:=l.getD j default
def opl (l:List Opn)(j:Nat):List Value:=(op_ l j).cells
def ltl (l:List Lt)(j:Nat):List Value:=(lt_ l j).cells
def psl (l:List Psn)(j:Nat):List Value:=(ps_ l j).cells
def lnl (l:List Ln)(j:Nat):List Value:=(ln_ l j).cells
structure Vws where
 opn:List Opn
 lots:List Lt
 poss:List Psn
 lins:List Ln
structure VPt where
 opA:Option Addr
 opC:Nat
 ltA:Option Addr
 ltC:Nat
 psA:Option Addr
 psC:Nat
 lnA:Option Addr
 lnC:Nat
def Vws.cells (v:Vws)(p:VPt):List Value:=[.slice p.opA v.opn.length p.opC,.slice p.ltA v.lots.length p.ltC,.slice p.psA v.poss.length p.psC,.slice p.lnA v.lins.length p.lnC]
structure VwM (F:zB)(v:Vws)(p:VPt):Prop where
 op:SlA F 6 p.opA v.opn.length p.opC (opl v.opn)
 lt:SlA F 4 p.ltA v.lots.length p.ltC (ltl v.lots)
 ps:SlA F 6 p.psA v.poss.length p.psC (psl v.poss)
 ln:SlA F 5 p.lnA v.lins.length p.lnC (lnl v.lins)
theorem VwM.mono {F G:zB}{v:Vws}{p:VPt}(h:VwM F v p)(hs:F⊆G):VwM G v p:=⟨SlA.mono h.op hs,SlA.mono h.lt hs,SlA.mono h.ps hs,SlA.mono h.ln hs⟩
end
section
open Go Go.Sk Go.RowKit Tryz
attribute [local irreducible] Go.Calls
def tot (n:Int):Bool:=zBt n 0 4611686018427387904
end
end Go.Proofs.YtejhijhnlogikaaGreatDoor
