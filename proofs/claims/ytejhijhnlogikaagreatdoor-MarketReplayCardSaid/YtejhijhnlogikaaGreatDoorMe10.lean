/- Steps of the proof. -/
import Derived.Laws.RangeString
import Derived.Test.YtejhijhnlogikaaGreatDoorMe09
set_option linter.all false
set_option maxHeartbeats 16000000
namespace Go.Proofs.YtejhijhnlogikaaGreatDoor
section
open Go Go.Sk Go.RowKit Tryz
attribute [local irreducible] Go.Calls
structure Evt where
 v:Int
 kind:Int
 nums:List Int
 texts:List ByteArray
def zMt:List ((List Nat × List Nat × List Nat) × Bool) :=
 [(([97],[97],[97]),true),(([97],[97],[97]),false),(([105],[105,107],[105,107]),true),(([105],[105],[105]),false),(([105],[105],[105]),false),
  (([97,109],[97,109],[97,109]),false),(([97,109],[97,109],[97,109]),false),(([97,105,113],[97,105,113],[97,105,113]),false),(([97,105,113],[97,105,113],[97,105,113]),false),(([98],[98],[98]),false),
  (([111,97,105,115,112,113],[111,97,105,115,112,113],[111,97,105,115,112,113]),false),(([111],[111],[111]),false),(([111,111,112,113],[111,111,112,113,122],[111,111,112,113,122]),false),
  (([99,97,105,113,109,116],[99,97,105,113,109,109,116],[99,97,105,113,109,109,116]),false),(([99,97,109],[99,97,109],[99,97,109]),false),(([99,97,105,113,109,116],[99,97,105,113,109,116],[99,97,105,113,109,116]),false),(([99,97,109],[99,97,109],[99,97,109]),false),
  (([99,97,109],[99,97,109,122],[99,97,109,122]),false),(([99],[99],[99]),false),(([116],[116],[116]),false),(([32],[97,97,109],[97,97,109]),false),(([32],[32],[97]),true),(([32],[32],[105,107]),false)]
def zBT (v kind:Int):List Nat × Bool :=
 if 1<=kind/\kind<=23 then
  let r:=zMt.getD (kind - 1).toNat (([32],[32],[32]),false)
  (if v=1 then r.1.1 else if v=2 then r.1.2.1 else r.1.2.2,r.2)
 else([32],false)
def zAg (v kind:Int):Option (List Nat × Bool):=if 1<=v/\v<=3/\32 ∉ (zBT v kind).1 then some (zBT v kind) else none
def zKd (c:Nat):Option (Int × Int) :=
 if c=97 then some (64,1) else if c=105 then some (16,1) else if c=111\/c=99 then some (1099511627776,1) else if c=113 then some (1048576,1)
 else if c=109\/c=122 then some (1125899906842624,100) else if c=112\/c=107 then some (1073741824,100) else if c=98 then some (1000,100)
 else if c=116 then some (1099511627776,10) else if c=115 then some (2,1) else none
def zDO (v:Int)(c:Nat):Option (Int × Int) :=
 if 1<=v/\v<=3 then
  match zKd c with
  | none=>none
  | some (h,by_) =>
    if v<3/\c=115 then some (0,1)
    else some (if c=122\/c=98 then 0 else 1,if (v<3/\c=116)\/(v<2/\by_=100) then h / by_ else h)
 else none
def zBp (v:Int)(c:Nat)(n:Int):Bool:=match zDO v c with|some (l,h)=>decide (l<=n)&&decide (n<=h)|none=>false
def zBU (v:Int)(l:List Nat)(n:List Int):Bool:=l.length==n.length&&(List.range l.length).all fun i=>zBp v (l.getD i 0) (n.getD i 0)
def zk (e:Evt):Bool :=
 match zAg e.v e.kind with
 | none=>false
 | some (l,text)=>zBU e.v l e.nums&&(if text then e.texts.length==1&&zAE (e.texts.getD 0 ByteArray.empty) else e.texts.length==0)
structure Pst where
 acct:Int
 asset:Int
 free:Int
 held:Int
abbrev Pl:=Int × Int
def zB5:List Pl:=(List.range 65).flatMap fun(a:Nat)=>(List.range 17).map fun(s:Nat)=>((a:Int),(s:Int))
def atR (l:List Row4)(x:Pl):Int × Int:=match l.find? (fun r=>r.acct==x.1&&r.asset==x.2) with|some r=>(r.free,r.held)|none=>(0,0)
def mkR (E:Pl->Int × Int):List Row4:=zB5.filterMap fun x=>if E x=(0,0) then none else some ⟨x.1,x.2,(E x).1,(E x).2⟩
def dlF (p:List Pst)(x:Pl):Int × Int:=p.foldl (fun z q=>if q.acct=x.1/\q.asset=x.2 then(z.1+q.free,z.2+q.held) else z) (0,0)
def zKB (n:Int):Bool:=decide (n>1125899906842624)||decide (n < -1125899906842624)
def zCw (q:Pst):Bool:=!zCf q.acct q.asset||zKB q.free||zKB q.held||(q.acct==0&&q.held != 0)
def zBx (p:List Pst)(s:Int):Int:=p.foldl (fun z q=>if q.asset=s then z+(q.free+q.held) else z) 0
def zA5 (p:List Pst):Int:=if p.length>64 then 40 else if p.any zCw then 1 else if (List.range 17).any fun s=>zBx p (s:Nat) != 0 then 1 else 0
def zBV (E:Pl->Int × Int):Int:=if zB5.any fun x=>zAR x.1 (E x).1 (E x).2==47 then 47 else if zB5.any fun x=>zAR x.1 (E x).1 (E x).2==41 then 41 else 0
def zAH (l:List Row4)(p:List Pst)(x:Pl):Int × Int:=((atR l x).1+(dlF p x).1,(atR l x).2+(dlF p x).2)
def zBR (l:List Row4)(p:List Pst):List Row4 × Int :=
 if zAZ l=true then
  if zA5 p=0 then
   if zBV (zAH l p)=0 then(mkR (zAH l p),0) else([],zBV (zAH l p))
  else([],zA5 p)
 else([],4)
def zAf (l:List Row4)(a s:Int):Int:=(zOX (atR l (a,s)).1 (atR l (a,s)).2).1
def Odr.zero:Odr:=⟨0,0,0,0,0,0⟩
def zO (l:List Odr)(id:Int):Odr × Bool:=if zb l=true then(match l.find? fun o=>o.id==id with|some o=>(o,true)|none=>(Odr.zero,false)) else(Odr.zero,false)
def zFY (l:List Odr)(o:Odr):List Odr × Int :=
 if zb l=true/\zt o=true then
  if (zO l o.id).2 then([],6) else if l.length=128 then([],40) else(l.filter (fun x=>decide (x.id<o.id))++o::l.filter (fun x=>decide (o.id<x.id)),0)
 else([],4)
def zBi (l:List Odr)(id qty:Int):List Odr:=(l.map fun o=>if o.id=id then{ o with left:=o.left - qty } else o).filter fun o=>decide (o.left≠0)
def zA1 (l:List Odr)(id qty:Int):List Odr × Int :=
 if zb l=true then
  if (zO l id).2 then(if qty<1\/qty>(zO l id).1.left then([],1) else(zBi l id qty,0)) else([],5)
 else([],4)
def zDP (l:List Odr)(id:Int):List Odr × Int:=zA1 l id (zO l id).1.left
def zAB (a b:Odr):Bool:=if a.price=b.price then decide (a.id<b.id) else if a.side=1 then decide (a.price>b.price) else decide (a.price<b.price)
def zBM (l:List Odr)(inst side:Int):Odr × Bool :=
 if zb l=true then
  match (l.filter fun o=>o.inst==inst&&o.side==side).foldl (fun b o=>match b with|none=>some o|some x=>some (if zAB o x then o else x)) none with
  | some o=>(o,true)
  | none=>(Odr.zero,false)
 else(Odr.zero,false)
def zw (a b:Odr):Bool :=
 zt a&&zt b&&a.inst==b.inst&&a.side != b.side&&(if a.side=1 then decide (a.price >= b.price) else decide (a.price<=b.price))
def zIR (p q:Int):Int × Int:=if p<0\/q<0 then(0,1) else if p*q>4611686018427387904 then(0,41) else(p*q,0)
def zBq (n b:Int):Int × Int:=if n<0\/b<0\/b>1000 then(0,1) else if n>4611686018427387904 then(0,41) else(n*b / 10000,0)
abbrev nF (n:List Int)(i:Nat):Int:=n.getD i 0
def zAC (s:Sta)(a:Int):Bool:=(zBQ s.accts a).2
def zBO (s:Sta)(i:Int):Bool:=(zCI s.insts i).2
def zf (s:Sta)(p:List Pst):Sta × Int:=if (zBR s.rows p).2=0 then({ s with rows:=(zBR s.rows p).1 },0) else(s,(zBR s.rows p).2)
def zDQ (s:Sta)(from_ to_ asset n:Int):Sta × Int:=zf s [⟨from_,asset,-n,0⟩,⟨to_,asset,n,0⟩]
def zAX (s:Sta)(acct asset n:Int):Sta × Int:=zf s [⟨acct,asset,-n,n⟩]
def zEj (s:Sta)(n:List Int)(t:ByteArray):Sta × Int :=
 if nF n 0≠s.accts.length+1 then(s,46) else if zBE s.accts t >= 0 then(s,6) else({ s with accts:=s.accts++[⟨t,true⟩] },0)
def zEk (s:Sta)(n:List Int):Sta × Int :=
 if zAC s (nF n 0) then
  if s.rows.any (fun r=>r.acct==nF n 0) then(s,47)
  else({ s with accts:=s.accts.set (nF n 0 - 1).toNat ⟨(ac_ s.accts (nF n 0 - 1).toNat).name,false⟩ },0)
 else(s,5)
def zEl (s:Sta)(n:List Int)(t:ByteArray):Sta × Int :=
 if nF n 0≠s.insts.length+1 then(s,46) else if s.insts.any (fun x=>x.name.toList==t.toList) then(s,6) else({ s with insts:=s.insts++[⟨t,nF n 1,false⟩] },0)
def zGL (s:Sta)(n:List Int)(is:Bool):Sta × Int :=
 if zBO s (nF n 0) then
  let x:=in_ s.insts (nF n 0 - 1).toNat
  if x.halted=is then(s,46) else({ s with insts:=s.insts.set (nF n 0 - 1).toNat ⟨x.name,x.tick,is⟩ },0)
 else(s,5)
def zAQ (s:Sta)(acct inst price:Int)(many:Bool):Int :=
 if zAC s acct=true/\zBO s inst=true then
  let x:=in_ s.insts (inst - 1).toNat
  if x.halted then 48 else if price.tmod x.tick≠0 then 50 else if many then 40 else 0
 else 5
def zC4 (s:Sta)(n:List Int):Sta × Int :=
 let o:Odr:=⟨nF n 0,nF n 1,nF n 2,nF n 3,nF n 4,nF n 5⟩
 if o.id≠s.nextO then(s,46) else
 if zAQ s o.acct o.inst o.price (decide (128<=s.orders.length))≠0 then(s,zAQ s o.acct o.inst o.price (decide (128<=s.orders.length))) else
 let r:=zAX s o.acct (zV o).1 (zV o).2
 if r.2≠0 then r else({ r.1 with orders:=(zFY s.orders o).1,nextO:=s.nextO+1 },0)
def zBW (s:Sta)(n:List Int):Sta × Int :=
 let o:=(zO s.orders (nF n 0)).1
 if (zO s.orders (nF n 0)).2 then zAX { s with orders:=(zDP s.orders o.id).1 } o.acct (zV o).1 (-(zV o).2) else(s,5)
def zDR (s:Sta)(n:List Int)(o u:Odr):Bool :=
 o.id==s.nextO - 1&&(zBM s.orders u.inst u.side).1.id==u.id&&zw o u&&nF n 2==u.price&&nF n 3==min o.left u.left&&nF n 4==(zBq (zIR (nF n 2) (nF n 3)).1 s.fee).1
def zBX (buy sell:Odr)(inst price qty fee:Int):List Pst :=
 [⟨buy.acct,0,(buy.price - price)*qty,-buy.price*qty⟩,⟨sell.acct,0,price*qty - fee,0⟩,⟨0,0,fee,0⟩,⟨sell.acct,inst,0,-qty⟩,⟨buy.acct,inst,qty,0⟩]
def zDn (s:Sta)(n:List Int):Sta × Int :=
 let o:=(zO s.orders (nF n 0)).1
 let u:=(zO s.orders (nF n 1)).1
 if (zO s.orders (nF n 0)).2=true/\(zO s.orders (nF n 1)).2=true then
  if zDR s n o u then
   if o.acct=u.acct then(s,49) else
   let r:=zf s (if o.side=2 then zBX u o o.inst (nF n 2) (nF n 3) (nF n 4) else zBX o u o.inst (nF n 2) (nF n 3) (nF n 4))
   if r.2≠0 then r else({ r.1 with orders:=(zA1 (zA1 s.orders o.id (nF n 3)).1 u.id (nF n 3)).1 },0)
  else(s,46)
 else(s,5)
def zDS (s:Sta)(a:Auc):Sta × Int :=
 if a.id≠s.nextA\/a.fin<=s.clock then(s,46) else
 if zAQ s a.seller a.inst 0 (decide (32<=s.aucs.length))≠0 then(s,zAQ s a.seller a.inst 0 (decide (32<=s.aucs.length))) else
 let r:=zAX s a.seller a.inst a.qty
 if r.2≠0 then r else({ r.1 with aucs:=s.aucs++[a],nextA:=s.nextA+1 },0)
def zAI (s:Sta)(id:Int):Int:=idx (fun j=>(au_ s.aucs j).id==id) s.aucs.length
def zJE (s:Sta)(n:List Int)(sealed:Bool):Sta × Int :=
 let i:=zAI s (nF n 0)
 let a:=au_ s.aucs i.toNat
 if i<0\/a.sealed≠sealed then(s,5) else
 if zAC s (nF n 1) then
  if zAW a s.clock then(s,46) else
  let b:Bid:=⟨nF n 1,nF n 2⟩
  if (zN a b).2≠0 then(s,(zN a b).2) else
  let r:=zf s (⟨b.acct,0,-b.amount,b.amount⟩::(if (zAN a).2=true/\sealed=false then[⟨(zAN a).1.acct,0,(zAN a).1.amount,-(zAN a).1.amount⟩] else[]))
  if r.2≠0 then r else({ r.1 with aucs:=s.aucs.set i.toNat (zN a b).1 },0)
 else(s,5)
def zI (s:Sta)(a:Auc):Bid × Int × Bool :=
 if (zH a).2 then
  let w:=(zH a).1
  let fee:=(zBq w.amount s.fee).1
  if zAf s.rows a.seller 0+w.amount - fee>1125899906842624\/zAf s.rows w.acct a.inst+a.qty>1125899906842624 then(Bid.zero,0,false) else(w,fee,true)
 else(Bid.zero,0,false)
def zAj (a:Auc):List Pst:=(a.bids.map fun b=>(⟨b.acct,0,b.amount,-b.amount⟩:Pst))++[⟨a.seller,a.inst,a.qty,-a.qty⟩]
def zAz (s:Sta)(i:Nat)(p:List Pst):Sta × Int :=
 let r:=zf s (p++zAj (au_ s.aucs i))
 if r.2≠0 then r else({ r.1 with aucs:=s.aucs.eraseIdx i },0)
def zEA (a:Auc)(w:Bid)(fee:Int):List Pst :=
 [⟨w.acct,0,-w.amount,0⟩,⟨a.seller,0,w.amount - fee,0⟩,⟨0,0,fee,0⟩,⟨a.seller,a.inst,-a.qty,0⟩,⟨w.acct,a.inst,a.qty,0⟩]
def zGM (s:Sta)(n:List Int):Sta × Int :=
 let i:=zAI s (nF n 0)
 let a:=au_ s.aucs i.toNat
 let w:=zI s a
 if i<0 then(s,5) else
 if zAW a s.clock=true/\w.2.2=true/\w.1.acct=nF n 1/\w.1.amount=nF n 2/\w.2.1=nF n 3 then zAz s i.toNat (zEA a w.1 w.2.1) else(s,46)
def zCn (s:Sta)(n:List Int):Sta × Int :=
 let i:=zAI s (nF n 0)
 let a:=au_ s.aucs i.toNat
 if i<0 then(s,5) else if (zI s a).2.2=true\/zAW a s.clock=false then(s,46) else zAz s i.toNat []
def zHi (s:Sta)(n:List Int):Sta × Int :=
 if nF n 0<=s.clock\/(s.aucs.any fun a=>zAW a s.clock)=true then(s,46) else({ s with clock:=nF n 0 },0)
def zBy (s:Sta)(n:List Int):Sta × Int :=
 if zAC s (nF n 0)=true/\zAC s (nF n 1)=true then(if nF n 0=nF n 1 then(s,1) else zDQ s (nF n 0) (nF n 1) 0 (nF n 2)) else(s,5)
def zDT (s:Sta)(n:List Int)(t:ByteArray):Sta × Int :=
 if zAC s (nF n 0) then
  if zBE s.accts t >= 0 then(s,6) else({ s with accts:=s.accts.set (nF n 0 - 1).toNat ⟨t,(ac_ s.accts (nF n 0 - 1).toNat).opn⟩ },0)
 else(s,5)
def zEm (s:Sta)(n:List Int):Sta × Int :=
 if zBO s (nF n 0) then
  if s.orders.any (fun o=>o.inst==nF n 0) then(s,46)
  else({ s with insts:=s.insts.set (nF n 0 - 1).toNat ⟨(in_ s.insts (nF n 0 - 1).toNat).name,nF n 1,(in_ s.insts (nF n 0 - 1).toNat).halted⟩ },0)
 else(s,5)
def zB6 (s:Sta)(k:Int)(n:List Int)(t:ByteArray):Sta × Int :=
 if k=1 then zEj s n t else if k=2 then zEk s n else if k=3 then zEl s n t else if k=4 then zGL s n true else if k=5 then zGL s n false
 else if k=6 then(if zAC s (nF n 0) then zDQ s 0 (nF n 0) 0 (nF n 1) else(s,5))
 else if k=7 then(if zAC s (nF n 0) then zDQ s (nF n 0) 0 0 (nF n 1) else(s,5))
 else if k=8 then(if zAC s (nF n 0)=true/\zBO s (nF n 1)=true then zDQ s 0 (nF n 0) (nF n 1) (nF n 2) else(s,5))
 else if k=9 then(if zAC s (nF n 0)=true/\zBO s (nF n 1)=true then zDQ s (nF n 0) 0 (nF n 1) (nF n 2) else(s,5))
 else if k=10 then({ s with fee:=nF n 0 },0)
 else if k=11 then zC4 s n else if k=12 then zBW s n else if k=13 then zDn s n
 else if k=14 then zDS s ⟨nF n 0,nF n 1,nF n 2,false,nF n 3,nF n 4,nF n 5,nF n 6,[]⟩
 else if k=15 then zJE s n false
 else if k=16 then zDS s ⟨nF n 0,nF n 1,nF n 2,true,nF n 3,nF n 4,0,nF n 5,[]⟩
 else if k=17 then zJE s n true
 else if k=18 then zGM s n else if k=19 then zCn s n else if k=20 then zHi s n else if k=21 then zBy s n else if k=22 then zDT s n t else zEm s n
def zBg:Sta:=⟨0,0,0,0,[],[],[],[],[]⟩
def zAG (s:Sta)(e:Evt):Sta × Int :=
 if e.v=3/\zk e=true then
  (if (zB6 s e.kind e.nums (e.texts.getD 0 ByteArray.empty)).2=0 then zB6 s e.kind e.nums (e.texts.getD 0 ByteArray.empty) else(zBg,(zB6 s e.kind e.nums (e.texts.getD 0 ByteArray.empty)).2))
 else(zBg,4)
def zM (s:Sta)(e:Evt):Sta × Int:=if zCP s=true then zAG s e else(zBg,4)
def zAx (s:Sta):List Evt->Int->Sta × Int × Int
 | [],i=>(s,i,0)
 | e::l,i=>if (zAG s e).2=0 then zAx (zAG s e).1 l (i+1) else(zBg,i,(zAG s e).2)
def zCs (s:Sta)(l:List Evt):Sta × Int × Int:=if zCP s=true then zAx s l 0 else(zBg,0,4)
def zB4:Sta:=⟨0,0,1,1,[],[],[],[],[]⟩
def evF (k:Int)(n:List Int):Evt:=⟨3,k,n,[]⟩
def evN (k:Int)(t:ByteArray)(n:List Int):Evt:=⟨3,k,n,[t]⟩
def startL:List Evt:=[evN 1 ⟨#[97]⟩ [1],evN 3 ⟨#[120]⟩ [1,100],evN 1 ⟨#[98]⟩ [2],evF 8 [1,1,5],evF 6 [2,1000]]
def awL:List Evt:=startL++[evF 11 [1,1,1,2,100,5],evF 11 [2,2,1,1,200,3]]
def zJF (v:Int)(c:Nat):Int × Int × Bool:=match zDO v c with|some (l,h)=>(l,h,true)|none=>(0,0,false)
theorem zRZ (v:Int)(c:Nat)(w0:World)(hc:c∈[97,105,111,99,113,109,122,112,107,98,116,115]) :
  Cr 140 [.int .u8 v,.int .u8 c] (.tuple #[.int .i64 (zJF v c).1,.int .i64 (zJF v c).2.1,.bool (zJF v c).2.2]) w0:=by{
simp only[List.mem_cons,List.not_mem_nil,or_false] at hc;rcases hc with rfl|rfl|rfl|rfl|rfl|rfl|rfl|rfl|rfl|rfl|rfl|rfl
all_goals
 refine eS func140 ntmps140 fun H=>?_;(repeat' first|refine yW ?_|((first|refine y17 ?_ ?_|refine y23 ?_ ?_);all_goals(intro h;try (exfalso;first|((exact absurd h (by decide));done)|((simp at *;omega);done))))|fail)
all_goals
 refine zAv (vs:=[_,_,_]) ⟨zP rfl,zP rfl,zP rfl,trivial⟩ H.cl ?_;simp only[decide_eq_true_eq,yyy] at *;by_cases hv:1<=v/\v<=3
 .by_cases h3:v<3
  .by_cases h2:v<2
   .first|(exfalso;omega)|(simp only[zJF,zDO,zKd,if_pos hv,h3,h2];rfl)
   .first|(exfalso;omega)|(simp only[zJF,zDO,zKd,if_pos hv,h3,h2];rfl)
  .have h2:¬ v<2:=fun e=>h3 qO;first|(exfalso;omega)|(simp only[zJF,zDO,zKd,if_pos hv,h3,h2];rfl)
 .first|(exfalso;omega)|(simp only[zJF,zDO,if_neg hv];rfl)}
end
section
open Go Go.Sk Go.RowKit Tryz
attribute [local irreducible] Go.Calls
attribute [local semireducible] OX OW
def zD0 (l:List Nat):ByteArray:=⟨(l.map UInt8.ofNat).toArray⟩
theorem zHj (l:List Nat):(zD0 l).size=l.length:=by show(l.map UInt8.ofNat).toArray.size=_;simp
theorem zWm {l:List Nat}(hl:∀ x∈l,x<128){k:Nat}(h:k<(zD0 l).size):((zD0 l)[k]'h).toNat=l.getD k 0/\((zD0 l)[k]'h).toNat<128:=by{
have hk:k<l.length:=by rw[zHj] at h;exact h
have e:(zD0 l)[k]'h=UInt8.ofNat (l[k]):=by simp only[ByteArray.getElem_eq_getElem_data,zD0,List.getElem_toArray,List.getElem_map]
have hm:=hl _ (List.getElem_mem hk);have e2:(UInt8.ofNat (l[k])).toNat=l[k]:=by rw[UInt8.toNat_ofNat'];omega
rw[e,e2,yy2,yy1 hk];exact⟨rfl,hm⟩}
theorem OX.rgS {P:Program}(S:Sig P){n:Nw}{ops:Array Oper}{Q:Exit->Env->World->Prop}{o:Oper}{rest:List Oper}{L:List (Nat × Value)}{b0:Env}{w w0:World}{G:zA}{t:TypeId}{d:Nat}{X:Operand}{s:ByteArray}{ti:TI}(H:St w0 G w)
  (ho:o.op=.range t X) (hd:o.dst=some d) (hlt:Nat.blt d n.n=true) (hx:ev (ovl L b0) X=.string s) (ht:lk S.tab t=some ti) (htd:ti.d=.string)
  (k:∀ r w',St w0 ((r,.stringIter s 0)::G) w'->OW P n ops Q rest (ovl ((d,(pt r))::L) b0) w'):OX P n ops Q o rest (ovl L b0) w:=by intro a ha;unfold Oper.wp;rw[ha.eval];have hr:=run_range_string (P:=P) w t s (by rw[S.und ht,htd]);simp only[execOp,ho,hx,Sem.run_bind,hr,Result.andThen_ok,Sem.run_pure,Oper.upon_value,hd];exact k _ _ (H.alloc _) _ (ha.put hlt _)
theorem OX.nxS {P:Program}{n:Nw}{ops:Array Oper}{Q:Exit->Env->World->Prop}{o:Oper}{rest:List Oper}{L:List (Nat × Value)}{b0:Env}{w w0:World}{G:zA}{r d p:Nat}{X:Operand}{l:List Nat}(hl:∀ x∈l,x<128)(H:St w0 G w)(hr:(r,Obj.stringIter (zD0 l) p)∈G)
  (ho:o.op=.next X true) (hd:o.dst=some d) (hlt:Nat.blt d n.n=true) (hx:ev (ovl L b0) X=(pt r))
  (k0:l.length<=p->OW P n ops Q rest (ovl ((d,.tuple #[.bool false])::L) b0) w)
  (k:p<l.length->∀ w',(∀ G',Up r (.stringIter (zD0 l) p) (.stringIter (zD0 l) (p+1)) G G'->St w0 G' w')->OW P n ops Q rest (ovl ((d,.tuple #[.bool true,.int .i64 p,.int .i32 (l.getD p 0)])::L) b0) w'):OX P n ops Q o rest (ovl L b0) w:=by{
intro a ha;unfold Oper.wp;rw[ha.eval];have hg:=H.mem _ hr;simp only at hg;by_cases h:p<(zD0 l).size
.have hat:=zWm hl h;have hr:(Instr.next ((pt r)) true o.type).run P w=.ok (.tuple #[.bool true,.int .i64 p,.int .i32 (l.getD p 0)]) { w with heap:=w.heap.setIfInBounds r (.stringIter (zD0 l) (p+1)) }:=by simp only[Instr.next,getObj,setObj,Sem.run_bind,Sem.run,hg,Result.andThen,h,if_true,decode_ascii _ p h hat.2,hat.1];rfl
 simp only[execOp,ho,hx,Sem.run_bind,hr,Result.andThen_ok,Sem.run_pure,Oper.upon_value,hd];exact k (by rwa [zHj] at h) _ (fun G' hu=>H.setO hu) _ (ha.put hlt _)
.have hr:(Instr.next ((pt r)) true o.type).run P w=.ok (.tuple #[.bool false]) w:=by simp only[Instr.next,getObj,Sem.run_bind,Sem.run,hg,Result.andThen,h,if_false];rfl
 simp only[execOp,ho,hx,Sem.run_bind,hr,Result.andThen_ok,Sem.run_pure,Oper.upon_value,hd];exact k0 (by rw[zHj] at h;omega) _ (ha.put hlt _)}
set_option maxRecDepth 20000 in
theorem zT6 (v:Int)(c:Nat)(m:Int)(w0:World)(hc:c∈[97,105,111,99,113,109,122,112,107,98,116,115]) :
  Cr 102 [.int .u8 v,.int .u8 c,.int .i64 m] (.bool (zBp v c m)) w0:=by{
refine eS func102 ntmps102 fun H=>?_;(repeat' first|refine yW ?_|(refine c0 ent140 ?_;refine⟨_,zRZ v c _ hc,?_⟩;clear H;intro w H)|(refine y17 ?_ ?_;all_goals intro h)|fail)
all_goals
 refine zG rfl H.cl (congrArg Value.bool ?_);have hf:zBp v c m=((zJF v c).2.2&&decide (m >= (zJF v c).1)&&decide (m<=(zJF v c).2.1)):=by unfold zBp zJF;cases zDO v c<;>rfl
 rw[hf];simp[*]}
end
section
open Go Go.Sk Go.RowKit Tryz
attribute [local irreducible] Go.Calls
section
attribute [local semireducible] Yq
theorem Yq.buildR {P:Program}(S:Sig P){o:Oper}{e:Env}{w:World}{t E:TypeId}{n:Nat}{ti te:TI}{parts:Array (Nat × Operand)}{cs:Array Value}(ho:o.op=.build t parts)(ht:lk S.tab t=some ti)(htd:ti.d=.array n E)(he:lk S.tab E=some te)
  (hf:Instr.fill (fun i=>some (i*te.size,te.size)) ti.zero.toArray (parts.toList.map fun p=>(p.1,ev e p.2))=some cs):Yq P o e w (.agg cs):=by{
intro w' _;have hu:=S.run_und ht w';rw[htd] at hu;obtain⟨f,h1,_,h3⟩:=S.inf ht;obtain⟨zv,hz1,hz2⟩:=Option.map_eq_some_iff.1 h3;have hzv:(zeroValue t).run P w'=.ok zv w':=by simp[zeroValue,typeInfo,h1,hz1]
have hp:(parts.map fun p=>(p.1,ev e p.2)).toList=parts.toList.map fun p=>(p.1,ev e p.2):=by simp
simp only[execOp,ho,Instr.build,Sem.run_bind,hzv,Result.andThen_ok,hu,S.run_size he,hz2];simp[hf]}
end
def kindW:List (List Nat):=[[111,112,101,110,101,100],[99,108,111,115,101,100],[108,105,115,116,101,100],[104,97,108,116,101,100],[114,101,115,117,109,101,100],[100,101,112,111,115,105,116,101,100],[119,105,116,104,100,114,97,119,110],[105,115,115,117,101,100],[114,101,100,101,101,109,101,100],[102,101,101,32,115,101,116],[112,108,97,99,101,100],[99,97,110,99,101,108,108,101,100],[116,114,97,100,101,100],[101,110,103,108,105,115,104],[114,97,105,115,101,100],[115,101,97,108,101,100],[98,105,100],[115,111,108,100],[117,110,115,111,108,100],[109,111,118,101,100],[116,114,97,110,115,102,101,114,114,101,100],[114,101,110,97,109,101,100],[116,105,99,107,101,100]]
structure KRow where
 name:List Nat
 f1:List Nat
 f2:List Nat
 f3:List Nat
 text:Bool
def KRow.cells (r:KRow):List Value:=[.string (zD0 r.name),.string (zD0 r.f1),.string (zD0 r.f2),.string (zD0 r.f3),.bool r.text]
def zJG (i:Nat):KRow:=⟨kindW.getD i [],(zMt.getD i (([32],[32],[32]),false)).1.1,(zMt.getD i (([32],[32],[32]),false)).1.2.1,(zMt.getD i (([32],[32],[32]),false)).1.2.2,(zMt.getD i (([32],[32],[32]),false)).2⟩
def KinM (F:zA):Prop:=∃ cs T fr,SlB F 5 (some ⟨1,0,none⟩) 23 1 0 cs T fr (fun i=>(zJG i).cells)
attribute [local irreducible] zJG
theorem KinM.mono {F G:zA}(h:KinM F)(hs:F⊆G):KinM G:=let ⟨a,b,c,d⟩:=h;⟨a,b,c,d.mono hs⟩
def zAs (kind:Int):KRow:=if 1<=kind/\kind<=23 then zJG (kind - 1).toNat else⟨[],[32],[32],[32],false⟩
theorem zT7 {F:zA}(kind:Int)(hk:0<=kind/\kind<=255)(w0:World)(hF:Mem w0 F)(hK:KinM F) :
  Cr 100 [.int .u8 kind] (.agg (zAs kind).cells.toArray) w0:=by{
obtain⟨cs,T,fr,hs⟩:=hK;rcases Int.lt_or_le kind 1 with h1|h1
.have hlt:decide (kind<1)=true:=yyb h1;refine eS func100 ntmps100 fun H=>?_;(repeat' first|refine yW ?_|(refine yB ?_;intro b w H)|(refine y11 sg H ?_;intro w H)|refine z13 (Yq.buildR (cs:=#[.string ⟨#[32]⟩,.string ⟨#[32]⟩,.string ⟨#[32]⟩]) sg rfl rfl rfl rfl rfl) ?_|fail);refine zAv (vs:=[_]) ⟨zg sg rfl H.mem (zz2 _) rfl rfl,trivial⟩ H.cl ?_;unfold zAs;rw[if_neg qO];rfl
rcases Int.lt_or_le 23 kind with h2|h2
.have hlt:decide (kind<1)=false:=yyc qO;have hgt:decide (IntKind.i64.wrap kind>23)=true:=by rw[w64 qO qO];exact yyb h2
 refine eS func100 ntmps100 fun H=>?_;(repeat' first|refine yW ?_|(refine yB ?_;intro b w H)|(refine y11 sg H ?_;intro w H)|refine z13 (Yq.buildR (cs:=#[.string ⟨#[32]⟩,.string ⟨#[32]⟩,.string ⟨#[32]⟩]) sg rfl rfl rfl rfl rfl) ?_|fail);refine zAv (vs:=[_]) ⟨zg sg rfl H.mem (zz2 _) rfl rfl,trivial⟩ H.cl ?_;unfold zAs;rw[if_neg qO];rfl
.have hlt:decide (kind<1)=false:=yyc qO;have hgt:decide (IntKind.i64.wrap kind>23)=false:=by rw[w64 qO qO];exact yyc qO
 have hq:IntKind.u8.wrap (kind - 1)=((kind - 1).toNat:Int):=by
  obtain⟨m,hm⟩:∃ m:Nat,kind - 1=(m:Int):=⟨(kind - 1).toNat,by omega⟩;rw[hm,Int.toNat_natCast];have:m<256:=by{omega};simp[IntKind.wrap,IntKind.bits,IntKind.signed]
  omega
 refine eS func100 ntmps100 fun H=>?_;(repeat' first|refine yW ?_|(refine yB ?_;intro b w H)|(refine y11 sg H ?_;intro w H)|(refine za rfl rfl (Yq.ixP sg (n:=23) (j:=(kind - 1).toNat) (by rw[hq];exact zz1 _) (by rw[hq];omega) (by rw[hq];omega) rfl rfl rfl rfl rfl rfl) ?_)|(refine za rfl rfl (zA7 sg hs (H.memF hF) rfl rfl rfl rfl rfl qO) ?_)|fail);refine zAv (vs:=[_]) ⟨zg sg rfl H.mem (zz2 _) rfl rfl,trivial⟩ H.cl ?_;unfold zAs;rw[if_pos qO];rfl}
def zAn (r:KRow)(v:Int):List Nat:=if v=1 then r.f1 else if v=2 then r.f2 else r.f3
def u8L (l:List Nat):List Value:=l.map fun(c:Nat)=>Value.int .u8 (c:Int)
def ToldR (r:KRow)(v:Int):zA->Value->Prop:=fun M z =>
 if 1<=v/\v<=3/\32 ∉ zAn r v then ∃ a cap,z=.tuple #[.slice a (zAn r v).length cap,.bool r.text,.bool true]/\Go.Sk.Own M 156 1 a (zAn r v).length cap (u8L (zAn r v))
 else M=[]/\z=.tuple #[.slice none 0 0,.bool false,.bool false]
theorem zWn (r:KRow)(v:Int)(hv:v<1\/3<v)(w0:World) :
  Cf 101 [.agg r.cells.toArray,.int .u8 v] (ToldR r v) w0:=by{
refine eS func101 ntmps101 fun H=>?_;have hor:decide (v<1)=false->decide (v>3)=true:=fun h=>yyb (by have:=zzB h;omega);(repeat' first|refine yW ?_|(refine yB ?_;intro b w H)|((first|refine y17 ?_ ?_|refine y23 ?_ ?_);all_goals(intro h;try (exfalso;first|((have:=hor ‹_›;rw[h] at this;cases this);done))))|fail)
all_goals
 refine zc (vs:=[_,_,_]) (M:=[]) ⟨zP rfl,zP rfl,zP rfl,trivial⟩ (H.sub (zz9 _)) ?_;unfold ToldR;rw[if_neg qO];exact⟨rfl,rfl⟩}
end
section
open Go Go.Sk Go.RowKit Tryz
attribute [local irreducible] Go.Calls
theorem zLj (l:List Nat){k:Nat}(hk:k<l.length):u8L (l.take k)++[Value.int .u8 (l.getD k 0:Nat)]=u8L (l.take (k+1)):=by unfold u8L;rw[yyj hk,List.map_append];simp[yy1 hk]
theorem w8n {n:Nat}(h:n<256):IntKind.u8.wrap (n:Int)=(n:Int):=by simp[IntKind.wrap,IntKind.bits,IntKind.signed];omega
def zMu (r:KRow):Prop:=(∀ x∈r.f1,x<128)/\(∀ x∈r.f2,x<128)/\(∀ x∈r.f3,x<128)/\r.f1.length<=100/\r.f2.length<=100/\r.f3.length<=100
theorem zT8 (r:KRow)(hr:zMu r)(w0:World) :
  Cf 101 [.agg r.cells.toArray,.int .u8 1] (ToldR r 1) w0:=by{
obtain⟨nm,f1,f2,f3,tx⟩:=r;have hl:∀ x∈f1,x<128:=by obtain⟨a1,a2,a3,a4,a5,a6⟩:=hr;assumption
have hlen:f1.length<=100:=by obtain⟨a1,a2,a3,a4,a5,a6⟩:=hr;assumption
have hsel:zAn ⟨nm,f1,f2,f3,tx⟩ 1=f1:=rfl;refine eS func101 ntmps101 fun H=>?_;(repeat' first|refine yX ?_|(refine yB ?_;intro b w H)|refine z13 (Yq.ixP sg (n:=3) (j:=1 - 1) (by decide) (by decide) (by decide) rfl rfl rfl rfl rfl rfl) ?_|(refine OX.rgS sg (s:=zD0 f1) H rfl rfl rfl rfl rfl rfl ?_;intro rr w H)|fail);refine zD [(4,6),(8,8),(21,30)] (fun x:Gr=>[(4,.slice x.a x.k x.cap)]) (fun x w=>x.k<=f1.length/\(∀ j,j<x.k->f1.getD j 0≠32)/\Go.Sk.Own x.M 156 1 x.a x.k x.cap (u8L (f1.take x.k))/\St w0 ((rr,Obj.stringIter (zD0 f1) x.k)::cb _ (KRow.mk nm f1 f2 f3 tx).cells 153::x.M) w) (fun x=>f1.length - x.k) ⟨0,none,0,[]⟩ ⟨rfl,trivial⟩ ⟨zzD _,fun j hj=>absurd hj (zzE _),zWD _ _ _,H⟩ ?_;clear H;rintro⟨k,ao,co,M⟩ gh w ⟨hk,hno,hO,H⟩;simp only at hk hno hO H ⊢;(repeat' first|refine yX ?_|(refine OX.nxS hl H (zz2 _) rfl rfl rfl rfl (fun hnx=>?_) ?_;rotate_left;intro hnx w hup;replace H:=hup _ Up.here;clear hup)|(refine qN H ?_;clear H;intro w H)|refine y20 mixed ?_|fail)
.refine zB rfl (fun h=>?_) (fun h=>?_)
 .have h32:f1.getD k 0=32:=by have:=eqI h;omega
  have hmem:32∈f1:=by rw[<- h32];exact zAP 0 hnx
  clear h;(repeat' first|refine yX ?_|fail);refine zc (vs:=[_,_,_]) (M:=[]) ⟨zP rfl,zP rfl,zP rfl,trivial⟩ (H.sub (zz9 _)) ?_;unfold ToldR;rw[hsel,if_neg (fun e=>e.2.2 hmem)];exact⟨rfl,rfl⟩
 .have h32:f1.getD k 0≠32:=fun e=>by rw[e] at h;exact absurd h (by decide)
  have hlt:f1.getD k 0<256:=by have:=hl _ (zAP 0 hnx);omega
  clear h;(repeat' first|refine yX ?_|(refine yB ?_;intro b w H)|(have hp:=H.perm (yyg (l₁:=[_,_,_]) (l₂:=M));refine zY sg 1 1 (M:=M) hp rfl rfl rfl rfl rfl rfl rfl rfl rfl rfl rfl hO (zh hp.mem (zz3 _ (zz2 _))) rfl (zx rfl) (by unfold maxLen;omega) qO ?_;clear hp hO;intro ao co M w hO H;replace H:=H.perm (yyg (l₁:=M) (l₂:=[_,_,_])))|fail);exact zC ⟨k+1,ao,co,M⟩ rfl ⟨rfl,trivial⟩ ⟨hnx,fun j (hj:j<k+1)=>by by_cases e:j=k;(· rw[e];exact h32);exact hno j qO,by show Go.Sk.Own M _ 1 ao (k+1) co _;rw[<- zLj _ hnx,<- w8n hlt];exact hO,H.sub (zz7 _ _)⟩ (by show f1.length - (k+1)<f1.length - k;omega)
.obtain rfl:k=f1.length:=by omega
 rw[List.take_length] at hO;have hm:32 ∉ f1:=fun hm=>by obtain⟨j,hj,e⟩:=zBd (d:=0) hm;exact hno j hj e
 refine zc (vs:=[_,_,_]) (M:=M) ⟨zP rfl,zP rfl,zP rfl,trivial⟩ ((H.sub (zz7 _ _)).sub (zz7 _ _)) ?_;unfold ToldR;rw[hsel,if_pos ⟨by decide,by decide,hm⟩];exact⟨ao,co,rfl,hO⟩}
theorem zT9 (r:KRow)(hr:zMu r)(w0:World) :
  Cf 101 [.agg r.cells.toArray,.int .u8 2] (ToldR r 2) w0:=by{
obtain⟨nm,f1,f2,f3,tx⟩:=r;have hl:∀ x∈f2,x<128:=by obtain⟨a1,a2,a3,a4,a5,a6⟩:=hr;assumption
have hlen:f2.length<=100:=by obtain⟨a1,a2,a3,a4,a5,a6⟩:=hr;assumption
have hsel:zAn ⟨nm,f1,f2,f3,tx⟩ 2=f2:=rfl;refine eS func101 ntmps101 fun H=>?_;(repeat' first|refine yX ?_|(refine yB ?_;intro b w H)|refine z13 (Yq.ixP sg (n:=3) (j:=2 - 1) (by decide) (by decide) (by decide) rfl rfl rfl rfl rfl rfl) ?_|(refine OX.rgS sg (s:=zD0 f2) H rfl rfl rfl rfl rfl rfl ?_;intro rr w H)|fail);refine zD [(4,6),(8,8),(21,30)] (fun x:Gr=>[(4,.slice x.a x.k x.cap)]) (fun x w=>x.k<=f2.length/\(∀ j,j<x.k->f2.getD j 0≠32)/\Go.Sk.Own x.M 156 1 x.a x.k x.cap (u8L (f2.take x.k))/\St w0 ((rr,Obj.stringIter (zD0 f2) x.k)::cb _ (KRow.mk nm f1 f2 f3 tx).cells 153::x.M) w) (fun x=>f2.length - x.k) ⟨0,none,0,[]⟩ ⟨rfl,trivial⟩ ⟨zzD _,fun j hj=>absurd hj (zzE _),zWD _ _ _,H⟩ ?_;clear H;rintro⟨k,ao,co,M⟩ gh w ⟨hk,hno,hO,H⟩;simp only at hk hno hO H ⊢;(repeat' first|refine yX ?_|(refine OX.nxS hl H (zz2 _) rfl rfl rfl rfl (fun hnx=>?_) ?_;rotate_left;intro hnx w hup;replace H:=hup _ Up.here;clear hup)|(refine qN H ?_;clear H;intro w H)|refine y20 mixed ?_|fail)
.refine zB rfl (fun h=>?_) (fun h=>?_)
 .have h32:f2.getD k 0=32:=by have:=eqI h;omega
  have hmem:32∈f2:=by rw[<- h32];exact zAP 0 hnx
  clear h;(repeat' first|refine yX ?_|fail);refine zc (vs:=[_,_,_]) (M:=[]) ⟨zP rfl,zP rfl,zP rfl,trivial⟩ (H.sub (zz9 _)) ?_;unfold ToldR;rw[hsel,if_neg (fun e=>e.2.2 hmem)];exact⟨rfl,rfl⟩
 .have h32:f2.getD k 0≠32:=fun e=>by rw[e] at h;exact absurd h (by decide)
  have hlt:f2.getD k 0<256:=by have:=hl _ (zAP 0 hnx);omega
  clear h;(repeat' first|refine yX ?_|(refine yB ?_;intro b w H)|(have hp:=H.perm (yyg (l₁:=[_,_,_]) (l₂:=M));refine zY sg 1 1 (M:=M) hp rfl rfl rfl rfl rfl rfl rfl rfl rfl rfl rfl hO (zh hp.mem (zz3 _ (zz2 _))) rfl (zx rfl) (by unfold maxLen;omega) qO ?_;clear hp hO;intro ao co M w hO H;replace H:=H.perm (yyg (l₁:=M) (l₂:=[_,_,_])))|fail);exact zC ⟨k+1,ao,co,M⟩ rfl ⟨rfl,trivial⟩ ⟨hnx,fun j (hj:j<k+1)=>by by_cases e:j=k;(· rw[e];exact h32);exact hno j qO,by show Go.Sk.Own M _ 1 ao (k+1) co _;rw[<- zLj _ hnx,<- w8n hlt];exact hO,H.sub (zz7 _ _)⟩ (by show f2.length - (k+1)<f2.length - k;omega)
.obtain rfl:k=f2.length:=by omega
 rw[List.take_length] at hO;have hm:32 ∉ f2:=fun hm=>by obtain⟨j,hj,e⟩:=zBd (d:=0) hm;exact hno j hj e
 refine zc (vs:=[_,_,_]) (M:=M) ⟨zP rfl,zP rfl,zP rfl,trivial⟩ ((H.sub (zz7 _ _)).sub (zz7 _ _)) ?_;unfold ToldR;rw[hsel,if_pos ⟨by decide,by decide,hm⟩];exact⟨ao,co,rfl,hO⟩}
theorem zUA (r:KRow)(hr:zMu r)(w0:World) :
  Cf 101 [.agg r.cells.toArray,.int .u8 3] (ToldR r 3) w0:=by{
obtain⟨nm,f1,f2,f3,tx⟩:=r;have hl:∀ x∈f3,x<128:=by obtain⟨a1,a2,a3,a4,a5,a6⟩:=hr;assumption
have hlen:f3.length<=100:=by obtain⟨a1,a2,a3,a4,a5,a6⟩:=hr;assumption
have hsel:zAn ⟨nm,f1,f2,f3,tx⟩ 3=f3:=rfl;refine eS func101 ntmps101 fun H=>?_;(repeat' first|refine yX ?_|(refine yB ?_;intro b w H)|refine z13 (Yq.ixP sg (n:=3) (j:=3 - 1) (by decide) (by decide) (by decide) rfl rfl rfl rfl rfl rfl) ?_|(refine OX.rgS sg (s:=zD0 f3) H rfl rfl rfl rfl rfl rfl ?_;intro rr w H)|fail);refine zD [(4,6),(8,8),(21,30)] (fun x:Gr=>[(4,.slice x.a x.k x.cap)]) (fun x w=>x.k<=f3.length/\(∀ j,j<x.k->f3.getD j 0≠32)/\Go.Sk.Own x.M 156 1 x.a x.k x.cap (u8L (f3.take x.k))/\St w0 ((rr,Obj.stringIter (zD0 f3) x.k)::cb _ (KRow.mk nm f1 f2 f3 tx).cells 153::x.M) w) (fun x=>f3.length - x.k) ⟨0,none,0,[]⟩ ⟨rfl,trivial⟩ ⟨zzD _,fun j hj=>absurd hj (zzE _),zWD _ _ _,H⟩ ?_;clear H;rintro⟨k,ao,co,M⟩ gh w ⟨hk,hno,hO,H⟩;simp only at hk hno hO H ⊢;(repeat' first|refine yX ?_|(refine OX.nxS hl H (zz2 _) rfl rfl rfl rfl (fun hnx=>?_) ?_;rotate_left;intro hnx w hup;replace H:=hup _ Up.here;clear hup)|(refine qN H ?_;clear H;intro w H)|refine y20 mixed ?_|fail)
.refine zB rfl (fun h=>?_) (fun h=>?_)
 .have h32:f3.getD k 0=32:=by have:=eqI h;omega
  have hmem:32∈f3:=by rw[<- h32];exact zAP 0 hnx
  clear h;(repeat' first|refine yX ?_|fail);refine zc (vs:=[_,_,_]) (M:=[]) ⟨zP rfl,zP rfl,zP rfl,trivial⟩ (H.sub (zz9 _)) ?_;unfold ToldR;rw[hsel,if_neg (fun e=>e.2.2 hmem)];exact⟨rfl,rfl⟩
 .have h32:f3.getD k 0≠32:=fun e=>by rw[e] at h;exact absurd h (by decide)
  have hlt:f3.getD k 0<256:=by have:=hl _ (zAP 0 hnx);omega
  clear h;(repeat' first|refine yX ?_|(refine yB ?_;intro b w H)|(have hp:=H.perm (yyg (l₁:=[_,_,_]) (l₂:=M));refine zY sg 1 1 (M:=M) hp rfl rfl rfl rfl rfl rfl rfl rfl rfl rfl rfl hO (zh hp.mem (zz3 _ (zz2 _))) rfl (zx rfl) (by unfold maxLen;omega) qO ?_;clear hp hO;intro ao co M w hO H;replace H:=H.perm (yyg (l₁:=M) (l₂:=[_,_,_])))|fail);exact zC ⟨k+1,ao,co,M⟩ rfl ⟨rfl,trivial⟩ ⟨hnx,fun j (hj:j<k+1)=>by by_cases e:j=k;(· rw[e];exact h32);exact hno j qO,by show Go.Sk.Own M _ 1 ao (k+1) co _;rw[<- zLj _ hnx,<- w8n hlt];exact hO,H.sub (zz7 _ _)⟩ (by show f3.length - (k+1)<f3.length - k;omega)
.obtain rfl:k=f3.length:=by omega
 rw[List.take_length] at hO;have hm:32 ∉ f3:=fun hm=>by obtain⟨j,hj,e⟩:=zBd (d:=0) hm;exact hno j hj e
 refine zc (vs:=[_,_,_]) (M:=M) ⟨zP rfl,zP rfl,zP rfl,trivial⟩ ((H.sub (zz7 _ _)).sub (zz7 _ _)) ?_;unfold ToldR;rw[hsel,if_pos ⟨by decide,by decide,hm⟩];exact⟨ao,co,rfl,hO⟩}
theorem zQB (r:KRow)(hr:zMu r)(v:Int)(w0:World):Cf 101 [.agg r.cells.toArray,.int .u8 v] (ToldR r v) w0:=by{
by_cases h:v<1\/3<v
.exact zWn r v h w0
.have h3:v=1\/v=2\/v=3:=by omega
 rcases h3 with rfl|rfl|rfl
 .exact zT8 r hr w0
 .exact zT9 r hr w0
 .exact zUA r hr w0}
theorem zUB (kind:Int):zMu (zAs kind):=by{
have key:∀ i,i<23->zMu (zJG i):=by
 intro i hi;have:∀ r∈(List.range 23).map zJG,(r.f1.all (fun x=>decide (x<128))&&r.f2.all (fun x=>decide (x<128))&&r.f3.all (fun x=>decide (x<128))&&decide (r.f1.length<=100)&&decide (r.f2.length<=100)&&decide (r.f3.length<=100))=true:=by unfold zJG;decide
 have h:=this _ (List.mem_map.2 ⟨i,List.mem_range.2 hi,rfl⟩);simp only[yy3,yye,decide_eq_true_eq] at h;exact⟨h.1.1.1.1.1,h.1.1.1.1.2,h.1.1.1.2,h.1.1.2,h.1.2,h.2⟩
unfold zAs;split
.exact key _ qO
.exact⟨by simp,by simp,by simp,by simp,by simp,by simp⟩}
theorem ToldR.out {r:KRow}{v:Int}{M:zA}{z:Value}(h:ToldR r v M z):∃ a n cap t i,z=.tuple #[.slice a n cap,.bool t,.bool i]/\ToldR r v M (.tuple #[.slice a n cap,.bool t,.bool i]):=by{
have h0:=h;unfold ToldR at h;split at h
.obtain⟨a,cap,rfl,hO⟩:=h;exact⟨_,_,_,_,_,rfl,h0⟩
.obtain⟨rfl,rfl⟩:=h;exact⟨_,_,_,_,_,rfl,h0⟩}
theorem zMv {F:zA}(v kind:Int)(hk:0<=kind/\kind<=255)(w0:World)(hF:Mem w0 F)(hK:KinM F) :
  Cf 66 [.int .u8 v,.int .u8 kind] (ToldR (zAs kind) v) w0:=by refine eS func66 ntmps66 fun H=>?_;(repeat' first|refine yX ?_|(refine c0 ent100 ?_;refine⟨_,zT7 kind hk _ (H.memF hF) hK,?_⟩;clear H;intro w H)|(refine f0 zS9 ?_;refine⟨_,zQB (zAs kind) (zUB kind) v _,?_⟩;clear H;intro z M w hR H;(try simp only[zca,zcb] at H);obtain⟨a,n,cap,t,i,rfl,hR⟩:=hR.out)|fail);exact zc (vs:=[_,_,_]) (M:=M) ⟨zP rfl,zP rfl,zP rfl,trivial⟩ H hR
def clsL:List Nat:=[97,105,111,99,113,109,122,112,107,98,116,115]
theorem zWo (l:List Nat):u8L l=(List.range l.length).flatMap fun j=>[Value.int .u8 (l.getD j 0:Nat)]:=by{
unfold u8L;have:∀ k,k<=l.length->(l.take k).map (fun(c:Nat)=>Value.int .u8 (c:Int))=(List.range k).flatMap fun j=>[Value.int .u8 (l.getD j 0:Nat)]:=by
 intro k;induction k with
 | zero=>intro _;rfl
 | succ k ih =>
   intro hk;rw[yys,yy9,yya,<- ih qO,yyj qO,List.map_append];simp[yy1 (show k<l.length by omega)]
rw[<- this _ (Nat.le_refl _),List.take_length]}
theorem zUC {F G:zA}(v:Int)(l:List Nat)(hl:∀ c∈l,c∈clsL)(nums:List Int){a an:OA}{cap ncap:Nat}(w0:World)(hF:Mem w0 F)(hG:Mem w0 G)(h1:SlA G 1 a l.length cap fun j=>[Value.int .u8 (l.getD j 0:Nat)])(h2:Ints F an ncap nums) :
  Cr 67 [.int .u8 v,.slice a l.length cap,.slice an nums.length ncap] (.bool (zBU v l nums)) w0:=by{
obtain⟨hn1,hc1,b1,off1,cs1,T1,fr1,hs1⟩:=h1;obtain⟨hn2,hc2,b2,off2,cs2,T2,fr2,hs2⟩:=h2;refine eS func67 ntmps67 fun H=>?_;(repeat' first|refine yX ?_|fail);refine zB rfl (fun h=>?_) (fun h=>?_)
·(repeat' first|refine yX ?_|fail);refine zG rfl H.cl (congrArg Value.bool ?_);unfold zBU;have h:l.length≠nums.length:=fun e=>by rw[e] at h;simp at h
 rw[beq_eq_false_iff_ne.2 h];rfl
.have he:l.length=nums.length:=by simp at h;omega
 clear h;(repeat' first|refine yX ?_|fail);refine zD [(6,8),(16,29)] (fun k:Nat=>[(16,.int .i64 (k:Int))]) (fun k w=>k<=l.length/\(∀ j,j<k->zBp v (l.getD j 0) (nums.getD j 0)=true)/\St w0 [] w) (fun k=>l.length - k) 0 ⟨rfl,trivial⟩ ⟨zzD _,fun j hj=>absurd hj (zzE _),H⟩ ?_;clear H;rintro k g w ⟨hk,hpk,H⟩;(repeat' first|refine yX ?_|fail);refine zB rfl (fun h=>?_) (fun h=>?_)
 .have hlt:k<l.length:=by{simpa using h};clear h
  (repeat' first|refine yX ?_|refine x40 sg hs1 ?_|refine z13 (zLB sg hs1 (H.memF hG) hlt) ?_|refine x40 sg hs2 ?_|refine z13 (zLB sg hs2 (H.memF hF) (show k<nums.length by omega)) ?_|(refine c0 ent102 ?_;refine⟨_,zT6 v (l.getD k 0) (nums.getD k 0) _ (hl _ (zAP 0 hlt)),?_⟩;clear H;intro w H)|fail);refine zB rfl (fun h=>?_) (fun h=>?_)
  ·(repeat' first|refine yX ?_|fail);refine zG rfl H.cl (congrArg Value.bool ?_);have hf:zBp v (l.getD k 0) (nums.getD k 0)=false:=by{simpa using h};symm
   unfold zBU;rw[Bool.and_eq_false_iff];refine .inr (Bool.eq_false_iff.2 fun e=>?_);have:=List.all_eq_true.1 e k (List.mem_range.2 hlt);rw[hf] at this;cases this
  ·(repeat' first|refine yX ?_|fail);refine zC (k+1) rfl ⟨zU qO,trivial⟩ ⟨hlt,fun j hj=>?_,H⟩ qO;by_cases hj':j=k
   .rw[hj'];simpa using h
   .exact hpk j qO
 ·(repeat' first|refine yX ?_|fail);have hkn:k=l.length:=by simp at h;omega
  refine zG rfl H.cl (congrArg Value.bool ?_);symm;unfold zBU;rw[yy3,yye];exact⟨by rw[he];exact beq_self_eq_true _,fun j hj=>hpk j (by have:=List.mem_range.1 hj;omega)⟩}
theorem cls_ev {v kind:Int}(h:32 ∉ zAn (zAs kind) v):∀ c∈zAn (zAs kind) v,c∈clsL:=by{
have key:∀ r∈(List.range 23).map zJG,∀ l∈[r.f1,r.f2,r.f3],32∈l\/∀ c∈l,c∈clsL:=by unfold zJG;decide
have h2:∀ r,zAn r v∈[r.f1,r.f2,r.f3]:=fun r=>by
 unfold zAn;split
 .simp
 .split<;>simp
unfold zAs at h ⊢;split at h
.rename_i hk;rw[if_pos hk];rcases key _ (List.mem_map.2 ⟨(kind - 1).toNat,List.mem_range.2 qO,rfl⟩) _ (h2 _) with e|e
 .exact absurd e h
 .exact e
.exfalso;apply h;unfold zAn;split
 .simp
 .split<;>simp}
theorem zEB (v kind:Int):zAg v kind=if 1<=v/\v<=3/\32 ∉ zAn (zAs kind) v then some (zAn (zAs kind) v,(zAs kind).text) else none:=by{
by_cases hv:1<=v/\v<=3
.have e:zBT v kind=(zAn (zAs kind) v,(zAs kind).text):=by
  unfold zBT zAs zAn zJG;by_cases hk:1<=kind/\kind<=23
  .rw[if_pos hk,if_pos hk]
  .rw[if_neg hk,if_neg hk];simp
 unfold zAg;rw[e]
.unfold zAg;rw[if_neg (fun h=>hv ⟨h.1,h.2.1⟩),if_neg (fun h=>hv ⟨h.1,h.2.1⟩)]}
structure EPt where
 na:OA
 nc:Nat
 ta:OA
 tc:Nat
def Evt.cells (e:Evt)(p:EPt):List Value:=[.int .u8 e.v,.int .u8 e.kind,.slice p.na e.nums.length p.nc,.slice p.ta e.texts.length p.tc]
structure EvtM (F:zA)(e:Evt)(p:EPt):Prop where
 nums:Ints F p.na p.nc e.nums
 texts:SlA F 1 p.ta e.texts.length p.tc fun j=>[Value.string (e.texts.getD j ByteArray.empty)]
theorem EvtM.mono {F G:zA}{e:Evt}{p:EPt}(h:EvtM F e p)(hs:F⊆G):EvtM G e p:=⟨SlA.mono h.nums hs,SlA.mono h.texts hs⟩
def zAr (e:Evt):Prop:=(0<=e.v/\e.v<=255)/\(0<=e.kind/\e.kind<=255)/\∀ t∈e.texts,t.size<=140737488355328
theorem ToldR.cases {r:KRow}{v:Int}{M:zA}{z:Value}(h:ToldR r v M z)(hl:(zAn r v).length<=100) :
  ((1<=v/\v<=3/\32 ∉ zAn r v)/\∃ a cap,z=.tuple #[.slice a (zAn r v).length cap,.bool r.text,.bool true]/\SlA M 1 a (zAn r v).length cap fun j=>[Value.int .u8 ((zAn r v).getD j 0:Nat)]) \/
  (¬(1<=v/\v<=3/\32 ∉ zAn r v)/\z=.tuple #[.slice none 0 0,.bool false,.bool false]):=by{
unfold ToldR at h;split at h
.rename_i hc;obtain⟨a,cap,rfl,hO⟩:=h;rw[zWo] at hO;exact .inl ⟨hc,a,cap,rfl,hO.sl (fun _ hx=>hx) (fun _ _=>rfl) qO⟩
.rename_i hc;exact .inr ⟨hc,h.2⟩}
theorem zEn (kind v:Int):(zAn (zAs kind) v).length<=100:=by{
obtain⟨_,_,_,a,b,c⟩:=zUB kind;unfold zAn;split
.exact a
.split
 .exact b
 .exact c}
theorem zEo {F:zA}(e:Evt)(p:EPt)(he:zAr e)(w0:World)(hF:Mem w0 F)(hK:KinM F)(hE:EvtM F e p) :
  Cr 30 [.agg (e.cells p).toArray] (.bool (zk e)) w0:=by{
obtain⟨hn2,hc2,b2,off2,cs2,T2,fr2,hs2⟩:=hE.texts;refine eS func30 ntmps30 fun H=>?_;(repeat' first|refine yX ?_|(refine yB ?_;intro b w H)|(refine f0 zMe ?_;refine⟨_,zMv e.v e.kind he.2.1 _ (H.memF hF) hK,?_⟩;clear H;intro z M w hR H;(try simp only[zca,zcb] at H);obtain⟨hc,a,cap,rfl,hO⟩|⟨hc,rfl⟩:=hR.cases (zEn _ _))|(refine c0 ent67 ?_;refine⟨_,zUC e.v _ (cls_ev hc.2.2) e.nums _ (H.memF hF) H.mem (hO.mono (fun x hx=>zz4 _ hx)) hE.nums,?_⟩;clear H;intro w H)|fail)
.have hf:zk e=(zBU e.v (zAn (zAs e.kind) e.v) e.nums&&(if (zAs e.kind).text then e.texts.length==1&&zAE (e.texts.getD 0 ByteArray.empty) else e.texts.length==0)):=by unfold zk;rw[zEB,if_pos hc]
 refine zB rfl (fun h=>?_) (fun h=>?_)
 ·(repeat' first|refine yX ?_|fail);have h:zBU e.v (zAn (zAs e.kind) e.v) e.nums=false:=by{simpa using h};exact zG rfl H.cl (by rw[hf,h];rfl)
 .have hnum:zBU e.v (zAn (zAs e.kind) e.v) e.nums=true:=by{simpa using h};clear h
  (repeat' first|refine yX ?_|fail);refine zB rfl (fun ht=>?_) (fun ht=>?_)
  .by_cases h1:e.texts.length=1
   .have hd:((e.texts.length:Int)==1)=true:=by rw[h1];rfl
    (repeat' first|refine yW ?_|refine x40 sg hs2 ?_|refine z13 (zLB sg hs2 (H.memF hF) (show 0<e.texts.length by omega)) ?_|(refine c0 zS5 ?_;refine⟨_,zHe (e.texts.getD 0 ByteArray.empty) (he.2.2 _ (zAP _ qO)) _,?_⟩;clear H;intro w H)|fail);exact zG rfl H.cl (by rw[hf,hnum,ht,h1];rfl)
   .have hd:((e.texts.length:Int)==1)=false:=beq_eq_false_iff_ne.2 qO;(repeat' first|refine yW ?_|fail);exact zG rfl H.cl (by rw[hf,hnum,ht,beq_eq_false_iff_ne.2 h1];simp[*])
  ·(repeat' first|refine yX ?_|fail);exact zG rfl H.cl (by rw[hf,hnum,ht];simp;rw[Bool.eq_iff_iff];simp)
.have hf:zk e=false:=by unfold zk;rw[zEB,if_neg hc]
 exact zG rfl H.cl (by rw[hf])}
def zBh (c:Nat)(z:Nat->Nat)(n:Nat):Nat->Nat
 | 0=>n
 | k+1=>if zBh c z n k<=c then zBh c z n k+z k else zBh c z n k
theorem zGz {c:Nat}{z:Nat->Nat}{n B:Nat}:∀ k,(∀ j,j<k->z j<=B)->zBh c z n k<=n+c+B
 | 0,_=>by unfold zBh;omega
 | k+1,h=>by
   have:=zGz (c:=c) (n:=n) k fun j hj=>h j qO
   have hk:=h k qO
   unfold zBh
   split<;>omega
theorem zFZ {c:Nat}{z:Nat->Nat}{n k:Nat}:∀ {m:Nat},k<=m->¬ (k<m/\zBh c z n k<=c)->zBh c z n m=zBh c z n k
 | 0, hk, h => by obtain rfl:k=0:=by omega
                  rfl
 | m+1,hk,h=>by
   by_cases hm:k=m+1
   .rw[hm]
   .have ih:=zFZ (c:=c) (z:=z) (n:=n) (k:=k) (m:=m) qO qO
    rw[zBh,ih,if_neg qO]
theorem zId (c:Nat)(z:Nat->Nat)(n:Nat):∀ m,zBh c z n m<=c->n<=zBh c z n m/\∀ k,k<m->z k<=zBh c z n m
 | 0,_=>⟨zzC _,fun k hk=>absurd hk (zzE k)⟩
 | m+1,h=>by
   rw[zBh] at h ⊢
   by_cases h1:zBh c z n m<=c
   .rw[if_pos h1] at h ⊢
    obtain⟨a,b⟩:=zId c z n m h1
    refine⟨by omega,fun k hk=>?_⟩
    by_cases hkm:k=m
    .subst hkm;omega
    .have:=b k qO;omega
   .rw[if_neg h1] at h;exact absurd h h1
def lgN (s:Sta):Nat:=s.accts.length+s.insts.length+s.rows.length+s.orders.length+s.aucs.length
def zLk (s:Sta)(k:Nat):Nat:=min (s.aucs.getD k default).bids.length 1501
def zLl (s:Sta)(k:Nat):Nat:=(ac_ s.accts k).name.size / 300
def zLm (s:Sta)(k:Nat):Nat:=(in_ s.insts k).name.size / 300
def lgU (s:Sta):Nat:=zBh 1500 (zLk s) (lgN s) s.aucs.length
def lgA (s:Sta):Nat:=zBh 1500 (zLl s) (lgU s) s.accts.length
def lgI (s:Sta):Nat:=zBh 1500 (zLm s) (lgA s) s.insts.length
def zCx (s:Sta):Bool:=decide ((lgI s:Int)>1500)
structure Smal (s:Sta):Prop where
 n:s.accts.length+s.insts.length+s.rows.length+s.orders.length+s.aucs.length<=1500
 acN:∀ k,k<s.accts.length->(ac_ s.accts k).name.size<=451000
 insN:∀ k,k<s.insts.length->(in_ s.insts k).name.size<=451000
 bd:∀ k,k<s.aucs.length->(s.aucs.getD k default).bids.length<=1500
theorem zCt {s:Sta}(h:zCx s=false):Smal s:=by
 have h0:lgI s<=1500:=by unfold zCx at h;have:=zzB h;omega
 obtain⟨c1,c2⟩:=zId 1500 (zLm s) (lgA s) s.insts.length h0;have e3:zBh 1500 (zLm s) (lgA s) s.insts.length=lgI s:=rfl;rw[e3] at c1 c2;obtain⟨b1,b2⟩:=zId 1500 (zLl s) (lgU s) s.accts.length (show lgA s<=1500 by omega);have e2:zBh 1500 (zLl s) (lgU s) s.accts.length=lgA s:=rfl;rw[e2] at b1 b2;obtain⟨a1,a2⟩:=zId 1500 (zLk s) (lgN s) s.aucs.length (show lgU s<=1500 by omega);have e1:zBh 1500 (zLk s) (lgN s) s.aucs.length=lgU s:=rfl;rw[e1] at a1 a2;unfold lgN at a1;exact⟨by omega,fun k hk=>by have:zLl s k<=_:=b2 k hk;unfold zLl at this;omega,fun k hk=>by have:zLm s k<=_:=c2 k hk;unfold zLm at this;omega,fun k hk=>by have:zLk s k<=_:=a2 k hk;unfold zLk at this;omega⟩
theorem zMw {z:Nat->Nat}{c n k m q d:Nat}{D:Int}(hm:zBh c z n k=m)(hle:m<=c)(hz:min q d=z k)(hd:(d:Int)=D)(hc:c<=1500)(hdb:d<=1501):IntKind.i64.wrap ((m:Int)+if D<(q:Int) then D else(q:Int))=((zBh c z n (k+1):Nat):Int):=by rw[zBh,hm,if_pos hle,<- hz,<- hd];split<;>rw[w64 qO qO]<;>omega
theorem zMx {z:Nat->Nat}{n k m q:Nat}(hm:zBh 1500 z n k=m)(hle:m<=1500)(hz:q / 300=z k)(hq:q<=140737488355328):IntKind.i64.wrap ((m:Int)+IntKind.i64.wrap ((q:Int).tdiv 300))=((zBh 1500 z n (k+1):Nat):Int):=by have e:(q:Int).tdiv 300=((q / 300:Nat):Int):=rfl;rw[zBh,hm,if_pos hle,<- hz,e,w64 (x:=((q / 300:Nat):Int)) qO qO,w64 qO qO];omega
theorem zIe {k n m c:Nat}{C:Int}(hc:(c:Int)=C)(h:¬ (k<n/\m<=c))(b:Prop)(h1:decide ((k:Int)<(n:Int))=true)(h2:decide ((m:Int)<=C)=true):b:=by have:=zzA h1;have:=zzA h2;omega
end
end Go.Proofs.YtejhijhnlogikaaGreatDoor
