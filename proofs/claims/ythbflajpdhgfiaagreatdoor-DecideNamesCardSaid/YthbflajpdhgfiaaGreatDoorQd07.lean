/- Texts of ours, joined: the steps of the proof, or the claim's theorem. -/
import Derived.Test.YthbflajpdhgfiaaGreatDoorQd06
set_option linter.all false
set_option maxHeartbeats 16000000
namespace Go.Proofs.YthbflajpdhgfiaaGreatDoor
open Go Go.Sk Go.RowKit
structure Evt where
 v:Int
 kind:Int
 nums:List Int
 texts:List ByteArray
def zK8:List ((List Nat × List Nat × List Nat) × Bool) :=
 [(([97],[97],[97]),true),(([97],[97],[97]),false),(([105],[105,107],[105,107]),true),(([105],[105],[105]),false),(([105],[105],[105]),false),
  (([97,109],[97,109],[97,109]),false),(([97,109],[97,109],[97,109]),false),(([97,105,113],[97,105,113],[97,105,113]),false),(([97,105,113],[97,105,113],[97,105,113]),false),(([98],[98],[98]),false),
  (([111,97,105,115,112,113],[111,97,105,115,112,113],[111,97,105,115,112,113]),false),(([111],[111],[111]),false),(([111,111,112,113],[111,111,112,113,122],[111,111,112,113,122]),false),
  (([99,97,105,113,109,116],[99,97,105,113,109,109,116],[99,97,105,113,109,109,116]),false),(([99,97,109],[99,97,109],[99,97,109]),false),(([99,97,105,113,109,116],[99,97,105,113,109,116],[99,97,105,113,109,116]),false),(([99,97,109],[99,97,109],[99,97,109]),false),
  (([99,97,109],[99,97,109,122],[99,97,109,122]),false),(([99],[99],[99]),false),(([116],[116],[116]),false),(([32],[97,97,109],[97,97,109]),false),(([32],[32],[97]),true),(([32],[32],[105,107]),false)]
def zJy (v kind:Int):List Nat × Bool :=
 if 1≤kind∧kind≤23 then
  let r:=zK8.getD (kind - 1).toNat (([32],[32],[32]),false)
  (if v=1 then r.1.1 else if v=2 then r.1.2.1 else r.1.2.2,r.2)
 else([32],false)
def zF7 (v kind:Int):Option (List Nat × Bool):=if 1≤v∧v≤3∧32 ∉ (zJy v kind).1 then some (zJy v kind) else none
def zNz (c:Nat):Option (Int × Int) :=
 if c=97 then some (64,1) else if c=105 then some (16,1) else if c=111∨c=99 then some (1099511627776,1) else if c=113 then some (1048576,1)
 else if c=109∨c=122 then some (1125899906842624,100) else if c=112∨c=107 then some (1073741824,100) else if c=98 then some (1000,100)
 else if c=116 then some (1099511627776,10) else if c=115 then some (2,1) else none
def zED (v:Int)(c:Nat):Option (Int × Int) :=
 if 1≤v∧v≤3 then
  match zNz c with
  | none=>none
  | some (h,by_) =>
    if v<3∧c=115 then some (0,1)
    else some (if c=122∨c=98 then 0 else 1,if (v<3∧c=116)∨(v<2∧by_=100) then h / by_ else h)
 else none
def zCe (v:Int)(c:Nat)(n:Int):Bool:=match zED v c with|some (l,h)=>decide (l≤n)&&decide (n≤h)|none=>false
def zBG (v:Int)(l:List Nat)(n:List Int):Bool:=l.length==n.length&&(List.range l.length).all fun i=>zCe v (l.getD i 0) (n.getD i 0)
def zCE (e:Evt):Bool :=
 match zF7 e.v e.kind with
 | none=>false
 | some (l,text)=>zBG e.v l e.nums&&(if text then e.texts.length==1&&zAI (e.texts.getD 0 ByteArray.empty) else e.texts.length==0)
structure Pst where
 acct:Int
 asset:Int
 free:Int
 held:Int
abbrev Pl:=Int × Int
def zBo:List Pl:=(List.range 65).flatMap fun(a:Nat)=>(List.range 17).map fun(s:Nat)=>((a:Int),(s:Int))
def atR (l:List Row4)(x:Pl):Int × Int:=match l.find? (fun r=>r.acct==x.1&&r.asset==x.2) with|some r=>(r.free,r.held)|none=>(0,0)
def mkR (E:Pl→Int × Int):List Row4:=zBo.filterMap fun x=>if E x=(0,0) then none else some ⟨x.1,x.2,(E x).1,(E x).2⟩
def dlF (p:List Pst)(x:Pl):Int × Int:=p.foldl (fun z q=>if q.acct=x.1∧q.asset=x.2 then(z.1+q.free,z.2+q.held) else z) (0,0)
def zIf (n:Int):Bool:=decide (n>1125899906842624)||decide (n < -1125899906842624)
def zCb (q:Pst):Bool:=!zCO q.acct q.asset||zIf q.free||zIf q.held||(q.acct==0&&q.held != 0)
def zBj (p:List Pst)(s:Int):Int:=p.foldl (fun z q=>if q.asset=s then z+(q.free+q.held) else z) 0
def zAv (p:List Pst):Int:=if p.length>64 then 40 else if p.any zCb then 1 else if (List.range 17).any fun s=>zBj p (s:Nat) != 0 then 1 else 0
def zBH (E:Pl→Int × Int):Int:=if zBo.any fun x=>zAS x.1 (E x).1 (E x).2==47 then 47 else if zBo.any fun x=>zAS x.1 (E x).1 (E x).2==41 then 41 else 0
def zAK (l:List Row4)(p:List Pst)(x:Pl):Int × Int:=((atR l x).1+(dlF p x).1,(atR l x).2+(dlF p x).2)
def zBF (l:List Row4)(p:List Pst):List Row4 × Int :=
 if zAY l=true then
  if zAv p=0 then
   if zBH (zAK l p)=0 then(mkR (zAK l p),0) else([],zBH (zAK l p))
  else([],zAv p)
 else([],4)
def zAi (l:List Row4)(a s:Int):Int:=(zMU (atR l (a,s)).1 (atR l (a,s)).2).1
def Odr.zero:Odr:=⟨0,0,0,0,0,0⟩
def zW (l:List Odr)(id:Int):Odr × Bool:=if ze l=true then(match l.find? fun o=>o.id==id with|some o=>(o,true)|none=>(Odr.zero,false)) else(Odr.zero,false)
def zEp (l:List Odr)(o:Odr):List Odr × Int :=
 if ze l=true∧zw o=true then
  if (zW l o.id).2 then([],6) else if l.length=128 then([],40) else(l.filter (fun x=>decide (x.id<o.id))++o::l.filter (fun x=>decide (o.id<x.id)),0)
 else([],4)
def zBU (l:List Odr)(id qty:Int):List Odr:=(l.map fun o=>if o.id=id then{ o with left:=o.left - qty } else o).filter fun o=>decide (o.left≠0)
def zAs (l:List Odr)(id qty:Int):List Odr × Int :=
 if ze l=true then
  if (zW l id).2 then(if qty<1∨qty>(zW l id).1.left then([],1) else(zBU l id qty,0)) else([],5)
 else([],4)
def zDI (l:List Odr)(id:Int):List Odr × Int:=zAs l id (zW l id).1.left
def zAF (a b:Odr):Bool:=if a.price=b.price then decide (a.id<b.id) else if a.side=1 then decide (a.price>b.price) else decide (a.price<b.price)
def zA9 (l:List Odr)(inst side:Int):Odr × Bool :=
 if ze l=true then
  match (l.filter fun o=>o.inst==inst&&o.side==side).foldl (fun b o=>match b with|none=>some o|some x=>some (if zAF o x then o else x)) none with
  | some o=>(o,true)
  | none=>(Odr.zero,false)
 else(Odr.zero,false)
def zn (a b:Odr):Bool :=
 zw a&&zw b&&a.inst==b.inst&&a.side != b.side&&(if a.side=1 then decide (a.price ≥ b.price) else decide (a.price≤b.price))
def zHD (p q:Int):Int × Int:=if p<0∨q<0 then(0,1) else if p*q>4611686018427387904 then(0,41) else(p*q,0)
def zBa (n b:Int):Int × Int:=if n<0∨b<0∨b>1000 then(0,1) else if n>4611686018427387904 then(0,41) else(n*b / 10000,0)
abbrev nF (n:List Int)(i:Nat):Int:=n.getD i 0
def zAG (s:Sta)(a:Int):Bool:=(zBE s.accts a).2
def zBD (s:Sta)(i:Int):Bool:=(zB0 s.insts i).2
def zm (s:Sta)(p:List Pst):Sta × Int:=if (zBF s.rows p).2=0 then({ s with rows:=(zBF s.rows p).1 },0) else(s,(zBF s.rows p).2)
def zDJ (s:Sta)(from_ to_ asset n:Int):Sta × Int:=zm s [⟨from_,asset,-n,0⟩,⟨to_,asset,n,0⟩]
def zAb (s:Sta)(acct asset n:Int):Sta × Int:=zm s [⟨acct,asset,-n,n⟩]
def zFC (s:Sta)(n:List Int)(t:ByteArray):Sta × Int :=
 if nF n 0≠s.accts.length+1 then(s,46) else if zA3 s.accts t ≥ 0 then(s,6) else({ s with accts:=s.accts++[⟨t,true⟩] },0)
def zFD (s:Sta)(n:List Int):Sta × Int :=
 if zAG s (nF n 0) then
  if s.rows.any (fun r=>r.acct==nF n 0) then(s,47)
  else({ s with accts:=s.accts.set (nF n 0 - 1).toNat ⟨(ac_ s.accts (nF n 0 - 1).toNat).name,false⟩ },0)
 else(s,5)
def zFE (s:Sta)(n:List Int)(t:ByteArray):Sta × Int :=
 if nF n 0≠s.insts.length+1 then(s,46) else if s.insts.any (fun x=>x.name.toList==t.toList) then(s,6) else({ s with insts:=s.insts++[⟨t,nF n 1,false⟩] },0)
def zF8 (s:Sta)(n:List Int)(is:Bool):Sta × Int :=
 if zBD s (nF n 0) then
  let x:=in_ s.insts (nF n 0 - 1).toNat
  if x.halted=is then(s,46) else({ s with insts:=s.insts.set (nF n 0 - 1).toNat ⟨x.name,x.tick,is⟩ },0)
 else(s,5)
def zAR (s:Sta)(acct inst price:Int)(many:Bool):Int :=
 if zAG s acct=true∧zBD s inst=true then
  let x:=in_ s.insts (inst - 1).toNat
  if x.halted then 48 else if price.tmod x.tick≠0 then 50 else if many then 40 else 0
 else 5
def zDK (s:Sta)(n:List Int):Sta × Int :=
 let o:Odr:=⟨nF n 0,nF n 1,nF n 2,nF n 3,nF n 4,nF n 5⟩
 if o.id≠s.nextO then(s,46) else
 if zAR s o.acct o.inst o.price (decide (128≤s.orders.length))≠0 then(s,zAR s o.acct o.inst o.price (decide (128≤s.orders.length))) else
 let r:=zAb s o.acct (zY o).1 (zY o).2
 if r.2≠0 then r else({ r.1 with orders:=(zEp s.orders o).1,nextO:=s.nextO+1 },0)
def zBb (s:Sta)(n:List Int):Sta × Int :=
 let o:=(zW s.orders (nF n 0)).1
 if (zW s.orders (nF n 0)).2 then zAb { s with orders:=(zDI s.orders o.id).1 } o.acct (zY o).1 (-(zY o).2) else(s,5)
def zCy (s:Sta)(n:List Int)(o u:Odr):Bool :=
 o.id==s.nextO - 1&&(zA9 s.orders u.inst u.side).1.id==u.id&&zn o u&&nF n 2==u.price&&nF n 3==min o.left u.left&&nF n 4==(zBa (zHD (nF n 2) (nF n 3)).1 s.fee).1
def zBI (buy sell:Odr)(inst price qty fee:Int):List Pst :=
 [⟨buy.acct,0,(buy.price - price)*qty,-buy.price*qty⟩,⟨sell.acct,0,price*qty - fee,0⟩,⟨0,0,fee,0⟩,⟨sell.acct,inst,0,-qty⟩,⟨buy.acct,inst,qty,0⟩]
def zEE (s:Sta)(n:List Int):Sta × Int :=
 let o:=(zW s.orders (nF n 0)).1
 let u:=(zW s.orders (nF n 1)).1
 if (zW s.orders (nF n 0)).2=true∧(zW s.orders (nF n 1)).2=true then
  if zCy s n o u then
   if o.acct=u.acct then(s,49) else
   let r:=zm s (if o.side=2 then zBI u o o.inst (nF n 2) (nF n 3) (nF n 4) else zBI o u o.inst (nF n 2) (nF n 3) (nF n 4))
   if r.2≠0 then r else({ r.1 with orders:=(zAs (zAs s.orders o.id (nF n 3)).1 u.id (nF n 3)).1 },0)
  else(s,46)
 else(s,5)
def zEF (s:Sta)(a:Auc):Sta × Int :=
 if a.id≠s.nextA∨a.fin≤s.clock then(s,46) else
 if zAR s a.seller a.inst 0 (decide (32≤s.aucs.length))≠0 then(s,zAR s a.seller a.inst 0 (decide (32≤s.aucs.length))) else
 let r:=zAb s a.seller a.inst a.qty
 if r.2≠0 then r else({ r.1 with aucs:=s.aucs++[a],nextA:=s.nextA+1 },0)
def zAV (s:Sta)(id:Int):Int:=idx (fun j=>(au_ s.aucs j).id==id) s.aucs.length
def zJz (s:Sta)(n:List Int)(sealed:Bool):Sta × Int :=
 let i:=zAV s (nF n 0)
 let a:=au_ s.aucs i.toNat
 if i<0∨a.sealed≠sealed then(s,5) else
 if zAG s (nF n 1) then
  if zAA a s.clock then(s,46) else
  let b:Bid:=⟨nF n 1,nF n 2⟩
  if (zU a b).2≠0 then(s,(zU a b).2) else
  let r:=zm s (⟨b.acct,0,-b.amount,b.amount⟩::(if (zAD a).2=true∧sealed=false then[⟨(zAD a).1.acct,0,(zAD a).1.amount,-(zAD a).1.amount⟩] else[]))
  if r.2≠0 then r else({ r.1 with aucs:=s.aucs.set i.toNat (zU a b).1 },0)
 else(s,5)
def zM (s:Sta)(a:Auc):Bid × Int × Bool :=
 if (zL a).2 then
  let w:=(zL a).1
  let fee:=(zBa w.amount s.fee).1
  if zAi s.rows a.seller 0+w.amount - fee>1125899906842624∨zAi s.rows w.acct a.inst+a.qty>1125899906842624 then(Bid.zero,0,false) else(w,fee,true)
 else(Bid.zero,0,false)
def zAg (a:Auc):List Pst:=(a.bids.map fun b=>(⟨b.acct,0,b.amount,-b.amount⟩:Pst))++[⟨a.seller,a.inst,a.qty,-a.qty⟩]
def zAz (s:Sta)(i:Nat)(p:List Pst):Sta × Int :=
 let r:=zm s (p++zAg (au_ s.aucs i))
 if r.2≠0 then r else({ r.1 with aucs:=s.aucs.eraseIdx i },0)
def zDg (a:Auc)(w:Bid)(fee:Int):List Pst :=
 [⟨w.acct,0,-w.amount,0⟩,⟨a.seller,0,w.amount - fee,0⟩,⟨0,0,fee,0⟩,⟨a.seller,a.inst,-a.qty,0⟩,⟨w.acct,a.inst,a.qty,0⟩]
def zF9 (s:Sta)(n:List Int):Sta × Int :=
 let i:=zAV s (nF n 0)
 let a:=au_ s.aucs i.toNat
 let w:=zM s a
 if i<0 then(s,5) else
 if zAA a s.clock=true∧w.2.2=true∧w.1.acct=nF n 1∧w.1.amount=nF n 2∧w.2.1=nF n 3 then zAz s i.toNat (zDg a w.1 w.2.1) else(s,46)
def zCg (s:Sta)(n:List Int):Sta × Int :=
 let i:=zAV s (nF n 0)
 let a:=au_ s.aucs i.toNat
 if i<0 then(s,5) else if (zM s a).2.2=true∨zAA a s.clock=false then(s,46) else zAz s i.toNat []
def zEq (s:Sta)(n:List Int):Sta × Int :=
 if nF n 0≤s.clock∨(s.aucs.any fun a=>zAA a s.clock)=true then(s,46) else({ s with clock:=nF n 0 },0)
def zCF (s:Sta)(n:List Int):Sta × Int :=
 if zAG s (nF n 0)=true∧zAG s (nF n 1)=true then(if nF n 0=nF n 1 then(s,1) else zDJ s (nF n 0) (nF n 1) 0 (nF n 2)) else(s,5)
def zDh (s:Sta)(n:List Int)(t:ByteArray):Sta × Int :=
 if zAG s (nF n 0) then
  if zA3 s.accts t ≥ 0 then(s,6) else({ s with accts:=s.accts.set (nF n 0 - 1).toNat ⟨t,(ac_ s.accts (nF n 0 - 1).toNat).opn⟩ },0)
 else(s,5)
def zFF (s:Sta)(n:List Int):Sta × Int :=
 if zBD s (nF n 0) then
  if s.orders.any (fun o=>o.inst==nF n 0) then(s,46)
  else({ s with insts:=s.insts.set (nF n 0 - 1).toNat ⟨(in_ s.insts (nF n 0 - 1).toNat).name,nF n 1,(in_ s.insts (nF n 0 - 1).toNat).halted⟩ },0)
 else(s,5)
def zCG (s:Sta)(k:Int)(n:List Int)(t:ByteArray):Sta × Int :=
 if k=1 then zFC s n t else if k=2 then zFD s n else if k=3 then zFE s n t else if k=4 then zF8 s n true else if k=5 then zF8 s n false
 else if k=6 then(if zAG s (nF n 0) then zDJ s 0 (nF n 0) 0 (nF n 1) else(s,5))
 else if k=7 then(if zAG s (nF n 0) then zDJ s (nF n 0) 0 0 (nF n 1) else(s,5))
 else if k=8 then(if zAG s (nF n 0)=true∧zBD s (nF n 1)=true then zDJ s 0 (nF n 0) (nF n 1) (nF n 2) else(s,5))
 else if k=9 then(if zAG s (nF n 0)=true∧zBD s (nF n 1)=true then zDJ s (nF n 0) 0 (nF n 1) (nF n 2) else(s,5))
 else if k=10 then({ s with fee:=nF n 0 },0)
 else if k=11 then zDK s n else if k=12 then zBb s n else if k=13 then zEE s n
 else if k=14 then zEF s ⟨nF n 0,nF n 1,nF n 2,false,nF n 3,nF n 4,nF n 5,nF n 6,[]⟩
 else if k=15 then zJz s n false
 else if k=16 then zEF s ⟨nF n 0,nF n 1,nF n 2,true,nF n 3,nF n 4,0,nF n 5,[]⟩
 else if k=17 then zJz s n true
 else if k=18 then zF9 s n else if k=19 then zCg s n else if k=20 then zEq s n else if k=21 then zCF s n else if k=22 then zDh s n t else zFF s n
def zCz:Sta:=⟨0,0,0,0,[],[],[],[],[]⟩
def zAN (s:Sta)(e:Evt):Sta × Int :=
 if e.v=3∧zCE e=true then
  (if (zCG s e.kind e.nums (e.texts.getD 0 ByteArray.empty)).2=0 then zCG s e.kind e.nums (e.texts.getD 0 ByteArray.empty) else(zCz,(zCG s e.kind e.nums (e.texts.getD 0 ByteArray.empty)).2))
 else(zCz,4)
def zN (s:Sta)(e:Evt):Sta × Int:=if zCY s=true then zAN s e else(zCz,4)
def zBA (s:Sta):List Evt→Int→Sta × Int × Int
 | [],i=>(s,i,0)
 | e::l,i=>if (zAN s e).2=0 then zBA (zAN s e).1 l (i+1) else(zCz,i,(zAN s e).2)
def zDi (s:Sta)(l:List Evt):Sta × Int × Int:=if zCY s=true then zBA s l 0 else(zCz,0,4)
def zBJ:Sta:=⟨0,0,1,1,[],[],[],[],[]⟩
def evF (k:Int)(n:List Int):Evt:=⟨3,k,n,[]⟩
def evN (k:Int)(t:ByteArray)(n:List Int):Evt:=⟨3,k,n,[t]⟩
def startL:List Evt:=[evN 1 ⟨#[97]⟩ [1],evN 3 ⟨#[120]⟩ [1,100],evN 1 ⟨#[98]⟩ [2],evF 8 [1,1,5],evF 6 [2,1000]]
def awL:List Evt:=startL++[evF 11 [1,1,1,2,100,5],evF 11 [2,2,1,1,200,3]]
end Go.Proofs.YthbflajpdhgfiaaGreatDoor
