/- Steps of the proof. -/
import Derived.Test.YtejhijhnlogikaaGreatDoorMe08
set_option linter.all false
set_option maxHeartbeats 16000000
namespace Go.Proofs.YtejhijhnlogikaaGreatDoor
open Go Go.Sk Go.RowKit Tryz
attribute [local irreducible] Go.Calls
def zJD:List Value:=[.string ⟨#[110,117,109,98,101,114,115]⟩,.func (.func 120) #[] #[],.string ⟨#[97,99,99,111,117,110,116,115]⟩,.func (.func 121) #[] #[],.string ⟨#[105,110,115,116,114,117,109,101,110,116,115]⟩,.func (.func 122) #[] #[],.string ⟨#[114,111,119,115]⟩,.func (.func 123) #[] #[],.string ⟨#[111,114,100,101,114,115]⟩,.func (.func 124) #[] #[],.string ⟨#[97,117,99,116,105,111,110,115]⟩,.func (.func 125) #[] #[],.string ⟨#[104,101,108,100]⟩,.func (.func 126) #[] #[]]
theorem zWf (w0:World) :
  Cf 86 [] (fun M v=>∃ b T fr,v=.slice (some ⟨b,0,none⟩) 7 7/\M=[(b,Obj.cells zJD.toArray T fr)]) w0:=by refine eS func86 ntmps86 fun H=>?_;(repeat' first|refine yW ?_|(refine yB ?_;intro b w H)|fail);exact zL rfl H ⟨_,_,_,rfl,rfl⟩
def rulN (k:Nat):ByteArray:=[⟨#[110,117,109,98,101,114,115]⟩,⟨#[97,99,99,111,117,110,116,115]⟩,⟨#[105,110,115,116,114,117,109,101,110,116,115]⟩,⟨#[114,111,119,115]⟩,⟨#[111,114,100,101,114,115]⟩,⟨#[97,117,99,116,105,111,110,115]⟩,⟨#[104,101,108,100]⟩].getD k ⟨#[]⟩
def rulG (k:Nat):FuncId:=[120,121,122,123,124,125,126].getD k 0
def rulE (k:Nat):List Value:=[.string (rulN k),.func (.func (rulG k)) #[] #[]]
theorem rul_sl {b:Nat}{T:TypeId}{fr:Nat × Nat}{F:zA}(hm:(b,Obj.cells zJD.toArray T fr)∈F):SlB F 2 (some ⟨b,0,none⟩) 7 b 0 zJD T fr rulE:=fun _=>⟨rfl,hm,fun j hj=>by
 match j,hj with
 | 0,_=>exact⟨by decide,rfl⟩
 | 1,_=>exact⟨by decide,rfl⟩
 | 2,_=>exact⟨by decide,rfl⟩
 | 3,_=>exact⟨by decide,rfl⟩
 | 4,_=>exact⟨by decide,rfl⟩
 | 5,_=>exact⟨by decide,rfl⟩
 | 6,_=>exact⟨by decide,rfl⟩⟩
theorem zWg {k:Nat}(hk:k<7):Ent prog (rulG k):=by{
match k,hk with
| 0,_=>exact ent120
| 1,_=>exact ent121
| 2,_=>exact ent122
| 3,_=>exact ent123
| 4,_=>exact ent124
| 5,_=>exact ent125
| 6,_=>exact ent126}
def zFX (ok:Nat->Bool):ByteArray:=if idx (fun k=>!ok k) 7<0 then⟨#[]⟩ else rulN (idx (fun k=>!ok k) 7).toNat
theorem zRX {F:zA}(s:Sta)(p:SPt)(ok:Nat->Bool)(hr:∀ k,k<7->(∀ j,j<k->ok j=true)->∀ w,Mem w F->Calls prog (rulG k) [.agg (s.cells p).toArray].toArray w (Ret (.bool (ok k)) w))(w0:World)(hF:Mem w0 F) :
  Cr 41 [.agg (s.cells p).toArray] (.string (zFX ok)) w0:=by{
refine eS func41 ntmps41 fun H=>?_;(repeat' first|refine yX ?_|(refine yB ?_;intro b w H)|(refine f0 ent86 ?_;refine⟨_,zWf _,?_⟩;clear H;intro v M w hR H;(try simp only[zca,zcb] at H);obtain⟨br,TR,fr,rfl,rfl⟩:=hR)|fail);refine zD [(2,2),(4,4),(7,18)] (fun k:Nat=>[(7,.int .i64 (k:Int))]) (fun k w=>k<=7/\(∀ j,j<k->(!ok j)=false)/\St w0 [cb _ (s.cells p) 40,(br,Obj.cells zJD.toArray TR fr)] w) (fun k=>7 - k) 0 ⟨rfl,trivial⟩ ⟨zzD _,fun j hj=>absurd hj (zzE _),H⟩ ?_;clear H;rintro k gh w ⟨hk,hn,H⟩;have hs1:=fun{F:zA} (hm:(br,Obj.cells zJD.toArray TR fr)∈F)=>rul_sl hm;(repeat' first|refine yX ?_|fail);refine zB rfl (fun h=>?_) (fun h=>?_)
.have hlt:k<7:=by have:=zzA h;omega
 clear h;obtain⟨okk,hok⟩:∃ b,ok k=b:=⟨_,rfl⟩;have hrk:=hr k hlt fun j hj=>by have:=hn j hj;simpa using this
 rw[hok] at hrk;(repeat' first|refine yW ?_|(refine yB ?_;intro b w H)|(refine y11 sg H ?_;intro w H)|(refine y40 sg (hs1 (List.Mem.head [])) ?_ ?_ ?_;(omega);(omega))|(refine za rfl rfl (zA7 sg (hs1 (by first|exact zz2 _|exact zz5 _ (zz2 _))) H.mem rfl rfl rfl rfl rfl hlt) ?_)|(refine OX.call rfl rfl (zAq (zWg hlt) rfl rfl rfl) (hrk _ (H.memF hF)) ?_;refine wQ H ?_;clear H;intro w H)|(refine y23 ?_ ?_;all_goals intro h)|fail);all_goals rw[<- hok] at h
 all_goals first
  | exact zG rfl H.cl (congrArg Value.string (by unfold zFX;rw[zBv hlt hn h,if_neg qO,Int.toNat_natCast]))
  | (refine zC (k+1) rfl ⟨zU qO,trivial⟩ ⟨hlt,fun j hj=>?_,H.sub (zz7 _ _)⟩ qO
     rcases(show j<k\/j=k by omega) with g|rfl
     .exact hn j g
     .exact h)
  | fail
.obtain rfl:k=7:=by have:=zzB h;omega
 (repeat' first|refine yX ?_|fail);exact zG rfl H.cl (congrArg Value.string (by unfold zFX;rw[zA8 hn];rfl))}
def stOk (s:Sta)(k:Nat):Bool:=[zID s,zFW s.accts,zDK s.insts,zDL s,zBL s,zDM s,zGZ s].getD k true
structure StaW (s:Sta):Prop where
 ac:s.accts.length<=10000
 acN:∀ k,k<s.accts.length->(ac_ s.accts k).name.size<=140737488355328
 ins:s.insts.length<=10000
 insN:∀ k,k<s.insts.length->(in_ s.insts k).name.size<=140737488355328
 rw:∀ j,j<s.rows.length->(rw_ s.rows j).wf
theorem zWh {F:zA}(s:Sta)(p:SPt)(hW:StaW s)(w0:World)(hF:Mem w0 F)(hs:StaM F s p) :
  Cr 41 [.agg (s.cells p).toArray] (.string (zFX (stOk s))) w0:=by{
refine zRX s p (stOk s) (fun k hk hj w hM=>?_) w0 hF;match k,hk with
| 0,_=>exact zRV s p w
| 1,_=>exact zOi s p hW.ac hW.acN w hM hs
| 2,_=>exact zJ9 s p hW.ins hW.insN w hM hs
| 3,_=>exact c_rows s p hW.rw w hM hs
| 4,_=>exact zT1 s p (hj 2 qO) w hM hs
| 5,_=>exact zOk s p w hM hs
| 6,_=>exact c_held s p w hM hs}
def zCP (s:Sta):Bool:=(List.range 7).all (stOk s)
theorem zLh (ok:Nat->Bool):((zFX ok).toList==(ByteArray.mk #[]).toList)=(List.range 7).all ok:=by{
rcases zX (fun k=>!ok k) 7 with ⟨k,hk,_,hp,h2⟩|⟨h1,h2⟩
.unfold zFX;rw[h2,if_neg qO,Int.toNat_natCast];have hf:(List.range 7).all ok=false:=List.all_eq_false.2 ⟨k,List.mem_range.2 hk,by simpa using hp⟩;rw[hf];match k,hk with
 | 0,_=>rw[ByteArray.toList_eq,ByteArray.toList_eq];decide
 | 1,_=>rw[ByteArray.toList_eq,ByteArray.toList_eq];decide
 | 2,_=>rw[ByteArray.toList_eq,ByteArray.toList_eq];decide
 | 3,_=>rw[ByteArray.toList_eq,ByteArray.toList_eq];decide
 | 4,_=>rw[ByteArray.toList_eq,ByteArray.toList_eq];decide
 | 5,_=>rw[ByteArray.toList_eq,ByteArray.toList_eq];decide
 | 6,_=>rw[ByteArray.toList_eq,ByteArray.toList_eq];decide
.unfold zFX;rw[h2,if_pos qO];have hf:(List.range 7).all ok=true:=List.all_eq_true.2 fun k hk=>by have:=h1 k (List.mem_range.1 hk);simpa using this
 rw[hf,ByteArray.toList_eq];decide}
theorem zCm {F:zA}(s:Sta)(p:SPt)(hW:StaW s)(w0:World)(hF:Mem w0 F)(hs:StaM F s p) :
  Cr 14 [.agg (s.cells p).toArray] (.bool (zCP s)) w0:=by have hc:=fun w hM=>zWh s p hW w hM hs;have he:=zLh (stOk s);obtain⟨c,hcc⟩:∃ c,zFX (stOk s)=c:=⟨_,rfl⟩;rw[hcc] at hc he;refine eS func14 ntmps14 fun H=>?_;(repeat' first|refine yW ?_|(refine yB ?_;intro b w H)|(refine c0 ent41 ?_;refine⟨_,hc _ (H.memF hF),?_⟩;clear H;intro w H)|fail);all_goals exact zG rfl H.cl (congrArg Value.bool he)
def OwnB (M:zA)(a:OA)(cap:Nat)(l:List Bid):Prop:=Go.Sk.Own M 136 2 a l.length cap ((List.range l.length).flatMap (bel l))
theorem zFz (l:List Bid)(j:Nat):(bel l j).length=2:=rfl
theorem zLi (l:List Bid)(j:Nat):∀ u∈bel l j,u.oneCell'=true:=by intro u hu;simp only[bel,Bid.cells,List.mem_cons,List.not_mem_nil,or_false] at hu;rcases hu with rfl|rfl<;>rfl
theorem OwnB.bids {M F:zA}{a:OA}{cap:Nat}{l:List Bid}(h:OwnB M a cap l)(hM:M⊆F)(hn:l.length<=140737488355328):Bids F a cap l:=Go.Sk.Own.sl h hM (fun j _=>zFz l j) hn
def OwnA (x:Auc)(M:zA)(v:Value):Prop:=∃ a cap,v=.agg (x.cells a cap).toArray/\OwnB M a cap x.bids
theorem c_own {a:OA}{cap:Nat}(x:Auc){F:zA}(w0:World)(hF:Mem w0 F)(hs:Bids F a cap x.bids)(hb:x.bids.length<=8796093022208) :
  Cf 251 [.agg (x.cells a cap).toArray] (OwnA x) w0:=by refine eS func251 ntmps251 fun H=>?_;(repeat' first|refine yW ?_|(refine yB ?_;intro b w H)|(refine y11 sg H ?_;intro w H)|(refine f0 zS7 ?_;refine⟨_,zGU _ (H.memF hF) hs (fun j _=>zLi _ j) (fun j _=>zFz _ j) qO,?_⟩;clear H;intro v M w hR H;(try simp only[zca,zcb] at H);obtain⟨a',cap',rfl,hO⟩:=hR)|fail);refine zB2 (vs:=[_]) (M:=M) ⟨zg sg rfl H.mem (zz2 _) rfl rfl,trivial⟩ (H.sub zMa) ⟨a',cap',rfl,hO⟩
def Auc.zero:Auc:=⟨0,0,0,false,0,0,0,0,[]⟩
theorem c_Get1 {a:OA}{cap:Nat}(x:Auc)(id:Int)(b:Nat)(T:TypeId){F:zA}(w0:World)(hF:Mem w0 F)(hm:(b,Obj.cells [Value.int .i64 id].toArray T (0,0))∈F) :
  Cr 250 [.agg (x.cells a cap).toArray,(pt b)] (.bool (x.id==id)) w0:=by refine eS func250 ntmps250 fun H=>?_;(repeat' first|refine yW ?_|(refine yB ?_;intro b w H)|refine z13 (zF sg rfl rfl (H.memF hF) hm rfl rfl) ?_|fail);exact zG rfl H.cl rfl
def zKA (l:List Auc)(id:Int):Int:=idx (fun j=>(l.getD j default).id==id) l.length
def zBS (l:List Auc)(id:Int):Auc × Bool:=if zKA l id<0 then(Auc.zero,false) else(l.getD (zKA l id).toNat default,true)
theorem zIc (l:List Auc)(id:Int):-1<=zKA l id/\zKA l id<l.length:=by rcases zX (fun j=>(l.getD j default).id==id) l.length with ⟨k,h1,_,_,h2⟩|⟨_,h2⟩<;>(unfold zKA;rw[h2];omega)
theorem c_Get {a:OA}{cap:Nat}(l:List Auc)(ad:Nat->OA × Nat)(id:Int){F:zA}(w0:World)(hF:Mem w0 F)(hs0:Aucs F a cap l ad)(hb:∀ j,j<l.length->(l.getD j default).bids.length<=8796093022208) :
  Cf 207 [.slice a l.length cap,.int .i64 id] (fun M v=>∃ u,OwnA (zBS l id).1 M u/\v=.tuple #[u,.bool (zBS l id).2]) w0:=by{
have hs1:=hs0;obtain⟨⟨hn,hc,b0,off,cs,T,fr,hs⟩,hbs⟩:=hs1;have hg:=zIc l id;unfold zKA at hg;refine eS func207 ntmps207 fun H=>?_;(repeat' first|refine yX ?_|(refine yB ?_;intro b w H)|(refine c0 zMg ?_;refine⟨_,zEY (caps:=[(pt _)]) (fun j=>(l.getD j default).id==id) _ (H.memF hF) hs0.1 ent250 (fun j hj w hw=>c_Get1 (l.getD j default) id _ _ _ (H.ext hw).mem (zz5 _ (zz2 _))),?_⟩;clear H;intro w H)|fail);refine zB rfl (fun h=>?_) (fun h=>?_)
·(repeat' first|refine yX ?_|(refine y11 sg H ?_;intro w H)|fail);have e:zBS l id=(Auc.zero,false):=by unfold zBS zKA;rw[if_pos (of_decide_eq_true h)]
 refine zc (vs:=[_,_]) (M:=[]) ⟨zg sg rfl H.mem (zz2 _) rfl rfl,zP rfl,trivial⟩ (H.sub (zz9 _)) ?_;rw[e];exact⟨_,⟨none,0,rfl,zWD _ _ _⟩,rfl⟩
.have hlt:=zzB h;have e:zBS l id=(l.getD (idx (fun j=>(l.getD j default).id==id) l.length).toNat default,true):=by unfold zBS zKA;rw[if_neg hlt]
 (repeat' first|refine yX ?_|(refine y11 sg H ?_;intro w H)|refine x40 sg hs ?_|refine x42 sg hs (H.memF hF) ?_|(refine f0 ent251 ?_;refine⟨_,c_own (l.getD (idx (fun j=>(l.getD j default).id==id) l.length).toNat default) _ (H.memF hF) (hbs _ qO) (hb _ qO),?_⟩;clear H;intro v M w hR H;(try simp only[zca,zcb] at H);obtain⟨a',cap',rfl,hO⟩:=hR)|fail);refine zc (vs:=[_,_]) (M:=M) ⟨zg sg rfl H.mem (zz2 _) rfl rfl,zP rfl,trivial⟩ (H.sub zMa) ?_;rw[e];exact⟨_,⟨a',cap',rfl,hO⟩,rfl⟩}
def Bid.zero:Bid:=⟨0,0⟩
def zAN (x:Auc):Bid × Bool:=if hi x.bids<0||!zAS x then(Bid.zero,false) else(x.bids.getD (hi x.bids).toNat default,true)
theorem zT2 {a:OA}{cap:Nat}(x:Auc){F:zA}(w0:World)(hF:Mem w0 F)(hs0:Bids F a cap x.bids) :
  Cr 262 [.agg (x.cells a cap).toArray] (.tuple #[.agg (zAN x).1.cells.toArray,.bool (zAN x).2]) w0:=by{
have hs1:=hs0;obtain⟨hn,hc,b0,off,cs,T,fr,hs⟩:=hs1;have hh:-1<=hi x.bids/\hi x.bids<x.bids.length:=zEa _ _;refine eS func262 ntmps262 fun H=>?_;(repeat' first|refine yW ?_|(refine yB ?_;intro b w H)|(refine y11 sg H ?_;intro w H)|(refine y40 sg (hs) ?_ ?_ ?_;((have:=of_decide_eq_false ‹decide (hi x.bids<0)=false›;omega));(omega))|(refine y42 sg (hs) ((H.memF hF)) ?_ ?_;((have:=of_decide_eq_false ‹decide (hi x.bids<0)=false›;omega)))|(refine c0 zTZ ?_;refine⟨_,zKU x.bids _ (H.memF hF) hs0,?_⟩;clear H;intro w H)|(refine c0 zIx ?_;refine⟨_,zI2 x _ (H.memF hF) hs0,?_⟩;clear H;intro w H)|(refine y17 ?_ ?_;all_goals intro h)|(refine y23 ?_ ?_;all_goals intro h)|fail)
all_goals first
 | (refine zAv (vs:=[_,_]) ⟨zg sg rfl H.mem (zz2 _) rfl rfl,zP rfl,trivial⟩ H.cl ?_
    simp only[zAN, *]
    rfl)}
def mx (a b:Int):Int:=if b>a then b else a
def zGa (l:List Bid)(res:Int)(i:Int):Nat->Int
 | 0=>res
 | k+1=>if ((k:Int) != i)=true then mx (zGa l res i k) (l.getD k default).amount else zGa l res i k
def zDm (x:Auc):Bid × Bool :=
 if hi x.bids<0||decide ((x.bids.getD (hi x.bids).toNat default).amount<x.reserve) then(Bid.zero,false)
 else(⟨(x.bids.getD (hi x.bids).toNat default).acct,zGa x.bids x.reserve (hi x.bids) x.bids.length⟩,true)
def zIE (x:Auc):Bid × Bool:=if (x.bids.length:Int)==0 then(Bid.zero,false) else(x.bids.getD 0 default,true)
theorem zWi {a:OA}{cap:Nat}(x:Auc){F:zA}(w0:World)(hF:Mem w0 F)(hs:Bids F a cap x.bids) :
  Cr 328 [.agg #[],.agg (x.cells a cap).toArray] (.tuple #[.agg (zIE x).1.cells.toArray,.bool (zIE x).2]) w0:=by{
obtain⟨hn,hc,b0,off,cs,T,fr,hs⟩:=hs;refine eS func328 ntmps328 fun H=>?_;(repeat' first|refine yW ?_|(refine yB ?_;intro b w H)|(refine y11 sg H ?_;intro w H)|(refine y40 sg (hs) ?_ ?_ ?_;(omega);((have:=neI h;omega)))|(refine y42 sg (hs) ((H.memF hF)) ?_ ?_;((have:=neI h;omega)))|(refine y23 ?_ ?_;all_goals intro h)|fail)
all_goals first
 | (refine zAv (vs:=[_,_]) ⟨zg sg rfl H.mem (zz2 _) rfl rfl,zP rfl,trivial⟩ H.cl ?_
    simp only[zIE, *]
    rfl)}
theorem zWj {a:OA}{cap:Nat}(x:Auc){F:zA}(w0:World)(hF:Mem w0 F)(hs0:Bids F a cap x.bids) :
  Cr 323 [.agg #[],.agg (x.cells a cap).toArray] (.tuple #[.agg (zDm x).1.cells.toArray,.bool (zDm x).2]) w0:=by{
have hs1:=hs0;obtain⟨hn,hc,b0,off,cs,T,fr,hs⟩:=hs1;have hh:-1<=hi x.bids/\hi x.bids<x.bids.length:=zEa _ _;refine eS func323 ntmps323 fun H=>?_;(repeat' first|refine yX ?_|(refine yB ?_;intro b w H)|(refine y11 sg H ?_;intro w H)|(refine y41 sg (hs) ?_ ?_ ?_;((have:=of_decide_eq_false ‹decide (hi x.bids<0)=false›;omega));(omega))|(refine y45 sg (hs) ((H.memF hF)) ?_ ?_;((have:=of_decide_eq_false ‹decide (hi x.bids<0)=false›;omega)))|(refine c0 zTZ ?_;refine⟨_,zKU x.bids _ (H.memF hF) hs0,?_⟩;clear H;intro w H)|(refine y18 ?_ ?_;all_goals intro h)|(refine qN H ?_;clear H;intro w H)|refine y20 mixed ?_|fail)
.refine zAv (vs:=[_,_]) ⟨zg sg rfl H.mem (zz2 _) rfl rfl,zP rfl,trivial⟩ H.cl ?_;simp only[zDm, *];rfl
.refine zB rfl (fun h2=>?_) (fun h2=>?_)
 ·(repeat' first|refine yX ?_|(refine y11 sg H ?_;intro w H)|fail);refine zAv (vs:=[_,_]) ⟨zg sg rfl H.mem (zz2 _) rfl rfl,zP rfl,trivial⟩ H.cl ?_;simp only[zDm, *];rfl
 .have hge:=zzB h;(repeat' first|refine yX ?_|fail)
  refine zD [(7,9),(32,44)] (fun k:Nat=>[(32,.int .i64 (k:Int)),(7,.int .i64 (zGa x.bids x.reserve (hi x.bids) k))])
   (fun k w=>k<=x.bids.length/\St w0 [cb _ Bid.zero.cells 136,cb _ (x.cells a cap) 86,cb _ [] 230] w) (fun k=>x.bids.length - k) 0 ⟨rfl,rfl,trivial⟩ ⟨zzD _,H⟩ ?_
  clear H;rintro k g w ⟨hk,H⟩;(repeat' first|refine yX ?_|fail);refine zB rfl (fun h3=>?_) (fun h3=>?_)
  .have hlt:k<x.bids.length:=by{simpa using h3};(repeat' first|refine yW ?_|(refine yB ?_;intro b w H)|(refine y11 sg H ?_;intro w H)|refine x40 sg hs ?_|refine x42 sg hs (H.memF hF) ?_|(refine y23 ?_ ?_;all_goals intro h)|fail)
   all_goals refine zC (k+1) rfl ⟨zU qO,?_,trivial⟩ ⟨hlt,H.sub zMa⟩ qO
   .show Value.int .i64 (mx _ _)=_;rw[zGa,if_pos ‹_›]
   .show Value.int .i64 (zGa x.bids x.reserve (hi x.bids) k)=_;rw[zGa,if_neg (by simp only[*];simp)]
  .have hkn:k=x.bids.length:=by simp at h3;omega
   subst hkn;(repeat' first|refine yW ?_|(refine y11 sg H ?_;intro w H)|refine x40 sg hs ?_|refine x44 sg hs (H.memF hF) ?_|fail);refine zAv (vs:=[_,_]) ⟨zg sg rfl H.mem (zz2 _) rfl rfl,zP rfl,trivial⟩ H.cl ?_;simp only[zDm, *];rfl}
def zH (x:Auc):Bid × Bool:=if zAS x then(if x.sealed then zDm x else zIE x) else(Bid.zero,false)
theorem zGy {a:OA}{cap:Nat}(x:Auc){F:zA}(w0:World)(hF:Mem w0 F)(hs:Bids F a cap x.bids) :
  Cr 252 [.agg (x.cells a cap).toArray] (.tuple #[.agg (zH x).1.cells.toArray,.bool (zH x).2]) w0:=by{
refine eS func252 ntmps252 fun H=>?_;rcases Bool.eq_false_or_eq_true x.sealed with hse|hse
.have e:zAS x=true->zH x=zDm x:=fun h=>by simp[zH,h,hse]
 (repeat' first|refine yS ?_|(refine yB ?_;intro b w H)|(refine y11 sg H ?_;intro w H)|refine y12 ?_|(refine CW.regionR mixed ?_;refine wQ H ?_;clear H;intro w H;(with_reducible apply RW.quiet 6);exact rfl;decide +kernel;simp only[List.append_eq,List.cons_append,List.nil_append,List.take_succ_cons,List.take_zero,List.drop_zero])|(refine c0 zIx ?_;refine⟨_,zI2 x _ (H.memF hF) hs,?_⟩;clear H;intro w H)|(refine q0 zHb ?_;refine⟨_,fun _ hcl=>zTo x a cap _ hse,?_⟩)|((with_reducible apply QX.call);exact rfl;exact rfl;exact En.inv ent323 rfl rfl (zWR) rfl;exact(fun _ hcl=>zWj x _ ((H.ext hcl).memF hF) hs))|refine yU ?_|(refine qN H ?_;clear H;intro w H)|(refine y23 ?_ ?_;all_goals intro h)|fail)
 .refine zAv (vs:=[_,_]) ⟨zg sg rfl H.mem (zz2 _) rfl rfl,zP rfl,trivial⟩ H.cl ?_;have e:zH x=(Bid.zero,false):=by simp only[Bool.not_eq_true'] at h;simp[zH,h]
  rw[e];rfl
 .rw[e (by simpa using h)];exact zMW (vs:=[_,_]) ⟨zg sg rfl H.mem (zz2 _) rfl rfl,zP rfl,trivial⟩ H.cl rfl
.have e:zAS x=true->zH x=zIE x:=fun h=>by simp[zH,h,hse]
 (repeat' first|refine yS ?_|(refine yB ?_;intro b w H)|(refine y11 sg H ?_;intro w H)|refine y12 ?_|(refine CW.regionR mixed ?_;refine wQ H ?_;clear H;intro w H;(with_reducible apply RW.quiet 6);exact rfl;decide +kernel;simp only[List.append_eq,List.cons_append,List.nil_append,List.take_succ_cons,List.take_zero,List.drop_zero])|(refine c0 zIx ?_;refine⟨_,zI2 x _ (H.memF hF) hs,?_⟩;clear H;intro w H)|(refine q0 zHb ?_;refine⟨_,fun _ hcl=>zTp x a cap _ hse,?_⟩)|((with_reducible apply QX.call);exact rfl;exact rfl;exact En.inv ent328 rfl rfl (zWS) rfl;exact(fun _ hcl=>zWi x _ ((H.ext hcl).memF hF) hs))|refine yU ?_|(refine qN H ?_;clear H;intro w H)|(refine y23 ?_ ?_;all_goals intro h)|fail)
 .refine zAv (vs:=[_,_]) ⟨zg sg rfl H.mem (zz2 _) rfl rfl,zP rfl,trivial⟩ H.cl ?_;have e:zH x=(Bid.zero,false):=by simp only[Bool.not_eq_true'] at h;simp[zH,h]
  rw[e];rfl
 .rw[e (by simpa using h)];exact zMW (vs:=[_,_]) ⟨zg sg rfl H.mem (zz2 _) rfl rfl,zP rfl,trivial⟩ H.cl rfl}
theorem zKb {n m:Int}(h:zp n m=true):1<=n/\n<=m:=by simp only[zp,yy3,decide_eq_true_eq] at h;omega
theorem zP9 {x:Auc}(h:zCT x=true)(j:Nat)(hj:j<x.bids.length):zBf x j=false:=by{
unfold zCT at h;rcases zX (zBf x) x.bids.length with ⟨k,h1,_,_,h2⟩|⟨h1,_⟩
.rw[h2] at h;simp at h;omega
.exact h1 j hj}
theorem zKc {x:Auc}(h:zAS x=true)(j:Nat)(hj:j<x.bids.length):1<=(x.bids.getD j default).amount/\(x.bids.getD j default).amount<=1125899906842624:=by simp only[zAS,yy3] at h;have:=zP9 h.2 j hj;simp only[zBf,Bool.or_eq_false_iff,Bool.not_eq_false'] at this;exact zKb this.1.2
theorem zQA {x:Auc}(h:zAS x=true)(he:x.sealed=false):1<=x.step/\x.step<=1125899906842624:=by simp only[zAS,yy3,zAb,he,zFS,Bool.false_eq_true,if_false] at h;exact zKb h.1.2.1
def zEi (x:Auc):Int:=if (x.bids.length:Int)==0 then x.reserve else(zOX (x.bids.getD 0 default).amount x.step).1
theorem zT3 {a:OA}{cap:Nat}(x:Auc){F:zA}(w0:World)(hF:Mem w0 F)(hs:Bids F a cap x.bids)(hm:zAS x=true)(he:x.sealed=false) :
  Cr 325 [.agg #[],.agg (x.cells a cap).toArray] (.int .i64 (zEi x)) w0:=by{
obtain⟨hn,hc,b0,off,cs,T,fr,hs⟩:=hs;have hst:=zQA hm he;refine eS func325 ntmps325 fun H=>?_;(repeat' first|refine yX ?_|(refine yB ?_;intro b w H)|fail);refine zB rfl (fun h=>?_) (fun h=>?_)
·(repeat' first|refine yX ?_|fail);exact zG rfl H.cl (by simp only[zEi,h,if_true])
.have hpos:0<x.bids.length:=by have:=neI h;omega
 have hb:=zKc hm 0 hpos;(repeat' first|refine yX ?_|refine x41 sg hs ?_|refine x45 sg hs (H.memF hF) ?_|(refine q0 ent76 ?_;refine⟨_,fun _ hcl=>c_Add _ _ _ qO qO qO qO,?_⟩)|(refine qN H ?_;clear H;intro w H)|refine y20 mixed ?_|fail);exact zG rfl H.cl (by simp only[zEi,h];rfl)}
theorem zT4 (c d:Bid)(T:TypeId)(b:Nat)(w:World)(F:zA)(hF:Mem w F)(hm:(b,Obj.cells d.cells.toArray T (0,0))∈F) :
  Cr 324 [.agg c.cells.toArray,(pt b)] (.bool (c.acct==d.acct)) w:=by refine eS func324 ntmps324 fun H=>?_;(repeat' first|refine yW ?_|(refine yB ?_;intro b w H)|refine z13 (zF sg rfl rfl (H.memF hF) hm rfl rfl) ?_|fail);all_goals exact zG rfl H.cl rfl
theorem zRY (l:List Bid)(b:Bid):(List.range l.length).flatMap (bel l)++b.cells=(List.range (l++[b]).length).flatMap (bel (l++[b])):=by{
rw[yy4,yyo,yys,yy9,yya]
congr 1
.have:∀ m,m<=l.length->(List.range m).flatMap (bel l)=(List.range m).flatMap (bel (l++[b])):=by
  intro m;induction m with
  | zero=>intro _;rfl
  | succ m ih =>
    intro hm;rw[yys,yy9,yy9,ih qO,yya,yya];have hlt:m<l.length:=by{omega};simp[bel,List.getD,yyl hlt]
 exact this _ (zzC _)
.simp[bel,List.getD]}
def zCh (x:Auc)(b:Bid):List Bid × Int :=
 if idx (fun i=>(x.bids.getD i default).acct==b.acct) x.bids.length >= 0 then([],6) else if (x.bids.length:Int) >= 16 then([],40) else(x.bids++[b],0)
def TakeR (r:List Bid × Int)(M:zA)(v:Value):Prop:=∃ a cap,OwnB M a cap r.1/\v=.tuple #[.slice a r.1.length cap,.int .i64 r.2]
theorem zWk {a:OA}{cap:Nat}(x:Auc)(y:Bid){F:zA}(w0:World)(hF:Mem w0 F)(hs:Bids F a cap x.bids) :
  Cf 322 [.agg #[],.agg (x.cells a cap).toArray,.agg y.cells.toArray] (TakeR (zCh x y)) w0:=by{
refine eS func322 ntmps322 fun H=>?_;(repeat' first|refine yX ?_|(refine yB ?_;intro b w H)|(refine c0 zOI ?_;refine⟨_,zDx (caps:=[(pt _)]) (fun i=>(x.bids.getD i default).acct==y.acct) _ (H.memF hF) hs ent324 (fun j hj w hw=>zT4 (x.bids.getD j default) y 136 _ _ _ (H.ext hw).mem (zz2 _)),?_⟩;clear H;intro w H)|fail);refine zB rfl (fun h=>?_) (fun h=>?_)
·(repeat' first|refine yX ?_|fail);have e:zCh x y=([],6):=by simp only[zCh,if_pos (of_decide_eq_true h)]
 exact zc (vs:=[_,_]) (M:=[]) ⟨zP rfl,zP rfl,trivial⟩ (H.sub zMa) ⟨none,0,by rw[e];exact zWD _ _ _,by rw[e];rfl⟩
·(repeat' first|refine yX ?_|fail);refine zB rfl (fun h2=>?_) (fun h2=>?_)
 ·(repeat' first|refine yX ?_|fail);have e:zCh x y=([],40):=by{simp only[zCh,if_neg (of_decide_eq_false h),if_pos (of_decide_eq_true h2)]};exact zc (vs:=[_,_]) (M:=[]) ⟨zP rfl,zP rfl,trivial⟩ (H.sub zMa) ⟨none,0,by rw[e];exact zWD _ _ _,by rw[e];rfl⟩
 .have hlen:=zzB h2;have e:zCh x y=(x.bids++[y],0):=by{simp only[zCh,if_neg (of_decide_eq_false h),if_neg hlen]};(repeat' first|refine yS ?_|(refine CW.regionR mixed ?_;refine wQ H ?_;clear H;intro w H;(with_reducible apply RW.all))|((with_reducible apply RS.bar (k:=5));decide +kernel;decide +kernel)|((with_reducible apply RS.c1 0);exact rfl;decide +kernel;exact rfl)|((with_reducible apply RS.c1 1);exact rfl;decide +kernel;exact rfl)|((with_reducible apply RS.c1 2);exact rfl;decide +kernel;exact rfl)|((with_reducible apply RS.c1 3);exact rfl;decide +kernel;exact rfl)|((with_reducible apply RS.c1 4);exact rfl;decide +kernel;exact rfl)|((with_reducible apply RS.c2 0 3);exact rfl;decide +kernel;exact rfl;exact rfl)|((with_reducible apply RS.c2 0 4);exact rfl;decide +kernel;exact rfl;exact rfl)|((with_reducible apply RS.c2 1 3);exact rfl;decide +kernel;exact rfl;exact rfl)|((with_reducible apply RS.c2 1 4);exact rfl;decide +kernel;exact rfl;exact rfl)|((with_reducible apply RS.c2 2 3);exact rfl;decide +kernel;exact rfl;exact rfl)|((with_reducible apply RS.c2 2 4);exact rfl;decide +kernel;exact rfl;exact rfl)|(refine yB ?_;intro b w H)|(refine f0 zS7 ?_;refine⟨_,zGU _ (H.memF hF) hs (fun j _=>zLi _ j) (fun j _=>zFz _ j) qO,?_⟩;clear H;intro v M w hR H;(try simp only[zca,zcb] at H);obtain⟨a',cap',rfl,hO⟩:=hR)|refine yU ?_|fail)
  all_goals(have hp:=H.perm (yyg (l₁:=[_,_,_,_]) (l₂:=M)))
  all_goals repeat' (first|refine yX ?_|refine y12 ?_|(refine zY sg 2 16 (M:=M) hp rfl rfl rfl rfl rfl rfl rfl rfl rfl rfl rfl hO (zh hp.mem (zz3 _ (zz2 _))) rfl (by intro u hu;simp only[List.mem_cons,List.not_mem_nil,or_false] at hu;rcases hu with rfl|rfl<;>rfl) (by unfold maxLen;omega) qO ?_;intro a'' cap'' M'' w hO2 H;clear hp)|fail)
  all_goals exact zc (vs:=[_,_]) (M:=M'') ⟨zP rfl,zP rfl,trivial⟩ (H.sub (yyt _ _)) ⟨a'',cap'',by rw[e];show Go.Sk.Own _ _ 2 _ (x.bids++[y]).length _ _;rw[<- zRY,yy4];exact hO2,by rw[e];show _=Value.tuple #[.slice _ (x.bids++[y]).length _,_];rw[yy4];rfl⟩}
def zDN (x:Auc)(y:Bid):List Bid × Int:=if y.amount<zEi x then([],51) else([y],0)
theorem zWl {a:OA}{cap:Nat}(x:Auc)(y:Bid){F:zA}(w0:World)(hF:Mem w0 F)(hs:Bids F a cap x.bids)(hm:zAS x=true)(he:x.sealed=false) :
  Cf 327 [.agg #[],.agg (x.cells a cap).toArray,.agg y.cells.toArray] (TakeR (zDN x y)) w0:=by{
refine eS func327 ntmps327 fun H=>?_;(repeat' first|refine yX ?_|(refine yB ?_;intro b w H)|(refine q0 ent325 ?_;refine⟨_,fun _ hcl=>zT3 x _ ((H.ext hcl).memF hF) hs hm he,?_⟩)|(refine qN H ?_;clear H;intro w H)|refine y20 mixed ?_|fail);refine zB rfl (fun h=>?_) (fun h=>?_)
·(repeat' first|refine yX ?_|fail);have e:zDN x y=([],51):=by simp only[zDN,if_pos (of_decide_eq_true h)]
 exact zc (vs:=[_,_]) (M:=[]) ⟨zP rfl,zP rfl,trivial⟩ (H.sub zMa) ⟨none,0,by rw[e];exact zWD _ _ _,by rw[e];rfl⟩
·(repeat' first|refine yX ?_|(refine yB ?_;intro b w H)|fail);have e:zDN x y=([y],0):=by simp only[zDN,if_neg (of_decide_eq_false h)]
 exact zc (vs:=[_,_]) (M:=[_]) ⟨zP rfl,zP rfl,trivial⟩ (H.sub (yy5 _ (zz9 _))) ⟨_,1,by rw[e];exact Go.Sk.Own.mk (n:=1) (cap:=1) (size:=2) (zzC _) (by decide) rfl,by rw[e];rfl⟩}
def Auc.put (x:Auc)(l:List Bid):Auc:=⟨x.id,x.seller,x.inst,x.sealed,x.qty,x.reserve,x.step,x.fin,l⟩
def zHh (x:Auc)(y:Bid):List Bid × Int:=if x.sealed then zCh x y else zDN x y
def zN (x:Auc)(y:Bid):Auc × Int :=
 if zAS x=false then(Auc.zero,4) else if (zp y.acct 64&&zp y.amount 1125899906842624)=false then(Auc.zero,1) else if y.acct==x.seller then(Auc.zero,49)
 else if (zHh x y).2 != 0 then(Auc.zero,(zHh x y).2) else(x.put (zHh x y).1,0)
theorem zCi {x:Auc}{y:Bid}{M:zA}{e:Env}{w0 w:World}(hr:rds prog e w [ResultVar.cell 4 86,ResultVar.tmp 5] [.agg (Auc.zero.cells none 0).toArray,.int .i64 (zN x y).2])(hS:St w0 M w)(hz:(zN x y).1=Auc.zero) :
  post prog [ResultVar.cell 4 86,ResultVar.tmp 5] (zZ (fun M v=>∃ u,OwnA (zN x y).1 M u/\v=.tuple #[u,.int .i64 (zN x y).2]) w0) .ret e w :=
 zc (M:=[]) hr (hS.sub (zz9 _)) ⟨_,⟨none,0,rfl,by rw[hz];exact zWD _ _ _⟩,by rw[hz];rfl⟩
theorem zT5 {a:OA}{cap:Nat}(x:Auc)(y:Bid){F:zA}(w0:World)(hF:Mem w0 F)(hs:Bids F a cap x.bids) :
  Cf 261 [.agg (x.cells a cap).toArray,.agg y.cells.toArray] (fun M v=>∃ u,OwnA (zN x y).1 M u/\v=.tuple #[u,.int .i64 (zN x y).2]) w0:=by{
refine eS func261 ntmps261 fun H=>?_;(repeat' first|refine yX ?_|(refine yB ?_;intro b w H)|(refine c0 zIx ?_;refine⟨_,zI2 x _ (H.memF hF) hs,?_⟩;clear H;intro w H)|fail);refine zB rfl (fun h=>?_) (fun h=>?_)
·(repeat' first|refine yX ?_|(refine y11 sg H ?_;intro w H)|fail);have e:zN x y=(Auc.zero,4):=by simp only[Bool.not_eq_true'] at h;simp only[zN,if_pos h]
 exact zCi (x:=x) (y:=y) ⟨zg sg rfl H.mem (zz2 _) rfl rfl,zP (by rw[e];rfl),trivial⟩ H (by rw[e])
have hm:zAS x=true:=by simpa using h
have n1:¬ zAS x=false:=by rw[hm];decide
clear h;rcases Bool.eq_false_or_eq_true x.sealed with hse|hse
.have em:zHh x y=zCh x y:=by simp[zHh,hse]
 (repeat' first|refine yS ?_|(refine y11 sg H ?_;intro w H)|refine y12 ?_|(refine c0 zIy ?_;refine⟨_,zD8 _ _ _,?_⟩;clear H;intro w H)|(refine c0 zHa ?_;refine⟨_,zCe _ _ _,?_⟩;clear H;intro w H)|(refine q0 zHb ?_;refine⟨_,fun _ hcl=>zTo x a cap _ hse,?_⟩)|(refine CW.regionR mixed ?_;refine wQ H ?_;clear H;intro w H;(with_reducible apply RW.quiet 4);exact rfl;decide +kernel;simp only[List.append_eq,List.cons_append,List.nil_append,List.take_succ_cons,List.take_zero,List.drop_zero])|((with_reducible apply OX.callF);exact rfl;exact rfl;exact En.inv ent322 rfl rfl (zWT) rfl;exact zWk x y _ (H.memF hF) hs;intro v M w hR hS;replace H:=H.addR hS;clear hS;(try simp only[zca,zcb] at H);obtain⟨a',cap',hO,rfl⟩:=hR)|((with_reducible apply RW.one);exact rfl;decide +kernel)|((with_reducible apply RW.quiet 10);exact rfl;decide +kernel;simp only[List.append_eq,List.cons_append,List.nil_append,List.take_succ_cons,List.take_zero,List.drop_succ_cons,List.drop_zero])|refine yFf ?_|(refine y17 ?_ ?_;all_goals intro h)|refine yU ?_|(refine qN H ?_;clear H;intro w H)|(refine y23 ?_ ?_;all_goals intro h)|fail);all_goals simp only[Bool.not_eq_true',Bool.not_eq_false'] at *
 all_goals first
  | (have e:zN x y=(Auc.zero,1):=by simp[zN, *]
     exact zCi (x:=x) (y:=y) ⟨zg sg rfl H.mem (zz2 _) rfl rfl,zP (by rw[e];rfl),trivial⟩ H (by rw[e]))
  | (have e:zN x y=(Auc.zero,49):=by simp[zN, *]
     exact zCi (x:=x) (y:=y) ⟨zg sg rfl H.mem (zz2 _) rfl rfl,zP (by rw[e];rfl),trivial⟩ H (by rw[e]))
  | (have e:zN x y=(Auc.zero,(zCh x y).2):=by simp only[zN,em, *];simp
     exact zCi (x:=x) (y:=y) ⟨zg sg rfl H.mem (zz2 _) rfl rfl,zP (by rw[e];rfl),trivial⟩ H (by rw[e]))
  | (have e:zN x y=(x.put (zCh x y).1,0):=by simp only[zN,em, *];simp
     exact zc (vs:=[_,_]) (M:=M) ⟨zg sg rfl H.mem (zz2 _) rfl rfl,zP rfl,trivial⟩ (H.sub zMa) (by rw[e];exact⟨_,⟨a',cap',rfl,hO⟩,rfl⟩))
.have em:zHh x y=zDN x y:=by simp[zHh,hse]
 (repeat' first|refine yS ?_|(refine y11 sg H ?_;intro w H)|refine y12 ?_|(refine c0 zIy ?_;refine⟨_,zD8 _ _ _,?_⟩;clear H;intro w H)|(refine c0 zHa ?_;refine⟨_,zCe _ _ _,?_⟩;clear H;intro w H)|(refine q0 zHb ?_;refine⟨_,fun _ hcl=>zTp x a cap _ hse,?_⟩)|(refine CW.regionR mixed ?_;refine wQ H ?_;clear H;intro w H;(with_reducible apply RW.quiet 4);exact rfl;decide +kernel;simp only[List.append_eq,List.cons_append,List.nil_append,List.take_succ_cons,List.take_zero,List.drop_zero])|((with_reducible apply OX.callF);exact rfl;exact rfl;exact En.inv ent327 rfl rfl (zWU) rfl;exact zWl x y _ (H.memF hF) hs hm hse;intro v M w hR hS;replace H:=H.addR hS;clear hS;(try simp only[zca,zcb] at H);obtain⟨a',cap',hO,rfl⟩:=hR)|((with_reducible apply RW.one);exact rfl;decide +kernel)|((with_reducible apply RW.quiet 10);exact rfl;decide +kernel;simp only[List.append_eq,List.cons_append,List.nil_append,List.take_succ_cons,List.take_zero,List.drop_succ_cons,List.drop_zero])|refine yFf ?_|(refine y17 ?_ ?_;all_goals intro h)|refine yU ?_|(refine qN H ?_;clear H;intro w H)|(refine y23 ?_ ?_;all_goals intro h)|fail);all_goals simp only[Bool.not_eq_true',Bool.not_eq_false'] at *
 all_goals first
  | (have e:zN x y=(Auc.zero,1):=by simp[zN, *]
     exact zCi (x:=x) (y:=y) ⟨zg sg rfl H.mem (zz2 _) rfl rfl,zP (by rw[e];rfl),trivial⟩ H (by rw[e]))
  | (have e:zN x y=(Auc.zero,49):=by simp[zN, *]
     exact zCi (x:=x) (y:=y) ⟨zg sg rfl H.mem (zz2 _) rfl rfl,zP (by rw[e];rfl),trivial⟩ H (by rw[e]))
  | (have e:zN x y=(Auc.zero,(zDN x y).2):=by simp only[zN,em, *];simp
     exact zCi (x:=x) (y:=y) ⟨zg sg rfl H.mem (zz2 _) rfl rfl,zP (by rw[e];rfl),trivial⟩ H (by rw[e]))
  | (have e:zN x y=(x.put (zDN x y).1,0):=by simp only[zN,em, *];simp
     exact zc (vs:=[_,_]) (M:=M) ⟨zg sg rfl H.mem (zz2 _) rfl rfl,zP rfl,trivial⟩ (H.sub zMa) (by rw[e];exact⟨_,⟨a',cap',rfl,hO⟩,rfl⟩))}
end Go.Proofs.YtejhijhnlogikaaGreatDoor
