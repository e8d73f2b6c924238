/- Texts of ours, joined: the steps of the proof, or the claim's theorem. -/
import Derived.Test.YtejhijhnlogikaaGreatDoorMc08
set_option linter.all false
set_option maxHeartbeats 16000000
namespace Go.Proofs.YtejhijhnlogikaaGreatDoor
section
open Go Go.Sk Go.RowKit Tryz
attribute [local irreducible] Go.Calls
def zH8:List Value:=[.string ⟨#[110,117,109,98,101,114,115]⟩,.func (.func 120) #[] #[],.string ⟨#[97,99,99,111,117,110,116,115]⟩,.func (.func 121) #[] #[],.string ⟨#[105,110,115,116,114,117,109,101,110,116,115]⟩,.func (.func 122) #[] #[],.string ⟨#[114,111,119,115]⟩,.func (.func 123) #[] #[],.string ⟨#[111,114,100,101,114,115]⟩,.func (.func 124) #[] #[],.string ⟨#[97,117,99,116,105,111,110,115]⟩,.func (.func 125) #[] #[],.string ⟨#[104,101,108,100]⟩,.func (.func 126) #[] #[]]
theorem zUd (w0:World) :
  Calls prog 86 [].toArray w0 (zf (fun M v=>∃ b T fr,v=.slice (some ⟨b,0,none⟩) 7 7∧M=[(b,Obj.cells zH8.toArray T fr)]) w0):=by
 refine eN func86 ntmps86 ?_
 have H:=zA w0
 repeat' (first|refine yW ?_|(refine yB ?_;intro b w H)|fail)
 exact zO rfl H ⟨_,_,_,rfl,rfl⟩
def rulN (k:Nat):ByteArray:=[⟨#[110,117,109,98,101,114,115]⟩,⟨#[97,99,99,111,117,110,116,115]⟩,⟨#[105,110,115,116,114,117,109,101,110,116,115]⟩,⟨#[114,111,119,115]⟩,⟨#[111,114,100,101,114,115]⟩,⟨#[97,117,99,116,105,111,110,115]⟩,⟨#[104,101,108,100]⟩].getD k ⟨#[]⟩
def rulG (k:Nat):FuncId:=[120,121,122,123,124,125,126].getD k 0
def rulE (k:Nat):List Value:=[.string (rulN k),.func (.func (rulG k)) #[] #[]]
theorem rul_sl {b:Nat}{T:TypeId}{fr:Nat × Nat}{F:zB}(hm:(b,Obj.cells zH8.toArray T fr)∈F):SlB F 2 (some ⟨b,0,none⟩) 7 b 0 zH8 T fr rulE:=fun _=>⟨rfl,hm,fun j hj=>by
 match j,hj with
 | 0,_=>exact⟨by decide,rfl⟩
 | 1,_=>exact⟨by decide,rfl⟩
 | 2,_=>exact⟨by decide,rfl⟩
 | 3,_=>exact⟨by decide,rfl⟩
 | 4,_=>exact⟨by decide,rfl⟩
 | 5,_=>exact⟨by decide,rfl⟩
 | 6,_=>exact⟨by decide,rfl⟩⟩
theorem zUe {k:Nat}(hk:k<7):Ent prog (rulG k):=by
 match k,hk with
 | 0,_=>exact ent120
 | 1,_=>exact ent121
 | 2,_=>exact ent122
 | 3,_=>exact ent123
 | 4,_=>exact ent124
 | 5,_=>exact ent125
 | 6,_=>exact ent126
def zEw (ok:Nat→Bool):ByteArray:=if idx (fun k=>!ok k) 7<0 then⟨#[]⟩ else rulN (idx (fun k=>!ok k) 7).toNat
theorem zPd {F:zB}(s:Sta)(p:SPt)(ok:Nat→Bool)(hr:∀ k,k<7→(∀ j,j<k→ok j=true)→∀ w,Mem w F→Calls prog (rulG k) [.agg (s.cells p).toArray].toArray w (Ret (.bool (ok k)) w))(w0:World)(hF:Mem w0 F) :
  Calls prog 41 [.agg (s.cells p).toArray].toArray w0 (Ret (.string (zEw ok)) w0):=by
 refine eN func41 ntmps41 ?_
 have H:=zA w0
 repeat' (first|refine yX ?_|(refine yB ?_;intro b w H)|(refine f0 ent86 ?_;refine⟨_,zUd _,?_⟩;clear H;intro v M w hR H;(try simp only[zca,zcb] at H);obtain⟨br,TR,fr,rfl,rfl⟩:=hR)|with_reducible apply zC|fail)
 refine zI [(2,2),(4,4),(7,18)] (fun k:Nat=>[(7,.int .i64 (k:Int))]) (fun k w=>k≤7∧(∀ j,j<k→(!ok j)=false)∧St w0 [cb _ (s.cells p) 40,(br,Obj.cells zH8.toArray TR fr)] w) (fun k=>7 - k) 0 ⟨rfl,trivial⟩ ⟨zzD _,fun j hj=>absurd hj (zzE _),H⟩ ?_
 clear H
 rintro k gh w ⟨hk,hn,H⟩
 have hs1:=fun{F:zB} (hm:(br,Obj.cells zH8.toArray TR fr)∈F)=>rul_sl hm
 repeat' (first|refine yX ?_|fail)
 refine zD rfl (fun h=>?_) (fun h=>?_)
 ·have hlt:k<7:=by have:=zzA h;omega
  clear h
  obtain⟨okk,hok⟩:∃ b,ok k=b:=⟨_,rfl⟩
  have hrk:=hr k hlt fun j hj=>by have:=hn j hj;simpa using this
  rw[hok] at hrk
  repeat' (first|refine yW ?_|(refine yB ?_;intro b w H)|(refine y11 sg H ?_;intro w H)|(refine y40 sg (hs1 (List.Mem.head [])) ?_ ?_ ?_;(omega);(omega))|(refine zb rfl rfl (zBD sg (hs1 (by first|exact zz2 _|exact zz5 _ (zz2 _))) H.mem rfl rfl rfl rfl rfl hlt) ?_)|(refine OX.call rfl rfl (zA3 (zUe hlt) rfl rfl rfl) (hrk _ (H.memF hF)) ?_;refine wQ H ?_;clear H;intro w H)|with_reducible apply zC|(refine y23 ?_ ?_;all_goals intro h)|fail)
  all_goals rw[← hok] at h
  all_goals first
   | exact zP rfl H.cl (congrArg Value.string (by unfold zEw;rw[zBm hlt hn h,if_neg qO,Int.toNat_natCast]))
   | (refine zF (k+1) rfl ⟨zd qO,trivial⟩ ⟨hlt,fun j hj=>?_,H.sub (zz7 _ _)⟩ qO
      rcases(show j<k∨j=k by omega) with g|rfl
      ·exact hn j g
      ·exact h)
   | fail
 ·obtain rfl:k=7:=by have:=zzB h;omega
  repeat' (first|refine yX ?_|fail)
  exact zP rfl H.cl (congrArg Value.string (by unfold zEw;rw[zA4 hn];rfl))
def stOk (s:Sta)(k:Nat):Bool:=[zHD s,zEv s.accts,zC2 s.insts,zC3 s,zBF s,zC4 s,zFm s].getD k true
structure StaW (s:Sta):Prop where
 ac:s.accts.length≤10000
 acN:∀ k,k<s.accts.length→(ac_ s.accts k).name.size≤140737488355328
 ins:s.insts.length≤10000
 insN:∀ k,k<s.insts.length→(in_ s.insts k).name.size≤140737488355328
 rw:∀ j,j<s.rows.length→(rw_ s.rows j).wf
theorem zUf {F:zB}(s:Sta)(p:SPt)(hW:StaW s)(w0:World)(hF:Mem w0 F)(hs:StaM F s p) :
  Calls prog 41 [.agg (s.cells p).toArray].toArray w0 (Ret (.string (zEw (stOk s))) w0):=by
 refine zPd s p (stOk s) (fun k hk hj w hM=>?_) w0 hF
 match k,hk with
 | 0,_=>exact zPb s p w
 | 1,_=>exact zM6 s p hW.ac hW.acN w hM hs
 | 2,_=>exact zIt s p hW.ins hW.insN w hM hs
 | 3,_=>exact c_rows s p hW.rw w hM hs
 | 4,_=>exact zR3 s p (hj 2 qO) w hM hs
 | 5,_=>exact zM8 s p w hM hs
 | 6,_=>exact c_held s p w hM hs
def zCU (s:Sta):Bool:=(List.range 7).all (stOk s)
theorem zKF (ok:Nat→Bool):((zEw ok).toList==(ByteArray.mk #[]).toList)=(List.range 7).all ok:=by
 rcases zZ (fun k=>!ok k) 7 with ⟨k,hk,_,hp,h2⟩|⟨h1,h2⟩
 ·unfold zEw
  rw[h2,if_neg qO,Int.toNat_natCast]
  have hf:(List.range 7).all ok=false:=List.all_eq_false.2 ⟨k,List.mem_range.2 hk,by simpa using hp⟩
  rw[hf]
  match k,hk with
  | 0,_=>rw[ByteArray.toList_eq,ByteArray.toList_eq];decide
  | 1,_=>rw[ByteArray.toList_eq,ByteArray.toList_eq];decide
  | 2,_=>rw[ByteArray.toList_eq,ByteArray.toList_eq];decide
  | 3,_=>rw[ByteArray.toList_eq,ByteArray.toList_eq];decide
  | 4,_=>rw[ByteArray.toList_eq,ByteArray.toList_eq];decide
  | 5,_=>rw[ByteArray.toList_eq,ByteArray.toList_eq];decide
  | 6,_=>rw[ByteArray.toList_eq,ByteArray.toList_eq];decide
 ·unfold zEw
  rw[h2,if_pos qO]
  have hf:(List.range 7).all ok=true:=List.all_eq_true.2 fun k hk=>by have:=h1 k (List.mem_range.1 hk);simpa using this
  rw[hf,ByteArray.toList_eq];decide
theorem zCn {F:zB}(s:Sta)(p:SPt)(hW:StaW s)(w0:World)(hF:Mem w0 F)(hs:StaM F s p) :
  Calls prog 14 [.agg (s.cells p).toArray].toArray w0 (Ret (.bool (zCU s)) w0):=by
 have hc:=fun w hM=>zUf s p hW w hM hs
 have he:=zKF (stOk s)
 obtain⟨c,hcc⟩:∃ c,zEw (stOk s)=c:=⟨_,rfl⟩
 rw[hcc] at hc he
 refine eN func14 ntmps14 ?_
 have H:=zA w0
 repeat' (first|refine yW ?_|(refine yB ?_;intro b w H)|(refine c0 ent41 ?_;refine⟨_,hc _ (H.memF hF),?_⟩;clear H;intro w H)|fail)
 all_goals exact zP rfl H.cl (congrArg Value.bool he)
end
section
open Go Go.Sk Go.RowKit Tryz
def OwnB (M:zB)(a:Option Addr)(cap:Nat)(l:List Bid):Prop:=Go.Sk.Own M 136 2 a l.length cap ((List.range l.length).flatMap (bel l))
theorem zFJ (l:List Bid)(j:Nat):(bel l j).length=2:=rfl
theorem zKG (l:List Bid)(j:Nat):∀ u∈bel l j,u.oneCell'=true:=by
 intro u hu
 simp only[bel,Bid.cells,List.mem_cons,List.not_mem_nil,or_false] at hu
 rcases hu with rfl|rfl<;>rfl
theorem OwnB.bids {M F:zB}{a:Option Addr}{cap:Nat}{l:List Bid}(h:OwnB M a cap l)(hM:M⊆F)(hn:l.length≤140737488355328):Bids F a cap l:=Go.Sk.Own.sl h hM (fun j _=>zFJ l j) hn
def OwnA (x:Auc)(M:zB)(v:Value):Prop:=∃ a cap,v=.agg (x.cells a cap).toArray∧OwnB M a cap x.bids
theorem c_own {a:Option Addr}{cap:Nat}(x:Auc){F:zB}(w0:World)(hF:Mem w0 F)(hs:Bids F a cap x.bids)(hb:x.bids.length≤8796093022208) :
  Calls prog 251 [.agg (x.cells a cap).toArray].toArray w0 (zf (OwnA x) w0):=by
 refine eN func251 ntmps251 ?_
 have H:=zA w0
 repeat' (first|refine yW ?_|(refine yB ?_;intro b w H)|(refine y11 sg H ?_;intro w H)|(refine f0 zQ9 ?_;refine⟨_,zFh _ (H.memF hF) hs (fun j _=>zKG _ j) (fun j _=>zFJ _ j) qO,?_⟩;clear H;intro v M w hR H;(try simp only[zca,zcb] at H);obtain⟨a',cap',rfl,hO⟩:=hR)|fail)
 refine zBs (vs:=[_]) (M:=M) ⟨zm sg rfl H.mem (zz2 _) rfl rfl,trivial⟩ (H.sub zLD) ⟨a',cap',rfl,hO⟩
def Auc.zero:Auc:=⟨0,0,0,false,0,0,0,0,[]⟩
theorem c_Get1 {a:Option Addr}{cap:Nat}(x:Auc)(id:Int)(b:Nat)(T:TypeId){F:zB}(w0:World)(hF:Mem w0 F)(hm:(b,Obj.cells [Value.int .i64 id].toArray T (0,0))∈F) :
  Calls prog 250 [.agg (x.cells a cap).toArray,.pointer (some ⟨b,0,none⟩)].toArray w0 (Ret (.bool (x.id==id)) w0):=by
 refine eN func250 ntmps250 ?_
 have H:=zA w0
 repeat' (first|refine yW ?_|(refine yB ?_;intro b w H)|refine z13 (zH sg rfl rfl (H.memF hF) hm rfl rfl) ?_|fail)
 exact zP rfl H.cl rfl
def zIu (l:List Auc)(id:Int):Int:=idx (fun j=>(l.getD j default).id==id) l.length
def zBK (l:List Auc)(id:Int):Auc × Bool:=if zIu l id<0 then(Auc.zero,false) else(l.getD (zIu l id).toNat default,true)
theorem zHW (l:List Auc)(id:Int):-1≤zIu l id∧zIu l id<l.length:=by
 rcases zZ (fun j=>(l.getD j default).id==id) l.length with ⟨k,h1,_,_,h2⟩|⟨_,h2⟩<;>(unfold zIu;rw[h2];omega)
theorem c_Get {a:Option Addr}{cap:Nat}(l:List Auc)(ad:Nat→Option Addr × Nat)(id:Int){F:zB}(w0:World)(hF:Mem w0 F)(hs0:Aucs F a cap l ad)(hb:∀ j,j<l.length→(l.getD j default).bids.length≤8796093022208) :
  Calls prog 207 [.slice a l.length cap,.int .i64 id].toArray w0 (zf (fun M v=>∃ u,OwnA (zBK l id).1 M u∧v=.tuple #[u,.bool (zBK l id).2]) w0):=by
 have hs1:=hs0
 obtain⟨⟨hn,hc,b0,off,cs,T,fr,hs⟩,hbs⟩:=hs1
 have hg:=zHW l id
 unfold zIu at hg
 refine eN func207 ntmps207 ?_
 have H:=zA w0
 repeat' (first|refine yX ?_|(refine yB ?_;intro b w H)|(refine c0 zLG ?_;refine⟨_,zD8 (caps:=[.pointer (some ⟨_,0,none⟩)]) (fun j=>(l.getD j default).id==id) _ (H.memF hF) hs0.1 ent250 (fun j hj w hw=>c_Get1 (l.getD j default) id _ _ _ (H.ext hw).mem (zz5 _ (zz2 _))),?_⟩;clear H;intro w H)|fail)
 refine zD rfl (fun h=>?_) (fun h=>?_)
 ·repeat' (first|refine yX ?_|(refine y11 sg H ?_;intro w H)|fail)
  have e:zBK l id=(Auc.zero,false):=by unfold zBK zIu;rw[if_pos (of_decide_eq_true h)]
  refine zi (vs:=[_,_]) (M:=[]) ⟨zm sg rfl H.mem (zz2 _) rfl rfl,zW rfl,trivial⟩ (H.sub (zz9 _)) ?_
  rw[e]
  exact⟨_,⟨none,0,rfl,zUB _ _ _⟩,rfl⟩
 ·have hlt:=zzB h
  have e:zBK l id=(l.getD (idx (fun j=>(l.getD j default).id==id) l.length).toNat default,true):=by unfold zBK zIu;rw[if_neg hlt]
  repeat' (first|refine yX ?_|(refine y11 sg H ?_;intro w H)|refine x40 sg hs ?_|refine x42 sg hs (H.memF hF) ?_|(refine f0 ent251 ?_;refine⟨_,c_own (l.getD (idx (fun j=>(l.getD j default).id==id) l.length).toNat default) _ (H.memF hF) (hbs _ qO) (hb _ qO),?_⟩;clear H;intro v M w hR H;(try simp only[zca,zcb] at H);obtain⟨a',cap',rfl,hO⟩:=hR)|fail)
  refine zi (vs:=[_,_]) (M:=M) ⟨zm sg rfl H.mem (zz2 _) rfl rfl,zW rfl,trivial⟩ (H.sub zLD) ?_
  rw[e];exact⟨_,⟨a',cap',rfl,hO⟩,rfl⟩
def Bid.zero:Bid:=⟨0,0⟩
def zAO (x:Auc):Bid × Bool:=if hi x.bids<0||!zAU x then(Bid.zero,false) else(x.bids.getD (hi x.bids).toNat default,true)
theorem zR4 {a:Option Addr}{cap:Nat}(x:Auc){F:zB}(w0:World)(hF:Mem w0 F)(hs0:Bids F a cap x.bids) :
  Calls prog 262 [.agg (x.cells a cap).toArray].toArray w0 (Ret (.tuple #[.agg (zAO x).1.cells.toArray,.bool (zAO x).2]) w0):=by
 have hs1:=hs0
 obtain⟨hn,hc,b0,off,cs,T,fr,hs⟩:=hs1
 have hh:-1≤hi x.bids∧hi x.bids<x.bids.length:=zEA _ _
 refine eN func262 ntmps262 ?_
 have H:=zA w0
 repeat' (first|refine yW ?_|(refine yB ?_;intro b w H)|(refine y11 sg H ?_;intro w H)|(refine y40 sg (hs) ?_ ?_ ?_;((have:=of_decide_eq_false ‹decide (hi x.bids<0)=false›;omega));(omega))|(refine y42 sg (hs) ((H.memF hF)) ?_ ?_;((have:=of_decide_eq_false ‹decide (hi x.bids<0)=false›;omega)))|(refine c0 zRb ?_;refine⟨_,zJC x.bids _ (H.memF hF) hs0,?_⟩;clear H;intro w H)|(refine c0 zHr ?_;refine⟨_,zHw x _ (H.memF hF) hs0,?_⟩;clear H;intro w H)|(refine y17 ?_ ?_;all_goals intro h)|(refine y23 ?_ ?_;all_goals intro h)|fail)
 all_goals first
  | (refine zA7 (vs:=[_,_]) ⟨zm sg rfl H.mem (zz2 _) rfl rfl,zW rfl,trivial⟩ H.cl ?_
     simp only[zAO, *]
     rfl)
def mx (a b:Int):Int:=if b>a then b else a
def zFn (l:List Bid)(res:Int)(i:Int):Nat→Int
 | 0=>res
 | k+1=>if ((k:Int) != i)=true then mx (zFn l res i k) (l.getD k default).amount else zFn l res i k
def zDQ (x:Auc):Bid × Bool :=
 if hi x.bids<0||decide ((x.bids.getD (hi x.bids).toNat default).amount<x.reserve) then(Bid.zero,false)
 else(⟨(x.bids.getD (hi x.bids).toNat default).acct,zFn x.bids x.reserve (hi x.bids) x.bids.length⟩,true)
def zHE (x:Auc):Bid × Bool:=if (x.bids.length:Int)==0 then(Bid.zero,false) else(x.bids.getD 0 default,true)
theorem zUg {a:Option Addr}{cap:Nat}(x:Auc){F:zB}(w0:World)(hF:Mem w0 F)(hs:Bids F a cap x.bids) :
  Calls prog 328 [.agg #[],.agg (x.cells a cap).toArray].toArray w0 (Ret (.tuple #[.agg (zHE x).1.cells.toArray,.bool (zHE x).2]) w0):=by
 obtain⟨hn,hc,b0,off,cs,T,fr,hs⟩:=hs
 refine eN func328 ntmps328 ?_
 have H:=zA w0
 repeat' (first|refine yW ?_|(refine yB ?_;intro b w H)|(refine y11 sg H ?_;intro w H)|(refine y40 sg (hs) ?_ ?_ ?_;(omega);((have:=neI h;omega)))|(refine y42 sg (hs) ((H.memF hF)) ?_ ?_;((have:=neI h;omega)))|(refine y23 ?_ ?_;all_goals intro h)|fail)
 all_goals first
  | (refine zA7 (vs:=[_,_]) ⟨zm sg rfl H.mem (zz2 _) rfl rfl,zW rfl,trivial⟩ H.cl ?_
     simp only[zHE, *]
     rfl)
theorem zUh {a:Option Addr}{cap:Nat}(x:Auc){F:zB}(w0:World)(hF:Mem w0 F)(hs0:Bids F a cap x.bids) :
  Calls prog 323 [.agg #[],.agg (x.cells a cap).toArray].toArray w0 (Ret (.tuple #[.agg (zDQ x).1.cells.toArray,.bool (zDQ x).2]) w0):=by
 have hs1:=hs0
 obtain⟨hn,hc,b0,off,cs,T,fr,hs⟩:=hs1
 have hh:-1≤hi x.bids∧hi x.bids<x.bids.length:=zEA _ _
 refine eN func323 ntmps323 ?_
 have H:=zA w0
 repeat' (first|refine yX ?_|(refine yB ?_;intro b w H)|(refine y11 sg H ?_;intro w H)|(refine y41 sg (hs) ?_ ?_ ?_;((have:=of_decide_eq_false ‹decide (hi x.bids<0)=false›;omega));(omega))|(refine y45 sg (hs) ((H.memF hF)) ?_ ?_;((have:=of_decide_eq_false ‹decide (hi x.bids<0)=false›;omega)))|(refine c0 zRb ?_;refine⟨_,zJC x.bids _ (H.memF hF) hs0,?_⟩;clear H;intro w H)|(refine y18 ?_ ?_;all_goals intro h)|(refine qN H ?_;clear H;intro w H)|refine y20 mixed ?_|fail)
 ·refine zA7 (vs:=[_,_]) ⟨zm sg rfl H.mem (zz2 _) rfl rfl,zW rfl,trivial⟩ H.cl ?_
  simp only[zDQ, *]
  rfl
 ·refine zD rfl (fun h2=>?_) (fun h2=>?_)
  ·repeat' (first|refine yX ?_|(refine y11 sg H ?_;intro w H)|fail)
   refine zA7 (vs:=[_,_]) ⟨zm sg rfl H.mem (zz2 _) rfl rfl,zW rfl,trivial⟩ H.cl ?_
   simp only[zDQ, *]
   rfl
  ·have hge:=zzB h
   repeat' (first|refine yX ?_|with_reducible apply zC|fail)
   refine zI [(7,9),(32,44)] (fun k:Nat=>[(32,.int .i64 (k:Int)),(7,.int .i64 (zFn x.bids x.reserve (hi x.bids) k))])
    (fun k w=>k≤x.bids.length∧St w0 [cb _ Bid.zero.cells 136,cb _ (x.cells a cap) 86,cb _ [] 230] w) (fun k=>x.bids.length - k) 0 ⟨rfl,rfl,trivial⟩ ⟨zzD _,H⟩ ?_
   clear H
   rintro k g w ⟨hk,H⟩
   repeat' (first|refine yX ?_|fail)
   refine zD rfl (fun h3=>?_) (fun h3=>?_)
   ·have hlt:k<x.bids.length:=by simpa using h3
    repeat' (first|refine yW ?_|(refine yB ?_;intro b w H)|(refine y11 sg H ?_;intro w H)|refine x40 sg hs ?_|refine x42 sg hs (H.memF hF) ?_|with_reducible apply zC|(refine y23 ?_ ?_;all_goals intro h)|fail)
    all_goals refine zF (k+1) rfl ⟨zd qO,?_,trivial⟩ ⟨hlt,H.sub zLD⟩ qO
    ·show Value.int .i64 (mx _ _)=_
     rw[zFn,if_pos ‹_›]
    ·show Value.int .i64 (zFn x.bids x.reserve (hi x.bids) k)=_
     rw[zFn,if_neg (by simp only[*];simp)]
   ·have hkn:k=x.bids.length:=by simp at h3;omega
    subst hkn
    repeat' (first|refine yW ?_|(refine y11 sg H ?_;intro w H)|refine x40 sg hs ?_|refine x44 sg hs (H.memF hF) ?_|fail)
    refine zA7 (vs:=[_,_]) ⟨zm sg rfl H.mem (zz2 _) rfl rfl,zW rfl,trivial⟩ H.cl ?_
    simp only[zDQ, *]
    rfl
def zL (x:Auc):Bid × Bool:=if zAU x then(if x.sealed then zDQ x else zHE x) else(Bid.zero,false)
theorem zGC {a:Option Addr}{cap:Nat}(x:Auc){F:zB}(w0:World)(hF:Mem w0 F)(hs:Bids F a cap x.bids) :
  Calls prog 252 [.agg (x.cells a cap).toArray].toArray w0 (Ret (.tuple #[.agg (zL x).1.cells.toArray,.bool (zL x).2]) w0):=by
 refine eN func252 ntmps252 ?_
 have H:=zA w0
 rcases Bool.eq_false_or_eq_true x.sealed with hse|hse
 ·have e:zAU x=true→zL x=zDQ x:=fun h=>by simp[zL,h,hse]
  repeat' (first|refine yS ?_|(refine yB ?_;intro b w H)|(refine y11 sg H ?_;intro w H)|refine y12 ?_|(refine CW.regionR mixed ?_;refine wQ H ?_;clear H;intro w H;(with_reducible apply RW.quiet 6);exact rfl;decide +kernel;simp only[List.append_eq,List.cons_append,List.nil_append,List.take_succ_cons,List.take_zero,List.drop_zero])|(refine c0 zHr ?_;refine⟨_,zHw x _ (H.memF hF) hs,?_⟩;clear H;intro w H)|(refine q0 zGd ?_;refine⟨_,fun _ hcl=>zRq x a cap _ hse,?_⟩)|((with_reducible apply QX.call);exact rfl;exact rfl;exact En.inv ent323 rfl rfl (zUP) rfl;exact(fun _ hcl=>zUh x _ ((H.ext hcl).memF hF) hs))|refine yU ?_|(refine qN H ?_;clear H;intro w H)|(refine y23 ?_ ?_;all_goals intro h)|fail)
  ·refine zA7 (vs:=[_,_]) ⟨zm sg rfl H.mem (zz2 _) rfl rfl,zW rfl,trivial⟩ H.cl ?_
   have e:zL x=(Bid.zero,false):=by simp only[Bool.not_eq_true'] at h;simp[zL,h]
   rw[e];rfl
  ·rw[e (by simpa using h)]
   exact zK9 (vs:=[_,_]) ⟨zm sg rfl H.mem (zz2 _) rfl rfl,zW rfl,trivial⟩ H.cl rfl
 ·have e:zAU x=true→zL x=zHE x:=fun h=>by simp[zL,h,hse]
  repeat' (first|refine yS ?_|(refine yB ?_;intro b w H)|(refine y11 sg H ?_;intro w H)|refine y12 ?_|(refine CW.regionR mixed ?_;refine wQ H ?_;clear H;intro w H;(with_reducible apply RW.quiet 6);exact rfl;decide +kernel;simp only[List.append_eq,List.cons_append,List.nil_append,List.take_succ_cons,List.take_zero,List.drop_zero])|(refine c0 zHr ?_;refine⟨_,zHw x _ (H.memF hF) hs,?_⟩;clear H;intro w H)|(refine q0 zGd ?_;refine⟨_,fun _ hcl=>zRr x a cap _ hse,?_⟩)|((with_reducible apply QX.call);exact rfl;exact rfl;exact En.inv ent328 rfl rfl (zUQ) rfl;exact(fun _ hcl=>zUg x _ ((H.ext hcl).memF hF) hs))|refine yU ?_|(refine qN H ?_;clear H;intro w H)|(refine y23 ?_ ?_;all_goals intro h)|fail)
  ·refine zA7 (vs:=[_,_]) ⟨zm sg rfl H.mem (zz2 _) rfl rfl,zW rfl,trivial⟩ H.cl ?_
   have e:zL x=(Bid.zero,false):=by simp only[Bool.not_eq_true'] at h;simp[zL,h]
   rw[e];rfl
  ·rw[e (by simpa using h)]
   exact zK9 (vs:=[_,_]) ⟨zm sg rfl H.mem (zz2 _) rfl rfl,zW rfl,trivial⟩ H.cl rfl
theorem zJJ {n m:Int}(h:zu n m=true):1≤n∧n≤m:=by
 simp only[zu,Bool.and_eq_true,decide_eq_true_eq] at h;omega
theorem zOT {x:Auc}(h:zCF x=true)(j:Nat)(hj:j<x.bids.length):zBY x j=false:=by
 unfold zCF at h
 rcases zZ (zBY x) x.bids.length with ⟨k,h1,_,_,h2⟩|⟨h1,_⟩
 ·rw[h2] at h;simp at h;omega
 ·exact h1 j hj
theorem zJK {x:Auc}(h:zAU x=true)(j:Nat)(hj:j<x.bids.length):1≤(x.bids.getD j default).amount∧(x.bids.getD j default).amount≤1125899906842624:=by
 simp only[zAU,Bool.and_eq_true] at h
 have:=zOT h.2 j hj
 simp only[zBY,Bool.or_eq_false_iff,Bool.not_eq_false'] at this
 exact zJJ this.1.2
theorem zOU {x:Auc}(h:zAU x=true)(he:x.sealed=false):1≤x.step∧x.step≤1125899906842624:=by
 simp only[zAU,Bool.and_eq_true,zAb,he,zEr,Bool.false_eq_true,if_false] at h
 exact zJJ h.1.2.1
def zEI (x:Auc):Int:=if (x.bids.length:Int)==0 then x.reserve else(zMw (x.bids.getD 0 default).amount x.step).1
theorem zR5 {a:Option Addr}{cap:Nat}(x:Auc){F:zB}(w0:World)(hF:Mem w0 F)(hs:Bids F a cap x.bids)(hm:zAU x=true)(he:x.sealed=false) :
  Calls prog 325 [.agg #[],.agg (x.cells a cap).toArray].toArray w0 (Ret (.int .i64 (zEI x)) w0):=by
 obtain⟨hn,hc,b0,off,cs,T,fr,hs⟩:=hs
 have hst:=zOU hm he
 refine eN func325 ntmps325 ?_
 have H:=zA w0
 repeat' (first|refine yX ?_|(refine yB ?_;intro b w H)|fail)
 refine zD rfl (fun h=>?_) (fun h=>?_)
 ·repeat' (first|refine yX ?_|fail)
  exact zP rfl H.cl (by simp only[zEI,h,if_true])
 ·have hpos:0<x.bids.length:=by have:=neI h;omega
  have hb:=zJK hm 0 hpos
  repeat' (first|refine yX ?_|refine x41 sg hs ?_|refine x45 sg hs (H.memF hF) ?_|(refine q0 ent76 ?_;refine⟨_,fun _ hcl=>c_Add _ _ _ qO qO qO qO,?_⟩)|(refine qN H ?_;clear H;intro w H)|refine y20 mixed ?_|fail)
  exact zP rfl H.cl (by simp only[zEI,h];rfl)
theorem zR6 (c d:Bid)(T:TypeId)(b:Nat)(w:World)(F:zB)(hF:Mem w F)(hm:(b,Obj.cells d.cells.toArray T (0,0))∈F) :
  Calls prog 324 [.agg c.cells.toArray,.pointer (some ⟨b,0,none⟩)].toArray w (Ret (.bool (c.acct==d.acct)) w):=by
 refine eN func324 ntmps324 ?_
 have H:=zA w
 repeat' (first|refine yW ?_|(refine yB ?_;intro b w H)|refine z13 (zH sg rfl rfl (H.memF hF) hm rfl rfl) ?_|fail)
 all_goals exact zP rfl H.cl rfl
theorem zPe (l:List Bid)(b:Bid):(List.range l.length).flatMap (bel l)++b.cells=(List.range (l++[b]).length).flatMap (bel (l++[b])):=by
 rw[List.length_append,List.length_singleton,List.range_succ,List.flatMap_append,List.flatMap_singleton]
 congr 1
 ·have:∀ m,m≤l.length→(List.range m).flatMap (bel l)=(List.range m).flatMap (bel (l++[b])):=by
   intro m
   induction m with
   | zero=>intro _;rfl
   | succ m ih =>
     intro hm
     rw[List.range_succ,List.flatMap_append,List.flatMap_append,ih qO,List.flatMap_singleton,List.flatMap_singleton]
     have hlt:m<l.length:=by omega
     simp[bel,List.getD,List.getElem?_append_left hlt]
  exact this _ (zzC _)
 ·simp[bel,List.getD]
def zCV (x:Auc)(b:Bid):List Bid × Int :=
 if idx (fun i=>(x.bids.getD i default).acct==b.acct) x.bids.length ≥ 0 then([],6) else if (x.bids.length:Int) ≥ 16 then([],40) else(x.bids++[b],0)
def TakeR (r:List Bid × Int)(M:zB)(v:Value):Prop:=∃ a cap,OwnB M a cap r.1∧v=.tuple #[.slice a r.1.length cap,.int .i64 r.2]
theorem zUi {a:Option Addr}{cap:Nat}(x:Auc)(y:Bid){F:zB}(w0:World)(hF:Mem w0 F)(hs:Bids F a cap x.bids) :
  Calls prog 322 [.agg #[],.agg (x.cells a cap).toArray,.agg y.cells.toArray].toArray w0 (zf (TakeR (zCV x y)) w0):=by
 refine eN func322 ntmps322 ?_
 have H:=zA w0
 repeat' (first|refine yX ?_|(refine yB ?_;intro b w H)|(refine c0 zMh ?_;refine⟨_,zDa (caps:=[.pointer (some ⟨_,0,none⟩)]) (fun i=>(x.bids.getD i default).acct==y.acct) _ (H.memF hF) hs ent324 (fun j hj w hw=>zR6 (x.bids.getD j default) y 136 _ _ _ (H.ext hw).mem (zz2 _)),?_⟩;clear H;intro w H)|with_reducible apply zC|fail)
 refine zD rfl (fun h=>?_) (fun h=>?_)
 ·repeat' (first|refine yX ?_|fail)
  have e:zCV x y=([],6):=by simp only[zCV,if_pos (of_decide_eq_true h)]
  exact zi (vs:=[_,_]) (M:=[]) ⟨zW rfl,zW rfl,trivial⟩ (H.sub zLD) ⟨none,0,by rw[e];exact zUB _ _ _,by rw[e];rfl⟩
 ·repeat' (first|refine yX ?_|fail)
  refine zD rfl (fun h2=>?_) (fun h2=>?_)
  ·repeat' (first|refine yX ?_|fail)
   have e:zCV x y=([],40):=by simp only[zCV,if_neg (of_decide_eq_false h),if_pos (of_decide_eq_true h2)]
   exact zi (vs:=[_,_]) (M:=[]) ⟨zW rfl,zW rfl,trivial⟩ (H.sub zLD) ⟨none,0,by rw[e];exact zUB _ _ _,by rw[e];rfl⟩
  ·have hlen:=zzB h2
   have e:zCV x y=(x.bids++[y],0):=by simp only[zCV,if_neg (of_decide_eq_false h),if_neg hlen]
   repeat' (first|refine yS ?_|(refine CW.regionR mixed ?_;refine wQ H ?_;clear H;intro w H;(with_reducible apply RW.all))|((with_reducible apply RS.bar (k:=5));decide +kernel;decide +kernel)|((with_reducible apply RS.c1 0);exact rfl;decide +kernel;exact rfl)|((with_reducible apply RS.c1 1);exact rfl;decide +kernel;exact rfl)|((with_reducible apply RS.c1 2);exact rfl;decide +kernel;exact rfl)|((with_reducible apply RS.c1 3);exact rfl;decide +kernel;exact rfl)|((with_reducible apply RS.c1 4);exact rfl;decide +kernel;exact rfl)|((with_reducible apply RS.c2 0 3);exact rfl;decide +kernel;exact rfl;exact rfl)|((with_reducible apply RS.c2 0 4);exact rfl;decide +kernel;exact rfl;exact rfl)|((with_reducible apply RS.c2 1 3);exact rfl;decide +kernel;exact rfl;exact rfl)|((with_reducible apply RS.c2 1 4);exact rfl;decide +kernel;exact rfl;exact rfl)|((with_reducible apply RS.c2 2 3);exact rfl;decide +kernel;exact rfl;exact rfl)|((with_reducible apply RS.c2 2 4);exact rfl;decide +kernel;exact rfl;exact rfl)|(refine yB ?_;intro b w H)|(refine f0 zQ9 ?_;refine⟨_,zFh _ (H.memF hF) hs (fun j _=>zKG _ j) (fun j _=>zFJ _ j) qO,?_⟩;clear H;intro v M w hR H;(try simp only[zca,zcb] at H);obtain⟨a',cap',rfl,hO⟩:=hR)|refine yU ?_|fail)
   all_goals(have hp:=H.perm (List.perm_append_comm (l₁:=[_,_,_,_]) (l₂:=M)))
   all_goals repeat' (first|refine yX ?_|refine y12 ?_|(refine zc sg 2 16 (M:=M) hp rfl rfl rfl rfl rfl rfl rfl rfl rfl rfl rfl hO (zn hp.mem (zz3 _ (zz2 _))) rfl (by intro u hu;simp only[List.mem_cons,List.not_mem_nil,or_false] at hu;rcases hu with rfl|rfl<;>rfl) (by unfold maxLen;omega) qO ?_;intro a'' cap'' M'' w hO2 H;clear hp)|fail)
   all_goals exact zi (vs:=[_,_]) (M:=M'') ⟨zW rfl,zW rfl,trivial⟩ (H.sub (List.sublist_append_left _ _)) ⟨a'',cap'',by rw[e];show Go.Sk.Own _ _ 2 _ (x.bids++[y]).length _ _;rw[← zPe,List.length_append];exact hO2,by rw[e];show _=Value.tuple #[.slice _ (x.bids++[y]).length _,_];rw[List.length_append];rfl⟩
def zC5 (x:Auc)(y:Bid):List Bid × Int:=if y.amount<zEI x then([],51) else([y],0)
theorem zUj {a:Option Addr}{cap:Nat}(x:Auc)(y:Bid){F:zB}(w0:World)(hF:Mem w0 F)(hs:Bids F a cap x.bids)(hm:zAU x=true)(he:x.sealed=false) :
  Calls prog 327 [.agg #[],.agg (x.cells a cap).toArray,.agg y.cells.toArray].toArray w0 (zf (TakeR (zC5 x y)) w0):=by
 refine eN func327 ntmps327 ?_
 have H:=zA w0
 repeat' (first|refine yX ?_|(refine yB ?_;intro b w H)|(refine q0 ent325 ?_;refine⟨_,fun _ hcl=>zR5 x _ ((H.ext hcl).memF hF) hs hm he,?_⟩)|(refine qN H ?_;clear H;intro w H)|refine y20 mixed ?_|fail)
 refine zD rfl (fun h=>?_) (fun h=>?_)
 ·repeat' (first|refine yX ?_|fail)
  have e:zC5 x y=([],51):=by simp only[zC5,if_pos (of_decide_eq_true h)]
  exact zi (vs:=[_,_]) (M:=[]) ⟨zW rfl,zW rfl,trivial⟩ (H.sub zLD) ⟨none,0,by rw[e];exact zUB _ _ _,by rw[e];rfl⟩
 ·repeat' (first|refine yX ?_|(refine yB ?_;intro b w H)|fail)
  have e:zC5 x y=([y],0):=by simp only[zC5,if_neg (of_decide_eq_false h)]
  exact zi (vs:=[_,_]) (M:=[_]) ⟨zW rfl,zW rfl,trivial⟩ (H.sub (List.Sublist.cons_cons _ (zz9 _))) ⟨_,1,by rw[e];exact Go.Sk.Own.mk (n:=1) (cap:=1) (size:=2) (zzC _) (by decide) rfl,by rw[e];rfl⟩
def Auc.put (x:Auc)(l:List Bid):Auc:=⟨x.id,x.seller,x.inst,x.sealed,x.qty,x.reserve,x.step,x.fin,l⟩
def zGj (x:Auc)(y:Bid):List Bid × Int:=if x.sealed then zCV x y else zC5 x y
def zS (x:Auc)(y:Bid):Auc × Int :=
 if zAU x=false then(Auc.zero,4) else if (zu y.acct 64&&zu y.amount 1125899906842624)=false then(Auc.zero,1) else if y.acct==x.seller then(Auc.zero,49)
 else if (zGj x y).2 != 0 then(Auc.zero,(zGj x y).2) else(x.put (zGj x y).1,0)
theorem zCW {x:Auc}{y:Bid}{M:zB}{e:Env}{w0 w:World}(hr:rds prog e w [ResultVar.cell 4 86,ResultVar.tmp 5] [.agg (Auc.zero.cells none 0).toArray,.int .i64 (zS x y).2])(hS:St w0 M w)(hz:(zS x y).1=Auc.zero) :
  post prog [ResultVar.cell 4 86,ResultVar.tmp 5] (zf (fun M v=>∃ u,OwnA (zS x y).1 M u∧v=.tuple #[u,.int .i64 (zS x y).2]) w0) .ret e w :=
 zi (M:=[]) hr (hS.sub (zz9 _)) ⟨_,⟨none,0,rfl,by rw[hz];exact zUB _ _ _⟩,by rw[hz];rfl⟩
theorem zR7 {a:Option Addr}{cap:Nat}(x:Auc)(y:Bid){F:zB}(w0:World)(hF:Mem w0 F)(hs:Bids F a cap x.bids) :
  Calls prog 261 [.agg (x.cells a cap).toArray,.agg y.cells.toArray].toArray w0 (zf (fun M v=>∃ u,OwnA (zS x y).1 M u∧v=.tuple #[u,.int .i64 (zS x y).2]) w0):=by
 refine eN func261 ntmps261 ?_
 have H:=zA w0
 repeat' (first|refine yX ?_|(refine yB ?_;intro b w H)|(refine c0 zHr ?_;refine⟨_,zHw x _ (H.memF hF) hs,?_⟩;clear H;intro w H)|with_reducible apply zC|fail)
 refine zD rfl (fun h=>?_) (fun h=>?_)
 ·repeat' (first|refine yX ?_|(refine y11 sg H ?_;intro w H)|fail)
  have e:zS x y=(Auc.zero,4):=by simp only[Bool.not_eq_true'] at h;simp only[zS,if_pos h]
  exact zCW (x:=x) (y:=y) ⟨zm sg rfl H.mem (zz2 _) rfl rfl,zW (by rw[e];rfl),trivial⟩ H (by rw[e])
 have hm:zAU x=true:=by simpa using h
 have n1:¬ zAU x=false:=by rw[hm];decide
 clear h
 rcases Bool.eq_false_or_eq_true x.sealed with hse|hse
 ·have em:zGj x y=zCV x y:=by simp[zGj,hse]
  repeat' (first|refine yS ?_|(refine y11 sg H ?_;intro w H)|refine y12 ?_|(refine c0 zHs ?_;refine⟨_,zDl _ _ _,?_⟩;clear H;intro w H)|(refine c0 zGc ?_;refine⟨_,zCR _ _ _,?_⟩;clear H;intro w H)|(refine q0 zGd ?_;refine⟨_,fun _ hcl=>zRq x a cap _ hse,?_⟩)|(refine CW.regionR mixed ?_;refine wQ H ?_;clear H;intro w H;(with_reducible apply RW.quiet 4);exact rfl;decide +kernel;simp only[List.append_eq,List.cons_append,List.nil_append,List.take_succ_cons,List.take_zero,List.drop_zero])|((with_reducible apply OX.callF);exact rfl;exact rfl;exact En.inv ent322 rfl rfl (zUR) rfl;exact zUi x y _ (H.memF hF) hs;intro v M w hR hS;replace H:=H.addR hS;clear hS;(try simp only[zca,zcb] at H);obtain⟨a',cap',hO,rfl⟩:=hR)|((with_reducible apply RW.one);exact rfl;decide +kernel)|((with_reducible apply RW.quiet 10);exact rfl;decide +kernel;simp only[List.append_eq,List.cons_append,List.nil_append,List.take_succ_cons,List.take_zero,List.drop_succ_cons,List.drop_zero])|refine yFf ?_|(refine y17 ?_ ?_;all_goals intro h)|refine yU ?_|(refine qN H ?_;clear H;intro w H)|(refine y23 ?_ ?_;all_goals intro h)|fail)
  all_goals simp only[Bool.not_eq_true',Bool.not_eq_false'] at *
  all_goals first
   | (have e:zS x y=(Auc.zero,1):=by simp[zS, *]
      exact zCW (x:=x) (y:=y) ⟨zm sg rfl H.mem (zz2 _) rfl rfl,zW (by rw[e];rfl),trivial⟩ H (by rw[e]))
   | (have e:zS x y=(Auc.zero,49):=by simp[zS, *]
      exact zCW (x:=x) (y:=y) ⟨zm sg rfl H.mem (zz2 _) rfl rfl,zW (by rw[e];rfl),trivial⟩ H (by rw[e]))
   | (have e:zS x y=(Auc.zero,(zCV x y).2):=by simp only[zS,em, *];simp
      exact zCW (x:=x) (y:=y) ⟨zm sg rfl H.mem (zz2 _) rfl rfl,zW (by rw[e];rfl),trivial⟩ H (by rw[e]))
   | (have e:zS x y=(x.put (zCV x y).1,0):=by simp only[zS,em, *];simp
      exact zi (vs:=[_,_]) (M:=M) ⟨zm sg rfl H.mem (zz2 _) rfl rfl,zW rfl,trivial⟩ (H.sub zLD) (by rw[e];exact⟨_,⟨a',cap',rfl,hO⟩,rfl⟩))
 ·have em:zGj x y=zC5 x y:=by simp[zGj,hse]
  repeat' (first|refine yS ?_|(refine y11 sg H ?_;intro w H)|refine y12 ?_|(refine c0 zHs ?_;refine⟨_,zDl _ _ _,?_⟩;clear H;intro w H)|(refine c0 zGc ?_;refine⟨_,zCR _ _ _,?_⟩;clear H;intro w H)|(refine q0 zGd ?_;refine⟨_,fun _ hcl=>zRr x a cap _ hse,?_⟩)|(refine CW.regionR mixed ?_;refine wQ H ?_;clear H;intro w H;(with_reducible apply RW.quiet 4);exact rfl;decide +kernel;simp only[List.append_eq,List.cons_append,List.nil_append,List.take_succ_cons,List.take_zero,List.drop_zero])|((with_reducible apply OX.callF);exact rfl;exact rfl;exact En.inv ent327 rfl rfl (zUS) rfl;exact zUj x y _ (H.memF hF) hs hm hse;intro v M w hR hS;replace H:=H.addR hS;clear hS;(try simp only[zca,zcb] at H);obtain⟨a',cap',hO,rfl⟩:=hR)|((with_reducible apply RW.one);exact rfl;decide +kernel)|((with_reducible apply RW.quiet 10);exact rfl;decide +kernel;simp only[List.append_eq,List.cons_append,List.nil_append,List.take_succ_cons,List.take_zero,List.drop_succ_cons,List.drop_zero])|refine yFf ?_|(refine y17 ?_ ?_;all_goals intro h)|refine yU ?_|(refine qN H ?_;clear H;intro w H)|(refine y23 ?_ ?_;all_goals intro h)|fail)
  all_goals simp only[Bool.not_eq_true',Bool.not_eq_false'] at *
  all_goals first
   | (have e:zS x y=(Auc.zero,1):=by simp[zS, *]
      exact zCW (x:=x) (y:=y) ⟨zm sg rfl H.mem (zz2 _) rfl rfl,zW (by rw[e];rfl),trivial⟩ H (by rw[e]))
   | (have e:zS x y=(Auc.zero,49):=by simp[zS, *]
      exact zCW (x:=x) (y:=y) ⟨zm sg rfl H.mem (zz2 _) rfl rfl,zW (by rw[e];rfl),trivial⟩ H (by rw[e]))
   | (have e:zS x y=(Auc.zero,(zC5 x y).2):=by simp only[zS,em, *];simp
      exact zCW (x:=x) (y:=y) ⟨zm sg rfl H.mem (zz2 _) rfl rfl,zW (by rw[e];rfl),trivial⟩ H (by rw[e]))
   | (have e:zS x y=(x.put (zC5 x y).1,0):=by simp only[zS,em, *];simp
      exact zi (vs:=[_,_]) (M:=M) ⟨zm sg rfl H.mem (zz2 _) rfl rfl,zW rfl,trivial⟩ (H.sub zLD) (by rw[e];exact⟨_,⟨a',cap',rfl,hO⟩,rfl⟩))
end
end Go.Proofs.YtejhijhnlogikaaGreatDoor
