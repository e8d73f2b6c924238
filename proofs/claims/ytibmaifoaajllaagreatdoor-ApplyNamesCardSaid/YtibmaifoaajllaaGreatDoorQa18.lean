/- Texts of ours, joined: the steps of the proof, or the claim's theorem. -/
import Derived.Test.YtibmaifoaajllaaGreatDoorQa14
import Derived.Test.YtibmaifoaajllaaGreatDoorQa17
set_option linter.unusedSimpArgs false
set_option linter.unusedVariables false
set_option maxHeartbeats 16000000
namespace Go.Proofs.YtibmaifoaajllaaGreatDoor
section
open Go Go.Sk Go.RowKit
attribute [local irreducible] Go.Calls
def rulN (k:Nat):ByteArray:=[⟨#[110,117,109,98,101,114,115]⟩,⟨#[97,99,99,111,117,110,116,115]⟩,⟨#[105,110,115,116,114,117,109,101,110,116,115]⟩,⟨#[114,111,119,115]⟩,⟨#[111,114,100,101,114,115]⟩,⟨#[97,117,99,116,105,111,110,115]⟩,⟨#[104,101,108,100]⟩].getD k ⟨#[]⟩
def rulG (k:Nat):FuncId:=[123,124,125,126,127,128,129].getD k 0
def rulE (k:Nat):List Value:=[.string (rulN k),.func (.func (rulG k)) #[] #[]]
theorem rul_sl {b:Nat}{T:TypeId}{fr:Nat × Nat}{F:zH}(hm:(b,Obj.cells zH3.toArray T fr)∈F):SlB F 2 (some ⟨b,0,none⟩) 7 b 0 zH3 T fr rulE:=fun _=>⟨rfl,hm,fun j hj=>by
 match j,hj with
 | 0,_=>exact⟨by decide,rfl⟩
 | 1,_=>exact⟨by decide,rfl⟩
 | 2,_=>exact⟨by decide,rfl⟩
 | 3,_=>exact⟨by decide,rfl⟩
 | 4,_=>exact⟨by decide,rfl⟩
 | 5,_=>exact⟨by decide,rfl⟩
 | 6,_=>exact⟨by decide,rfl⟩⟩
theorem zTe {k:Nat}(hk:k<7):Ent Tryz.prog (rulG k):=by
 match k,hk with
 | 0,_=>exact ent123
 | 1,_=>exact ent124
 | 2,_=>exact ent125
 | 3,_=>exact ent126
 | 4,_=>exact ent127
 | 5,_=>exact ent128
 | 6,_=>exact ent129
def zEr (ok:Nat→Bool):ByteArray:=if idx (fun k=>!ok k) 7<0 then⟨#[]⟩ else rulN (idx (fun k=>!ok k) 7).toNat
theorem zO5 {F:zH}(s:Sta)(p:SPt)(ok:Nat→Bool)(hr:∀ k,k<7→(∀ j,j<k→ok j=true)→∀ w,Mem w F→Calls Tryz.prog (rulG k) [.agg (s.cells p).toArray].toArray w (Ret (.bool (ok k)) w))(w0:World)(hF:Mem w0 F) :
  Calls Tryz.prog 43 [.agg (s.cells p).toArray].toArray w0 (Ret (.string (zEr ok)) w0):=by
 refine enter [.tmp 2] Tryz.func43 rfl Tryz.ntmps43 rfl rfl ?_
 have H:=zB w0
 repeat' (first|refine yT ?_|(refine y9 H ?_;intro b w H)|(refine' y32 ent80 ?_ ?_;rotate_left;exact zTd _;intro v M w hR hS;replace H:=H.addR hS;clear hS;(try simp only[List.cons_append,List.nil_append] at H);obtain⟨br,TR,fr,rfl,rfl⟩:=hR)|refine yU ?_|with_reducible apply zA|fail)
 refine zM [(2,2),(4,4),(7,18)] (fun k:Nat=>[(7,.int .i64 (k:Int))]) (fun k w=>k≤7∧(∀ j,j<k→(!ok j)=false)∧St w0 [cb _ (s.cells p) 28,(br,Obj.cells zH3.toArray TR fr)] w) (fun k=>7 - k) 0 ⟨rfl,trivial⟩ ⟨zzD _,fun j hj=>absurd hj (zzE _),H⟩ ?_
 clear H
 rintro k gh w ⟨hk,hn,H⟩
 have hs1:=fun{F:zH} (hm:(br,Obj.cells zH3.toArray TR fr)∈F)=>rul_sl hm
 repeat' (first|refine yT ?_|refine yU ?_|fail)
 refine zJ rfl (fun h=>?_) (fun h=>?_)
 ·have hlt:k<7:=by have:=zzA h;omega
  clear h
  obtain⟨okk,hok⟩:∃ b,ok k=b:=⟨_,rfl⟩
  have hrk:=hr k hlt fun j hj=>by have:=hn j hj;simpa using this
  rw[hok] at hrk
  repeat' (first|refine yT ?_|refine y7 sg H ?_|(refine y10 sg H ?_;intro b w H)|(refine y11 sg H ?_;intro w H)|(refine y40 sg (hs1 (List.Mem.head [])) ?_ ?_ ?_;(omega);(omega))|(refine zf rfl rfl (zBX sg (hs1 (by first|exact zz2 _|exact zz5 _ (zz2 _))) H.mem rfl rfl rfl rfl rfl hlt) ?_)|(refine OX.call rfl rfl (zBf (zTe hlt) rfl rfl rfl) (hrk _ (H.memF hF)) ?_;intro w hcl;replace H:=H.ext hcl;clear hcl)|refine yU ?_|with_reducible apply zA|(refine y23 ?_ ?_;all_goals intro h)|fail)
  all_goals rw[← hok] at h
  all_goals first
   | exact zQ rfl H.cl (congrArg Value.string (by unfold zEr;rw[zBx hlt hn h,if_neg (by omega),Int.toNat_natCast]))
   | (refine zK (k+1) rfl ⟨zZ (by omega),trivial⟩ ⟨hlt,fun j hj=>?_,H.sub (zz7 _ _)⟩ (by omega)
      rcases(show j<k∨j=k by omega) with g|rfl
      ·exact hn j g
      ·exact h)
   | fail
 ·obtain rfl:k=7:=by have:=zzB h;omega
  repeat' (first|refine yT ?_|refine yU ?_|fail)
  exact zQ rfl H.cl (congrArg Value.string (by unfold zEr;rw[zBB hn];rfl))
def stOk (s:Sta)(k:Nat):Bool:=[zHE s,zEq s.accts,zDC s.insts,zDD s,zBD s,zDE s,zFn s].getD k true
structure StaW (s:Sta):Prop where
 ac:s.accts.length≤10000
 acN:∀ k,k<s.accts.length→(ac_ s.accts k).name.size≤140737488355328
 ins:s.insts.length≤10000
 insN:∀ k,k<s.insts.length→(in_ s.insts k).name.size≤140737488355328
 rw:∀ j,j<s.rows.length→(rw_ s.rows j).wf
theorem zTf {F:zH}(s:Sta)(p:SPt)(hW:StaW s)(w0:World)(hF:Mem w0 F)(hs:StaM F s p) :
  Calls Tryz.prog 43 [.agg (s.cells p).toArray].toArray w0 (Ret (.string (zEr (stOk s))) w0):=by
 refine zO5 s p (stOk s) (fun k hk hj w hM=>?_) w0 hF
 match k,hk with
 | 0,_=>exact zO3 s p w
 | 1,_=>exact zMU s p hW.ac hW.acN w hM hs
 | 2,_=>exact zIl s p hW.ins hW.insN w hM hs
 | 3,_=>exact c_rows s p hW.rw w hM hs
 | 4,_=>exact zRI s p (hj 2 (by omega)) w hM hs
 | 5,_=>exact zMW s p w hM hs
 | 6,_=>exact c_held s p w hM hs
def zCC (s:Sta):Bool:=(List.range 7).all (stOk s)
theorem zJ0 (ok:Nat→Bool):((zEr ok).toList==(ByteArray.mk #[]).toList)=(List.range 7).all ok:=by
 rcases zY (fun k=>!ok k) 7 with ⟨k,hk,_,hp,h2⟩|⟨h1,h2⟩
 ·unfold zEr
  rw[h2,if_neg (by omega),Int.toNat_natCast]
  have hf:(List.range 7).all ok=false:=List.all_eq_false.2 ⟨k,List.mem_range.2 hk,by simpa using hp⟩
  rw[hf]
  match k,hk with
  | 0,_=>rw[ByteArray.toList_eq,ByteArray.toList_eq];decide
  | 1,_=>rw[ByteArray.toList_eq,ByteArray.toList_eq];decide
  | 2,_=>rw[ByteArray.toList_eq,ByteArray.toList_eq];decide
  | 3,_=>rw[ByteArray.toList_eq,ByteArray.toList_eq];decide
  | 4,_=>rw[ByteArray.toList_eq,ByteArray.toList_eq];decide
  | 5,_=>rw[ByteArray.toList_eq,ByteArray.toList_eq];decide
  | 6,_=>rw[ByteArray.toList_eq,ByteArray.toList_eq];decide
 ·unfold zEr
  rw[h2,if_pos (by omega)]
  have hf:(List.range 7).all ok=true:=List.all_eq_true.2 fun k hk=>by have:=h1 k (List.mem_range.1 hk);simpa using this
  rw[hf,ByteArray.toList_eq];decide
theorem zC1 {F:zH}(s:Sta)(p:SPt)(hW:StaW s)(w0:World)(hF:Mem w0 F)(hs:StaM F s p) :
  Calls Tryz.prog 26 [.agg (s.cells p).toArray].toArray w0 (Ret (.bool (zCC s)) w0):=by
 have hc:=fun w hM=>zTf s p hW w hM hs
 have he:=zJ0 (stOk s)
 obtain⟨c,hcc⟩:∃ c,zEr (stOk s)=c:=⟨_,rfl⟩
 rw[hcc] at hc he
 refine enter [.tmp 2] Tryz.func26 rfl Tryz.ntmps26 rfl rfl ?_
 have H:=zB w0
 repeat' (first|refine yT ?_|refine y7 sg H ?_|(refine y9 H ?_;intro b w H)|(refine' y30 ent43 ?_ ?_;rotate_left;exact hc _ (H.memF hF);intro w hcl;replace H:=H.ext hcl;clear hcl)|refine yU ?_|fail)
 all_goals exact zQ rfl H.cl (congrArg Value.bool he)
end
section
open Go Go.Sk Go.RowKit
def OwnB (M:zH)(a:Option Addr)(cap:Nat)(l:List Bid):Prop:=Go.Sk.Own M 91 2 a l.length cap ((List.range l.length).flatMap (bel l))
theorem zFC (l:List Bid)(j:Nat):(bel l j).length=2:=rfl
theorem zJ1 (l:List Bid)(j:Nat):∀ u∈bel l j,u.oneCell'=true:=by
 intro u hu
 simp only[bel,Bid.cells,List.mem_cons,List.not_mem_nil,or_false] at hu
 rcases hu with rfl|rfl<;>rfl
theorem OwnB.bids {M F:zH}{a:Option Addr}{cap:Nat}{l:List Bid}(h:OwnB M a cap l)(hM:M⊆F)(hn:l.length≤140737488355328):Bids F a cap l:=Go.Sk.Own.sl h hM (fun j _=>zFC l j) hn
def OwnA (x:Auc)(M:zH)(v:Value):Prop:=∃ a cap,v=.agg (x.cells a cap).toArray∧OwnB M a cap x.bids
def Auc.zero:Auc:=⟨0,0,0,false,0,0,0,0,[]⟩
def zIm (l:List Auc)(id:Int):Int:=idx (fun j=>(l.getD j default).id==id) l.length
theorem zJ2 (l:List Auc)(id:Int):-1≤zIm l id∧zIm l id<l.length:=by
 rcases zY (fun j=>(l.getD j default).id==id) l.length with ⟨k,h1,_,_,h2⟩|⟨_,h2⟩<;>(unfold zIm;rw[h2];omega)
def Bid.zero:Bid:=⟨0,0⟩
def zAH (x:Auc):Bid × Bool:=if hi x.bids<0||!zAV x then(Bid.zero,false) else(x.bids.getD (hi x.bids).toNat default,true)
theorem zRJ {a:Option Addr}{cap:Nat}(x:Auc){F:zH}(w0:World)(hF:Mem w0 F)(hs0:Bids F a cap x.bids) :
  Calls Tryz.prog 196 [.agg (x.cells a cap).toArray].toArray w0 (Ret (.tuple #[.agg (zAH x).1.cells.toArray,.bool (zAH x).2]) w0):=by
 have hs1:=hs0
 obtain⟨hn,hc,b0,off,cs,T,fr,hs⟩:=hs1
 have hh:-1≤hi x.bids∧hi x.bids<x.bids.length:=zEG _ _
 refine enter [.cell 2 91,.tmp 3] Tryz.func196 rfl Tryz.ntmps196 rfl rfl ?_
 have H:=zB w0
 repeat' (first|refine yT ?_|refine y7 sg H ?_|(refine y9 H ?_;intro b w H)|(refine y10 sg H ?_;intro b w H)|(refine y11 sg H ?_;intro w H)|(refine y40 sg (hs) ?_ ?_ ?_;((have:=of_decide_eq_false ‹decide (hi x.bids<0)=false›;omega));(omega))|(refine y42 sg (hs) ((H.memF hF)) ?_ ?_;((have:=of_decide_eq_false ‹decide (hi x.bids<0)=false›;omega)))|(refine' y30 zQn ?_ ?_;rotate_left;exact zIz x.bids _ (H.memF hF) hs0;intro w hcl;replace H:=H.ext hcl;clear hcl)|(refine' y30 zHo ?_ ?_;rotate_left;exact zHs x _ (H.memF hF) hs0;intro w hcl;replace H:=H.ext hcl;clear hcl)|refine yU ?_|(refine y17 ?_ ?_;all_goals intro h)|(refine y23 ?_ ?_;all_goals intro h)|fail)
 all_goals first
  | (refine zBT (vs:=[_,_]) ⟨zAf sg rfl H.mem (zz2 _) rfl rfl,zh rfl,trivial⟩ H.cl ?_
     simp only[zAH, *]
     rfl)
def mx (a b:Int):Int:=if b>a then b else a
def zFo (l:List Bid)(res:Int)(i:Int):Nat→Int
 | 0=>res
 | k+1=>if ((k:Int) != i)=true then mx (zFo l res i k) (l.getD k default).amount else zFo l res i k
def zDW (x:Auc):Bid × Bool :=
 if hi x.bids<0||decide ((x.bids.getD (hi x.bids).toNat default).amount<x.reserve) then(Bid.zero,false)
 else(⟨(x.bids.getD (hi x.bids).toNat default).acct,zFo x.bids x.reserve (hi x.bids) x.bids.length⟩,true)
def zHF (x:Auc):Bid × Bool:=if (x.bids.length:Int)==0 then(Bid.zero,false) else(x.bids.getD 0 default,true)
theorem zTg {a:Option Addr}{cap:Nat}(x:Auc){F:zH}(w0:World)(hF:Mem w0 F)(hs:Bids F a cap x.bids) :
  Calls Tryz.prog 284 [.agg #[],.agg (x.cells a cap).toArray].toArray w0 (Ret (.tuple #[.agg (zHF x).1.cells.toArray,.bool (zHF x).2]) w0):=by
 obtain⟨hn,hc,b0,off,cs,T,fr,hs⟩:=hs
 refine enter [.cell 4 91,.tmp 5] Tryz.func284 rfl Tryz.ntmps284 rfl rfl ?_
 have H:=zB w0
 repeat' (first|refine yT ?_|refine y7 sg H ?_|(refine y9 H ?_;intro b w H)|(refine y10 sg H ?_;intro b w H)|(refine y11 sg H ?_;intro w H)|(refine y40 sg (hs) ?_ ?_ ?_;(omega);((have:=neI h;omega)))|(refine y42 sg (hs) ((H.memF hF)) ?_ ?_;((have:=neI h;omega)))|refine yU ?_|(refine y23 ?_ ?_;all_goals intro h)|fail)
 all_goals first
  | (refine zBT (vs:=[_,_]) ⟨zAf sg rfl H.mem (zz2 _) rfl rfl,zh rfl,trivial⟩ H.cl ?_
     simp only[zHF, *]
     rfl)
theorem zTh {a:Option Addr}{cap:Nat}(x:Auc){F:zH}(w0:World)(hF:Mem w0 F)(hs0:Bids F a cap x.bids) :
  Calls Tryz.prog 279 [.agg #[],.agg (x.cells a cap).toArray].toArray w0 (Ret (.tuple #[.agg (zDW x).1.cells.toArray,.bool (zDW x).2]) w0):=by
 have hs1:=hs0
 obtain⟨hn,hc,b0,off,cs,T,fr,hs⟩:=hs1
 have hh:-1≤hi x.bids∧hi x.bids<x.bids.length:=zEG _ _
 refine enter [.cell 4 91,.tmp 5] Tryz.func279 rfl Tryz.ntmps279 rfl rfl ?_
 have H:=zB w0
 repeat' (first|refine yT ?_|refine y7 sg H ?_|refine y8 sg H ?_|(refine y9 H ?_;intro b w H)|(refine y10 sg H ?_;intro b w H)|(refine y11 sg H ?_;intro w H)|(refine y41 sg (hs) ?_ ?_ ?_;((have:=of_decide_eq_false ‹decide (hi x.bids<0)=false›;omega));(omega))|(refine y45 sg (hs) ((H.memF hF)) ?_ ?_;((have:=of_decide_eq_false ‹decide (hi x.bids<0)=false›;omega)))|(refine' y30 zQn ?_ ?_;rotate_left;exact zIz x.bids _ (H.memF hF) hs0;intro w hcl;replace H:=H.ext hcl;clear hcl)|refine yU ?_|(refine y18 ?_ ?_;all_goals intro h)|(with_reducible apply zL;intro w hcl;replace H:=H.ext hcl;clear hcl)|refine y20 mixed ?_|fail)
 ·refine zBT (vs:=[_,_]) ⟨zAf sg rfl H.mem (zz2 _) rfl rfl,zh rfl,trivial⟩ H.cl ?_
  simp only[zDW, *]
  rfl
 ·refine zJ rfl (fun h2=>?_) (fun h2=>?_)
  ·repeat' (first|refine yT ?_|(refine y11 sg H ?_;intro w H)|refine yU ?_|fail)
   refine zBT (vs:=[_,_]) ⟨zAf sg rfl H.mem (zz2 _) rfl rfl,zh rfl,trivial⟩ H.cl ?_
   simp only[zDW, *]
   rfl
  ·have hge:=zzB h
   repeat' (first|refine yT ?_|refine y7 sg H ?_|refine yU ?_|with_reducible apply zA|fail)
   refine zM [(7,9),(32,44)] (fun k:Nat=>[(32,.int .i64 (k:Int)),(7,.int .i64 (zFo x.bids x.reserve (hi x.bids) k))])
    (fun k w=>k≤x.bids.length∧St w0 [cb _ Bid.zero.cells 91,cb _ (x.cells a cap) 62,cb _ [] 223] w) (fun k=>x.bids.length - k) 0 ⟨rfl,rfl,trivial⟩ ⟨zzD _,H⟩ ?_
   clear H
   rintro k g w ⟨hk,H⟩
   repeat' (first|refine yT ?_|refine yU ?_|fail)
   refine zJ rfl (fun h3=>?_) (fun h3=>?_)
   ·have hlt:k<x.bids.length:=by simpa using h3
    repeat' (first|refine yT ?_|refine y7 sg H ?_|(refine y10 sg H ?_;intro b w H)|(refine y11 sg H ?_;intro w H)|(refine y40 sg (hs) ?_ ?_ ?_;(omega);(omega))|(refine y42 sg (hs) ((H.memF hF)) ?_ ?_;(omega))|refine yU ?_|with_reducible apply zA|(refine y23 ?_ ?_;all_goals intro h)|fail)
    all_goals refine zK (k+1) rfl ⟨zZ (by omega),?_,trivial⟩ ⟨hlt,H.sub zKk⟩ (by omega)
    ·show Value.int .i64 (mx _ _)=_
     rw[zFo,if_pos ‹_›]
    ·show Value.int .i64 (zFo x.bids x.reserve (hi x.bids) k)=_
     rw[zFo,if_neg (by simp only[*];simp)]
   ·have hkn:k=x.bids.length:=by simp at h3;omega
    subst hkn
    repeat' (first|refine yT ?_|refine y7 sg H ?_|(refine y11 sg H ?_;intro w H)|(refine y40 sg (hs) ?_ ?_ ?_;(omega);(omega))|(refine y44 sg (hs) ((H.memF hF)) ?_ ?_;(omega))|refine yU ?_|fail)
    refine zBT (vs:=[_,_]) ⟨zAf sg rfl H.mem (zz2 _) rfl rfl,zh rfl,trivial⟩ H.cl ?_
    simp only[zDW, *]
    rfl
end
end Go.Proofs.YtibmaifoaajllaaGreatDoor
