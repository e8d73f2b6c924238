/- Texts of ours, joined: the steps of the proof, or the claim's theorem. -/
import Derived.Test.YtibmaifoaajllaaGreatDoorQa19
set_option linter.unusedSimpArgs false
set_option linter.unusedVariables false
set_option maxHeartbeats 16000000
namespace Go.Proofs.YtibmaifoaajllaaGreatDoor
open Go Go.Sk Go.RowKit
theorem zRL (c d:Bid)(T:TypeId)(b:Nat)(w:World)(F:zH)(hF:Mem w F)(hm:(b,Obj.cells d.cells.toArray T (0,0))∈F) :
  Calls Tryz.prog 280 [.agg c.cells.toArray,.pointer (some ⟨b,0,none⟩)].toArray w (Ret (.bool (c.acct==d.acct)) w):=by
 refine enter [.tmp 3] Tryz.func280 rfl Tryz.ntmps280 rfl rfl ?_
 have H:=zB w
 repeat' (first|refine yT ?_|refine y7 sg H ?_|(refine y9 H ?_;intro b w H)|refine z13 (zG sg rfl rfl (H.memF hF) hm rfl rfl) ?_|refine yU ?_|fail)
 all_goals exact zQ rfl H.cl rfl
theorem zO6 (l:List Bid)(b:Bid):(List.range l.length).flatMap (bel l)++b.cells=(List.range (l++[b]).length).flatMap (bel (l++[b])):=by
 rw[List.length_append,List.length_singleton,List.range_succ,List.flatMap_append,List.flatMap_singleton]
 congr 1
 ·have:∀ m,m≤l.length→(List.range m).flatMap (bel l)=(List.range m).flatMap (bel (l++[b])):=by
   intro m
   induction m with
   | zero=>intro _;rfl
   | succ m ih =>
     intro hm
     rw[List.range_succ,List.flatMap_append,List.flatMap_append,ih (by omega),List.flatMap_singleton,List.flatMap_singleton]
     have hlt:m<l.length:=by omega
     simp[bel,List.getD,List.getElem?_append_left hlt]
  exact this _ (zzC _)
 ·simp[bel,List.getD]
def zCI (x:Auc)(b:Bid):List Bid × Int :=
 if idx (fun i=>(x.bids.getD i default).acct==b.acct) x.bids.length ≥ 0 then([],6) else if (x.bids.length:Int) ≥ 16 then([],40) else(x.bids++[b],0)
def TakeR (r:List Bid × Int)(M:zH)(v:Value):Prop:=∃ a cap,OwnB M a cap r.1∧v=.tuple #[.slice a r.1.length cap,.int .i64 r.2]
theorem zTi {a:Option Addr}{cap:Nat}(x:Auc)(y:Bid){F:zH}(w0:World)(hF:Mem w0 F)(hs:Bids F a cap x.bids) :
  Calls Tryz.prog 278 [.agg #[],.agg (x.cells a cap).toArray,.agg y.cells.toArray].toArray w0 (zn (TakeR (zCI x y)) w0):=by
 refine enter [.tmp 6,.tmp 7] Tryz.func278 rfl Tryz.ntmps278 rfl rfl ?_
 have H:=zB w0
 repeat' (first|refine yT ?_|refine y7 sg H ?_|(refine y9 H ?_;intro b w H)|(refine' y30 zL8 ?_ ?_;rotate_left;exact zDj (caps:=[.pointer (some ⟨_,0,none⟩)]) (fun i=>(x.bids.getD i default).acct==y.acct) _ (H.memF hF) hs ent280 (fun j hj w hw=>zRL (x.bids.getD j default) y 91 _ _ _ (H.ext hw).mem (zz2 _));intro w hcl;replace H:=H.ext hcl;clear hcl)|refine yU ?_|with_reducible apply zA|fail)
 refine zJ rfl (fun h=>?_) (fun h=>?_)
 ·repeat' (first|refine yT ?_|refine yU ?_|fail)
  have e:zCI x y=([],6):=by simp only[zCI,if_pos (of_decide_eq_true h)]
  exact zAY (vs:=[_,_]) (M:=[]) ⟨zh rfl,zh rfl,trivial⟩ (H.sub zKk) ⟨none,0,by rw[e];exact zTC _ _ _,by rw[e];rfl⟩
 ·repeat' (first|refine yT ?_|refine y7 sg H ?_|refine yU ?_|fail)
  refine zJ rfl (fun h2=>?_) (fun h2=>?_)
  ·repeat' (first|refine yT ?_|refine yU ?_|fail)
   have e:zCI x y=([],40):=by simp only[zCI,if_neg (of_decide_eq_false h),if_pos (of_decide_eq_true h2)]
   exact zAY (vs:=[_,_]) (M:=[]) ⟨zh rfl,zh rfl,trivial⟩ (H.sub zKk) ⟨none,0,by rw[e];exact zTC _ _ _,by rw[e];rfl⟩
  ·have hlen:=zzB h2
   have e:zCI x y=(x.bids++[y],0):=by simp only[zCI,if_neg (of_decide_eq_false h),if_neg hlen]
   repeat' (first|refine yT ?_|refine y7 sg H ?_|(refine CW.regionR mixed ?_;intro w hcl;replace H:=H.ext hcl;clear hcl;(with_reducible apply RW.all))|((with_reducible apply RS.bar (k:=5));decide +kernel;decide +kernel)|((with_reducible apply RS.c1 0);exact rfl;decide +kernel;exact rfl)|((with_reducible apply RS.c1 1);exact rfl;decide +kernel;exact rfl)|((with_reducible apply RS.c1 2);exact rfl;decide +kernel;exact rfl)|((with_reducible apply RS.c1 3);exact rfl;decide +kernel;exact rfl)|((with_reducible apply RS.c1 4);exact rfl;decide +kernel;exact rfl)|((with_reducible apply RS.c2 0 3);exact rfl;decide +kernel;exact rfl;exact rfl)|((with_reducible apply RS.c2 0 4);exact rfl;decide +kernel;exact rfl;exact rfl)|((with_reducible apply RS.c2 1 3);exact rfl;decide +kernel;exact rfl;exact rfl)|((with_reducible apply RS.c2 1 4);exact rfl;decide +kernel;exact rfl;exact rfl)|((with_reducible apply RS.c2 2 3);exact rfl;decide +kernel;exact rfl;exact rfl)|((with_reducible apply RS.c2 2 4);exact rfl;decide +kernel;exact rfl;exact rfl)|(refine z14 sg H ?_;intro b w H)|(refine' y32 zQQ ?_ ?_;rotate_left;exact zFi _ (H.memF hF) hs (fun j _=>zJ1 _ j) (fun j _=>zFC _ j) (by omega);intro v M w hR hS;replace H:=H.addR hS;clear hS;(try simp only[List.cons_append,List.nil_append] at H);obtain⟨a',cap',rfl,hO⟩:=hR)|refine yU ?_|fail)
   all_goals(have hp:=H.perm (List.perm_append_comm (l₁:=[_,_,_,_]) (l₂:=M)))
   all_goals repeat' (first|refine yT ?_|refine y12 ?_|(refine zo sg 2 16 (M:=M) hp rfl rfl rfl rfl rfl rfl rfl rfl rfl rfl rfl hO (zAM hp.mem (zz3 _ (zz2 _))) rfl (by intro u hu;simp only[List.mem_cons,List.not_mem_nil,or_false] at hu;rcases hu with rfl|rfl<;>rfl) (by unfold maxLen;omega) (by omega) ?_;intro a'' cap'' M'' w hO2 H;clear hp)|refine yU ?_|fail)
   all_goals exact zAY (vs:=[_,_]) (M:=M'') ⟨zh rfl,zh rfl,trivial⟩ (H.sub (List.sublist_append_left _ _)) ⟨a'',cap'',by rw[e];show Go.Sk.Own _ _ 2 _ (x.bids++[y]).length _ _;rw[← zO6,List.length_append];exact hO2,by rw[e];show _=Value.tuple #[.slice _ (x.bids++[y]).length _,_];rw[List.length_append];rfl⟩
def zCr (x:Auc)(y:Bid):List Bid × Int:=if y.amount<zEO x then([],51) else([y],0)
theorem zTj {a:Option Addr}{cap:Nat}(x:Auc)(y:Bid){F:zH}(w0:World)(hF:Mem w0 F)(hs:Bids F a cap x.bids)(hm:zAV x=true)(he:x.sealed=false) :
  Calls Tryz.prog 283 [.agg #[],.agg (x.cells a cap).toArray,.agg y.cells.toArray].toArray w0 (zn (TakeR (zCr x y)) w0):=by
 refine enter [.tmp 6,.tmp 7] Tryz.func283 rfl Tryz.ntmps283 rfl rfl ?_
 have H:=zB w0
 repeat' (first|refine yT ?_|refine y8 sg H ?_|(refine y9 H ?_;intro b w H)|(refine' y31 ent281 ?_ ?_;rotate_left;exact(fun _ hcl=>zRK x _ ((H.ext hcl).memF hF) hs hm he))|refine yU ?_|(with_reducible apply zL;intro w hcl;replace H:=H.ext hcl;clear hcl)|refine y20 mixed ?_|fail)
 refine zJ rfl (fun h=>?_) (fun h=>?_)
 ·repeat' (first|refine yT ?_|refine yU ?_|fail)
  have e:zCr x y=([],51):=by simp only[zCr,if_pos (of_decide_eq_true h)]
  exact zAY (vs:=[_,_]) (M:=[]) ⟨zh rfl,zh rfl,trivial⟩ (H.sub zKk) ⟨none,0,by rw[e];exact zTC _ _ _,by rw[e];rfl⟩
 ·repeat' (first|refine yT ?_|refine y7 sg H ?_|(refine z14 sg H ?_;intro b w H)|refine yU ?_|fail)
  have e:zCr x y=([y],0):=by simp only[zCr,if_neg (of_decide_eq_false h)]
  exact zAY (vs:=[_,_]) (M:=[_]) ⟨zh rfl,zh rfl,trivial⟩ (H.sub (List.Sublist.cons_cons _ (zz9 _))) ⟨_,1,by rw[e];exact Go.Sk.Own.mk (n:=1) (cap:=1) (size:=2) (zzC _) (by decide) rfl,by rw[e];rfl⟩
def Auc.put (x:Auc)(l:List Bid):Auc:=⟨x.id,x.seller,x.inst,x.sealed,x.qty,x.reserve,x.step,x.fin,l⟩
def zFp (x:Auc)(y:Bid):List Bid × Int:=if x.sealed then zCI x y else zCr x y
def zW (x:Auc)(y:Bid):Auc × Int :=
 if zAV x=false then(Auc.zero,4) else if (zp y.acct 64&&zp y.amount 1125899906842624)=false then(Auc.zero,1) else if y.acct==x.seller then(Auc.zero,49)
 else if (zFp x y).2 != 0 then(Auc.zero,(zFp x y).2) else(x.put (zFp x y).1,0)
theorem zCZ {x:Auc}{y:Bid}{M:zH}{e:Env}{w0 w:World}(hr:rds Tryz.prog e w [ResultVar.cell 4 62,ResultVar.tmp 5] [.agg (Auc.zero.cells none 0).toArray,.int .i64 (zW x y).2])(hS:St w0 M w)(hz:(zW x y).1=Auc.zero) :
  post Tryz.prog [ResultVar.cell 4 62,ResultVar.tmp 5] (zn (fun M v=>∃ u,OwnA (zW x y).1 M u∧v=.tuple #[u,.int .i64 (zW x y).2]) w0) .ret e w :=
 zAY (M:=[]) hr (hS.sub (zz9 _)) ⟨_,⟨none,0,rfl,by rw[hz];exact zTC _ _ _⟩,by rw[hz];rfl⟩
theorem zRM {a:Option Addr}{cap:Nat}(x:Auc)(y:Bid){F:zH}(w0:World)(hF:Mem w0 F)(hs:Bids F a cap x.bids) :
  Calls Tryz.prog 195 [.agg (x.cells a cap).toArray,.agg y.cells.toArray].toArray w0 (zn (fun M v=>∃ u,OwnA (zW x y).1 M u∧v=.tuple #[u,.int .i64 (zW x y).2]) w0):=by
 refine enter [.cell 4 62,.tmp 5] Tryz.func195 rfl Tryz.ntmps195 rfl rfl ?_
 have H:=zB w0
 repeat' (first|refine yT ?_|refine y7 sg H ?_|(refine y9 H ?_;intro b w H)|(refine y10 sg H ?_;intro b w H)|(refine' y30 zHo ?_ ?_;rotate_left;exact zHs x _ (H.memF hF) hs;intro w hcl;replace H:=H.ext hcl;clear hcl)|refine yU ?_|with_reducible apply zA|fail)
 refine zJ rfl (fun h=>?_) (fun h=>?_)
 ·repeat' (first|refine yT ?_|(refine y11 sg H ?_;intro w H)|refine yU ?_|fail)
  have e:zW x y=(Auc.zero,4):=by simp only[Bool.not_eq_true'] at h;simp only[zW,if_pos h]
  exact zCZ (x:=x) (y:=y) ⟨zAf sg rfl H.mem (zz2 _) rfl rfl,zh (by rw[e];rfl),trivial⟩ H (by rw[e])
 have hm:zAV x=true:=by simpa using h
 have n1:¬ zAV x=false:=by rw[hm];decide
 clear h
 rcases Bool.eq_false_or_eq_true x.sealed with hse|hse
 ·have em:zFp x y=zCI x y:=by simp[zFp,hse]
  repeat' (first|refine yT ?_|refine y7 sg H ?_|refine y8 sg H ?_|(refine y11 sg H ?_;intro w H)|refine y12 ?_|(refine' y30 zHp ?_ ?_;rotate_left;exact zDt _ _ _;intro w hcl;replace H:=H.ext hcl;clear hcl)|(refine' y30 zGg ?_ ?_;rotate_left;exact zCW _ _ _;intro w hcl;replace H:=H.ext hcl;clear hcl)|(refine' y31 zGf ?_ ?_;rotate_left;exact(fun _ hcl=>zQ5 x a cap _ hse))|(refine CW.regionR mixed ?_;intro w hcl;replace H:=H.ext hcl;clear hcl;(with_reducible apply RW.quiet 4);exact rfl;decide +kernel;simp only[List.append_eq,List.cons_append,List.nil_append,List.take_succ_cons,List.take_zero,List.drop_zero])|((with_reducible apply OX.callF);exact rfl;exact rfl;exact En.inv ent278 rfl rfl (zTS) rfl;exact zTi x y _ (H.memF hF) hs;intro v M w hR hS;replace H:=H.addR hS;clear hS;(try simp only[List.cons_append,List.nil_append] at H);obtain⟨a',cap',hO,rfl⟩:=hR)|((with_reducible apply RW.one);exact rfl;decide +kernel)|((with_reducible apply RW.quiet 10);exact rfl;decide +kernel;simp only[List.append_eq,List.cons_append,List.nil_append,List.take_succ_cons,List.take_zero,List.drop_succ_cons,List.drop_zero])|refine yU ?_|(refine y17 ?_ ?_;all_goals intro h)|(with_reducible apply zL;intro w hcl;replace H:=H.ext hcl;clear hcl)|(refine y23 ?_ ?_;all_goals intro h)|fail)
  all_goals simp only[Bool.not_eq_true',Bool.not_eq_false'] at *
  all_goals first
   | (have e:zW x y=(Auc.zero,1):=by simp[zW, *]
      exact zCZ (x:=x) (y:=y) ⟨zAf sg rfl H.mem (zz2 _) rfl rfl,zh (by rw[e];rfl),trivial⟩ H (by rw[e]))
   | (have e:zW x y=(Auc.zero,49):=by simp[zW, *]
      exact zCZ (x:=x) (y:=y) ⟨zAf sg rfl H.mem (zz2 _) rfl rfl,zh (by rw[e];rfl),trivial⟩ H (by rw[e]))
   | (have e:zW x y=(Auc.zero,(zCI x y).2):=by simp only[zW,em, *];simp
      exact zCZ (x:=x) (y:=y) ⟨zAf sg rfl H.mem (zz2 _) rfl rfl,zh (by rw[e];rfl),trivial⟩ H (by rw[e]))
   | (have e:zW x y=(x.put (zCI x y).1,0):=by simp only[zW,em, *];simp
      exact zAY (vs:=[_,_]) (M:=M) ⟨zAf sg rfl H.mem (zz2 _) rfl rfl,zh rfl,trivial⟩ (H.sub zKk) (by rw[e];exact⟨_,⟨a',cap',rfl,hO⟩,rfl⟩))
 ·have em:zFp x y=zCr x y:=by simp[zFp,hse]
  repeat' (first|refine yT ?_|refine y7 sg H ?_|refine y8 sg H ?_|(refine y11 sg H ?_;intro w H)|refine y12 ?_|(refine' y30 zHp ?_ ?_;rotate_left;exact zDt _ _ _;intro w hcl;replace H:=H.ext hcl;clear hcl)|(refine' y30 zGg ?_ ?_;rotate_left;exact zCW _ _ _;intro w hcl;replace H:=H.ext hcl;clear hcl)|(refine' y31 zGf ?_ ?_;rotate_left;exact(fun _ hcl=>zQ6 x a cap _ hse))|(refine CW.regionR mixed ?_;intro w hcl;replace H:=H.ext hcl;clear hcl;(with_reducible apply RW.quiet 4);exact rfl;decide +kernel;simp only[List.append_eq,List.cons_append,List.nil_append,List.take_succ_cons,List.take_zero,List.drop_zero])|((with_reducible apply OX.callF);exact rfl;exact rfl;exact En.inv ent283 rfl rfl (zTT) rfl;exact zTj x y _ (H.memF hF) hs hm hse;intro v M w hR hS;replace H:=H.addR hS;clear hS;(try simp only[List.cons_append,List.nil_append] at H);obtain⟨a',cap',hO,rfl⟩:=hR)|((with_reducible apply RW.one);exact rfl;decide +kernel)|((with_reducible apply RW.quiet 10);exact rfl;decide +kernel;simp only[List.append_eq,List.cons_append,List.nil_append,List.take_succ_cons,List.take_zero,List.drop_succ_cons,List.drop_zero])|refine yU ?_|(refine y17 ?_ ?_;all_goals intro h)|(with_reducible apply zL;intro w hcl;replace H:=H.ext hcl;clear hcl)|(refine y23 ?_ ?_;all_goals intro h)|fail)
  all_goals simp only[Bool.not_eq_true',Bool.not_eq_false'] at *
  all_goals first
   | (have e:zW x y=(Auc.zero,1):=by simp[zW, *]
      exact zCZ (x:=x) (y:=y) ⟨zAf sg rfl H.mem (zz2 _) rfl rfl,zh (by rw[e];rfl),trivial⟩ H (by rw[e]))
   | (have e:zW x y=(Auc.zero,49):=by simp[zW, *]
      exact zCZ (x:=x) (y:=y) ⟨zAf sg rfl H.mem (zz2 _) rfl rfl,zh (by rw[e];rfl),trivial⟩ H (by rw[e]))
   | (have e:zW x y=(Auc.zero,(zCr x y).2):=by simp only[zW,em, *];simp
      exact zCZ (x:=x) (y:=y) ⟨zAf sg rfl H.mem (zz2 _) rfl rfl,zh (by rw[e];rfl),trivial⟩ H (by rw[e]))
   | (have e:zW x y=(x.put (zCr x y).1,0):=by simp only[zW,em, *];simp
      exact zAY (vs:=[_,_]) (M:=M) ⟨zAf sg rfl H.mem (zz2 _) rfl rfl,zh rfl,trivial⟩ (H.sub zKk) (by rw[e];exact⟨_,⟨a',cap',rfl,hO⟩,rfl⟩))
end Go.Proofs.YtibmaifoaajllaaGreatDoor
