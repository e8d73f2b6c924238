/- Texts of ours, joined: the steps of the proof, or the claim's theorem. -/
import Derived.Test.YtibmaifoaajllaaGreatDoorQa18
set_option linter.unusedSimpArgs false
set_option linter.unusedVariables false
set_option maxHeartbeats 16000000
namespace Go.Proofs.YtibmaifoaajllaaGreatDoor
open Go Go.Sk Go.RowKit
def zN (x:Auc):Bid × Bool:=if zAV x then(if x.sealed then zDW x else zHF x) else(Bid.zero,false)
theorem zGD {a:Option Addr}{cap:Nat}(x:Auc){F:zH}(w0:World)(hF:Mem w0 F)(hs:Bids F a cap x.bids) :
  Calls Tryz.prog 84 [.agg (x.cells a cap).toArray].toArray w0 (Ret (.tuple #[.agg (zN x).1.cells.toArray,.bool (zN x).2]) w0):=by
 refine enter [.cell 2 91,.tmp 3] Tryz.func84 rfl Tryz.ntmps84 rfl rfl ?_
 have H:=zB w0
 rcases Bool.eq_false_or_eq_true x.sealed with hse|hse
 ·have e:zAV x=true→zN x=zDW x:=fun h=>by simp[zN,h,hse]
  repeat' (first|refine yT ?_|refine y7 sg H ?_|refine y8 sg H ?_|(refine y9 H ?_;intro b w H)|(refine y10 sg H ?_;intro b w H)|(refine y11 sg H ?_;intro w H)|refine y12 ?_|(refine CW.regionR mixed ?_;intro w hcl;replace H:=H.ext hcl;clear hcl;(with_reducible apply RW.quiet 6);exact rfl;decide +kernel;simp only[List.append_eq,List.cons_append,List.nil_append,List.take_succ_cons,List.take_zero,List.drop_zero])|(refine' y30 zHo ?_ ?_;rotate_left;exact zHs x _ (H.memF hF) hs;intro w hcl;replace H:=H.ext hcl;clear hcl)|(refine' y31 zGf ?_ ?_;rotate_left;exact(fun _ hcl=>zQ5 x a cap _ hse))|((with_reducible apply QX.call);exact rfl;exact rfl;exact En.inv ent279 rfl rfl (zTQ) rfl;exact(fun _ hcl=>zTh x _ ((H.ext hcl).memF hF) hs))|refine yU ?_|(with_reducible apply zL;intro w hcl;replace H:=H.ext hcl;clear hcl)|(refine y23 ?_ ?_;all_goals intro h)|fail)
  ·refine zBT (vs:=[_,_]) ⟨zAf sg rfl H.mem (zz2 _) rfl rfl,zh rfl,trivial⟩ H.cl ?_
   have e:zN x=(Bid.zero,false):=by simp only[Bool.not_eq_true'] at h;simp[zN,h]
   rw[e];rfl
  ·rw[e (by simpa using h)]
   exact zKg (vs:=[_,_]) ⟨zAf sg rfl H.mem (zz2 _) rfl rfl,zh rfl,trivial⟩ H.cl rfl
 ·have e:zAV x=true→zN x=zHF x:=fun h=>by simp[zN,h,hse]
  repeat' (first|refine yT ?_|refine y7 sg H ?_|refine y8 sg H ?_|(refine y9 H ?_;intro b w H)|(refine y10 sg H ?_;intro b w H)|(refine y11 sg H ?_;intro w H)|refine y12 ?_|(refine CW.regionR mixed ?_;intro w hcl;replace H:=H.ext hcl;clear hcl;(with_reducible apply RW.quiet 6);exact rfl;decide +kernel;simp only[List.append_eq,List.cons_append,List.nil_append,List.take_succ_cons,List.take_zero,List.drop_zero])|(refine' y30 zHo ?_ ?_;rotate_left;exact zHs x _ (H.memF hF) hs;intro w hcl;replace H:=H.ext hcl;clear hcl)|(refine' y31 zGf ?_ ?_;rotate_left;exact(fun _ hcl=>zQ6 x a cap _ hse))|((with_reducible apply QX.call);exact rfl;exact rfl;exact En.inv ent284 rfl rfl (zTR) rfl;exact(fun _ hcl=>zTg x _ ((H.ext hcl).memF hF) hs))|refine yU ?_|(with_reducible apply zL;intro w hcl;replace H:=H.ext hcl;clear hcl)|(refine y23 ?_ ?_;all_goals intro h)|fail)
  ·refine zBT (vs:=[_,_]) ⟨zAf sg rfl H.mem (zz2 _) rfl rfl,zh rfl,trivial⟩ H.cl ?_
   have e:zN x=(Bid.zero,false):=by simp only[Bool.not_eq_true'] at h;simp[zN,h]
   rw[e];rfl
  ·rw[e (by simpa using h)]
   exact zKg (vs:=[_,_]) ⟨zAf sg rfl H.mem (zz2 _) rfl rfl,zh rfl,trivial⟩ H.cl rfl
theorem zI7 {n m:Int}(h:zp n m=true):1≤n∧n≤m:=by
 simp only[zp,Bool.and_eq_true,decide_eq_true_eq] at h;omega
theorem zNo {x:Auc}(h:zCE x=true)(j:Nat)(hj:j<x.bids.length):zBQ x j=false:=by
 unfold zCE at h
 rcases zY (zBQ x) x.bids.length with ⟨k,h1,_,_,h2⟩|⟨h1,_⟩
 ·rw[h2] at h;simp at h;omega
 ·exact h1 j hj
theorem zI8 {x:Auc}(h:zAV x=true)(j:Nat)(hj:j<x.bids.length):1≤(x.bids.getD j default).amount∧(x.bids.getD j default).amount≤1125899906842624:=by
 simp only[zAV,Bool.and_eq_true] at h
 have:=zNo h.2 j hj
 simp only[zBQ,Bool.or_eq_false_iff,Bool.not_eq_false'] at this
 exact zI7 this.1.2
theorem zNp {x:Auc}(h:zAV x=true)(he:x.sealed=false):1≤x.step∧x.step≤1125899906842624:=by
 simp only[zAV,Bool.and_eq_true,zAc,he,zEo,Bool.false_eq_true,if_false] at h
 exact zI7 h.1.2.1
def zEO (x:Auc):Int:=if (x.bids.length:Int)==0 then x.reserve else(zMI (x.bids.getD 0 default).amount x.step).1
theorem zRK {a:Option Addr}{cap:Nat}(x:Auc){F:zH}(w0:World)(hF:Mem w0 F)(hs:Bids F a cap x.bids)(hm:zAV x=true)(he:x.sealed=false) :
  Calls Tryz.prog 281 [.agg #[],.agg (x.cells a cap).toArray].toArray w0 (Ret (.int .i64 (zEO x)) w0):=by
 obtain⟨hn,hc,b0,off,cs,T,fr,hs⟩:=hs
 have hst:=zNp hm he
 refine enter [.tmp 4] Tryz.func281 rfl Tryz.ntmps281 rfl rfl ?_
 have H:=zB w0
 repeat' (first|refine yT ?_|refine y7 sg H ?_|(refine y9 H ?_;intro b w H)|refine yU ?_|fail)
 refine zJ rfl (fun h=>?_) (fun h=>?_)
 ·repeat' (first|refine yT ?_|refine y7 sg H ?_|refine yU ?_|fail)
  exact zQ rfl H.cl (by simp only[zEO,h,if_true])
 ·have hpos:0<x.bids.length:=by have:=neI h;omega
  have hb:=zI8 hm 0 hpos
  repeat' (first|refine yT ?_|refine y8 sg H ?_|(refine y41 sg (hs) ?_ ?_ ?_;(omega);(omega))|(refine y45 sg (hs) ((H.memF hF)) ?_ ?_;(omega))|(refine' y31 ent36 ?_ ?_;rotate_left;exact(fun _ hcl=>c_Add _ _ _ (by omega) (by omega) (by omega) (by omega)))|refine yU ?_|(with_reducible apply zL;intro w hcl;replace H:=H.ext hcl;clear hcl)|refine y20 mixed ?_|fail)
  exact zQ rfl H.cl (by simp only[zEO,h];rfl)
end Go.Proofs.YtibmaifoaajllaaGreatDoor
