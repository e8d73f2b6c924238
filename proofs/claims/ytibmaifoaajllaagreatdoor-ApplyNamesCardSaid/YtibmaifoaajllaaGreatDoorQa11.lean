/- Texts of ours, joined: the steps of the proof, or the claim's theorem. -/
import Derived.Test.YtibmaifoaajllaaGreatDoorQa08
import Derived.Test.YtibmaifoaajllaaGreatDoorQa10
set_option linter.unusedSimpArgs false
set_option linter.unusedVariables false
set_option maxHeartbeats 16000000
namespace Go.Proofs.YtibmaifoaajllaaGreatDoor
section
open Go Go.Sk Go.RowKit
def ael (l:List Auc)(ad:Nat→Option Addr × Nat)(j:Nat):List Value:=(l.getD j default).cells (ad j).1 (ad j).2
def Aucs (F:zH)(a:Option Addr)(cap:Nat)(l:List Auc)(ad:Nat→Option Addr × Nat):Prop :=
 SlA F 9 a l.length cap (ael l ad)∧∀ j,j<l.length→Bids F (ad j).1 (ad j).2 (l.getD j default).bids
def zML (l:List Auc):Nat→Int
 | 0=>0
 | k+1=>(l.getD k default).id
def zBY (l:List Auc)(j:Nat):Bool:=decide ((l.getD j default).id≤zML l j)||!zAV (l.getD j default)
def zAS (l:List Auc):Bool:=decide (idx (zBY l) l.length<0)&&decide ((l.length:Int)≤32)
theorem zF9 {a:Option Addr}{cap:Nat}(l:List Auc)(ad:Nat→Option Addr × Nat){F:zH}(w0:World)(hF:Mem w0 F)(hs:Aucs F a cap l ad) :
  Calls Tryz.prog 183 [.slice a l.length cap].toArray w0 (Ret (.bool (zAS l)) w0):=by
 obtain⟨⟨hn,hc,b0,off,cs,T,fr,hs⟩,hbs⟩:=hs
 refine enter [.tmp 2] Tryz.func183 rfl Tryz.ntmps183 rfl rfl ?_
 have H:=zB w0
 repeat' (first|refine yT ?_|refine yU ?_|with_reducible apply zA|fail)
 refine zM [(2,3),(5,5),(8,23)] (fun k:Nat=>[(8,.int .i64 (k:Int)),(3,.int .i64 (zML l k))]) (fun k w=>k≤l.length∧(∀ j,j<k→zBY l j=false)∧St w0 [] w) (fun k=>l.length - k) 0 ⟨rfl,rfl,trivial⟩ ⟨zzD _,fun j hj=>by omega,H⟩ ?_
 clear H
 rintro k g w ⟨hk,hpk,H⟩
 repeat' (first|refine yT ?_|refine yU ?_|fail)
 refine zJ rfl (fun h=>?_) (fun h=>?_)
 ·have hlt:k<l.length:=by simpa using h
  repeat' (first|refine yT ?_|refine y7 sg H ?_|(refine y10 sg H ?_;intro b w H)|(refine y11 sg H ?_;intro w H)|(refine y40 sg (hs) ?_ ?_ ?_;(omega);(omega))|(refine y42 sg (hs) ((H.memF hF)) ?_ ?_;(omega))|(refine' y30 zHo ?_ ?_;rotate_left;exact zHs (l.getD k default) _ (H.memF hF) (hbs k hlt);intro w hcl;replace H:=H.ext hcl;clear hcl)|refine yU ?_|(refine y17 ?_ ?_;all_goals intro h)|with_reducible apply zA|(refine y23 ?_ ?_;all_goals intro h)|fail)
  all_goals first
   | exact zQ rfl H.cl (by
     have hbad:zBY l k=true:=by simp only[zBY, *];simp
     rw[zAS,zBx hlt hpk hbad,decide_eq_false (show ¬ ((k:Int)<0) by omega),Bool.false_and])
   | (refine zK (k+1) rfl ⟨zZ (by omega),rfl,trivial⟩ ⟨hlt,fun j hj=>?_,H.sub (zz9 _)⟩ (by omega)
      by_cases hj':j=k
      ·have hbad:zBY l k=false:=by simp only[zBY, *];simp
       rw[hj'];exact hbad
      ·exact hpk j (by omega))
 ·repeat' (first|refine yT ?_|refine yU ?_|fail)
  have hkn:k=l.length:=by simp at h;omega
  subst hkn
  exact zQ rfl H.cl (by rw[zAS,zBB hpk];simp)
def zA6 (x:Auc)(clock:Int):Bool:=zAV x&&decide (x.fin≤clock)
theorem zI0 {a:Option Addr}{cap:Nat}(x:Auc)(clock:Int){F:zH}(w0:World)(hF:Mem w0 F)(hs:Bids F a cap x.bids) :
  Calls Tryz.prog 155 [.agg (x.cells a cap).toArray,.int .i64 clock].toArray w0 (Ret (.bool (zA6 x clock)) w0):=by
 refine enter [.tmp 4] Tryz.func155 rfl Tryz.ntmps155 rfl rfl ?_
 have H:=zB w0
 repeat' (first|refine yT ?_|refine y7 sg H ?_|(refine y9 H ?_;intro b w H)|(refine' y30 zHo ?_ ?_;rotate_left;exact zHs x _ (H.memF hF) hs;intro w hcl;replace H:=H.ext hcl;clear hcl)|refine yU ?_|(refine y17 ?_ ?_;all_goals intro h)|fail)
 all_goals first|exact zQ rfl H.cl (by simp only[zA6, *];simp)
def zNh (x y:Auc):Bool:=x.id==y.id&&x.seller==y.seller&&x.inst==y.inst&&x.sealed==y.sealed&&x.qty==y.qty&&x.reserve==y.reserve&&x.step==y.step&&x.fin==y.fin&&decide (x.bids=y.bids)
theorem c_Same {a a':Option Addr}{cap cap':Nat}(x y:Auc){F:zH}(w0:World)(hF:Mem w0 F)(hs:Bids F a cap x.bids)(hs':Bids F a' cap' y.bids) :
  Calls Tryz.prog 51 [.agg (x.cells a cap).toArray,.agg (y.cells a' cap').toArray].toArray w0 (Ret (.bool (zNh x y)) w0):=by
 refine enter [.tmp 4] Tryz.func51 rfl Tryz.ntmps51 rfl rfl ?_
 have H:=zB w0
 repeat' (first|refine yT ?_|refine y7 sg H ?_|(refine y9 H ?_;intro b w H)|(refine' y30 ent85 ?_ ?_;rotate_left;exact zMK x.bids y.bids _ (H.memF hF) hs hs';intro w hcl;replace H:=H.ext hcl;clear hcl)|refine yU ?_|(refine y17 ?_ ?_;all_goals intro h)|fail)
 all_goals first|exact zQ rfl H.cl (by simp only[zNh, *];simp)
def zGA (l:List Bid)(acct:Int):Nat→Int
 | 0=>0
 | k+1=>if (l.getD k default).acct==acct then(l.getD k default).amount else zGA l acct k
end
section
open Go Go.Sk Go.RowKit
attribute [local irreducible] Go.Calls
structure Sta where
 clock:Int
 fee:Int
 nextO:Int
 nextA:Int
 accts:List Ac
 insts:List Ins
 rows:List Row4
 orders:List Odr
 aucs:List Auc
structure SPt where
 acA:Option Addr
 acC:Nat
 inA:Option Addr
 inC:Nat
 rwA:Option Addr
 rwC:Nat
 odA:Option Addr
 odC:Nat
 auA:Option Addr
 auC:Nat
 ad:Nat→Option Addr × Nat
def Sta.cells (s:Sta)(p:SPt):List Value:=[.int .i64 s.clock,.int .i64 s.fee,.int .i64 s.nextO,.int .i64 s.nextA,.slice p.acA s.accts.length p.acC,.slice p.inA s.insts.length p.inC,.slice p.rwA s.rows.length p.rwC,.slice p.odA s.orders.length p.odC,.slice p.auA s.aucs.length p.auC]
def Accs (F:zH)(a:Option Addr)(cap:Nat)(l:List Ac):Prop:=SlA F 2 a l.length cap (acl l)
def Inss (F:zH)(a:Option Addr)(cap:Nat)(l:List Ins):Prop:=SlA F 3 a l.length cap (ing l)
structure StaM (F:zH)(s:Sta)(p:SPt):Prop where
 ac:Accs F p.acA p.acC s.accts
 ins:Inss F p.inA p.inC s.insts
 rw:zNf F p.rwA p.rwC s.rows
 od:Ords F p.odA p.odC s.orders
 au:Aucs F p.auA p.auC s.aucs p.ad
theorem StaM.mono {F G:zH}{s:Sta}{p:SPt}(h:StaM F s p)(hs:F⊆G):StaM G s p :=
 ⟨SlA.mono h.ac hs,SlA.mono h.ins hs,SlA.mono h.rw hs,SlA.mono h.od hs,SlA.mono h.au.1 hs,fun j hj=>SlA.mono (h.au.2 j hj) hs⟩
def Ac.zero:Ac:=⟨ByteArray.empty,false⟩
def Ins.zero:Ins:=⟨ByteArray.empty,0,false⟩
def zBG (l:List Ac)(a:Int):Ac × Bool:=if 1≤a∧a≤l.length∧(ac_ l (a - 1).toNat).opn=true then(ac_ l (a - 1).toNat,true) else(Ac.zero,false)
def zB7 (l:List Ins)(a:Int):Ins × Bool:=if 1≤a∧a≤l.length then(in_ l (a - 1).toNat,true) else(Ins.zero,false)
theorem zMM {F:zH}(s:Sta)(p:SPt)(a:Int)(w0:World)(hF:Mem w0 F)(hs:StaM F s p) :
  Calls Tryz.prog 188 [.agg (s.cells p).toArray,.int .i64 a].toArray w0 (Ret (.tuple #[.agg (zBG s.accts a).1.cells.toArray,.bool (zBG s.accts a).2]) w0):=by
 obtain⟨hnc,hcb,b0,off,cs,T,fr,hs⟩:=hs.ac
 rcases Int.lt_or_le a 1 with h1|h1
 ·have hlt:decide (a<1)=true:=decide_eq_true h1
  refine enter [.cell 4 74,.tmp 5] Tryz.func188 rfl Tryz.ntmps188 rfl rfl ?_
  have H:=zB w0
  repeat' (first|refine yT ?_|(refine y9 H ?_;intro b w H)|(refine y10 sg H ?_;intro b w H)|(refine y11 sg H ?_;intro w H)|refine yU ?_|(refine y17 ?_ ?_;all_goals(intro h;try (exfalso;first|((rw[hlt] at h;cases h);done))))|fail)
  refine zBT (vs:=[_,_]) ⟨zAf sg rfl H.mem (zz2 _) rfl rfl,zh rfl,trivial⟩ H.cl ?_
  unfold zBG
  rw[if_neg (by omega)];rfl
 obtain⟨k,rfl⟩:∃ k:Nat,a=((k+1:Nat):Int):=⟨(a - 1).toNat,by omega⟩
 have hlt:decide (((k+1:Nat):Int)<1)=false:=decide_eq_false (by omega)
 have hkk:(((k+1:Nat):Int) - 1).toNat=k:=by omega
 rcases Nat.lt_or_ge k s.accts.length with h2|h2
 ·have hgt:decide (((k+1:Nat):Int)>(s.accts.length:Int))=false:=decide_eq_false (by omega)
  have hq:IntKind.i64.wrap (((k+1:Nat):Int) - 1)=(k:Int):=by rw[w64 (by omega) (by omega)];omega
  refine enter [.cell 4 74,.tmp 5] Tryz.func188 rfl Tryz.ntmps188 rfl rfl ?_
  have H:=zB w0
  repeat' (first|refine yT ?_|refine y7 sg H ?_|(refine y9 H ?_;intro b w H)|(refine y10 sg H ?_;intro b w H)|(refine y11 sg H ?_;intro w H)|(refine zf rfl rfl (zF sg hs rfl rfl rfl rfl rfl rfl rfl ((congrArg Int.toNat hq).trans (zz1 _)) (by rw[hq];omega) (by rw[hq];omega)) ?_)|(refine y44 sg (hs) ((H.memF hF)) ?_ ?_;(omega))|(refine y42 sg (hs) ((H.memF hF)) ?_ ?_;(omega))|refine yU ?_|(refine y17 ?_ ?_;all_goals(intro h;try (exfalso;first|((rw[hlt] at h;cases h);done)|((rw[hgt] at h;cases h);done))))|(refine y23 ?_ ?_;all_goals(intro h;try (exfalso;first|((rw[hlt] at h;cases h);done)|((rw[hgt] at h;cases h);done))))|fail)
  ·have h:(ac_ s.accts k).opn=false:=by simpa using h
   refine zBT (vs:=[_,_]) ⟨zAf sg rfl H.mem (zz2 _) rfl rfl,zh rfl,trivial⟩ H.cl ?_
   unfold zBG
   rw[hkk,if_neg (fun hh=>by rw[h] at hh;cases hh.2.2)];rfl
  ·have h:(ac_ s.accts k).opn=true:=by simpa using h
   refine zBT (vs:=[_,_]) ⟨zAf sg rfl H.mem (zz2 _) rfl rfl,zh rfl,trivial⟩ H.cl ?_
   unfold zBG
   rw[hkk,if_pos ⟨h1,by omega,h⟩];rfl
 ·have hgt:decide (((k+1:Nat):Int)>(s.accts.length:Int))=true:=decide_eq_true (by omega)
  refine enter [.cell 4 74,.tmp 5] Tryz.func188 rfl Tryz.ntmps188 rfl rfl ?_
  have H:=zB w0
  repeat' (first|refine yT ?_|refine y7 sg H ?_|(refine y9 H ?_;intro b w H)|(refine y10 sg H ?_;intro b w H)|(refine y11 sg H ?_;intro w H)|refine yU ?_|(refine y17 ?_ ?_;all_goals(intro h;try (exfalso;first|((rw[hlt] at h;cases h);done)|((rw[hgt] at h;cases h);done))))|fail)
  refine zBT (vs:=[_,_]) ⟨zAf sg rfl H.mem (zz2 _) rfl rfl,zh rfl,trivial⟩ H.cl ?_
  unfold zBG
  rw[if_neg (by omega)];rfl
theorem zQ7 {F:zH}(s:Sta)(p:SPt)(a:Int)(w0:World)(hF:Mem w0 F)(hs:StaM F s p) :
  Calls Tryz.prog 178 [.agg (s.cells p).toArray,.int .i64 a].toArray w0 (Ret (.tuple #[.agg (zB7 s.insts a).1.cells.toArray,.bool (zB7 s.insts a).2]) w0):=by
 obtain⟨hnc,hcb,b0,off,cs,T,fr,hs⟩:=hs.ins
 rcases Int.lt_or_le a 1 with h1|h1
 ·have hlt:decide (a<1)=true:=decide_eq_true h1
  refine enter [.cell 4 76,.tmp 5] Tryz.func178 rfl Tryz.ntmps178 rfl rfl ?_
  have H:=zB w0
  repeat' (first|refine yT ?_|(refine y9 H ?_;intro b w H)|(refine y10 sg H ?_;intro b w H)|(refine y11 sg H ?_;intro w H)|refine yU ?_|(refine y17 ?_ ?_;all_goals(intro h;try (exfalso;first|((rw[hlt] at h;cases h);done))))|fail)
  refine zBT (vs:=[_,_]) ⟨zAf sg rfl H.mem (zz2 _) rfl rfl,zh rfl,trivial⟩ H.cl ?_
  unfold zB7
  rw[if_neg (by omega)];rfl
 obtain⟨k,rfl⟩:∃ k:Nat,a=((k+1:Nat):Int):=⟨(a - 1).toNat,by omega⟩
 have hlt:decide (((k+1:Nat):Int)<1)=false:=decide_eq_false (by omega)
 have hkk:(((k+1:Nat):Int) - 1).toNat=k:=by omega
 rcases Nat.lt_or_ge k s.insts.length with h2|h2
 ·have hgt:decide (((k+1:Nat):Int)>(s.insts.length:Int))=false:=decide_eq_false (by omega)
  have hq:IntKind.i64.wrap (((k+1:Nat):Int) - 1)=(k:Int):=by rw[w64 (by omega) (by omega)];omega
  refine enter [.cell 4 76,.tmp 5] Tryz.func178 rfl Tryz.ntmps178 rfl rfl ?_
  have H:=zB w0
  repeat' (first|refine yT ?_|refine y7 sg H ?_|(refine y9 H ?_;intro b w H)|(refine y10 sg H ?_;intro b w H)|(refine y11 sg H ?_;intro w H)|(refine zf rfl rfl (zF sg hs rfl rfl rfl rfl rfl rfl rfl ((congrArg Int.toNat hq).trans (zz1 _)) (by rw[hq];omega) (by rw[hq];omega)) ?_)|(refine y42 sg (hs) ((H.memF hF)) ?_ ?_;(omega))|refine yU ?_|(refine y23 ?_ ?_;all_goals(intro h;try (exfalso;first|((rw[hlt] at h;cases h);done)|((rw[hgt] at h;cases h);done))))|fail)
  refine zBT (vs:=[_,_]) ⟨zAf sg rfl H.mem (zz2 _) rfl rfl,zh rfl,trivial⟩ H.cl ?_
  unfold zB7
  rw[hkk,if_pos ⟨h1,by omega⟩];rfl
 ·have hgt:decide (((k+1:Nat):Int)>(s.insts.length:Int))=true:=decide_eq_true (by omega)
  refine enter [.cell 4 76,.tmp 5] Tryz.func178 rfl Tryz.ntmps178 rfl rfl ?_
  have H:=zB w0
  repeat' (first|refine yT ?_|refine y7 sg H ?_|(refine y9 H ?_;intro b w H)|(refine y10 sg H ?_;intro b w H)|(refine y11 sg H ?_;intro w H)|refine yU ?_|(refine y23 ?_ ?_;all_goals(intro h;try (exfalso;first|((rw[hlt] at h;cases h);done)|((rw[hgt] at h;cases h);done))))|fail)
  refine zBT (vs:=[_,_]) ⟨zAf sg rfl H.mem (zz2 _) rfl rfl,zh rfl,trivial⟩ H.cl ?_
  unfold zB7
  rw[if_neg (by omega)];rfl
theorem zJr {F:zH}(s:Sta)(p:SPt)(a:Int)(w0:World)(hF:Mem w0 F)(hs:StaM F s p) :
  Calls Tryz.prog 174 [.agg (s.cells p).toArray,.int .i64 a].toArray w0 (Ret (.bool (zBG s.accts a).2) w0):=by
 refine enter [.tmp 4] Tryz.func174 rfl Tryz.ntmps174 rfl rfl ?_
 have H:=zB w0
 repeat' (first|refine yT ?_|refine y7 sg H ?_|(refine y9 H ?_;intro b w H)|(refine y10 sg H ?_;intro b w H)|(refine y11 sg H ?_;intro w H)|(refine' y30 zL9 ?_ ?_;rotate_left;exact zMM s p a _ (H.memF hF) hs;intro w hcl;replace H:=H.ext hcl;clear hcl)|refine yU ?_|fail)
 exact zQ rfl H.cl rfl
theorem zTU {F:zH}(s:Sta)(p:SPt)(a:Int)(w0:World)(hF:Mem w0 F)(hs:StaM F s p) :
  Calls Tryz.prog 181 [.agg (s.cells p).toArray,.int .i64 a].toArray w0 (Ret (.bool (zB7 s.insts a).2) w0):=by
 refine enter [.tmp 4] Tryz.func181 rfl Tryz.ntmps181 rfl rfl ?_
 have H:=zB w0
 repeat' (first|refine yT ?_|refine y7 sg H ?_|(refine y9 H ?_;intro b w H)|(refine y10 sg H ?_;intro b w H)|(refine y11 sg H ?_;intro w H)|(refine' y30 zQc ?_ ?_;rotate_left;exact zQ7 s p a _ (H.memF hF) hs;intro w hcl;replace H:=H.ext hcl;clear hcl)|refine yU ?_|fail)
 exact zQ rfl H.cl rfl
end
end Go.Proofs.YtibmaifoaajllaaGreatDoor
