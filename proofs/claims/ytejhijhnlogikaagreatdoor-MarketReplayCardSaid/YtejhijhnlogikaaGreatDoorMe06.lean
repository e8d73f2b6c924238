/- Steps of the proof. -/
import Derived.Maps.RangeRun
import Derived.RangeFuncLeaves
import Derived.RangeFuncNested
import Derived.Test.YtejhijhnlogikaaGreatDoorMe05
set_option linter.all false
set_option maxHeartbeats 16000000
namespace Go.Proofs.YtejhijhnlogikaaGreatDoor
open Go Go.Sk Go.RowKit Tryz
attribute [local irreducible] Go.Calls
theorem m_smay:Mth prog 230 "souk/auction.may" (.agg #[]) 321 (.agg #[]):=fun w=>by kernel_rfl
theorem m_emay:Mth prog 231 "souk/auction.may" (.agg #[]) 326 (.agg #[]):=fun w=>by kernel_rfl
theorem zWR:Mth prog 230 "souk/auction.wins" (.agg #[]) 323 (.agg #[]):=fun w=>by kernel_rfl
theorem zWS:Mth prog 231 "souk/auction.wins" (.agg #[]) 328 (.agg #[]):=fun w=>by kernel_rfl
theorem zWT:Mth prog 230 "souk/auction.take" (.agg #[]) 322 (.agg #[]):=fun w=>by kernel_rfl
theorem zWU:Mth prog 231 "souk/auction.take" (.agg #[]) 327 (.agg #[]):=fun w=>by kernel_rfl
def zGs (x:Auc):Bool:=x.step==0&&decide ((x.bids.length:Int)<=16)
def zFS (x:Auc):Bool:=zp x.step 1125899906842624&&(decide ((x.bids.length:Int)<=1)&&((x.bids.length:Int)==0||decide ((x.bids.getD 0 default).amount >= x.reserve)))
theorem c_smay {a:OA}{cap:Nat}(x:Auc)(w0:World) :
  Cr 321 [.agg #[],.agg (x.cells a cap).toArray] (.bool (zGs x)) w0:=by refine eS func321 ntmps321 fun H=>?_;(repeat' first|refine yW ?_|(refine yB ?_;intro b w H)|(refine y17 ?_ ?_;all_goals intro h)|fail);all_goals exact zG rfl H.cl (by simp only[zGs,h];simp)
theorem c_emay {a:OA}{cap:Nat}(x:Auc){F:zA}(w0:World)(hF:Mem w0 F)(hs:Bids F a cap x.bids) :
  Cr 326 [.agg #[],.agg (x.cells a cap).toArray] (.bool (zFS x)) w0:=by obtain⟨hn,hc,b0,off,cs,T,fr,hs⟩:=hs;refine eS func326 ntmps326 fun H=>?_;(repeat' first|refine yW ?_|(refine yB ?_;intro b w H)|(refine q0 zHa ?_;refine⟨_,fun _ hcl=>zCe _ _ _,?_⟩)|(refine y41 sg (hs) ?_ ?_ ?_;(omega);((have:=neI h;omega)))|(refine y45 sg (hs) ((H.memF hF)) ?_ ?_;((have:=neI h;omega)))|(refine y18 ?_ ?_;all_goals intro h)|(refine qN H ?_;clear H;intro w H)|refine y20 mixed ?_|fail);all_goals first|exact zG rfl H.cl (by simp only[zFS, *];simp)
theorem zTo (x:Auc)(a:OA)(cap:Nat)(w:World)(h:x.sealed=true):Cr 129 [.agg (x.cells a cap).toArray] (.iface 230 (.agg #[])) w:=by
 have:=c_of x a cap w
 rwa [h] at this
theorem zTp (x:Auc)(a:OA)(cap:Nat)(w:World)(h:x.sealed=false):Cr 129 [.agg (x.cells a cap).toArray] (.iface 231 (.agg #[])) w:=by
 have:=c_of x a cap w
 rwa [h] at this
def zAb (x:Auc):Bool:=if x.sealed then zGs x else zFS x
def zAS (x:Auc):Bool :=
 zp x.id 1099511627776&&zp x.seller 64&&zp x.inst 16&&zp x.qty 1048576&&zp x.reserve 1125899906842624&&zp x.fin 1099511627776&&zAb x&&zCT x
theorem zI2 {a:OA}{cap:Nat}(x:Auc){F:zA}(w0:World)(hF:Mem w0 F)(hs:Bids F a cap x.bids) :
  Cr 87 [.agg (x.cells a cap).toArray] (.bool (zAS x)) w0:=by{
refine eS func87 ntmps87 fun H=>?_;rcases Bool.eq_false_or_eq_true x.sealed with hse|hse
·(repeat' first|refine yW ?_|(refine yB ?_;intro b w H)|(refine q0 zIy ?_;refine⟨_,fun _ hcl=>zD8 _ _ _,?_⟩)|(refine q0 zHa ?_;refine⟨_,fun _ hcl=>zCe _ _ _,?_⟩)|(refine q0 zHb ?_;refine⟨_,fun _ hcl=>zTo x a cap _ hse,?_⟩)|((with_reducible apply QX.call);exact rfl;exact rfl;exact En.inv ent321 rfl rfl (m_smay) rfl;exact(fun _ hcl=>c_smay x _))|(refine q0 zTD ?_;refine⟨_,fun _ hcl=>zTn x _ ((H.ext hcl).memF hF) hs,?_⟩)|(refine y18 ?_ ?_;all_goals intro h)|(refine qN H ?_;clear H;intro w H)|refine y20 mixed ?_|fail);all_goals first|exact zG rfl H.cl (by simp only[zAS,zAb, *];simp)
·(repeat' first|refine yW ?_|(refine yB ?_;intro b w H)|(refine q0 zIy ?_;refine⟨_,fun _ hcl=>zD8 _ _ _,?_⟩)|(refine q0 zHa ?_;refine⟨_,fun _ hcl=>zCe _ _ _,?_⟩)|(refine q0 zHb ?_;refine⟨_,fun _ hcl=>zTp x a cap _ hse,?_⟩)|((with_reducible apply QX.call);exact rfl;exact rfl;exact En.inv ent326 rfl rfl (m_emay) rfl;exact(fun _ hcl=>c_emay x _ ((H.ext hcl).memF hF) hs))|(refine q0 zTD ?_;refine⟨_,fun _ hcl=>zTn x _ ((H.ext hcl).memF hF) hs,?_⟩)|(refine y18 ?_ ?_;all_goals intro h)|(refine qN H ?_;clear H;intro w H)|refine y20 mixed ?_|fail);all_goals first|exact zG rfl H.cl (by simp only[zAS,zAb, *];simp)}
def ael (l:List Auc)(ad:Nat->OA × Nat)(j:Nat):List Value:=(l.getD j default).cells (ad j).1 (ad j).2
def Aucs (F:zA)(a:OA)(cap:Nat)(l:List Auc)(ad:Nat->OA × Nat):Prop :=
 SlA F 9 a l.length cap (ael l ad)/\∀ j,j<l.length->Bids F (ad j).1 (ad j).2 (l.getD j default).bids
def zOa (l:List Auc):Nat->Int
 | 0=>0
 | k+1=>(l.getD k default).id
def zBn (l:List Auc)(j:Nat):Bool:=decide ((l.getD j default).id<=zOa l j)||!zAS (l.getD j default)
def zAF (l:List Auc):Bool:=decide (idx (zBn l) l.length<0)&&decide ((l.length:Int)<=32)
theorem zGt {a:OA}{cap:Nat}(l:List Auc)(ad:Nat->OA × Nat){F:zA}(w0:World)(hF:Mem w0 F)(hs:Aucs F a cap l ad) :
  Cr 42 [.slice a l.length cap] (.bool (zAF l)) w0:=by{
obtain⟨⟨hn,hc,b0,off,cs,T,fr,hs⟩,hbs⟩:=hs;refine eS func42 ntmps42 fun H=>?_;(repeat' first|refine yX ?_|fail);refine zD [(2,3),(5,5),(8,23)] (fun k:Nat=>[(8,.int .i64 (k:Int)),(3,.int .i64 (zOa l k))]) (fun k w=>k<=l.length/\(∀ j,j<k->zBn l j=false)/\St w0 [] w) (fun k=>l.length - k) 0 ⟨rfl,rfl,trivial⟩ ⟨zzD _,fun j hj=>by omega,H⟩ ?_;clear H;rintro k g w ⟨hk,hpk,H⟩;(repeat' first|refine yX ?_|fail);refine zB rfl (fun h=>?_) (fun h=>?_)
.have hlt:k<l.length:=by simpa using h
 (repeat' first|refine yW ?_|(refine yB ?_;intro b w H)|(refine y11 sg H ?_;intro w H)|refine x40 sg hs ?_|refine x42 sg hs (H.memF hF) ?_|(refine c0 zIx ?_;refine⟨_,zI2 (l.getD k default) _ (H.memF hF) (hbs k hlt),?_⟩;clear H;intro w H)|(refine y17 ?_ ?_;all_goals intro h)|(refine y23 ?_ ?_;all_goals intro h)|fail)
 all_goals first
  | exact zG rfl H.cl (by
    have hbad:zBn l k=true:=by simp only[zBn, *];simp
    rw[zAF,zBv hlt hpk hbad,yyc (show ¬ ((k:Int)<0) by omega),Bool.false_and])
  | (refine zC (k+1) rfl ⟨zU qO,rfl,trivial⟩ ⟨hlt,fun j hj=>?_,H.sub (zz9 _)⟩ qO
     by_cases hj':j=k
     .have hbad:zBn l k=false:=by simp only[zBn, *];simp
      rw[hj'];exact hbad
     .exact hpk j qO)
·(repeat' first|refine yX ?_|fail);have hkn:k=l.length:=by simp at h;omega
 subst hkn;exact zG rfl H.cl (by rw[zAF,zA8 hpk];simp)}
def zAW (x:Auc)(clock:Int):Bool:=zAS x&&decide (x.fin<=clock)
theorem zKV {a:OA}{cap:Nat}(x:Auc)(clock:Int){F:zA}(w0:World)(hF:Mem w0 F)(hs:Bids F a cap x.bids) :
  Cr 46 [.agg (x.cells a cap).toArray,.int .i64 clock] (.bool (zAW x clock)) w0:=by refine eS func46 ntmps46 fun H=>?_;(repeat' first|refine yW ?_|(refine yB ?_;intro b w H)|(refine c0 zIx ?_;refine⟨_,zI2 x _ (H.memF hF) hs,?_⟩;clear H;intro w H)|(refine y17 ?_ ?_;all_goals intro h)|fail);all_goals first|exact zG rfl H.cl (by simp only[zAW, *];simp)
def zP4 (x y:Auc):Bool:=x.id==y.id&&x.seller==y.seller&&x.inst==y.inst&&x.sealed==y.sealed&&x.qty==y.qty&&x.reserve==y.reserve&&x.step==y.step&&x.fin==y.fin&&decide (x.bids=y.bids)
theorem c_Same {a a':OA}{cap cap':Nat}(x y:Auc){F:zA}(w0:World)(hF:Mem w0 F)(hs:Bids F a cap x.bids)(hs':Bids F a' cap' y.bids) :
  Cr 57 [.agg (x.cells a cap).toArray,.agg (y.cells a' cap').toArray] (.bool (zP4 x y)) w0:=by refine eS func57 ntmps57 fun H=>?_;(repeat' first|refine yW ?_|(refine yB ?_;intro b w H)|(refine c0 ent98 ?_;refine⟨_,zOZ x.bids y.bids _ (H.memF hF) hs hs',?_⟩;clear H;intro w H)|(refine y17 ?_ ?_;all_goals intro h)|fail);all_goals first|exact zG rfl H.cl (by simp only[zP4, *];simp)
def zGu (l:List Bid)(acct:Int):Nat->Int
 | 0=>0
 | k+1=>if (l.getD k default).acct==acct then(l.getD k default).amount else zGu l acct k
structure Sta where
 clock:Int
 fee:Int
 nextO:Int
 nextA:Int
 accts:List Ac
 insts:List Ins
 rows:List Row4
 orders:List Odr
 aucs:List Auc
structure SPt where
 acA:OA
 acC:Nat
 inA:OA
 inC:Nat
 rwA:OA
 rwC:Nat
 odA:OA
 odC:Nat
 auA:OA
 auC:Nat
 ad:Nat->OA × Nat
def Sta.cells (s:Sta)(p:SPt):List Value:=[.int .i64 s.clock,.int .i64 s.fee,.int .i64 s.nextO,.int .i64 s.nextA,.slice p.acA s.accts.length p.acC,.slice p.inA s.insts.length p.inC,.slice p.rwA s.rows.length p.rwC,.slice p.odA s.orders.length p.odC,.slice p.auA s.aucs.length p.auC]
def Accs (F:zA)(a:OA)(cap:Nat)(l:List Ac):Prop:=SlA F 2 a l.length cap (acl l)
def Inss (F:zA)(a:OA)(cap:Nat)(l:List Ins):Prop:=SlA F 3 a l.length cap (ing l)
structure StaM (F:zA)(s:Sta)(p:SPt):Prop where
 ac:Accs F p.acA p.acC s.accts
 ins:Inss F p.inA p.inC s.insts
 rw:zP2 F p.rwA p.rwC s.rows
 od:Ords F p.odA p.odC s.orders
 au:Aucs F p.auA p.auC s.aucs p.ad
theorem StaM.mono {F G:zA}{s:Sta}{p:SPt}(h:StaM F s p)(hs:F⊆G):StaM G s p :=
 ⟨SlA.mono h.ac hs,SlA.mono h.ins hs,SlA.mono h.rw hs,SlA.mono h.od hs,SlA.mono h.au.1 hs,fun j hj=>SlA.mono (h.au.2 j hj) hs⟩
def Ac.zero:Ac:=⟨ByteArray.empty,false⟩
def Ins.zero:Ins:=⟨ByteArray.empty,0,false⟩
def zBQ (l:List Ac)(a:Int):Ac × Bool:=if 1<=a/\a<=l.length/\(ac_ l (a - 1).toNat).opn=true then(ac_ l (a - 1).toNat,true) else(Ac.zero,false)
def zCI (l:List Ins)(a:Int):Ins × Bool:=if 1<=a/\a<=l.length then(in_ l (a - 1).toNat,true) else(Ins.zero,false)
theorem zOb {F:zA}(s:Sta)(p:SPt)(a:Int)(w0:World)(hF:Mem w0 F)(hs:StaM F s p) :
  Cr 236 [.agg (s.cells p).toArray,.int .i64 a] (.tuple #[.agg (zBQ s.accts a).1.cells.toArray,.bool (zBQ s.accts a).2]) w0:=by{
obtain⟨hnc,hcb,b0,off,cs,T,fr,hs⟩:=hs.ac;rcases Int.lt_or_le a 1 with h1|h1
.have hlt:decide (a<1)=true:=yyb h1;refine eS func236 ntmps236 fun H=>?_;(repeat' first|refine yW ?_|(refine yB ?_;intro b w H)|(refine y11 sg H ?_;intro w H)|fail);refine zAv (vs:=[_,_]) ⟨zg sg rfl H.mem (zz2 _) rfl rfl,zP rfl,trivial⟩ H.cl ?_;unfold zBQ;rw[if_neg qO];rfl
obtain⟨k,rfl⟩:∃ k:Nat,a=((k+1:Nat):Int):=⟨(a - 1).toNat,by omega⟩;have hlt:decide (((k+1:Nat):Int)<1)=false:=yyc qO;have hkk:(((k+1:Nat):Int) - 1).toNat=k:=by omega
rcases Nat.lt_or_ge k s.accts.length with h2|h2
.have hgt:decide (((k+1:Nat):Int)>(s.accts.length:Int))=false:=yyc qO;have hq:IntKind.i64.wrap (((k+1:Nat):Int) - 1)=(k:Int):=by rw[w64 qO qO];omega
 refine eS func236 ntmps236 fun H=>?_;(repeat' first|refine yW ?_|(refine yB ?_;intro b w H)|(refine y11 sg H ?_;intro w H)|(refine za rfl rfl (zIX sg hs ((congrArg Int.toNat hq).trans (zz1 _)) (by rw[hq];omega) (by rw[hq];omega)) ?_)|refine x44 sg hs (H.memF hF) ?_|refine x42 sg hs (H.memF hF) ?_|(refine y23 ?_ ?_;all_goals(intro h;try (exfalso;first|((rw[hlt] at h;cases h);done)|((rw[hgt] at h;cases h);done))))|fail)
 .have h:(ac_ s.accts k).opn=false:=by{simpa using h};refine zAv (vs:=[_,_]) ⟨zg sg rfl H.mem (zz2 _) rfl rfl,zP rfl,trivial⟩ H.cl ?_
  unfold zBQ;rw[hkk,if_neg (fun hh=>by rw[h] at hh;cases hh.2.2)];rfl
 .have h:(ac_ s.accts k).opn=true:=by{simpa using h};refine zAv (vs:=[_,_]) ⟨zg sg rfl H.mem (zz2 _) rfl rfl,zP rfl,trivial⟩ H.cl ?_
  unfold zBQ;rw[hkk,if_pos ⟨h1,by omega,h⟩];rfl
.have hgt:decide (((k+1:Nat):Int)>(s.accts.length:Int))=true:=yyb qO;refine eS func236 ntmps236 fun H=>?_;(repeat' first|refine yW ?_|(refine yB ?_;intro b w H)|(refine y11 sg H ?_;intro w H)|fail);refine zAv (vs:=[_,_]) ⟨zg sg rfl H.mem (zz2 _) rfl rfl,zP rfl,trivial⟩ H.cl ?_;unfold zBQ;rw[if_neg qO];rfl}
theorem zTq {F:zA}(s:Sta)(p:SPt)(a:Int)(w0:World)(hF:Mem w0 F)(hs:StaM F s p) :
  Cr 183 [.agg (s.cells p).toArray,.int .i64 a] (.tuple #[.agg (zCI s.insts a).1.cells.toArray,.bool (zCI s.insts a).2]) w0:=by{
obtain⟨hnc,hcb,b0,off,cs,T,fr,hs⟩:=hs.ins;rcases Int.lt_or_le a 1 with h1|h1
.have hlt:decide (a<1)=true:=yyb h1;refine eS func183 ntmps183 fun H=>?_;(repeat' first|refine yW ?_|(refine yB ?_;intro b w H)|(refine y11 sg H ?_;intro w H)|fail);refine zAv (vs:=[_,_]) ⟨zg sg rfl H.mem (zz2 _) rfl rfl,zP rfl,trivial⟩ H.cl ?_;unfold zCI;rw[if_neg qO];rfl
obtain⟨k,rfl⟩:∃ k:Nat,a=((k+1:Nat):Int):=⟨(a - 1).toNat,by omega⟩;have hlt:decide (((k+1:Nat):Int)<1)=false:=yyc qO;have hkk:(((k+1:Nat):Int) - 1).toNat=k:=by omega
rcases Nat.lt_or_ge k s.insts.length with h2|h2
.have hgt:decide (((k+1:Nat):Int)>(s.insts.length:Int))=false:=yyc qO;have hq:IntKind.i64.wrap (((k+1:Nat):Int) - 1)=(k:Int):=by rw[w64 qO qO];omega
 refine eS func183 ntmps183 fun H=>?_;(repeat' first|refine yW ?_|(refine yB ?_;intro b w H)|(refine y11 sg H ?_;intro w H)|(refine za rfl rfl (zIX sg hs ((congrArg Int.toNat hq).trans (zz1 _)) (by rw[hq];omega) (by rw[hq];omega)) ?_)|refine x42 sg hs (H.memF hF) ?_|fail);refine zAv (vs:=[_,_]) ⟨zg sg rfl H.mem (zz2 _) rfl rfl,zP rfl,trivial⟩ H.cl ?_;unfold zCI;rw[hkk,if_pos ⟨h1,by omega⟩];rfl
.have hgt:decide (((k+1:Nat):Int)>(s.insts.length:Int))=true:=yyb qO;refine eS func183 ntmps183 fun H=>?_;(repeat' first|refine yW ?_|(refine yB ?_;intro b w H)|(refine y11 sg H ?_;intro w H)|fail);refine zAv (vs:=[_,_]) ⟨zg sg rfl H.mem (zz2 _) rfl rfl,zP rfl,trivial⟩ H.cl ?_;unfold zCI;rw[if_neg qO];rfl}
theorem zLX {F:zA}(s:Sta)(p:SPt)(a:Int)(w0:World)(hF:Mem w0 F)(hs:StaM F s p) :
  Cr 179 [.agg (s.cells p).toArray,.int .i64 a] (.bool (zBQ s.accts a).2) w0:=by refine eS func179 ntmps179 fun H=>?_;(repeat' first|refine yW ?_|(refine yB ?_;intro b w H)|(refine y11 sg H ?_;intro w H)|(refine c0 zON ?_;refine⟨_,zOb s p a _ (H.memF hF) hs,?_⟩;clear H;intro w H)|fail);exact zG rfl H.cl rfl
theorem zWV {F:zA}(s:Sta)(p:SPt)(a:Int)(w0:World)(hF:Mem w0 F)(hs:StaM F s p) :
  Cr 186 [.agg (s.cells p).toArray,.int .i64 a] (.bool (zCI s.insts a).2) w0:=by refine eS func186 ntmps186 fun H=>?_;(repeat' first|refine yW ?_|(refine yB ?_;intro b w H)|(refine y11 sg H ?_;intro w H)|(refine c0 zTH ?_;refine⟨_,zTq s p a _ (H.memF hF) hs,?_⟩;clear H;intro w H)|fail);exact zG rfl H.cl rfl
end Go.Proofs.YtejhijhnlogikaaGreatDoor
set_option linter.unusedSectionVars false
namespace Go.Sk
open Go Go.RowKit
open Go.ChangeMaps (setBlock)
structure KeyT (P:Program)(kt:TypeId)(ι:Type)[DecidableEq ι] where
 v:ι->Value
 eq:∀ x y (w:World),(Op.equal kt (v x) (v y)).run P w=.ok (decide (x=y)) w
 chk:∀ b x (w:World),(Instr.checkKey b 10000 kt (v x)).run P w=.ok () w
 same:∀ x,Instr.sameBits 10000 (v x) (v x)=true
 d:TypeDesc
 und:P.underlying kt=some d
 now:∀ x y,Instr.sameNow d (v x) (v y)=none\/Instr.sameNow d (v x) (v y)=some (decide (x=y))
section
variable {P:Program}{kt:TypeId}{ι ν:Type}[DecidableEq ι]
abbrev ME (ι ν:Type):=ι × ν × Nat
def zAw (K:KeyT P kt ι)(val:ν->Value)(es:List (ME ι ν)):List MapEntry:=es.map fun e=>⟨K.v e.1,val e.2.1,e.2.2⟩
def mo (K:KeyT P kt ι)(val:ν->Value)(es:List (ME ι ν))(clock:Nat):Obj:=.map (zAw K val es).toArray clock
def fnd (x:ι):List (ME ι ν)->Nat->Option (Nat × ν)
 | [],_=>none
 | e::r,i=>if x=e.1 then some (i,e.2.1) else fnd x r (i+1)
theorem zI3 (K:KeyT P kt ι)(val:ν->Value)(x:ι):∀ (es:List (ME ι ν)) (i:Nat),Instr.findNow K.d (K.v x) (zAw K val es) i=none\/Instr.findNow K.d (K.v x) (zAw K val es) i=some ((fnd x es i).map fun p=>(p.1,val p.2))
 | [],_=>.inr rfl
 | e::r,i=>by
   simp only[zAw,List.map_cons,Instr.findNow,fnd]
   rcases K.now x e.1 with h|h
   .rw[h];exact .inl rfl
   .rw[h]
    by_cases he:x=e.1
    .simp[he]
    .simp only[he,decide_false,if_false]
     exact zI3 K val x r (i+1)
theorem zGI (K:KeyT P kt ι)(val:ν->Value)(x:ι)(w:World):∀ (es:List (ME ι ν)) (i:Nat),(Instr.findAsking kt (K.v x) (zAw K val es) i).run P w=.ok ((fnd x es i).map fun p=>(p.1,val p.2)) w
 | [],_=>rfl
 | e::r,i=>by
   simp only[zAw,List.map_cons,Instr.findAsking,fnd,Sem.run_bind,K.eq,Result.andThen_ok]
   by_cases he:x=e.1
   .simp[he]
   .simp only[he,decide_false,Bool.false_eq_true,if_false]
    exact zGI K val x w r (i+1)
theorem zEb (K:KeyT P kt ι)(val:ν->Value)(x:ι)(es:List (ME ι ν))(w:World):(Instr.findKey kt (K.v x) (zAw K val es)).run P w=.ok ((fnd x es 0).map fun p=>(p.1,val p.2)) w:=by{
unfold Instr.findKey;rw[Sem.run_bind,run_underlying K.und,Result.andThen_ok];rcases zI3 K val x es 0 with h|h
.rw[h];exact zGI K val x w es 0
.rw[h];rfl}
def atM (es:List (ME ι ν))(x:ι):Option ν:=(fnd x es 0).map (·.2)
theorem zLY (x:ι):∀ (es:List (ME ι ν)) (i:Nat),(fnd x es i).map (·.2)=atM es x
 | [],_=>rfl
 | e::r,i=>by
   unfold atM
   simp only[fnd]
   by_cases h:x=e.1
   .simp[h]
   .simp only[h,if_false]
    rw[zLY x r (i+1),zLY x r (0+1)]
theorem zBK (x:ι)(e:ME ι ν)(r:List (ME ι ν)):atM (e::r) x=if x=e.1 then some e.2.1 else atM r x:=by{
conv=>lhs;unfold atM
simp only[fnd];by_cases h:x=e.1
.simp[h]
.simp only[h,if_false];exact zLY x r (0+1)}
theorem zP5 (x:ι):atM ([]:List (ME ι ν)) x=none:=rfl
def zFT (es:List (ME ι ν))(clock:Nat)(x:ι)(v:ν):List (ME ι ν) :=
 match fnd x es 0 with
 | some p=>es.modify p.1 fun e=>(e.1,v,e.2.2)
 | none=>es++[(x,v,clock)]
def zFU (es:List (ME ι ν))(clock:Nat)(x:ι):Nat:=if (fnd x es 0).isSome then clock else clock+1
theorem zDI {x:ι}:∀ {es:List (ME ι ν)} {i k:Nat} {v:ν},fnd x es i=some (k,v)->i<=k/\∃ c,es[k - i]?=some (x,v,c)
 | e::r,i,k,v,h=>by
   simp only[fnd] at h
   by_cases he:x=e.1
   .rw[if_pos he] at h
    cases h
    exact⟨zzC _,e.2.2,by simp[he]⟩
   .rw[if_neg he] at h
    obtain⟨h1,c,h2⟩:=zDI h
    refine⟨by omega,c,?_⟩
    rw[show k - i=(k - (i+1))+1 by omega,List.getElem?_cons_succ]
    exact h2
theorem zI4 (K:KeyT P kt ι)(val:ν->Value)(es:List (ME ι ν))(i:Nat):(zAw K val es).toArray[i]?=(es[i]?).map fun e=>⟨K.v e.1,val e.2.1,e.2.2⟩:=by simp[zAw]
theorem zMj (K:KeyT P kt ι)(val:ν->Value)(x:ι)(v:ν){es:List (ME ι ν)}{k c:Nat}{u:ν}(h:es[k]?=some (x,u,c)) :
  (zAw K val es).toArray.modify k (fun e=>{ e with key:=K.v x,val:=val v })=(zAw K val (es.modify k fun e=>(e.1,v,e.2.2))).toArray:=by{
apply Array.ext';simp only[zAw,Array.toList_modify];apply List.ext_getElem?;intro i;simp only[List.getElem?_modify,List.getElem?_map];by_cases hi:k=i
.subst hi;simp[h]
.simp[hi]}
theorem zGJ (K:KeyT P kt ι)(val:ν->Value){t et:TypeId}(ht:P.underlying t=some (.map kt et)){w:World}{b:Nat}{es:List (ME ι ν)}{clock:Nat}(hb:w.heap[b]?=some (mo K val es clock))(x:ι)(v:ν) :
  (Instr.mapUpdate t (.map (some b)) (K.v x) (val v)).run P w=.ok () (setBlock w b (mo K val (zFT es clock x v) (zFU es clock x))):=by{
have hg:(getObj b).run P w=.ok (mo K val es clock) w:=by simp[getObj,Sem.run,hb,mo]
have hset:∀ o',(setObj b o').run P w=.ok () (setBlock w b o'):=fun o'=>by simp[setObj,Sem.run,hb,mo,setBlock]
have hf:(Instr.findKey kt (K.v x) (zAw K val es).toArray.toList).run P w=_:=zEb K val x es w;unfold Instr.mapUpdate;simp only[Sem.run_bind,run_underlying ht,Result.andThen_ok,hg];unfold mo;simp only[Sem.run_bind,Result.andThen_ok,K.chk,hf];cases h:fnd x es 0 with
| none =>
  simp only[Option.map_none,hset,zFT,zFU,h];simp[zAw]
| some p =>
  obtain⟨k,u⟩:=p;obtain⟨_,c,hk⟩:=zDI h;rw[Nat.sub_zero] at hk;have hk2:((zAw K val es).toArray[k]?).map (·.key)=some (K.v x):=by rw[zI4,hk];rfl
  simp only[Option.map_some,hk2,Option.getD_some,Instr.keyThatStays,K.same,if_true,Sem.run_pure,Result.andThen_ok,hset,zFT,zFU,h,Option.isSome_some,Sem.run_bind];rw[zMj K val x v hk]}
def zGD (es:List (ME ι ν))(clock:Nat)(x:ι)(z:ν):List (ME ι ν):=if (fnd x es 0).isSome then es else es++[(x,z,clock)]
def zEc (es:List (ME ι ν))(clock:Nat)(x:ι):Nat :=
 match fnd x es 0 with
 | some p=>((es[p.1]?).map (·.2.2)).getD 0
 | none=>clock
theorem zLZ (K:KeyT P kt ι)(val:ν->Value){t et:TypeId}(ht:P.underlying t=some (.map kt et)){w:World}{b:Nat}{es:List (ME ι ν)}{clock:Nat}(hb:w.heap[b]?=some (mo K val es clock))(x:ι)(z:ν)(hz:∀ w:World,(zeroValue et).run P w=.ok (val z) w) :
  (Instr.mapEntry t (.map (some b)) (K.v x)).run P w=.ok (.tuple #[val ((atM es x).getD z),.int .i64 (zEc es clock x:Nat)]) (setBlock w b (mo K val (zGD es clock x z) (zFU es clock x))):=by{
have hg:(getObj b).run P w=.ok (mo K val es clock) w:=by simp[getObj,Sem.run,hb,mo]
have hset:∀ o',(setObj b o').run P w=.ok () (setBlock w b o'):=fun o'=>by simp[setObj,Sem.run,hb,mo,setBlock]
have hf:(Instr.findKey kt (K.v x) (zAw K val es).toArray.toList).run P w=_:=zEb K val x es w;unfold Instr.mapEntry;simp only[Sem.run_bind,run_underlying ht,Result.andThen_ok,hg];unfold mo;simp only[Sem.run_bind,Result.andThen_ok,K.chk,hf];cases h:fnd x es 0 with
| none =>
  have ha:atM es x=none:=by unfold atM;rw[h];rfl
  simp only[Option.map_none,Sem.run_bind,hz,Result.andThen_ok,hset,Sem.run_pure,ha,Option.getD_none,zGD,zFU,zEc,h];simp[zAw,goInt]
| some p =>
  obtain⟨k,u⟩:=p;obtain⟨_,c,hk⟩:=zDI h;rw[Nat.sub_zero] at hk;have ha:atM es x=some u:=by unfold atM;rw[h];rfl
  have hk2:((zAw K val es).toArray[k]?).map (·.key)=some (K.v x):=by rw[zI4,hk];rfl
  have hk3:((zAw K val es).toArray[k]?).map (·.born)=some c:=by rw[zI4,hk];rfl
  have hm:(zAw K val es).toArray.modify k (fun e=>{ e with key:=K.v x })=(zAw K val es).toArray:=by
   apply Array.ext';simp only[Array.toList_modify];apply List.ext_getElem?;intro i;rw[List.getElem?_modify];by_cases hi:k=i
   .subst hi;simp[zAw,hk]
   .simp[hi]
  simp only[Option.map_some,hk2,hk3,Option.getD_some,Instr.keyThatStays,K.same,if_true,Sem.run_pure,Result.andThen_ok,hset,Sem.run_bind,hm,ha,zGD,zFU,zEc,h,Option.isSome_some,hk];simp[goInt,zAw,hk]}
theorem zOc (K:KeyT P kt ι)(val:ν->Value){t et:TypeId}(ht:P.underlying t=some (.map kt et)){w:World}{b:Nat}{es:List (ME ι ν)}{clock:Nat}(hb:w.heap[b]?=some (mo K val es clock))(x:ι)(z:ν)(hz:∀ w:World,(zeroValue et).run P w=.ok (val z) w) :
  (Instr.lookup t (.map (some b)) (K.v x) false).run P w=.ok (val ((atM es x).getD z)) w:=by{
have hg:(getObj b).run P w=.ok (mo K val es clock) w:=by simp[getObj,Sem.run,hb,mo]
have hf:(Instr.findKey kt (K.v x) (zAw K val es).toArray.toList).run P w=_:=zEb K val x es w;unfold Instr.lookup;simp only[Sem.run_bind,run_underlying ht,Result.andThen_ok,hg];unfold mo;simp only[Sem.run_bind,Sem.run_pure,Result.andThen_ok,K.chk,hf];cases h:fnd x es 0 with
| none =>
  have ha:atM es x=none:=by unfold atM;rw[h];rfl
  simp[Option.map_none,hz,ha]
| some p =>
  have ha:atM es x=some p.2:=by unfold atM;rw[h];rfl
  simp[ha]}
def zGY (es:List (ME ι ν))(s:Nat)(v:ν):List (ME ι ν):=es.map fun e=>if e.2.2=s then(e.1,v,e.2.2) else e
theorem zOd (K:KeyT P kt ι)(val:ν->Value)(es:List (ME ι ν))(s:Nat)(v:ν)(hn:(es.map (·.2.2)).Nodup){i:Nat}(h:(zAw K val es).toArray.findIdx? (fun e=>((e.born:Int)==(s:Int)))=some i) :
  (zAw K val es).toArray.modify i (fun e=>{ e with val:=val v })=(zAw K val (zGY es s v)).toArray:=by{
rw[Array.findIdx?_eq_some_iff_getElem] at h;obtain⟨hi,h1,_⟩:=h;have hi':i<es.length:=by simpa [zAw] using hi
have h1:es[i].2.2=s:=by simp only[zAw,List.getElem_toArray,List.getElem_map,beq_iff_eq] at h1;omega
apply Array.ext';simp only[zAw,Array.toList_modify,zGY];apply List.ext_getElem?;intro j;simp only[List.getElem?_modify,List.getElem?_map];by_cases hj:j<es.length
.simp only[yy1 hj,Option.map_some];by_cases hij:i=j
 .subst hij;simp[h1]
 .have hne:es[j].2.2≠s:=by
   intro he;have:=(List.pairwise_iff_getElem.1 hn);rcases Nat.lt_or_gt_of_ne hij with g|g
   .exact this i j (by simpa using hi') (by simpa using hj) g (by simp[h1,he])
   .exact this j i (by simpa using hj) (by simpa using hi') g (by simp[h1,he])
  simp[hij,hne]
.simp[List.getElem?_eq_none (by omega:es.length<=j)]}
theorem zI5 (K:KeyT P kt ι)(val:ν->Value){t:TypeId}{w:World}{b:Nat}{es:List (ME ι ν)}{clock:Nat}(hb:w.heap[b]?=some (mo K val es clock))(s:Nat)(v:ν)(hn:(es.map (·.2.2)).Nodup)(hs:∃ e∈es,e.2.2=s) :
  (Instr.entryStore t (.map (some b)) (.int .i64 (s:Int)) (val v)).run P w=.ok () (setBlock w b (mo K val (zGY es s v) clock)):=by{
have hg:(getObj b).run P w=.ok (mo K val es clock) w:=by simp[getObj,Sem.run,hb,mo]
have hset:∀ o',(setObj b o').run P w=.ok () (setBlock w b o'):=fun o'=>by simp[setObj,Sem.run,hb,mo,setBlock]
unfold Instr.entryStore;simp only[Sem.run_bind,Sem.run_pure,Result.andThen_ok,hg];unfold mo;simp only[asInt,asIntOf,Sem.run_bind,Sem.run_pure,Result.andThen_ok];cases h:(zAw K val es).toArray.findIdx? (fun e=>((e.born:Int)==(s:Int))) with
| none =>
  exfalso;rw[Array.findIdx?_eq_none_iff] at h;obtain⟨e,he,hes⟩:=hs;have:=h ⟨K.v e.1,val e.2.1,e.2.2⟩ (by simp only[zAw,List.mem_toArray,yyk];exact⟨e,he,rfl⟩);simp[hes] at this
| some i =>
  simp only[hset,zOd K val es s v hn h]}
def zLa (es:List (ME ι ν))(x:ι):List (ME ι ν) :=
 match fnd x es 0 with
 | some p=>es.eraseIdx p.1
 | none=>es
theorem zOe (K:KeyT P kt ι)(val:ν->Value){t et ty:TypeId}{kt2:TypeId}(ht:P.underlying t=some (.map kt et)){w:World}{b:Nat}{es:List (ME ι ν)}{clock:Nat}(hb:w.heap[b]?=some (mo K val es clock))(x:ι) :
  (Builtin.delete_ #[t,kt2] ty #[.map (some b),K.v x]).run P w=.ok (.tuple #[]) (setBlock w b (mo K val (zLa es x) clock)):=by{
have hg:(getObj b).run P w=.ok (mo K val es clock) w:=by simp[getObj,Sem.run,hb,mo]
have hset:∀ o',(setObj b o').run P w=.ok () (setBlock w b o'):=fun o'=>by simp[setObj,Sem.run,hb,mo,setBlock]
have hf:(Instr.findKey kt (K.v x) (zAw K val es).toArray.toList).run P w=_:=zEb K val x es w;unfold Builtin.delete_;have e1:(#[t,kt2]:Array TypeId)[0]?=some t:=rfl;have e2:(#[Value.map (some b),K.v x]:Array Value)[0]?=some (.map (some b)):=rfl;have e3:(#[Value.map (some b),K.v x]:Array Value)[1]?=some (K.v x):=rfl;simp only[e1,e2,e3,Sem.run_bind,run_underlying ht,Result.andThen_ok,hg];unfold mo;simp only[Sem.run_bind,Result.andThen_ok,K.chk,hf];cases h:fnd x es 0 with
| none=>simp[hset,zLa,h,mo]
| some p =>
  obtain⟨k,u⟩:=p;obtain⟨_,c,hk⟩:=zDI h;rw[Nat.sub_zero] at hk;have hlt:k<es.length:=by
   rcases Nat.lt_or_ge k es.length with g|g
   .exact g
   .rw[List.getElem?_eq_none g] at hk;cases hk
  have he:(zAw K val es).toArray.eraseIdxIfInBounds k=(zAw K val (es.eraseIdx k)).toArray:=by apply Array.ext';simp[zAw,Array.eraseIdxIfInBounds,hlt,List.eraseIdx_eq_take_drop_succ,List.map_take,List.map_drop]
  simp only[Option.map_some,Sem.run_bind,he,hset,Result.andThen_ok,Sem.run_pure,zLa,h]}
structure MI (es:List (ME ι ν))(clock:Nat):Prop where
 keys:(es.map (·.1)).Nodup
 stamps:(es.map (·.2.2)).Nodup
 old:∀ e∈es,e.2.2<clock
theorem MI.nil:MI ([]:List (ME ι ν)) 0:=⟨List.nodup_nil,List.nodup_nil,fun e he=>by cases he⟩
theorem zDJ {x:ι}:∀ {es:List (ME ι ν)} {i:Nat},fnd x es i=none↔x ∉ es.map (·.1)
 | [],i=>by simp[fnd]
 | e::r,i=>by
   simp only[fnd,List.map_cons,List.mem_cons,not_or]
   by_cases h:x=e.1
   .simp[h]
   .simp only[h,if_false,not_false_eq_true,true_and]
    exact zDJ
theorem zGv {x:ι}{es:List (ME ι ν)}:atM es x=none↔x ∉ es.map (·.1):=by unfold atM;rw[Option.map_eq_none_iff];exact zDJ
theorem zLb (es:List (ME ι ν))(e:ME ι ν)(y:ι):atM (es++[e]) y=match atM es y with|some v=>some v|none=>if y=e.1 then some e.2.1 else none:=by{
induction es with
| nil=>rw[List.nil_append,zBK,zP5]
| cons f r ih =>
  rw[List.cons_append,zBK,zBK];by_cases h:y=f.1
  .simp[h]
  .simp only[h,if_false];exact ih}
theorem zMk {es:List (ME ι ν)}{k:Nat}{v:ν}:((es.modify k fun e=>(e.1,v,e.2.2)).map (·.1))=es.map (·.1):=by apply List.ext_getElem?;intro i;simp only[List.getElem?_map,List.getElem?_modify];cases es[i]?<;>simp;split<;>rfl
theorem zGK {es:List (ME ι ν)}{k:Nat}{v:ν}:((es.modify k fun e=>(e.1,v,e.2.2)).map (·.2.2))=es.map (·.2.2):=by apply List.ext_getElem?;intro i;simp only[List.getElem?_map,List.getElem?_modify];cases es[i]?<;>simp;split<;>rfl
theorem zI6 {x:ι}{v:ν}:∀ {es:List (ME ι ν)} {i k:Nat} {u:ν},fnd x es i=some (k,u)->∀ y,atM (es.modify (k - i) fun e=>(e.1,v,e.2.2)) y=if y=x then some v else atM es y
 | e::r,i,k,u,h,y=>by
   simp only[fnd] at h
   by_cases he:x=e.1
   .rw[if_pos he] at h
    cases h
    rw[Nat.sub_self]
    simp only[List.modify_zero_cons,zBK,he]
    split<;>simp_all
   .rw[if_neg he] at h
    obtain⟨h1,_⟩:=zDI h
    rw[show k - i=(k - (i+1))+1 by omega]
    simp only[List.modify_succ_cons,zBK]
    rw[zI6 h y]
    by_cases hy:y=x
    .subst hy;simp[he]
    .simp[hy]
theorem MI.snoc {es:List (ME ι ν)}{clock:Nat}(h:MI es clock){x:ι}(hx:x ∉ es.map (·.1))(v:ν):MI (es++[(x,v,clock)]) (clock+1):=by{
refine⟨?_,?_,fun e he=>?_⟩
.rw[List.map_append,List.nodup_append];exact⟨h.keys,by simp,fun a ha b hb=>by simp at hb;subst hb;intro hh;subst hh;exact hx ha⟩
.rw[List.map_append,List.nodup_append];refine⟨h.stamps,by simp,fun a ha b hb=>?_⟩;simp at hb;subst hb;obtain⟨e,he,rfl⟩:=List.mem_map.1 ha;have:=h.old e he;omega
.rcases List.mem_append.1 he with he|he
 .have:=h.old e he;omega
 .simp at he;subst he;exact Nat.lt_succ_self _}
theorem zIY (es:List (ME ι ν))(clock:Nat)(x:ι)(v:ν)(y:ι):atM (zFT es clock x v) y=if y=x then some v else atM es y:=by{
unfold zFT;cases h:fnd x es 0 with
| none =>
  have hx:=zGv.2 (zDJ.1 h);simp only[zLb];by_cases hy:y=x
  .subst hy;simp[hx]
  .simp only[hy,if_false];cases atM es y<;>rfl
| some p =>
  have:=zI6 (v:=v) (k:=p.1) (u:=p.2) h y;rw[Nat.sub_zero] at this;exact this}
theorem zI7 {es:List (ME ι ν)}{clock:Nat}(h:MI es clock)(x:ι)(v:ν):MI (zFT es clock x v) (zFU es clock x):=by{
unfold zFT zFU;cases hf:fnd x es 0 with
| none=>exact h.snoc (zDJ.1 hf) v
| some p =>
  refine⟨by rw[zMk];exact h.keys,by rw[zGK];exact h.stamps,fun e he=>?_⟩;have:e.2.2∈(es.modify p.1 fun e=>(e.1,v,e.2.2)).map (·.2.2):=List.mem_map.2 ⟨e,he,rfl⟩;rw[zGK] at this;obtain⟨f,hf1,hf2⟩:=List.mem_map.1 this;rw[<- hf2];exact h.old f hf1}
def addM (es:List (ME ι ν))(clock:Nat)(x:ι)(z v:ν):List (ME ι ν):=zGY (zGD es clock x z) (zEc es clock x) v
theorem zRO (es:List (ME ι ν))(s:Nat)(v:ν):(zGY es s v).map (·.1)=es.map (·.1):=by unfold zGY;rw[List.map_map];refine List.map_congr_left fun e _=>?_;show(if e.2.2=s then(e.1,v,e.2.2) else e).1=e.1;split<;>rfl
theorem zIB (es:List (ME ι ν))(s:Nat)(v:ν):(zGY es s v).map (·.2.2)=es.map (·.2.2):=by unfold zGY;rw[List.map_map];refine List.map_congr_left fun e _=>?_;show(if e.2.2=s then(e.1,v,e.2.2) else e).2.2=e.2.2;split<;>rfl
theorem zKW {es:List (ME ι ν)}{clock:Nat}{x:ι}{z:ν}:∃ e∈zGD es clock x z,e.2.2=zEc es clock x/\e.1=x:=by{
unfold zGD zEc;cases h:fnd x es 0 with
| none=>exact⟨(x,z,clock),by simp,rfl,rfl⟩
| some p =>
  obtain⟨k,u⟩:=p;obtain⟨_,c,hk⟩:=zDI h;rw[Nat.sub_zero] at hk;refine⟨(x,u,c),by simp only[Option.isSome_some,if_true];exact List.mem_of_getElem? hk,?_,rfl⟩;simp[hk]}
theorem zI8 {es:List (ME ι ν)}{clock:Nat}(h:MI es clock)(x:ι)(z:ν):MI (zGD es clock x z) (zFU es clock x):=by{
unfold zGD zFU;cases hf:fnd x es 0 with
| none=>exact h.snoc (zDJ.1 hf) z
| some p=>exact h}
theorem zTr {es:List (ME ι ν)}{clock:Nat}(h:MI es clock)(x:ι)(z v:ν):MI (addM es clock x z v) (zFU es clock x):=by have h1:=zI8 h x z;unfold addM;refine⟨by rw[zRO];exact h1.keys,by rw[zIB];exact h1.stamps,fun e he=>?_⟩;have:e.2.2∈(zGY (zGD es clock x z) (zEc es clock x) v).map (·.2.2):=List.mem_map.2 ⟨e,he,rfl⟩;rw[zIB] at this;obtain⟨f,hf1,hf2⟩:=List.mem_map.1 this;rw[<- hf2];exact h1.old f hf1
theorem zP6 {x:ι}{v:ν}{s:Nat}:∀ {es:List (ME ι ν)},(es.map (·.1)).Nodup->(es.map (·.2.2)).Nodup->(∃ e∈es,e.2.2=s/\e.1=x)->∀ y,atM (zGY es s v) y=if y=x then some v else atM es y
 | [],_,_,⟨e,he,_⟩,_=>by cases he
 | f::r,hk,hs,⟨e,he,h1,h2⟩,y=>by
   simp only[List.map_cons,List.nodup_cons] at hk hs
   have hcons:zGY (f::r) s v=(if f.2.2=s then(f.1,v,f.2.2) else f)::zGY r s v:=rfl
   rw[hcons,zBK,zBK]
   rcases List.mem_cons.1 he with rfl|he
   .rw[if_pos h1]
    have hr:zGY r s v=r:=by
     unfold zGY
     conv=>rhs;rw[<- List.map_id r]
     refine List.map_congr_left fun g hg=>?_
     rw[if_neg (fun hh=>hs.1 (by rw[h1,<- hh];exact List.mem_map.2 ⟨g,hg,rfl⟩))];rfl
    rw[hr]
    subst h2
    split<;>rfl
   .have hne:f.2.2≠s:=fun hh=>hs.1 (by rw[hh,<- h1];exact List.mem_map.2 ⟨e,he,rfl⟩)
    have hnx:x≠f.1:=fun hh=>hk.1 (by rw[<- hh,<- h2];exact List.mem_map.2 ⟨e,he,rfl⟩)
    rw[if_neg hne,zP6 hk.2 hs.2 ⟨e,he,h1,h2⟩ y]
    by_cases hy:y=x
    .subst hy;simp[hnx]
    .simp[hy]
theorem zWW {es:List (ME ι ν)}{clock:Nat}(h:MI es clock)(x:ι)(z v:ν)(y:ι):atM (addM es clock x z v) y=if y=x then some v else atM es y:=by{
have h1:=zI8 h x z;unfold addM;rw[zP6 h1.keys h1.stamps zKW y];unfold zGD;cases hf:fnd x es 0 with
| some p=>rfl
| none =>
  have hx:=zGv.2 (zDJ.1 hf);simp only[Option.isSome_none,Bool.false_eq_true,if_false,zLb];by_cases hy:y=x
  .simp[hy]
  .simp only[hy,if_false];cases atM es y<;>rfl}
theorem zMl {x:ι}:∀ {es:List (ME ι ν)} {i k:Nat} {u:ν},(es.map (·.1)).Nodup->fnd x es i=some (k,u)->∀ y,atM (es.eraseIdx (k - i)) y=if y=x then none else atM es y
 | e::r,i,k,u,hn,h,y=>by
   simp only[List.map_cons,List.nodup_cons] at hn
   simp only[fnd] at h
   by_cases he:x=e.1
   .rw[if_pos he] at h
    cases h
    rw[Nat.sub_self,List.eraseIdx_zero,List.tail_cons,zBK]
    by_cases hy:y=x
    .rw[if_pos hy,zGv];rw[hy,he];exact hn.1
    .rw[if_neg hy,if_neg (fun hh=>hy (hh.trans he.symm))]
   .rw[if_neg he] at h
    obtain⟨h1,_⟩:=zDI h
    rw[show k - i=(k - (i+1))+1 by omega,List.eraseIdx_cons_succ,zBK,zBK,zMl hn.2 h y]
    by_cases hy:y=x
    .subst hy;simp[he]
    .simp[hy]
theorem zWX {es:List (ME ι ν)}{clock:Nat}(h:MI es clock)(x y:ι):atM (zLa es x) y=if y=x then none else atM es y:=by{
unfold zLa;cases hf:fnd x es 0 with
| none =>
  by_cases hy:y=x
  .subst hy;simp[zGv.2 (zDJ.1 hf)]
  .simp[hy]
| some p =>
  have:=zMl (k:=p.1) (u:=p.2) h.keys hf y;rw[Nat.sub_zero] at this;exact this}
theorem zTs {es:List (ME ι ν)}{clock:Nat}(h:MI es clock)(x:ι):MI (zLa es x) clock:=by{
unfold zLa;cases hf:fnd x es 0 with
| none=>exact h
| some p =>
  have hsub:(es.eraseIdx p.1).Sublist es:=List.eraseIdx_sublist _ _;exact⟨(hsub.map _).nodup h.keys,(hsub.map _).nodup h.stamps,fun e he=>h.old e (hsub.subset he)⟩}
end
theorem St.setO {w0 w:World}{G G':zA}{b:Nat}{o o':Obj}(H:St w0 G w)(hu:Up b o o' G G'):St w0 G' (setBlock w b o'):=by have hg:=H.mem _ hu.mem;have hlt:=zCF hg;refine H.up hu rfl rfl rfl (by simp[setBlock]) (by simp[setBlock,hlt]) (fun k hk=>?_);simp only[setBlock];rw[Array.getElem?_setIfInBounds_ne (Ne.symm hk)]
section
attribute [local semireducible] OX OW QX QW RA Yq
variable {P:Program}{n:Nw}{ops:Array Oper}{Q:zAM}{o:Oper}{rest:List Oper}{L:List (Nat × Value)}{b0:Env}{w:World}(S:Sig P){kt:TypeId}{ι ν:Type}[DecidableEq ι]
theorem m1 {w0:World}{G:zA}{t:TypeId}{d:Nat}(H:St w0 G w)(k:∀ b w',St w0 ((b,.map #[] 0)::G) w'->OW P n ops Q rest (ovl ((d,.map (some b))::L) b0) w')
  (ho:o.op=.makeMap t none:=by exact rfl) (hd:o.dst=some d:=by exact rfl) (hlt:Nat.blt d n.n=true:=by exact rfl):OX P n ops Q o rest (ovl L b0) w:=by intro a ha;unfold Oper.wp;rw[ha.eval];simp only[execOp,ho,Instr.makeMap,Option.map_none,Sem.run_bind,run_newObj,Result.andThen_ok,Sem.run_pure,Oper.upon_value,hd];exact k _ _ (H.alloc _) _ (ha.put hlt _)
theorem Yq.lookM {e:Env}{M:zA}{b clock:Nat}(K:KeyT P kt ι)(val:ν->Value)(es:List (ME ι ν))(x:ι)(z:ν){t et:TypeId}{X Y:Operand}{ti:TI}(hz:∀ w:World,(zeroValue et).run P w=.ok (val z) w)(hM:Mem w M)(hm:(b,mo K val es clock)∈M)
  (hy:ev e Y=K.v x) (ho:o.op=.lookup t X Y false) (hx:ev e X=.map (some b)) (ht:lk S.tab t=some ti) (htd:ti.d=.map kt et):Yq P o e w (val ((atM es x).getD z)):=by intro w' hw';have hu:=S.und ht;rw[htd] at hu;simp only[execOp,ho,hx,hy,Sem.run_bind,zOc K val hu ((hM.ext hw') _ hm) x z hz,Result.andThen_ok,Sem.run_pure]
theorem m3 {w0:World}{G G':zA}{b clock:Nat}(K:KeyT P kt ι)(val:ν->Value)(es:List (ME ι ν))(x:ι)(v:ν){t et:TypeId}{X Y V:Operand}{ti:TI}(H:St w0 G w)(hu:Up b (mo K val es clock) (mo K val (zFT es clock x v) (zFU es clock x)) G G')
  (hy:ev (ovl L b0) Y=K.v x) (hv:ev (ovl L b0) V=val v) (k:∀ w',St w0 G' w'->OW P n ops Q rest (ovl L b0) w')
  (ho:o.op=.mapUpdate t X Y V:=by exact rfl) (hd:o.dst=none:=by exact rfl) (hx:ev (ovl L b0) X=.map (some b):=by exact rfl) (ht:lk S.tab t=some ti:=by exact rfl) (htd:ti.d=.map kt et:=by exact rfl):OX P n ops Q o rest (ovl L b0) w:=by intro a ha;unfold Oper.wp;rw[ha.eval];have hun:=S.und ht;rw[htd] at hun;simp only[execOp,ho,hx,hy,hv,Sem.run_bind,zGJ K val hun (H.mem _ hu.mem) x v,Result.andThen_ok,Sem.run_pure,Oper.upon_skip,hd];exact k _ (H.setO hu) _ ha
theorem m4 {w0:World}{G G':zA}{b clock d:Nat}(K:KeyT P kt ι)(val:ν->Value)(es:List (ME ι ν))(x:ι)(z:ν){t et:TypeId}{X Y:Operand}{ti:TI}(hz:∀ w:World,(zeroValue et).run P w=.ok (val z) w)(H:St w0 G w)(hu:Up b (mo K val es clock) (mo K val (zGD es clock x z) (zFU es clock x)) G G')
  (hy:ev (ovl L b0) Y=K.v x) (k:∀ w',St w0 G' w'->OW P n ops Q rest (ovl ((d,.tuple #[val ((atM es x).getD z),.int .i64 (zEc es clock x:Nat)])::L) b0) w')
  (ho:o.op=.mapEntry t X Y:=by exact rfl) (hd:o.dst=some d:=by exact rfl) (hlt:Nat.blt d n.n=true:=by exact rfl) (hx:ev (ovl L b0) X=.map (some b):=by exact rfl) (ht:lk S.tab t=some ti:=by exact rfl) (htd:ti.d=.map kt et:=by exact rfl):OX P n ops Q o rest (ovl L b0) w:=by intro a ha;unfold Oper.wp;rw[ha.eval];have hun:=S.und ht;rw[htd] at hun;simp only[execOp,ho,hx,hy,Sem.run_bind,zLZ K val hun (H.mem _ hu.mem) x z hz,Result.andThen_ok,Sem.run_pure,Oper.upon_value,hd];exact k _ (H.setO hu) _ (ha.put hlt _)
theorem m5 {w0:World}{G G':zA}{b clock s:Nat}(K:KeyT P kt ι)(val:ν->Value)(es:List (ME ι ν))(v:ν){t:TypeId}{X Y V:Operand}(hn:(es.map (·.2.2)).Nodup)(hs:∃ e∈es,e.2.2=s)(H:St w0 G w)(hu:Up b (mo K val es clock) (mo K val (zGY es s v) clock) G G')
  (hv:ev (ovl L b0) V=val v) (k:∀ w',St w0 G' w'->OW P n ops Q rest (ovl L b0) w')
  (ho:o.op=.entryStore t X Y V:=by exact rfl) (hd:o.dst=none:=by exact rfl) (hx:ev (ovl L b0) X=.map (some b):=by exact rfl) (hy:ev (ovl L b0) Y=.int .i64 (s:Int):=by exact rfl):OX P n ops Q o rest (ovl L b0) w:=by intro a ha;unfold Oper.wp;rw[ha.eval];simp only[execOp,ho,hx,hy,hv,Sem.run_bind,zI5 (t:=t) K val (H.mem _ hu.mem) s v hn hs,Result.andThen_ok,Sem.run_pure,Oper.upon_skip,hd];exact k _ (H.setO hu) _ ha
theorem m6 {w0:World}{G G':zA}{b clock:Nat}(K:KeyT P kt ι)(val:ν->Value)(es:List (ME ι ν))(x:ι){t et kt2:TypeId}{X Y:Operand}{ti:TI}(H:St w0 G w)(hu:Up b (mo K val es clock) (mo K val (zLa es x) clock) G G')
  (hy:ev (ovl L b0) Y=K.v x) (k:∀ w',St w0 G' w'->OW P n ops Q rest (ovl L b0) w')
  (ho:o.op=.call { callee:=.builtin .delete,args:=#[X,Y],argTypes:=#[t,kt2] }:=by exact rfl) (hd:o.dst=none:=by exact rfl) (hx:ev (ovl L b0) X=.map (some b):=by exact rfl) (ht:lk S.tab t=some ti:=by exact rfl) (htd:ti.d=.map kt et:=by exact rfl):OX P n ops Q o rest (ovl L b0) w:=by intro a ha;unfold Oper.wp;rw[ha.eval];have hun:=S.und ht;rw[htd] at hun;simp only[execOp,ho,resolve,invoke,builtin,Sem.run_bind,Sem.run_pure,Result.andThen_ok,List.map_toArray,List.map_cons,List.map_nil,hx,hy,zOe (ty:=o.type) (kt2:=kt2) K val hun (H.mem _ hu.mem) x,Oper.upon_value,hd];exact k _ (H.setO hu) _ ha
theorem Yq.lenM {e:Env}{M:zA}{b clock:Nat}(K:KeyT P kt ι)(val:ν->Value)(es:List (ME ι ν)){t et:TypeId}{X:Operand}{ti:TI}(hM:Mem w M)(hm:(b,mo K val es clock)∈M)
  (ho:o.op=.call { callee:=.builtin .len,args:=#[X],argTypes:=#[t] }) (hx:ev e X=.map (some b)) (ht:lk S.tab t=some ti) (htd:ti.d=.map kt et):Yq P o e w (.int .i64 (es.length:Int)):=by{
intro w' hw';have hu:=S.run_und ht w';rw[htd] at hu;have hb:=(hM.ext hw') _ hm;have hg:(getObj b).run P w'=.ok (mo K val es clock) w':=by unfold mo at hb ⊢;simp only at hb;simp[getObj,Sem.run,hb]
have hr:(Builtin.len_ #[t] o.type #[.map (some b)]).run P w'=.ok (.int .i64 (es.length:Int)) w':=by unfold Builtin.len_;have e1:(#[t]:Array TypeId)[0]?=some t:=rfl;have e2:(#[Value.map (some b)]:Array Value)[0]?=some (.map (some b)):=rfl;simp only[e1,e2,Sem.run_bind,hu,Result.andThen_ok,hg];simp[mo,zAw,goInt]
simp only[execOp,ho,resolve,invoke,builtin,Sem.run_bind,Sem.run_pure,Result.andThen_ok,List.map_toArray,List.map_cons,List.map_nil,hx,hr]}
theorem m8 {w0:World}{G:zA}{b clock d:Nat}(K:KeyT P kt ι)(val:ν->Value)(es:List (ME ι ν)){t et:TypeId}{X:Operand}{ti:TI}(H:St w0 G w)(hm:(b,mo K val es clock)∈G)
  (k:∀ r w',St w0 ((r,.mapIter (some b) clock #[] clock)::G) w'->OW P n ops Q rest (ovl ((d,(pt r))::L) b0) w')
  (ho:o.op=.range t X:=by exact rfl) (hd:o.dst=some d:=by exact rfl) (hlt:Nat.blt d n.n=true:=by exact rfl) (hx:ev (ovl L b0) X=.map (some b):=by exact rfl) (ht:lk S.tab t=some ti:=by exact rfl) (htd:ti.d=.map kt et:=by exact rfl):OX P n ops Q o rest (ovl L b0) w:=by{
intro a ha;unfold Oper.wp;rw[ha.eval];have hun:=S.run_und ht w;rw[htd] at hun;have hb:=H.mem _ hm;have hg:(getObj b).run P w=.ok (mo K val es clock) w:=by unfold mo at hb ⊢;simp only at hb;simp[getObj,Sem.run,hb]
have hr:(Instr.range t (.map (some b))).run P w=.ok (.pointer (some ⟨w.heap.size,0,none⟩)) (w.alloc (.mapIter (some b) clock #[] clock)):=by unfold Instr.range;simp only[Sem.run_bind,hun,Result.andThen_ok,hg];simp[mo]
simp only[execOp,ho,hx,Sem.run_bind,hr,Result.andThen_ok,Sem.run_pure,Oper.upon_value,hd];exact k _ _ (H.alloc _) _ (ha.put hlt _)}
def Todo (es:List (ME ι ν))(seen:Array Nat)(todo:List (ME ι ν)):Prop:=todo.Perm (es.filter fun e=>!seen.contains e.2.2)
omit [DecidableEq ι] in
theorem Todo.start (es:List (ME ι ν)):Todo es #[] es:=List.Perm.of_eq (List.filter_eq_self.2 fun e _=>by simp).symm
theorem zRP (K:KeyT P kt ι)(val:ν->Value)(es:List (ME ι ν))(seen:Array Nat):(leftOf (zAw K val es).toArray seen).toList=zAw K val (es.filter fun e=>!seen.contains e.2.2):=by unfold leftOf zAw;simp[List.filter_map];rfl
omit [DecidableEq ι] in
theorem Todo.step {es todo:List (ME ι ν)}{seen:Array Nat}{e:ME ι ν}(hn:(es.map (·.2.2)).Nodup)(h:Todo es seen (e::todo)):Todo es (seen.push e.2.2) todo:=by
 unfold Todo at *;have h2:=h.filter (fun f=>!(f.2.2==e.2.2));rw[List.filter_filter] at h2;have hnd:((e::todo).map (·.2.2)).Nodup:=(h.map (·.2.2)).nodup_iff.2 ((List.filter_sublist.map _).nodup hn);simp only[List.map_cons,List.nodup_cons] at hnd;have e1:(e::todo).filter (fun f=>!(f.2.2==e.2.2))=todo:=by rw[List.filter_cons_of_neg (by simp),List.filter_eq_self];intro f hf;have:f.2.2≠e.2.2:=fun hh=>hnd.1 (hh ▸ List.mem_map.2 ⟨f,hf,rfl⟩);simpa using this
 rw[e1] at h2;refine h2.trans (List.Perm.of_eq (List.filter_congr fun f _=>?_));by_cases hf:f.2.2=e.2.2<;>simp[hf]
theorem m9 {w0:World}{G:zA}{b r clock c0 d:Nat}{seen:Array Nat}{todo:List (ME ι ν)}(K:KeyT P kt ι)(val:ν->Value)(es:List (ME ι ν)){X:Operand}(H:St w0 G w)(hm:(b,mo K val es clock)∈G)(hr:(r,Obj.mapIter (some b) clock seen c0)∈G)(hI:MI es clock)(hc:clock<=c0)(hT:Todo es seen todo)
  (k0:todo=[]->OW P n ops Q rest (ovl ((d,.tuple #[.bool false])::L) b0) w)
  (k:∀ e todo' w',todo.Perm (e::todo')->e∈es->Todo es (seen.push e.2.2) todo'->(∀ G',Up r (.mapIter (some b) clock seen c0) (.mapIter (some b) clock (seen.push e.2.2) clock) G G'->St w0 G' w')->OW P n ops Q rest (ovl ((d,.tuple #[.bool true,K.v e.1,val e.2.1])::L) b0) w')
  (ho:o.op=.next X false:=by exact rfl) (hd:o.dst=some d:=by exact rfl) (hlt:Nat.blt d n.n=true:=by exact rfl) (hx:ev (ovl L b0) X=(pt r):=by exact rfl):OX P n ops Q o rest (ovl L b0) w:=by{
intro a ha;unfold Oper.wp;rw[ha.eval];have hL:=zRP K val es seen
rcases run_next_at (P:=P) w o.type r b clock c0 seen (zAw K val es).toArray clock (H.mem _ hr) (H.mem _ hm) (fun x hx=>by
  simp only[zAw,yyk] at hx;obtain⟨e,he,rfl⟩:=hx
  exact hI.old e he) hc with ⟨h0,hrun⟩|⟨me,hme,w1,hw1,hrun⟩
.have:todo=[]:=by
  have h1:((leftOf (zAw K val es).toArray seen).toList).length=0:=by{simpa using h0};rw[hL,zAw,yyp] at h1
  have:=hT.length_eq;exact List.eq_nil_of_length_eq_zero (by omega)
 simp only[execOp,ho,hx,Sem.run_bind,hrun,Result.andThen_ok,Sem.run_pure,Oper.upon_value,hd];exact k0 this _ (ha.put hlt _)
.rw[hL] at hme;simp only[zAw,yyk] at hme;obtain⟨e,he,rfl⟩:=hme;have het:e∈todo:=hT.mem_iff.2 he;obtain⟨s,t,hst⟩:=List.append_of_mem het;have hp:todo.Perm (e::(s++t)):=by rw[hst];exact List.perm_middle
 have hT2:Todo es seen (e::(s++t)):=hp.symm.trans hT;simp only[execOp,ho,hx,Sem.run_bind,hrun,Result.andThen_ok,Sem.run_pure,Oper.upon_value,hd];refine k e (s++t) _ hp ((List.mem_filter.1 he).1) (hT2.step hI.stamps) (fun G' hu=>?_) _ (ha.put hlt _);rcases hw1 with rfl|rfl
 .exact H.setO hu
 .exact H.drew.setO hu}
end
end Go.Sk
set_option linter.unusedSectionVars false
namespace Go.Sk
open Go Go.RowKit
attribute [local semireducible] CW OW OX QW QX
def Yld (P:Program)(l:Nat)(args:List Value)(w:World)(R:Ending->World->Prop):Prop:=YieldAt Fence.wide 0 P l args.toArray w R
section
variable {P:Program}{n:Nw}{ops:Array Oper}{Q:zAM}{o:Oper}{rest:List Oper}{e:Env}{L:List (Nat × Value)}{b:Env}{w:World}
def OY (P:Program)(n:Nw)(ops:Array Oper)(Q:zAM)(l:List Oper)(e:Env)(w:World):Prop:=∀ a,Fits n a e->wpListIn (fen n.ro) 0 P ops (zAc n Q) l a w
theorem CW.regionY {id:Nat}{l:List Oper}(h:OY P n l.toArray Q l e w):CW P n (.region id l.toArray false) Q e w:=fun a ha=>wpIn_region_lit (h a ha)
theorem OY.nil (h:Q .normal e w):OY P n ops Q [] e w:=fun _ ha=>⟨nofun,e,ha,h⟩
theorem zIZ {ro:Option Nat}{K:Act->World->Prop}(hno:¬ LetsOut (zAc n Q)):∀ (pre rest:List Oper) (a:Act) (w:World),zCq pre=true->wpList P ops (Exit.then (fun a' w'=>wpListIn (fen ro) 0 P ops (zAc n Q) rest a' w') (zAc n Q)) pre a w->wpListIn (fen ro) 0 P ops (zAc n Q) (pre++rest) a w
 | [],rest,a,w,_,h=>h
 | o::pre,rest,a,w,hnd,h=>by
   unfold wpList at h
   have hnd':zCq pre=true:=by unfold zCq at hnd ⊢;rw[List.all_cons,yy3] at hnd;exact hnd.2
   show wpListIn _ _ _ _ _ (o::(pre++rest)) a w
   unfold wpListIn
   split
   .rename_i hw
    rw[if_pos hw] at h
    refine⟨fun _ _=>trivial,?_⟩
    rw[Oper.semAt_eq _ _ _ (zIr hnd (List.Mem.head _))]
    have h1:o.wp P a w (wpList P ops (Exit.then (fun a' w'=>wpListIn (fen ro) 0 P ops (zAc n Q) rest a' w') (zAc n Q)) pre) (Exit.then (fun a' w'=>wpListIn (fen ro) 0 P ops (zAc n Q) rest a' w') (zAc n Q)) :=
     h.resolve_right fun hh=>hno (by obtain⟨a,w,hq⟩:=hh.2;exact⟨a,w,hq⟩)
    have h2:=zK5 (ro:=ro) (K':=wpListIn (fen ro) 0 P ops (zAc n Q) (pre++rest)) (fun a w hk=>zIZ (K:=K) hno pre rest a w hnd' hk) _ h1
    generalize (execOp a.eval o).run P w=r at h2 ⊢
    unfold Oper.uponIn at h2 ⊢
    split at h2
    .exact h2
    .exact h2
    .exact h2
    .refine⟨h2.1,?_⟩
     refine zBl.2 (Calls.mono (zBl.1 h2.2) fun e w' q=>?_)
     cases e with
     | returned v=>exact q
     | panicked c=>exact q
     | outgrown=>obtain⟨a,w,hq⟩:=q;exact⟨a,w,hq⟩
    .exact h2
    .refine⟨h2.1,RoundIn.mono h2.2 fun e w' q=>?_⟩
     cases e with
     | returned v=>exact q
     | panicked c=>exact q
     | outgrown=>obtain⟨a,w,hq⟩:=q;exact⟨a,w,hq⟩
    .exact h2
    .exact h2
   .rename_i hw
    rw[if_neg hw] at h
    exact⟨fun _ _=>trivial,zIZ (K:=K) hno pre rest _ w hnd' h⟩
theorem OY.pre {l:List Oper}(k:Nat)(h:OW P n ops (thn (fun e' w'=>OY P n ops Q (l.drop k) e' w') Q) (l.take k) e w)(hnd:zCq (l.take k)=true:=by exact rfl):OY P n ops Q l e w:=by{
intro a ha;have h1:=h a ha;have:=zIZ (P:=P) (n:=n) (ops:=ops) (Q:=Q) (ro:=n.ro) (K:=fun _ _=>True) zDg (l.take k) (l.drop k) a w hnd ?_
.rw[List.take_append_drop] at this;exact this
.have mono:∀ (p:List Oper) (a:Act) (w:World),wpList P ops (zAc n (thn (fun e' w'=>OY P n ops Q (l.drop k) e' w') Q)) p a w->wpList P ops (Exit.then (fun a' w'=>wpListIn (fen n.ro) 0 P ops (zAc n Q) (l.drop k) a' w') (zAc n Q)) p a w:=by
  intro p;have hQ:∀ x a w,zAc n (thn (fun e' w'=>OY P n ops Q (l.drop k) e' w') Q) x a w->Exit.then (fun a' w'=>wpListIn (fen n.ro) 0 P ops (zAc n Q) (l.drop k) a' w') (zAc n Q) x a w:=by
   intro x a w hq;obtain⟨h0,e',hf,hq⟩:=hq;cases x with
   | normal=>exact hq a hf
   | outgrown=>exact absurd rfl h0
   | _=>exact⟨h0,e',hf,hq⟩
  induction p with
  | nil=>intro a w h;exact hQ _ _ _ h
  | cons o p ih =>
    intro a w h;unfold wpList at h ⊢;split
    .rename_i hw;rw[if_pos hw] at h;have h2:=h.resolve_right fun hh=>zDg hh.2;refine .inl ?_;unfold Oper.wp at h2 ⊢;generalize (execOp a.eval o).run P w=r at h2 ⊢;unfold Oper.upon at h2 ⊢;split at h2
     .exact ih _ _ h2
     .exact ih _ _ h2
     .exact ih _ _ h2
     .refine Calls.mono h2 fun e w' q=>?_;cases e with
      | returned v=>exact ih _ _ q
      | panicked c=>exact hQ _ _ _ q
      | outgrown=>exact absurd q zDg
     .exact Rows.mono h2 fun v w' q=>ih _ _ q
     .exact hQ _ _ _ h2
     .exact h2.elim
    .rename_i hw;rw[if_neg hw] at h;exact ih _ _ h
 exact mono _ _ _ h1}
theorem OY.preN (k m:Nat){l:List Oper}(h:OW P n ops (thn (fun e' w'=>OY P n ops Q (l.drop k) e' w') Q) (l.take k) e w)(_hm:Nat.beq l.length m=true:=by exact rfl)(hnd:zCq (l.take k)=true:=by exact rfl):OY P n ops Q l e w:=OY.pre k h hnd
theorem OY.all {l:List Oper}(h:OW P n ops Q l e w)(hnd:zCq l=true:=by exact rfl):OY P n ops Q l e w:=by{
intro a ha;have:=zIZ (P:=P) (n:=n) (ops:=ops) (Q:=Q) (ro:=n.ro) (K:=fun _ _=>True) zDg l [] a w hnd ?_
.rw[List.append_nil] at this;exact this
.have he:Exit.then (fun a' w'=>wpListIn (fen n.ro) 0 P ops (zAc n Q) [] a' w') (zAc n Q)=zAc n Q:=by funext x a w;cases x<;>rfl
 rw[he];exact h a ha}
theorem OY.yield {d l:Nat}{x:Operand}{args:Array Operand}{ts:Array TypeId}{as0:List Value}{R:Value->World->Prop}(hc:Yld P l as0 w (fun e w'=>∃ v,e=.returned v/\R v w'))(k:∀ v w',R v w'->OY P n ops Q rest (ovl ((d,v)::L) b) w')
  (hd:o.dst=some d:=by exact rfl) (hlt:Nat.blt d n.n=true:=by exact rfl) (ho:o.op=.call { callee:=.value x,args:=args,argTypes:=ts }:=by exact rfl) (hx:ev (ovl L b) x=.func (.yield l) #[] #[]:=by exact rfl) (hl:evS (ovl L b) args.toList=some as0:=by exact rfl)
  (hw:∀ a,Fits n a (ovl L b)->Region.wanted o (yielded ops a.tmps)=true):OY P n ops Q (o::rest) (ovl L b) w:=by{
intro a ha;unfold wpListIn;rw[if_pos (hw a ha)];refine⟨fun _ _=>trivial,?_⟩;rw[Oper.semAt_eq _ _ _ (fun c hc=>by rw[ho] at hc;cases hc)];have hl':evl (ovl L b) args=as0:=zER hl;have he:args.map (ev (ovl L b))=as0.toArray:=by rw[<- hl'];simp only[evl,<- zDh]
obtain⟨fn,tmps,assign,body,hy,hR⟩:=hc;rw[ha.eval];have hr:(execOp (ev (ovl L b)) o).run P w=.ok (.round l fn tmps assign body) w:=by simp only[execOp,ho,resolve,hx,Deferred.ofValue,invoke,Sem.run_bind,Sem.run_pure,Result.andThen_ok,he];simpa using hy
rw[hr,Oper.uponIn_round];refine⟨fun h=>(by cases h),?_⟩;have hR2:RoundIn (fen n.ro) (0 - 1) P l fn tmps assign body w (fun e w'=>∃ v,e=.returned v/\R v w'):=hR;refine RoundIn.mono hR2 fun e w' hq=>?_;obtain⟨v,rfl,hv⟩:=hq;rw[hd];exact k v w' hv _ (ha.put hlt v)}
theorem OY.go (hg:o.guard=none):∀ a,Fits n a e->Region.wanted o (yielded ops a.tmps)=true:=fun a _=>by simp[Region.wanted,hg]
theorem OY.gY {j d:Nat}{want:Bool}(hg:o.guard=some (j,want))(hj:(ops[j]?).bind (·.dst)=some d)(hv:gd (e d) want=some true):∀ a,Fits n a e->Region.wanted o (yielded ops a.tmps)=true:=fun a ha=>zCB ha hg hj hv
end
section
variable {P:Program}{n:Nw}{e:Env}{w:World}
def CM (P:Program)(n:Nw)(c:Code)(Q:List Deferred->zAM)(e:Env)(w:World):Prop :=
 ∀ a,Fits n a e->c.wpIn (fen n.ro) 0 P (fun x a w=>x≠.outgrown/\∃ ds e,Fits ⟨n.n,ds,n.ro⟩ a e/\Q ds x e w) a w
theorem CM.of {c:Code}{Q:List Deferred->zAM}(h:CW P n c (Q n.ds) e w):CM P n c Q e w :=
 fun a ha=>wpIn_mono (h a ha) fun _ _ _ ⟨hx,e',hf,q⟩=>⟨hx,n.ds,e',hf,q⟩
theorem CM.seq {x y:Code}{Q:List Deferred->zAM}(h:CW P n x (thn (CM P n y Q) (Q n.ds)) e w):CM P n (.seq x y) Q e w:=by{
intro a ha;refine wpIn_seq (wpIn_mono (h a ha) (fun x a' w' q=>?_));obtain⟨hx,e',hf,q⟩:=q;cases x with
| normal=>exact q a' hf
| _=>exact⟨hx,n.ds,e',hf,q⟩}
theorem CM.seqM {x y:Code}{Q:List Deferred->zAM}(h:CM P n x (fun ds=>thn (CM P ⟨n.n,ds,n.ro⟩ y Q) (Q ds)) e w):CM P n (.seq x y) Q e w:=by{
intro a ha;refine wpIn_seq (wpIn_mono (h a ha) (fun x a' w' q=>?_));obtain⟨hx,ds,e',hf,q⟩:=q;cases x with
| normal=>exact q a' hf
| _=>exact⟨hx,ds,e',hf,q⟩}
theorem CM.block {id:Nat}{c:Code}{Q:List Deferred->zAM}(h:CM P n c (fun ds=>blk id (Q ds)) e w):CM P n (.block id c) Q e w:=by{
intro a ha;refine wpIn_block (wpIn_mono (h a ha) (fun x a' w' q=>?_));obtain⟨hx,ds,e',hf,q⟩:=q;cases x with
| exit i =>
  simp only[Exit.inBlock];by_cases hi:i=id
  .subst hi;rw[if_pos rfl];exact⟨nofun,ds,e',hf,by simpa [blk] using q⟩
  .rw[if_neg hi];have:Nat.beq i id=false:=by
    cases hb:Nat.beq i id with
    | false=>rfl
    | true=>exact absurd (Nat.eq_of_beq_eq_true hb) hi
   exact⟨nofun,ds,e',hf,by simpa [blk,this] using q⟩
| _=>exact⟨hx,ds,e',hf,q⟩}
def zMm (P:Program)(rs:List ResultVar)(R:Ending->World->Prop)(e:Env):List Deferred->World->Prop
 | [],w=>∃ vs,rds P e w rs vs/\R (.returned (zIP vs)) w
 | d::ds,w=>∃ r w',d.target=.collected r/\(Instr.takeDeferred r).run P w=.ok [] w'/\zMm P rs R e ds w'
def postM (P:Program)(rs:List ResultVar)(R:Ending->World->Prop)(ds:List Deferred):zAM
 | .normal,e,w|.ret,e,w=>zMm P rs R e ds w
 | _,_,_=>False
theorem zOf {P:Program}{fn:Func}{rs:List ResultVar}(hr:fn.results=rs.toArray){R:Ending->World->Prop}{tmps:Array Value}{e:Env}(he:∀ i,tmps.getD i undef=e i) :
  ∀ (ds:List Deferred) (w:World),zMm P rs R e ds w->LeavesInM Fence.wide 0 P fn tmps R ds .returning w
 | [],w,⟨vs,hv,h⟩=>⟨_,zFI P fn rs hr tmps e he w vs hv,h⟩
 | d::ds,w,⟨r,w',h1,h2,h3⟩=>⟨nofun,.inl ⟨r,w',h1,h2,zOf hr he ds w' h3⟩⟩
theorem zTt {P:Program}{f:FuncId}{fn:Func}{c:Code}{n:Nat}{l:List Value}{w:World}{R:Ending->World->Prop}(rs:List ResultVar)
  (hf:P.funcs[f]?=some fn) (hb:fn.body=some c) (hn:fn.ntmps=n) (hr:fn.results=rs.toArray) (hl:Nat.ble l.length n=true)
  (h:CM P ⟨n,[],none⟩ c (postM P rs R) (ovl [] (ini l)) w):Calls P f l.toArray w R:=by{
have hl':l.length<=n:=by simpa using hl
have hfit:Fits ⟨n,[],none⟩ { tmps:=l.toArray++Array.replicate (fn.ntmps - l.toArray.size) undef,defers:=[] } (ini l):=by
 refine⟨by simp[hn];omega,rfl,fun i=>?_⟩;simp only[ini,Array.getD_eq_getD_getElem?,yy2];by_cases hi:i<l.length
 .rw[Array.getElem?_append_left (by simpa using hi)];simp
 .rw[Array.getElem?_append_right (by simpa using hi)];rw[List.getElem?_eq_none (by omega)];simp only[Array.getElem?_replicate];split<;>rfl
refine callsIn_wide.1 (callsIn_of_wp_marks (F:=Fence.wide) (n:=0) hf hb trivial (wpIn_mono (h _ hfit) (fun x a w' q=>?_)) rfl);obtain⟨hx,ds,e,hfe,q⟩:=q;have hds:a.defers=ds:=hfe.defs;cases x with
| normal=>show LeavesInM _ _ _ _ _ _ a.defers _ _;rw[hds];exact zOf hr hfe.get ds w' q
| ret=>show LeavesInM _ _ _ _ _ _ a.defers _ _;rw[hds];exact zOf hr hfe.get ds w' q
| panic ch=>exact q.elim
| outgrown=>exact q.elim
| exit i=>exact q.elim
| goto i=>exact q.elim}
def zLc (D:Nat):Deferred:={ target:=.collected D,args:=#[] }
theorem St.putObj {w0 w:World}{G G':zA}{b:Nat}{o o':Obj}(H:St w0 G w)(hu:Up b o o' G G'):St w0 G' (w.putObj b o') :=
 H.up hu rfl rfl rfl (by simp) (World.putObj_heap_same (zCF (H.mem _ hu.mem))) (fun k hk=>World.putObj_heap_other hk)
theorem zLd {w0:World}{rs:List ResultVar}{R:Ending->World->Prop}{G G':zA}{D:Nat}(H:St w0 G w)(hu:Up D (.deferred (some [])) (.deferred none) G G')
  (k:∀ w',St w0 G' w'->∃ vs,rds P e w' rs vs/\R (.returned (zIP vs)) w'):zMm P rs R e [zLc D] w :=
 ⟨D,_,rfl,run_takeDeferred (H.mem _ hu.mem),k _ (H.putObj hu)⟩
def Yok (P:Program)(w0:World)(enc:Nat->List Value)(l k:Nat)(K:Nat->zA->Prop):Prop :=
 ∀ (M G':zA) (w:World),K k M->St w0 (M++G') w->Yld P l (enc k) w (fun e w'=>∃ v,e=.returned v/\(v=.bool true/\∃ M',K (k+1) M'/\St w0 (M'++G') w'))
def Iter (P:Program)(w0:World)(gf:FuncId)(lb:List Value)(N:Nat)(enc:Nat->List Value)(G:zA):Prop :=
 ∀ (l:Nat) (K:Nat->zA->Prop),(∀ k,k<N->Yok P w0 enc l k K)->∀ (M G':zA) (w:World),G⊆G'->K 0 M->St w0 (M++G') w ->
   Calls P gf (Value.func (.yield l) #[] #[]::lb).toArray w (zZ (fun N' _=>∃ M2,N'=M2++G'/\K N M2) w0)
theorem CM.rangeFunc {w0:World}{Q:List Deferred->zAM}{g:Operand}{p1 p2:Tmp}{assign body:Code}{L:List (Nat × Value)}{b:Env}{gf:FuncId}{lb:List Value}{N:Nat}(u1 u2:Nat->Value){M0 G:zA}
  (J:Nat->zA->Prop) (hro:n.ro=none) (hg:ev (ovl L b) g=.func (.func gf) #[] lb.toArray) (hent:Ent P gf) (h1:Nat.blt p1 n.n=true) (h2:Nat.blt p2 n.n=true)
  (hit:Iter P w0 gf lb N (fun k=>[u1 k,u2 k]) G) (H:St w0 (M0++G) w) (h0:J 0 M0)
  (hround:∀ l k,k<N->∀ (M G':zA) (w:World),J k M->St w0 (M++G') w->CW P ⟨n.n,[],some l⟩ assign
   (thn (fun e1 w1=>∃ M2,St w0 (M2++G') w1/\∀ (G2:zA) (w2:World),St w0 (M2++G2) w2->CW P ⟨n.n,[],some l⟩ body (thn (fun _ w3=>∃ M3,J (k+1) M3/\St w0 (M3++G2) w3) (fun _ _ _=>False)) e1 w2) (fun _ _ _=>False))
   (ovl ((p2,u2 k)::(p1,u1 k)::L) b) w)
  (hend:∀ (D:Nat) (lo:Nat × Obj) (M:zA) (w':World),J N M->St w0 (lo::(D,.deferred (some []))::(M++G)) w'->Q (zLc D::n.ds) .normal (ovl L b) w') :
  CM P n (.rangeFunc g #[p1,p2] assign body) Q (ovl L b) w:=by{
intro a ha;refine wpIn_rangeFunc ?_;intro fn hfn;rw[show(fen n.ro).round=none from hro];obtain⟨rec,hrec⟩:∃ rec:LoopState->Loop,rec=fun st=>{ state:=st,pending:=none,fn,tmps:=a.tmps,params:=#[p1,p2],assign,body,defers:=w.heap.size }:=⟨_,rfl⟩;have HD:=H.alloc (.deferred (some []));have HL:=HD.alloc (.loop (rec .ready));rw[World.size_alloc] at HL
refine⟨w.heap.size+1,[zLc w.heap.size],(w.alloc (.deferred (some []))).alloc (.loop (rec .ready)),{ target:=.fn (.func gf) lb.toArray,args:=#[.func (.yield (w.heap.size+1)) #[] #[]] },(w.alloc (.deferred (some []))).alloc (.loop (rec .ready)),gf,
 (Value.func (.yield (w.heap.size+1)) #[] #[]::lb).toArray,(w.alloc (.deferred (some []))).alloc (.loop (rec .ready)),?_,?_,fun _ _=>trivial,?_,fun h=>(by cases h),?_⟩
.rw[hrec];exact run_enterLoop_outer _ _ _ _ _
.have hg':a.eval g=.func (.func gf) #[] lb.toArray:=by rw[ha.eval];exact hg
 simp only[resolve,hg'];simp[go_sem]
.have:=hent (#[.func (.yield (w.heap.size+1)) #[] #[]]++lb.toArray);simp[invoke,go_sem];simpa using this _
obtain⟨l,hl⟩:∃ l,w.heap.size+1=l:=⟨_,rfl⟩;obtain⟨D,hD⟩:∃ D,w.heap.size=D:=⟨_,rfl⟩;rw[hl,hD] at HL;rw[hD] at hrec;rw[hl,hD];have hrounds:∀ k,k<N->Yok P w0 (fun k=>[u1 k,u2 k]) l k (fun k M=>∃ M1,M=(l,.loop (rec .ready))::(D,.deferred (some []))::M1/\J k M1):=by
 rintro k hk M G' w1 ⟨M1,rfl,hJ⟩ H1;have hget:w1.heap[l]?=some (.loop (rec .ready)):=H1.mem _ (zz2 _);have hy:=run_yield (P:=P) (args:=#[u1 k,u2 k]) hget (by rw[hrec];rfl);refine⟨_,_,_,_,hy,roundIn_of_wpIn (F:=Fence.wide) trivial ?_⟩;have hfit:Fits ⟨n.n,[],some l⟩ { tmps:=(((rec .ready).params.zip #[u1 k,u2 k]).foldl (fun tmps (t,a)=>tmps.setIfInBounds t a) (rec .ready).tmps),defers:=[] } (ovl ((p2,u2 k)::(p1,u1 k)::L) b):=by
  have hf0:Fits ⟨n.n,[],some l⟩ { tmps:=a.tmps,defers:=[] } (ovl L b):=⟨ha.size,rfl,ha.get⟩;have:=(hf0.put (d:=p1) h1 (u1 k)).put (d:=p2) h2 (u2 k);have hz:((rec .ready).params.zip #[u1 k,u2 k]).foldl (fun tmps (t,a)=>tmps.setIfInBounds t a) (rec .ready).tmps=(a.tmps.setIfInBounds p1 (u1 k)).setIfInBounds p2 (u2 k):=by rw[hrec];simp
  rw[hz];exact this
 have HA:St w0 (M1++((l,.loop (rec .ready))::(D,.deferred (some []))::G')) w1:=H1.perm (by
  have:=yyf [(l,Obj.loop (rec .ready)),(D,Obj.deferred (some []))] M1 G'
  simpa using this)
 have hA:=hround l k hk M1 _ w1 hJ HA _ hfit;have hra:(rec .ready).assign=assign:=by rw[hrec]
 have hrb:(rec .ready).body=body:=by rw[hrec]
 rw[hra,hrb];refine wpIn_mono hA fun x a1 w2 q=>?_;obtain⟨_,e1,hf1,q⟩:=q;cases x with
 | normal =>
   obtain⟨M2,H2,hbody⟩:=q;have hget2:w2.heap[l]?=some (.loop (rec .ready)):=H2.mem _ (zz3 _ (zz2 _));refine⟨_,run_beginRound hget2 (by rw[hrec]),?_⟩;have H3:St w0 (M2++((l,.loop { rec .ready with state:=.busy })::(D,.deferred (some []))::G')) (w2.putObj l (.loop { rec .ready with state:=.busy })):=by
    refine H2.putObj (o:=.loop (rec .ready)) ?_;have:∀ M:zA,Up l (.loop (rec .ready)) (.loop { rec .ready with state:=.busy }) (M++((l,.loop (rec .ready))::(D,.deferred (some []))::G')) (M++((l,.loop { rec .ready with state:=.busy })::(D,.deferred (some []))::G')):=by
     intro M;induction M with
     | nil=>exact Up.here
     | cons x t ih=>exact Up.there ih
    exact this M2
   refine wpIn_mono (hbody _ _ H3 a1 hf1) fun x a2 w4 q=>?_;obtain⟨_,e2,_,q⟩:=q;cases x with
   | normal =>
     obtain⟨M3,hJ3,H4⟩:=q;have hget4:w4.heap[l]?=some (.loop { rec .ready with state:=.busy }):=H4.mem _ (zz3 _ (zz2 _));refine⟨_,_,run_endRound none hget4,_,rfl,rfl,(l,.loop (rec .ready))::(D,.deferred (some []))::M3,⟨M3,rfl,hJ3⟩,?_⟩;have e:({ ({ rec .ready with state:=.busy }:Loop) with state:=if (none:Option Code).isNone=true then LoopState.ready else LoopState.done,pending:=none }:Loop)=rec .ready:=by rw[hrec];rfl
     rw[e];have H5:=H4.perm (yyf M3 [(l,Obj.loop { rec .ready with state:=.busy }),(D,Obj.deferred (some []))] G');exact St.putObj H5 Up.here
   | _=>exact q.elim
 | _=>exact q.elim
have HL':St w0 (((l,.loop (rec .ready))::(D,.deferred (some []))::M0)++G) ((w.alloc (.deferred (some []))).alloc (.loop (rec .ready))):=HL;have hcall:=hit l (fun k M=>∃ M1,M=(l,.loop (rec .ready))::(D,.deferred (some []))::M1/\J k M1) hrounds _ G _ (fun _ h=>h) ⟨M0,rfl,h0⟩ HL';refine zBl.2 (Calls.mono hcall fun e' w3 q=>?_);obtain⟨v,N',rfl,⟨M2,rfl,M1,rfl,hJ⟩,H3⟩:=q;have hget:w3.heap[l]?=some (.loop (rec .ready)):=H3.mem _ (zz2 _);have hel:(Instr.endLoop l).run P w3=.ok none (w3.putObj l (.loop { rec .ready with state:=.exhausted })):=by have:=run_endLoop (P:=P) hget (by rw[hrec];simp);exact this.trans (congrArg (fun z=>Result.ok z _) (show(rec .ready).pending=none by rw[hrec]))
refine⟨none,_,hel,?_⟩;have H4:St w0 ((l,.loop { rec .ready with state:=.exhausted })::(D,.deferred (some []))::(M1++G)) (w3.putObj l (.loop { rec .ready with state:=.exhausted })):=St.putObj H3 Up.here;exact⟨nofun,zLc D::n.ds,ovl L b,⟨ha.size,by show _++a.defers=_;rw[ha.defs];rfl,ha.get⟩,hend D _ M1 _ hJ H4⟩}
end
end Go.Sk
set_option linter.unusedSectionVars false
namespace Go.Sk
open Go Go.RowKit
def zOg (s:ByteArray):List Nat:=s.data.toList.map UInt8.toNat
section
variable {P:Program}{n:Nw}{ops:Array Oper}{Q:zAM}{o:Oper}{rest:List Oper}{L:List (Nat × Value)}{b0:Env}{w:World}(S:Sig P)
attribute [local semireducible] OX OW
end
theorem zx {l:List Value}(h:l.all Value.oneCell'=true):∀ u∈l,u.oneCell'=true:=List.all_eq_true.1 h
theorem perm2 {x y:Nat × Obj}(M G:zA):(x::y::(M++G)).Perm (M++(x::y::G)):=by have:=yyf [x,y] M G;simpa using this
theorem zP7 {x:Nat × Obj}(M G:zA):(x::(M++G)).Perm (M++(x::G)):=by have:=yyf [x] M G;simpa using this
end Go.Sk
namespace Go.Proofs.YtejhijhnlogikaaGreatDoor
open Go Go.Sk Go.RowKit Tryz
attribute [local irreducible] Go.Calls
abbrev P3:=Int × Int × Int
def zAJ (o:Odr):List P3:=if (zV o).2>0 then[(o.acct,(zV o).1,(zV o).2)] else[]
def zS (a:Auc):List P3:=if zAS a then(a.seller,a.inst,a.qty)::a.bids.map (fun b=>(b.acct,0,b.amount)) else[]
def zT (s:Sta):List P3:=s.orders.flatMap zAJ++s.aucs.flatMap zS
def p3 (l:List P3)(k:Nat):P3:=l.getD k (0,0,0)
def u1P (s:Sta)(k:Nat):Value:=.agg #[.int .i64 (p3 (zT s) k).1,.int .i64 (p3 (zT s) k).2.1]
def u2P (s:Sta)(k:Nat):Value:=.int .i64 (p3 (zT s) k).2.2
theorem at_in (A B Z C:List P3){j:Nat}(hj:j<Z.length):p3 (A++(B++(Z++C))) (A.length+B.length+j)=p3 Z j/\A.length+B.length+j<(A++(B++(Z++C))).length:=by
 refine⟨?_,by simp;omega⟩;unfold p3;rw[yy2,yy2,yym qO,yym qO,yyl qO]
 congr 2;omega
theorem zI9 {α:Type}(f:α->List P3)(l:List α)(d:α){i:Nat}(hi:i<l.length):l.flatMap f=(l.take i).flatMap f++(f (l.getD i d)++(l.drop (i+1)).flatMap f):=by{
have h:l=l.take i++(l.getD i d::l.drop (i+1)):=by
 conv=>lhs;rw[<- List.take_append_drop i l,List.drop_eq_getElem_cons hi]
 simp[yy1 hi]
conv=>lhs;rw[h]
rw[yy9,List.flatMap_cons]}
theorem zFy {α:Type}(f:α->List P3)(l:List α)(d:α){i:Nat}(hi:i<l.length):(l.take (i+1)).flatMap f=(l.take i).flatMap f++f (l.getD i d):=by rw[yyj hi,yy9];simp[yy1 hi]
theorem bid_at {l:List Bid}(x:P3){j:Nat}(hj:j<l.length):p3 (x::l.map (fun b=>(b.acct,0,b.amount))) (j+1)=((l.getD j default).acct,0,(l.getD j default).amount):=by unfold p3;rw[List.getD_cons_succ,yy2,List.getElem?_map,yy1 hj,yy2,yy1 hj];rfl
theorem zTu {F:zA}(s:Sta)(p:SPt){bs:Nat}{G:zA}(w0:World)(hF:Mem w0 F)(hs0:StaM F s p)(hm:cb bs (s.cells p) 40∈G) :
  Iter prog w0 241 [(pt bs)] (zT s).length (fun k=>[u1P s k,u2P s k]) G:=by{
intro l K hY M G' w hG hK H;obtain⟨hnc,hcb,b0,off,cs,T,fr,hs⟩:=hs0.od;obtain⟨⟨hnc2,hcb2,b2,off2,cs2,T2,fr2,hs2⟩,hbd⟩:=hs0.au;have hmG:=hG hm;clear hG hm;refine eN func241 ntmps241 ?_;(repeat' first|refine yX ?_|refine z13 (zF sg rfl rfl (H.mem.sub qS) hmG rfl rfl) ?_|fail);refine zD [(4,6),(14,35)] (fun x:Nat × zA=>[(14,.int .i64 (x.1:Int))]) (fun x w=>x.1<=s.orders.length/\St w0 (x.2++G') w/\K ((s.orders.take x.1).flatMap zAJ).length x.2) (fun x=>s.orders.length - x.1) (0,M) ⟨rfl,trivial⟩ ⟨zzD _,H,hK⟩ ?_;clear H hK;rintro⟨i,M⟩ gh w ⟨hi,H,hK⟩;simp only at hi H hK ⊢;(repeat' first|refine yX ?_|fail);refine zB rfl (fun h=>?_) (fun h=>?_)
.have hlt:i<s.orders.length:=by have:=zzA h;omega
 clear h;obtain⟨hq,hn,hh⟩:∃ q n,zV (od_ s.orders i)=(q,n):=⟨_,_,rfl⟩;have hHo:=fun w=>zLS (od_ s.orders i) w;rw[hh] at hHo;have hsp:=zI9 zAJ s.orders default hlt;have htk:=zFy zAJ s.orders default hlt;change _=_++(zAJ (od_ s.orders i)++_) at hsp;change _=_++zAJ (od_ s.orders i) at htk;have e1:zAJ (od_ s.orders i)=if hn>0 then[((od_ s.orders i).acct,hq,hn)] else[]:=by unfold zAJ;rw[hh]
 obtain⟨cnt,hcnt⟩:∃ c,((s.orders.take i).flatMap zAJ).length=c:=⟨_,rfl⟩;rw[hcnt] at hK;have hYo:hn>0->∀ (M G':zA) (w:World),K cnt M->St w0 (M++G') w->Yld prog l [.agg #[.int .i64 (od_ s.orders i).acct,.int .i64 hq],.int .i64 hn] w (fun e w'=>∃ v,e=.returned v/\(v=.bool true/\∃ M',K (cnt+1) M'/\St w0 (M'++G') w')):=by
  intro hpos M G' w hK H;rw[if_pos hpos] at e1;rw[e1] at hsp;have hp:zT s=[]++((s.orders.take i).flatMap zAJ++([((od_ s.orders i).acct,hq,hn)]++((s.orders.drop (i+1)).flatMap zAJ++s.aucs.flatMap zS))):=by unfold zT;rw[hsp];simp
  obtain⟨h1,h2⟩:=at_in [] ((s.orders.take i).flatMap zAJ) [((od_ s.orders i).acct,hq,hn)] ((s.orders.drop (i+1)).flatMap zAJ++s.aucs.flatMap zS) (j:=0) (by simp);rw[<- hp,hcnt] at h1 h2;simp only[List.length_nil,yyv,Nat.add_zero] at h1 h2;have:=hY cnt h2 M G' w hK H;simp only[u1P,u2P,h1] at this;exact this
 (repeat' first|refine yS ?_|(refine yB ?_;intro b w H)|(refine y11 sg H ?_;intro w H)|refine x40 sg hs ?_|refine x42 sg hs (H.memF hF) ?_|(refine c0 zOL ?_;refine⟨_,hHo _,?_⟩;clear H;intro w H)|(refine CW.regionY (id:=4) ?_)|(refine OY.yield (hYo (zzA h) M (_::G') _ hK (H.perm (zP7 M G'))) ?_ (hw:=OY.gY rfl rfl rfl);rintro v w ⟨rfl,M,hK,H⟩;replace H:=H.perm (zP7 M G').symm)|(refine OY.preN 9 12 ?_;simp only[List.take_succ_cons,List.take_zero,List.drop_succ_cons,List.drop_zero])|(refine OY.all ?_)|(refine y17 ?_ ?_;all_goals intro h)|refine yU ?_|with_reducible apply zAT|fail)
 .have hpos:=zzA h;refine zC (i+1,M) rfl ⟨zU qO,trivial⟩ ⟨hlt,H.sub (zz7 _ _),?_⟩ (by simp only;omega);simp only;rw[htk,e1,if_pos hpos,yy4,hcnt];exact hK
 .have hneg:=zzB h;refine zC (i+1,M) rfl ⟨zU qO,trivial⟩ ⟨hlt,H.sub (zz7 _ _),?_⟩ (by simp only;omega);simp only;rw[htk,e1,if_neg hneg,List.append_nil,hcnt];exact hK
.obtain rfl:i=s.orders.length:=by have:=zzB h;omega
 clear h;rw[List.take_length] at hK;obtain⟨A,hA⟩:∃ A,(s.orders.flatMap zAJ).length=A:=⟨_,rfl⟩;rw[hA] at hK;(repeat' first|refine yX ?_|refine z13 (zF sg rfl rfl (H.mem.sub qS) hmG rfl rfl) ?_|fail);refine zD [(8,8),(10,10),(39,72)] (fun x:Nat × zA=>[(39,.int .i64 (x.1:Int))]) (fun x w=>x.1<=s.aucs.length/\St w0 (x.2++G') w/\K (A+((s.aucs.take x.1).flatMap zS).length) x.2) (fun x=>s.aucs.length - x.1) (0,M) ⟨rfl,trivial⟩ ⟨zzD _,H,hK⟩ ?_;clear H hK hi;rintro⟨i,M⟩ gh w ⟨hi,H,hK⟩;simp only at hi H hK ⊢;(repeat' first|refine yX ?_|fail);refine zB rfl (fun h=>?_) (fun h=>?_)
 .have hlt:i<s.aucs.length:=by have:=zzA h;omega
  clear h;have hbx:=hbd i hlt;have hsp:=zI9 zS s.aucs default hlt;have htk:=zFy zS s.aucs default hlt;obtain⟨cnt,hcnt⟩:∃ c,A+((s.aucs.take i).flatMap zS).length=c:=⟨_,rfl⟩;rw[hcnt] at hK;have hYa:zAS (s.aucs.getD i default)=true->∀ j,j<(s.aucs.getD i default).bids.length+1->∀ (M G':zA) (w:World),K (cnt+j) M->St w0 (M++G') w->Yld prog l [.agg #[.int .i64 (p3 (zS (s.aucs.getD i default)) j).1,.int .i64 (p3 (zS (s.aucs.getD i default)) j).2.1],.int .i64 (p3 (zS (s.aucs.getD i default)) j).2.2] w (fun e w'=>∃ v,e=.returned v/\(v=.bool true/\∃ M',K (cnt+j+1) M'/\St w0 (M'++G') w')):=by
   intro hmay j hj M G' w hK H;have hp:zT s=s.orders.flatMap zAJ++((s.aucs.take i).flatMap zS++(zS (s.aucs.getD i default)++(s.aucs.drop (i+1)).flatMap zS)):=by unfold zT;rw[<- hsp]
   obtain⟨h1,h2⟩:=at_in (s.orders.flatMap zAJ) ((s.aucs.take i).flatMap zS) (zS (s.aucs.getD i default)) ((s.aucs.drop (i+1)).flatMap zS) (j:=j) (by unfold zS;rw[if_pos hmay];simpa using hj);rw[<- hp,hA,hcnt] at h1 h2;have:=hY (cnt+j) h2 M G' w hK H;simp only[u1P,u2P,h1] at this;exact this
  (repeat' first|refine yX ?_|(refine yB ?_;intro b w H)|(refine y11 sg H ?_;intro w H)|refine x40 sg hs2 ?_|refine x42 sg hs2 (H.memF hF) ?_|(refine c0 zIx ?_;refine⟨_,zI2 (s.aucs.getD i default) _ (H.memF hF) hbx,?_⟩;clear H;intro w H)|fail);refine zB rfl (fun h=>?_) (fun h=>?_)
  .have hmf:zAS (s.aucs.getD i default)=false:=by{simpa using h};clear h
   (repeat' first|refine yX ?_|fail);refine zC (i+1,M) rfl ⟨zU qO,trivial⟩ ⟨hlt,H.sub (zz7 _ _),?_⟩ (by simp only;omega);simp only;have:zS (s.aucs.getD i default)=[]:=by unfold zS;rw[hmf];rfl
   rw[htk,this,List.append_nil,hcnt];exact hK
  .have hmt:zAS (s.aucs.getD i default)=true:=by{simpa using h};clear h
   have hYm:=hYa hmt;have hap:zS (s.aucs.getD i default)=((s.aucs.getD i default).seller,(s.aucs.getD i default).inst,(s.aucs.getD i default).qty)::(s.aucs.getD i default).bids.map (fun b=>(b.acct,0,b.amount)):=by unfold zS;rw[if_pos hmt]
   have hY0:=hYm 0 (Nat.succ_pos _);rw[hap] at hY0;have hYb:∀ j,j<(s.aucs.getD i default).bids.length->∀ (M G':zA) (w:World),K (cnt+1+j) M->St w0 (M++G') w->Yld prog l [.agg #[.int .i64 ((s.aucs.getD i default).bids.getD j default).acct,.int .i64 0],.int .i64 ((s.aucs.getD i default).bids.getD j default).amount] w (fun e w'=>∃ v,e=.returned v/\(v=.bool true/\∃ M',K (cnt+1+(j+1)) M'/\St w0 (M'++G') w')):=by
    intro j hj M G' w hK H;have h1:=hYm (j+1) qO M G' w (by rw[show cnt+(j+1)=cnt+1+j by omega];exact hK) H;have h2:p3 (zS (s.aucs.getD i default)) (j+1)=(((s.aucs.getD i default).bids.getD j default).acct,0,((s.aucs.getD i default).bids.getD j default).amount):=by rw[hap];exact bid_at _ hj
    rw[h2,show cnt+(j+1)+1=cnt+1+(j+1) by omega] at h1;exact h1
   obtain⟨hnc3,hcb3,b3,off3,cs3,T3,fr3,hs3⟩:=hbx;(repeat' first|refine yS ?_|(refine CW.regionY (id:=10) ?_)|(refine OY.yield (hY0 M (_::G') _ hK (H.perm (zP7 M G'))) ?_ (hw:=OY.go rfl);rintro v w ⟨rfl,M,hK,H⟩;replace H:=H.perm (zP7 M G').symm)|(refine OY.preN 8 10 ?_;simp only[List.take_succ_cons,List.take_zero,List.drop_succ_cons,List.drop_zero])|(refine OY.all ?_)|refine yU ?_|with_reducible apply zAT|fail);refine zD [(10,10),(59,71)] (fun x:Nat × zA=>[(59,.int .i64 (x.1:Int))]) (fun x w=>x.1<=(s.aucs.getD i default).bids.length/\St w0 (_::(x.2++G')) w/\K (cnt+1+x.1) x.2) (fun x=>(s.aucs.getD i default).bids.length - x.1) (0,M) ⟨rfl,trivial⟩ ⟨zzD _,H,hK⟩ ?_;clear H hK;rintro⟨j,M⟩ gh2 w ⟨hj,H,hK⟩;simp only at hj H hK ⊢;(repeat' first|refine yX ?_|fail);refine zB rfl (fun h=>?_) (fun h=>?_)
   .have hlj:j<(s.aucs.getD i default).bids.length:=by have:=zzA h;omega
    clear h;have hYj:=hYb j hlj;(repeat' first|refine yS ?_|(refine yB ?_;intro b w H)|(refine y11 sg H ?_;intro w H)|refine x40 sg hs3 ?_|refine x42 sg hs3 (H.memF hF) ?_|(refine CW.regionY (id:=14) ?_)|(refine OY.yield (hYj M (_::_::G') _ hK (H.perm (perm2 M G'))) ?_ (hw:=OY.go rfl);rintro v w ⟨rfl,M,hK,H⟩;replace H:=H.perm (perm2 M G').symm)|(refine OY.preN 6 8 ?_;simp only[List.take_succ_cons,List.take_zero,List.drop_succ_cons,List.drop_zero])|(refine OY.all ?_)|refine yU ?_|with_reducible apply zAT|fail);exact zC (j+1,M) rfl ⟨zU qO,trivial⟩ ⟨hlj,H.sub (zz7 _ _),hK⟩ (by simp only;omega)
   .obtain rfl:j=(s.aucs.getD i default).bids.length:=by have:=zzB h;omega
    (repeat' first|refine yX ?_|fail);refine zD5 (i+1,M) rfl ⟨zU qO,trivial⟩ ⟨hlt,H.sub (zz7 _ _),?_⟩ (by simp only;omega);simp only;rw[htk,hap,yy4,List.length_cons,yyp,<- Nat.add_assoc,hcnt];rw[show cnt+((s.aucs.getD i default).bids.length+1)=cnt+1+(s.aucs.getD i default).bids.length by omega];exact hK
 .obtain rfl:i=s.aucs.length:=by have:=zzB h;omega
  rw[List.take_length] at hK;(repeat' first|refine yX ?_|fail);refine zB2 (vs:=[]) trivial H ⟨M,rfl,?_⟩;unfold zT;rw[yy4,hA];exact hK}
end Go.Proofs.YtejhijhnlogikaaGreatDoor
