/- Texts of ours, joined: the steps of the proof, or the claim's theorem. -/
import Derived.Test.YthbflajpdhgfiaaGreatDoorQd02
set_option linter.all false
set_option maxHeartbeats 16000000
namespace Go.Proofs.YthbflajpdhgfiaaGreatDoor
section
open Go Go.Sk Go.RowKit
attribute [local irreducible] Go.Calls
def zNq (F:zC)(a:Option Addr)(cap:Nat)(l:List Row4):Prop:=SlA F 4 a l.length cap (rwl l)
def Z64 (x:Int):Prop:=-9223372036854775808≤x∧x≤9223372036854775807
def Row4.wf (r:Row4):Prop:=Z64 r.free∧Z64 r.held
theorem eg294:Tryz.prog.eqGuardType Tryz.prog.depth 273=false:=by kernel_rfl
def zIt (l:List Row4)(k:Nat):Int:=if k=0 then -1 else(rw_ l (k - 1)).acct
def zIu (l:List Row4)(k:Nat):Int:=if k=0 then 0 else(rw_ l (k - 1)).asset
theorem zRD {l:List Row4}{k:Nat}(h:zEX (rw_ l k)):zMT (zIt l k) (zIu l k) (rw_ l k).acct (rw_ l k).asset<0↔(k=0∨LtR (rw_ l (k - 1)) (rw_ l k)):=by
 rw[zNm]
 unfold zIt zIu LtR
 have:=h.1.1
 split
 ·rename_i h0;subst h0;simp;omega
 ·rename_i h0;simp[h0]
theorem Ints3 {F:zC}{b:Nat}{x y z:Int}{T:TypeId}{fr:Nat × Nat}(h:(b,Obj.cells [Value.int .i64 x,Value.int .i64 y,Value.int .i64 z].toArray T fr)∈F):Ints F (some ⟨b,0,none⟩) 3 [x,y,z] :=
 ⟨zzC _,(by show 3≤140737488355328;omega),b,0,_,T,fr,fun _=>⟨rfl,h,fun j hj=>by
  have:j=0∨j=1∨j=2:=by simp at hj;omega
  rcases this with rfl|rfl|rfl<;>exact⟨by simp,rfl⟩⟩⟩
theorem zF0 (l:List Row4)(a:Int)(k:Nat):smR l a (k+1)=if (rw_ l k).asset=a then smR l a k+((rw_ l k).free+(rw_ l k).held) else smR l a k:=by
 simp only[smR]
 split<;>omega
theorem zMV {r:Row4}(h:zEX r):zAS r.acct r.free r.held=0:=by
 obtain⟨h1,h2,h3,h4⟩:=h
 unfold zAS
 (repeat' split)<;>omega
theorem zTc {r:Row4}(h1:zCO r.acct r.asset=true)(h2:zAS r.acct r.free r.held=0)(h3:¬ (r.free=0∧r.held=0))(h4:r.acct=0→r.held=0):zEX r:=by
 refine⟨(zCq _ _).1 h1,h3,h4,fun h0=>?_⟩
 unfold zAS at h2
 rw[if_neg h0] at h2
 split at h2
 ·omega
 ·split at h2<;>omega
theorem zNr {l:List Row4}(h:zAY l=true→False):false=zAY l:=by
 cases hq:zAY l with
 | false=>rfl
 | true=>exact(h hq).elim
set_option maxRecDepth 20000 in
theorem zJl {a:Option Addr}{cap:Nat}(l:List Row4)(hw:∀ j,j<l.length→(rw_ l j).wf){F:zC}(w0:World)(hF:Mem w0 F)(hs:zNq F a cap l) :
  Calls Tryz.prog 188 [.slice a l.length cap].toArray w0 (Ret (.bool (zAY l)) w0):=by
 obtain⟨hnc,hcb,b0,off,cs,T,fr,hs⟩:=hs
 refine enter [.tmp 2] Tryz.func188 rfl Tryz.ntmps188 rfl rfl ?_
 have H:=zA w0
 repeat' (first|refine yT ?_|(refine y10 sg H ?_;intro b w H)|(refine y11 sg H ?_;intro w H)|refine yU ?_|with_reducible apply zB|fail)
 have H:=(show St w0 [cb _ (zEc .i64 17 fun _=>0) 273,cb _ (plc2 (-1) 0) 272] w from H)
 refine zI [(2,2),(6,9),(13,89)] (fun k:Nat=>[(13,.int .i64 (k:Int))])
  (fun k w=>k≤l.length∧RowsP l k∧(∀ j,j<k→(rw_ l j).acct=0→(rw_ l j).free≤0)∧(∀ j:Nat,j<17→-4611686018427387904≤smR l j k∧smR l j k≤4611686018427387904) ∧
   St w0 [cb _ (zEc .i64 17 fun j=>smR l (j:Nat) k) 273,cb _ (plc2 (zIt l k) (zIu l k)) 272] w) (fun k=>l.length - k) 0 ⟨rfl,trivial⟩
  ⟨zzD _,fun j hj=>absurd hj (zzE _),fun j hj=>absurd hj (zzE _),fun j _=>by simp[smR],H⟩ ?_
 clear H
 rintro k gh w ⟨hk,hP,hz,hb,H⟩
 repeat' (first|refine yT ?_|refine yU ?_|fail)
 refine zD rfl (fun h=>?_) (fun h=>?_)
 ·have hlt:k<l.length:=by have:=zzA h;omega
  clear h
  obtain⟨⟨hf1,hf2⟩,hd1,hd2⟩:=hw k hlt
  have hgd:=zIr (rw_ l k)
  have hcmp:=zRD (l:=l) (k:=k)
  have hgi:=zCq (rw_ l k).acct (rw_ l k).asset
  have hfacts:zAY l=true→zEX (rw_ l k)∧zMT (zIt l k) (zIu l k) (rw_ l k).acct (rw_ l k).asset<0∧zCO (rw_ l k).acct (rw_ l k).asset=true∧zAS (rw_ l k).acct (rw_ l k).free (rw_ l k).held=0∧((rw_ l k).acct=0→(rw_ l k).free≤0):=fun q=>by
   obtain⟨g,o⟩:=(zBi.1 q).1 k hlt
   exact⟨g,(hcmp g).2 o,hgi.2 g.1,zMV g,fun h0=>(zO5 q hlt h0).2⟩
  generalize hq:(rw_ l k).asset.toNat=q
  have sum:∀ {F:zC} {b:Nat} {w:World},(rw_ l k).asset=(q:Int)→q<17→Mem w (cb b [.int .i64 (smR l q k),.int .i64 (rw_ l k).free,.int .i64 (rw_ l k).held] 2::F) →
    Calls Tryz.prog 223 [.slice (some ⟨b,0,none⟩) 3 3].toArray w (Ret (.tuple #[.int .i64 (zBz (smR l q (k+1))).1,.int .i64 (zBz (smR l q (k+1))).2]) w):=fun hqa hq hM=>by
   have:=c_Sum [smR l q k,(rw_ l k).free,(rw_ l k).held] (fun j=>by
    have:=hb q hq
    rcases j with _|_|_|j
    ·exact⟨by show _≤smR l q k;omega,by show smR l q k≤_;omega⟩
    ·exact⟨hf1,hf2⟩
    ·exact⟨hd1,hd2⟩
    ·simp) (by show 3≤1048576;omega) _ hM (Ints3 (zz2 _))
   have e:zCr [smR l q k,(rw_ l k).free,(rw_ l k).held] [smR l q k,(rw_ l k).free,(rw_ l k).held].length=smR l q (k+1):=by
    rw[zF0,if_pos hqa];simp[zCr];omega
   rw[e] at this
   exact this
  repeat' (first|refine yT ?_|refine y7 sg H ?_|(refine y10 sg H ?_;intro b w H)|(refine y11 sg H ?_;intro w H)|refine x40 sg hs ?_|refine x42 sg hs (H.memF hF) ?_|(refine' y30 zJf ?_ ?_;rotate_left;exact zJi (rw_ l k).acct (rw_ l k).asset _;refine w2 H ?_;clear H;intro w H)|(refine' y30 zQv ?_ ?_;rotate_left;exact zQ9 (zIt l k) (zIu l k) (rw_ l k).acct (rw_ l k).asset _;refine w2 H ?_;clear H;intro w H)|(refine' y30 zQw ?_ ?_;rotate_left;exact zNn (rw_ l k).acct (rw_ l k).asset (rw_ l k).free (rw_ l k).held _ hf1 hf2 hd1 hd2;refine w2 H ?_;clear H;intro w H)|refine yU ?_|(refine y17 ?_ ?_;all_goals intro h)|with_reducible apply zB|(refine y23 ?_ ?_;all_goals intro h)|fail)
  all_goals simp only[Bool.not_eq_true',Bool.not_eq_false',decide_eq_true_eq,decide_eq_false_iff_not,beq_iff_eq,beq_eq_false_iff_ne,bne_iff_ne,ne_eq,bne_eq_false_iff_eq] at *
  all_goals try exact zP rfl H.cl (congrArg Value.bool (zNr fun q=>by
   obtain⟨g,f2,f3,f4,f5⟩:=hfacts q
   first
    | omega
    | (cases f3.symm.trans ‹zCO _ _=false›)
    | (obtain⟨g1,g2,g3,g4⟩:=g;omega)))
  all_goals try (exfalso;omega)
  all_goals
   have hthere:=hgi.1 ‹zCO (rw_ l k).acct (rw_ l k).asset=true›
   have hG:zEX (rw_ l k):=zTc ‹_› ‹_› qO (fun h0=>by omega)
   have hL:=(hcmp hG).1 qO
   have hz0:(rw_ l k).acct=0→(rw_ l k).free≤0:=fun h0=>by omega
   have hqa:(rw_ l k).asset=(q:Int):=by omega
   have hq17:q<17:=by omega
   clear hfacts hcmp hgi
   have hS:¬ (zBz (smR l q (k+1))).2=0→zAY l=true→False:=fun h0 hr=>by
    have:=zTb hr hq17 (k:=k+1) qO
    unfold zBz at h0
    rw[if_neg qO] at h0
    exact h0 rfl
   have hT:(zBz (smR l q (k+1))).2=0→(zBz (smR l q (k+1))).1=smR l q (k+1)∧-4611686018427387904≤smR l q (k+1)∧smR l q (k+1)≤4611686018427387904:=fun h0=>by
    unfold zBz at h0 ⊢
    split at h0
    ·exact absurd h0 (by decide)
    ·rename_i hn
     rw[if_neg hn]
     exact⟨rfl,by omega,by omega⟩
   repeat' (first|refine yT ?_|refine y8 sg H ?_|refine y12 ?_|(refine CW.regionR mixed ?_;refine w2 H ?_;clear H;intro w H;(with_reducible apply RW.quiet 8);exact rfl;decide +kernel;simp only[List.append_eq,List.cons_append,List.nil_append,List.take_succ_cons,List.take_zero,List.drop_zero])|((with_reducible apply RW.quiet (k:=10) 15);exact rfl;decide +kernel;simp only[List.append_eq,List.cons_append,List.nil_append,List.take_succ_cons,List.take_zero,List.drop_succ_cons,List.drop_zero])|(refine zT rfl rfl (Yq.ixP sg (n:=17) hq qO qO rfl rfl rfl rfl rfl rfl) ?_)|(refine zT rfl rfl (Yq.loadA sg (f:=fun j=>smR l (j:Nat) k) H.mem (by repeat (first|exact zz2 _|apply zz5)) hq17 rfl rfl rfl rfl) ?_)|(refine z14 sg H ?_;intro b w H)|(refine' y30 zQx ?_ ?_;rotate_left;exact sum hqa hq17 H.mem;refine w2 H ?_;clear H;intro w H)|refine yU ?_|(with_reducible apply zO;refine w2 H ?_;clear H;intro w H)|fail)
   refine zD rfl (fun h=>?_) (fun h=>?_)
   ·repeat' (first|refine yT ?_|refine yU ?_|fail)
    exact zP rfl H.cl (congrArg Value.bool (zNr (hS (by simpa using h))))
   ·obtain⟨t1,t2,t3⟩:=hT (by simpa using h)
    rw[t1]
    repeat' (first|refine yT ?_|refine y7 sg H ?_|(refine zd rfl rfl (Yq.ixP sg (n:=17) hq qO qO rfl rfl rfl rfl rfl rfl) ?_)|(refine OX.storeA sg (m:=17) (f:=fun j=>smR l (j:Nat) k) H hq17 (by repeat (first|exact Up.here|apply Up.there)) ?_;intro w H)|refine yU ?_|fail)
    have ea:zEc .i64 17 (updI (fun j=>smR l (j:Nat) k) q (smR l q (k+1)))=zEc .i64 17 (fun j=>smR l (j:Nat) (k+1)):=List.map_congr_left fun j hj=>by
     show Value.int _ (if j=q then _ else _)=_
     by_cases hj2:j=q
     ·subst hj2;rw[if_pos rfl]
     ·rw[if_neg hj2]
      show Value.int .i64 (smR l (j:Nat) k)=Value.int .i64 (smR l (j:Nat) (k+1))
      rw[zF0,if_neg qO]
    rw[ea] at H
    have el:plc2 (zIt l (k+1)) (zIu l (k+1))=[.int .i64 (rw_ l k).acct,.int .i64 (rw_ l k).asset]:=rfl
    refine zF (k+1) rfl ⟨zf qO,trivial⟩ ⟨hlt,hP.succ hG hL,fun j hj=>?_,fun j hj=>?_,?_⟩ qO
    ·rcases(show j<k∨j=k by omega) with g|rfl
     ·exact hz j g
     ·exact hz0
    ·rw[zF0]
     split
     ·rename_i he
      obtain rfl:j=q:=by omega
      rw[zF0,if_pos he] at t2 t3
      exact⟨t2,t3⟩
     ·exact hb j hj
    ·rw[el]
     exact H.sub (List.Sublist.cons _ (List.Sublist.cons _ (List.Sublist.cons _ (List.Sublist.refl _))))
 ·obtain rfl:k=l.length:=by have:=zzB h;omega
  clear h
  repeat' (first|refine yT ?_|refine y7 sg H ?_|(refine zd rfl rfl (Yq.build0 sg rfl rfl rfl rfl) ?_)|(refine zd rfl rfl (Yq.eqlA sg (n:=17) (f:=fun j=>smR l (j:Nat) l.length) (g:=fun _=>0) eg294 rfl rfl rfl rfl rfl rfl rfl rfl) ?_)|refine yU ?_|fail)
  refine zP rfl H.cl (congrArg Value.bool ?_)
  unfold zAY
  rw[(List.all_eq_true.2 fun j hj=>zIs.2 (hP j (List.mem_range.1 hj)):(List.range l.length).all (fun k=>zNo l k)=true),Bool.true_and]
end
section
open Go Go.Sk Go.RowKit
def zCL (l:List Bid):Nat→Int
 | 0=>-1
 | k+1=>if zCL l k<0∨(l.getD k default).amount>(l.getD (zCL l k).toNat default).amount then(k:Int) else zCL l k
def hi (l:List Bid):Int:=zCL l l.length
theorem zD4 (l:List Bid)(k:Nat):-1≤zCL l k∧zCL l k<k:=by
 induction k with
 | zero=>exact⟨by simp[zCL],by simp[zCL]⟩
 | succ k ih=>rw[zCL];split<;>constructor<;>omega
theorem zIv {a:Option Addr}{cap:Nat}(l:List Bid){F:zC}(w0:World)(hF:Mem w0 F)(hs:Bids F a cap l) :
  Calls Tryz.prog 49 [.slice a l.length cap].toArray w0 (Ret (.int .i64 (hi l)) w0):=by
 obtain⟨hn,hc,b,off,cs,T,fr,hs⟩:=hs
 refine enter [.tmp 2] Tryz.func49 rfl Tryz.ntmps49 rfl rfl ?_
 have H:=zA w0
 repeat' (first|refine yT ?_|refine yU ?_|with_reducible apply zB|fail)
 refine zI [(3,5),(8,26)] (fun k:Nat=>[(8,.int .i64 (k:Int)),(3,.int .i64 (zCL l k))]) (fun k w=>k≤l.length∧St w0 [] w) (fun k=>l.length - k) 0 ⟨rfl,rfl,trivial⟩ ⟨zzD _,H⟩ ?_
 clear H
 rintro k g w ⟨hk,H⟩
 have hb:=zD4 l k
 repeat' (first|refine yT ?_|refine yU ?_|fail)
 refine zD rfl (fun h=>?_) (fun h=>?_)
 ·have hlt:k<l.length:=by simpa using h
  repeat' (first|refine yT ?_|refine y8 sg H ?_|(refine y10 sg H ?_;intro b w H)|(refine y11 sg H ?_;intro w H)|refine x40 sg hs ?_|(refine y41 sg (hs) ?_ ?_ ?_;(simp at h;omega);(omega))|refine x42 sg hs (H.memF hF) ?_|(refine y45 sg (hs) ((H.memF hF)) ?_ ?_;(simp at h;omega))|refine yU ?_|(refine y18 ?_ ?_;all_goals intro h)|(with_reducible apply zO;refine w2 H ?_;clear H;intro w H)|refine y20 mixed ?_|with_reducible apply zB|fail)
  ·refine zF (k+1) rfl ⟨zf qO,?_,trivial⟩ ⟨hlt,H.sub (zz9 _)⟩ qO
   show Value.int .i64 (k:Int)=_
   rw[zCL,if_pos (.inl (of_decide_eq_true h))]
  ·refine zD rfl (fun h2=>?_) (fun h2=>?_)
   ·repeat' (first|refine yT ?_|refine yU ?_|fail)
    refine zF (k+1) rfl ⟨zf qO,?_,trivial⟩ ⟨hlt,H.sub (zz9 _)⟩ qO
    show Value.int .i64 (k:Int)=_
    rw[zCL,if_pos (.inr (of_decide_eq_true h2))]
   ·repeat' (first|refine yT ?_|refine yU ?_|fail)
    refine zF (k+1) rfl ⟨zf qO,?_,trivial⟩ ⟨hlt,H.sub (zz9 _)⟩ qO
    show Value.int .i64 (zCL l k)=_
    rw[zCL,if_neg (fun hc=>hc.elim (fun h3=>by simp at h;omega) (fun h3=>of_decide_eq_false h2 h3))]
 ·have hkn:k=l.length:=by simp at h;omega
  subst hkn
  repeat' (first|refine yT ?_|refine yU ?_|fail)
  exact zP rfl H.cl rfl
def zBR (x:Auc)(j:Nat):Bool :=
 !zu (x.bids.getD j default).acct 64||(x.bids.getD j default).acct==x.seller||!zu (x.bids.getD j default).amount 1125899906842624 ||
  decide (idx (fun i=>(x.bids.getD i default).acct==(x.bids.getD j default).acct) j ≥ 0)
def zCA (x:Auc):Bool:=decide (idx (zBR x) x.bids.length<0)
theorem Bids.cut {F:zC}{a:Option Addr}{cap n b off:Nat}{cs:List Value}{T:TypeId}{fr:Nat × Nat}{el:Nat→List Value}(h1:n≤cap)(h2:n≤140737488355328)(h:SlB F 2 a n b off cs T fr el){m:Nat}(hm:m≤n):SlA F 2 a m cap el :=
 ⟨by omega,by omega,b,off,cs,T,fr,h.cut hm⟩
theorem zRE {a:Option Addr}{cap:Nat}(x:Auc){F:zC}(w0:World)(hF:Mem w0 F)(hs:Bids F a cap x.bids) :
  Calls Tryz.prog 86 [.agg (x.cells a cap).toArray].toArray w0 (Ret (.bool (zCA x)) w0):=by
 obtain⟨hn,hc,b0,off,cs,T,fr,hs⟩:=hs
 refine enter [.tmp 2] Tryz.func86 rfl Tryz.ntmps86 rfl rfl ?_
 have H:=zA w0
 repeat' (first|refine yT ?_|refine y7 sg H ?_|(refine y9 H ?_;intro b w H)|refine yU ?_|with_reducible apply zB|fail)
 refine zI [(2,5),(9,40)] (fun k:Nat=>[(9,.int .i64 (k:Int))]) (fun k w=>k≤x.bids.length∧(∀ j,j<k→zBR x j=false)∧St w0 [cb b (x.cells a cap) 67] w) (fun k=>x.bids.length - k) 0 ⟨rfl,trivial⟩ ⟨zzD _,fun j hj=>by omega,H⟩ ?_
 clear H
 rintro k g w ⟨hk,hpk,H⟩
 repeat' (first|refine yT ?_|refine yU ?_|fail)
 refine zD rfl (fun h=>?_) (fun h=>?_)
 ·have hlt:k<x.bids.length:=by simpa using h
  repeat' (first|refine yT ?_|refine y7 sg H ?_|(refine y10 sg H ?_;intro b w H)|(refine y11 sg H ?_;intro w H)|refine x40 sg hs ?_|refine x42 sg hs (H.memF hF) ?_|(refine' y30 zKv ?_ ?_;rotate_left;exact zDe _ _ _;refine w2 H ?_;clear H;intro w H)|(refine' y30 zIp ?_ ?_;rotate_left;exact zCN _ _ _;refine w2 H ?_;clear H;intro w H)|(refine zd rfl rfl (Yq.sliceHi sg rfl rfl rfl rfl rfl rfl (zz1 _) qO qO) ?_)|(refine OX.call rfl rfl (En.fn zMG rfl rfl) (zDU (caps:=[.pointer (some ⟨_,0,none⟩)]) (fun i=>(x.bids.getD i default).acct==(x.bids.getD k default).acct) _ (H.all hF) (Bids.cut hn hc (hs.mono (zz8 _ _)) (Nat.le_of_lt hlt)) ent136 (fun j hj w hw=>zTT (x.bids.getD j default) (x.bids.getD k default) 72 _ _ _ (H.ext hw).mem (zz2 _))) ?_;refine w2 H ?_;clear H;intro w H)|refine yU ?_|(refine y17 ?_ ?_;all_goals intro h)|with_reducible apply zB|(refine y23 ?_ ?_;all_goals intro h)|fail)
  all_goals first
   | exact zP rfl H.cl (by
     have hbad:zBR x k=true:=by simp only[zBR, *];simp
     rw[zCA,zBh hlt hpk hbad];simp)
   | (refine zF (k+1) rfl ⟨zf qO,trivial⟩ ⟨hlt,fun j hj=>?_,H.sub (zz7 _ _)⟩ qO
      by_cases hj':j=k
      ·have hbad:zBR x k=false:=by simp only[zBR, *];simp
       rw[hj'];exact hbad
      ·exact hpk j qO)
 ·repeat' (first|refine yT ?_|refine yU ?_|fail)
  have hkn:k=x.bids.length:=by simp at h;omega
  subst hkn
  exact zP rfl H.cl (by rw[zCA,zAo hpk];rfl)
end
end Go.Proofs.YthbflajpdhgfiaaGreatDoor
