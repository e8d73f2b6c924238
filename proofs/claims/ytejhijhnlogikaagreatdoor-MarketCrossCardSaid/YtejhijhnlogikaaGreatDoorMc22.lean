/- Texts of ours, joined: the steps of the proof, or the claim's theorem. -/
import Derived.Test.YtejhijhnlogikaaGreatDoorMc21
set_option linter.all false
set_option maxHeartbeats 16000000
namespace Go.Proofs.YtejhijhnlogikaaGreatDoor
section
open Go Go.Sk Go.RowKit Tryz
attribute [local irreducible] Go.Calls
section
variable {F G:zB}{bm:Nat}{s:Sta}{p:SPt}{n:List Int}{na:Option Addr}{nc:Nat}{t:ByteArray}{Ma Mi Mu R:zB}
theorem zTF (l:List Odr)(id:Int):(zC7 l id).1.length≤l.length:=by
 unfold zC7 zAx
 by_cases h1:za l=true
 ·rw[if_pos h1]
  by_cases h2:(zT l id).2=true
  ·rw[if_pos h2]
   by_cases h3:(zT l id).1.left<1∨(zT l id).1.left>(zT l id).1.left
   ·rw[if_pos h3];exact zzD _
   ·rw[if_neg h3]
    unfold zBa
    refine Nat.le_trans (List.length_filter_le _ _) (Nat.le_of_eq ?_)
    exact List.length_map _
  ·rw[if_neg h2];exact zzD _
 ·rw[if_neg h1];exact zzD _
theorem zL9 {w0 w:World}(hLt:LtS s)(hW:WfR s)(hl:1≤n.length)(H:St w0 (mkL bm (mkc s p n na nc t) Ma Mi Mu R) w)(hC:Cps s p Ma Mi Mu R)(hF:Mem w0 F)(hN:Ints F na nc n) :
  Calls prog 163 [.pointer (some ⟨bm,0,none⟩)].toArray w (zf (zB2 bm n na nc t (zBN s n)) w0):=by
 obtain⟨hn2,hc2,b2,off2,cs2,T2,fr2,hs2⟩:=id hN
 have hs2F:=hs2.mono (List.subset_cons_self (cb bm (mkc s p n na nc t) 182) F)
 let o:Odr:=(zT s.orders (nF n 0)).1
 have eP:zBN s n=if (zT s.orders (nF n 0)).2=true then zAY { s with orders:=(zC7 s.orders o.id).1 } o.acct (zX o).1 (-(zX o).2) else(s,5):=rfl
 rw[eP]
 clear eP
 refine eN func163 ntmps163 ?_
 repeat' (first|refine yX ?_|fail)
 refine CW.cutT (fun e w=>∃ b e',e=ovl [(0,.pointer (some ⟨bm,0,none⟩)),(3,.pointer (some ⟨b,0,none⟩)),(4,.bool (zT s.orders (nF n 0)).2)] e'∧St w0 (cb b o.cells 45::mkL bm (mkc s p n na nc t) Ma Mi Mu R) w) ?_ ?_
 ·repeat' (first|refine yX ?_|(refine yB ?_;intro b w H)|(refine y11 sg H ?_;intro w H)|(refine CW.regionL mixed 18 (z6s (x:=cb bm (mkc s p n na nc t) 182) H hF) [] ?_ ?_;exact rfl;refine wQ H ?_;clear H;intro w H;have qh:=z6s (x:=cb bm (mkc s p n na nc t) 182) H hF;refine lT sg 0 qh ?_;refine lT sg 1 qh ?_;refine lT sg 2 qh ?_;refine lT sg 3 qh ?_;refine' l1 4 qh ?_ ?_;rotate_left;(exact z3 sg);refine lT sg 5 qh ?_;refine lT sg 6 qh ?_;refine lT sg 7 qh ?_;refine' l1 8 qh ?_ ?_;rotate_left;(exact z3 sg);refine' l1 9 qh ?_ ?_;rotate_left;(exact(zQ sg hs2));refine' l1 10 qh ?_ ?_;rotate_left;(exact(zK sg hs2F (show 0<n.length by omega))))|refine lN ?_|(refine lT sg 12 (z6s H hF) ?_)|(refine lT sg 13 (z6s H hF) ?_)|(refine lT sg 14 (z6s H hF) ?_)|(refine lT sg 17 (z6s H hF) ?_)|refine l2 11 ?_|refine l2 15 ?_|refine l2 16 ?_|refine l4 11 15 ?_ ?_|(refine l5 (z6s H hF) ?_)|(refine c0 zD5 ?_;refine⟨_,zFp s.orders (nF n 0) _ (H.all hF) (SlA.mono ((hC.sta hLt).od) (fun p hp=>zz6 _ (by first|exact zz4 _ hp|exact zz4 _ (zz4 _ hp)))),?_⟩;clear H;intro w H)|fail)
  all_goals exact⟨b,_,zBG rfl rfl rfl,H⟩
 clear H
 rintro _ w ⟨b,e',rfl,H⟩
 by_cases h0:(zT s.orders (nF n 0)).2=true
 ·rw[if_pos h0]
  have d0:(!(zT s.orders (nF n 0)).2)=false:=by rw[h0];rfl
  have hbd:=zOz o
  have hneg:IntKind.i64.wrap (0 - (zX o).2)=-(zX o).2:=by rw[w64 qO qO];omega
  repeat' (first|refine yX ?_|fail)
  refine CW.condF (congrArg Value.bool d0) ?_
  repeat' (first|refine yX ?_|(refine y11 sg H ?_;intro w H)|(refine c0 zMk ?_;refine⟨_,zJ0 o _,?_⟩;clear H;intro w H)|(refine CW.regionL mixed 16 (z6s (x:=cb b o.cells 45) H hF) [] ?_ ?_;exact rfl;refine wQ H ?_;clear H;intro w H;have qh:=z6s (x:=cb b o.cells 45) H hF;refine lT sg 0 qh ?_;refine lT sg 1 qh ?_;refine lT sg 2 qh ?_;refine lT sg 3 qh ?_;refine lT sg 4 qh ?_;refine lT sg 6 qh ?_;refine' l1 7 qh ?_ ?_;rotate_left;(exact z3 sg))|refine lN ?_|(refine lT sg 9 (z6s H hF) ?_)|(refine lT sg 10 (z6s H hF) ?_)|(refine lT sg 11 (z6s H hF) ?_)|(refine lT sg 12 (z6s H hF) ?_)|(refine lT sg 13 (z6s H hF) ?_)|(refine lT sg 14 (z6s H hF) ?_)|refine l2 5 ?_|refine l2 8 ?_|refine l2 15 ?_|(refine l5 (z6s H hF) ?_)|(refine f0 ent222 ?_;refine⟨_,c_Drop s.orders o.id _ H.mem (SlA.mono ((hC.sta hLt).od) (fun p hp=>zz4 _ (zz4 _ hp))),?_⟩;clear H;intro v M w hR H;(try simp only[zca,zcb] at H);obtain⟨a1,c1,rfl,hsl⟩:=hR)|fail)
  have hLt2:LtS { s with orders:=(zC7 s.orders o.id).1 }:=⟨hLt.ac,hLt.ins,hLt.rw,Nat.le_trans (zTF _ _) hLt.od,hLt.au,hLt.bd⟩
  have hC2:Cps { s with orders:=(zC7 s.orders o.id).1 } { p with odA:=a1,odC:=c1 } Ma Mi Mu ((R++M)++[cb b o.cells 45]):=⟨hC.ac,hC.ins,SlA.mono hC.rw fun p hp=>zz6 _ (zz6 _ hp),SlA.mono hsl fun p hp=>zz6 _ (zz3 _ hp),hC.au,fun j hj=>SlA.mono (hC.bd j hj) fun p hp=>zz6 _ (zz6 _ hp)⟩
  have e:(Ma++(Mi++(Mu++R)))++M=Ma++(Mi++(Mu++(R++M))):=by simp only[List.append_assoc]
  rw[e] at H
  have H3:St w0 (mkL bm (mkc { s with orders:=(zC7 s.orders o.id).1 } { p with odA:=a1,odC:=c1 } n na nc t) Ma Mi Mu ((R++M)++[cb b o.cells 45])) w:=H.perm (zCK [_])
  clear H e
  have H:=H3
  clear H3
  rw[hneg]
  repeat' (first|refine yX ?_|(refine zY rfl rfl (En.fn zMl rfl rfl) (c_holds hLt2 hW o.acct (zX o).1 (-(zX o).2) qO H hC2) ?_;rintro _ _ w ⟨rfl,hR2⟩ H2;clear H;have H:=H2;clear H2)|fail)
  exact zO (M:=_) rfl H (MkP.mkt ⟨rfl,hR2⟩)
 ·rw[if_neg h0]
  have d0:(!(zT s.orders (nF n 0)).2)=true:=by simpa using h0
  repeat' (first|refine yX ?_|fail)
  refine CW.condT (congrArg Value.bool d0) ?_
  repeat' (first|refine yX ?_|fail)
  exact zO (M:=_) rfl H ⟨rfl,fun h=>absurd h (show(5:Int)≠0 by decide)⟩
end
end
section
open Go Go.Sk Go.RowKit Tryz
attribute [local irreducible] Go.Calls
theorem zO0 {x y:Nat × Obj}{A B C D:zB}:(x::y::(A++(B++(C++D)))).Perm (C++(x::y::(A++(B++D)))):=by
 have:=(List.perm_append_comm (l₁:=x::y::(A++B)) (l₂:=C)).append_right D
 simpa only[List.cons_append,List.append_assoc] using this
def adN (ad:Nat→Option Addr × Nat)(k:Nat)(j:Nat):Option Addr × Nat:=if j<k then ad j else(none,0)
theorem zVH {l:List Auc}{ad:Nat→Option Addr × Nat}{x:Auc}:(List.range l.length).flatMap (ael l ad)++x.cells none 0=(List.range (l++[x]).length).flatMap (ael (l++[x]) (adN ad l.length)):=by
 rw[List.length_append,List.length_singleton,List.range_succ,List.flatMap_append,List.flatMap_singleton]
 congr 1
 ·have:∀ j∈List.range l.length,ael l ad j=ael (l++[x]) (adN ad l.length) j:=fun j hj=>by
   have hj:=List.mem_range.1 hj
   unfold ael adN
   rw[if_pos hj,List.getD_eq_getElem?_getD,List.getD_eq_getElem?_getD,List.getElem?_append_left hj]
  rw[List.flatMap_def,List.flatMap_def,List.map_congr_left this]
 ·unfold ael adN
  rw[if_neg (Nat.lt_irrefl _),List.getD_eq_getElem?_getD,List.getElem?_append_right (Nat.le_refl _),Nat.sub_self]
  rfl
section
variable {F G:zB}{bm:Nat}{s:Sta}{p:SPt}{n:List Int}{na:Option Addr}{nc:Nat}{t:ByteArray}{Ma Mi Mu R:zB}
theorem zO1 {w0 w:World}(x:Auc)(hx1:x.seller=nF n 1)(hx2:x.inst=nF n 2)(hx0:x.bids=[])(hq:0≤x.qty∧x.qty≤1125899906842624)(hLt:LtS s)(hW:WfR s)(hl:3≤n.length)(hi:1≤nF n 2∧nF n 2≤1000)(hT:∀ j,j<s.insts.length→1≤(in_ s.insts j).tick)(hno:0≤s.nextA∧s.nextA≤4611686018427387904)(H:St w0 (mkL bm (mkc s p n na nc t) Ma Mi Mu R) w)(hC:Cps s p Ma Mi Mu R)(hF:Mem w0 F)(hN:Ints F na nc n) :
  Calls prog 226 [.pointer (some ⟨bm,0,none⟩),.agg (x.cells none 0).toArray].toArray w (zf (zB2 bm n na nc t (zDA s x)) w0):=by
 have eP:zDA s x=if x.id≠s.nextA∨x.fin≤s.clock then(s,46) else if zAR s (nF n 1) (nF n 2) 0 (decide (32≤s.aucs.length))≠0 then(s,zAR s (nF n 1) (nF n 2) 0 (decide (32≤s.aucs.length))) else if (zAY s x.seller x.inst x.qty).2≠0 then zAY s x.seller x.inst x.qty else({ (zAY s x.seller x.inst x.qty).1 with aucs:=s.aucs++[x],nextA:=s.nextA+1 },0):=by rw[← hx1,← hx2];rfl
 have hlen:decide ((s.aucs.length:Int) ≥ 32)=decide (32≤s.aucs.length):=by
  rw[Bool.eq_iff_iff,decide_eq_true_iff,decide_eq_true_iff];omega
 rw[eP,← hlen]
 clear hlen eP
 have hmay:=fun w (G:zB) (hG:Mem w G) (hM:Mkt G bm s p n na nc t)=>zNj 1 2 qO qO hi hT 0 qO (decide ((s.aucs.length:Int) ≥ 32)) w hG hM
 by_cases h0:x.id≠s.nextA
 ·have d0:(x.id != s.nextA)=true:=by simpa using h0
  rw[if_pos (.inl h0)]
  refine eN func226 ntmps226 ?_
  repeat' (first|refine yX ?_|(refine yB ?_;intro b w H)|(refine CW.regionL mixed 18 (z6 (x:=cb _ (x.cells none 0) 86) (y:=cb bm (mkc s p n na nc t) 182) H hF) [] ?_ ?_;exact rfl;refine wQ H ?_;clear H;intro w H;have qh:=z6 (x:=cb _ (x.cells none 0) 86) (y:=cb bm (mkc s p n na nc t) 182) H hF;refine lT sg 0 qh ?_;refine' l1 1 qh ?_ ?_;rotate_left;(exact z3 sg);refine lT sg 2 qh ?_;refine lT sg 3 qh ?_;refine lT sg 4 qh ?_;refine lT sg 5 qh ?_;refine' l1 6 qh ?_ ?_;rotate_left;(exact z3 sg);refine' l1 7 qh ?_ ?_;rotate_left;(intro w2 _;refine' zCE sg ?_ w2;exact congrArg (fun x=>some (Value.bool x)) d0);refine lT sg 8 qh ?_;refine l8 9 qh ?_;refine l8 10 qh ?_;refine l8 11 qh ?_;refine l8 12 qh ?_;refine l8 13 qh ?_;refine l8 14 qh ?_;refine l8 15 qh ?_;refine l8 16 qh ?_)|refine lN ?_|refine l2 17 ?_|(refine l5 (z6 H hF) ?_)|fail)
  exact zO (M:=_) rfl H ⟨rfl,fun h=>absurd h (show(46:Int)≠0 by decide)⟩
 have d0:(x.id != s.nextA)=false:=by simpa using h0
 by_cases h1:x.fin≤s.clock
 ·have d1:decide (x.fin≤s.clock)=true:=decide_eq_true h1
  rw[if_pos (.inr h1)]
  refine eN func226 ntmps226 ?_
  repeat' (first|refine yX ?_|(refine yB ?_;intro b w H)|(refine CW.regionL mixed 18 (z6 (x:=cb _ (x.cells none 0) 86) (y:=cb bm (mkc s p n na nc t) 182) H hF) [] ?_ ?_;exact rfl;refine wQ H ?_;clear H;intro w H;have qh:=z6 (x:=cb _ (x.cells none 0) 86) (y:=cb bm (mkc s p n na nc t) 182) H hF;refine lT sg 0 qh ?_;refine' l1 1 qh ?_ ?_;rotate_left;(exact z3 sg);refine lT sg 2 qh ?_;refine lT sg 3 qh ?_;refine lT sg 4 qh ?_;refine lT sg 5 qh ?_;refine' l1 6 qh ?_ ?_;rotate_left;(exact z3 sg);refine' l1 7 qh ?_ ?_;rotate_left;(intro w2 _;refine' zCE sg ?_ w2;exact congrArg (fun x=>some (Value.bool x)) d0);refine lT sg 8 qh ?_;refine' l7 9 qh ?_ ?_;rotate_left;(exact z4 sg);refine' l7 10 qh ?_ ?_;rotate_left;(exact z3 sg);refine' l7 11 qh ?_ ?_;rotate_left;(exact z4 sg);refine' l7 12 qh ?_ ?_;rotate_left;(exact z4 sg);refine' l7 13 qh ?_ ?_;rotate_left;(exact z4 sg);refine' l7 14 qh ?_ ?_;rotate_left;(exact z4 sg);refine' l7 15 qh ?_ ?_;rotate_left;(exact z3 sg);refine' l7 16 qh ?_ ?_;rotate_left;(exact z4 sg))|refine lN ?_|refine l2 17 ?_|(refine l5 (z6 H hF) ?_)|fail)
  refine CW.condT (congrArg Value.bool d1) ?_
  repeat' (first|refine yX ?_|fail)
  exact zO (M:=_) rfl H ⟨rfl,fun h=>absurd h (show(46:Int)≠0 by decide)⟩
 have d1:decide (x.fin≤s.clock)=false:=decide_eq_false h1
 rw[if_neg (fun h=>h.elim h0 h1)]
 refine eN func226 ntmps226 ?_
 repeat' (first|refine yX ?_|(refine yB ?_;intro b w H)|(refine CW.regionL mixed 18 (z6 (x:=cb _ (x.cells none 0) 86) (y:=cb bm (mkc s p n na nc t) 182) H hF) [] ?_ ?_;exact rfl;refine wQ H ?_;clear H;intro w H;have qh:=z6 (x:=cb _ (x.cells none 0) 86) (y:=cb bm (mkc s p n na nc t) 182) H hF;refine lT sg 0 qh ?_;refine' l1 1 qh ?_ ?_;rotate_left;(exact z3 sg);refine lT sg 2 qh ?_;refine lT sg 3 qh ?_;refine lT sg 4 qh ?_;refine lT sg 5 qh ?_;refine' l1 6 qh ?_ ?_;rotate_left;(exact z3 sg);refine' l1 7 qh ?_ ?_;rotate_left;(intro w2 _;refine' zCE sg ?_ w2;exact congrArg (fun x=>some (Value.bool x)) d0);refine lT sg 8 qh ?_;refine' l7 9 qh ?_ ?_;rotate_left;(exact z4 sg);refine' l7 10 qh ?_ ?_;rotate_left;(exact z3 sg);refine' l7 11 qh ?_ ?_;rotate_left;(exact z4 sg);refine' l7 12 qh ?_ ?_;rotate_left;(exact z4 sg);refine' l7 13 qh ?_ ?_;rotate_left;(exact z4 sg);refine' l7 14 qh ?_ ?_;rotate_left;(exact z4 sg);refine' l7 15 qh ?_ ?_;rotate_left;(exact z3 sg);refine' l7 16 qh ?_ ?_;rotate_left;(exact z4 sg))|refine lN ?_|refine l2 17 ?_|(refine l5 (z6 H hF) ?_)|fail)
 refine CW.condF (congrArg Value.bool d1) ?_
 by_cases h2:zAR s (nF n 1) (nF n 2) 0 (decide ((s.aucs.length:Int) ≥ 32))≠0
 ·have d2:(zAR s (nF n 1) (nF n 2) 0 (decide ((s.aucs.length:Int) ≥ 32)) != 0)=true:=by simpa using h2
  rw[if_pos h2]
  repeat' (first|refine yX ?_|(refine c0 zJw ?_;refine⟨_,hmay _ _ (H.all hF) (zg hC hLt hN),?_⟩;clear H;intro w H)|fail)
  refine CW.condT (congrArg Value.bool d2) ?_
  repeat' (first|refine yX ?_|fail)
  exact zO (M:=_) rfl H ⟨rfl,fun h=>absurd h h2⟩
 have d2:(zAR s (nF n 1) (nF n 2) 0 (decide ((s.aucs.length:Int) ≥ 32)) != 0)=false:=by simpa using h2
 rw[if_neg h2]
 repeat' (first|refine yX ?_|(refine c0 zJw ?_;refine⟨_,hmay _ _ (H.all hF) (zg hC hLt hN),?_⟩;clear H;intro w H)|fail)
 refine CW.condF (congrArg Value.bool d2) ?_
 obtain⟨rs,hrs⟩:∃ rs,(zAY s x.seller x.inst x.qty).1={ s with rows:=rs }:=zDJ _ _
 repeat' (first|refine yX ?_|(replace H:=H.perm (zCK [_]);refine zY rfl rfl (En.fn zMl rfl rfl) (c_holds hLt hW x.seller x.inst x.qty qO H (hC.mono (List.subset_append_left _ _))) ?_;rintro _ _ w ⟨rfl,p',M',rfl,hC'⟩ H2;clear H;have H:=H2;clear H2)|fail)
 by_cases h3:(zAY s x.seller x.inst x.qty).2≠0
 ·have d3:((zAY s x.seller x.inst x.qty).2 != 0)=true:=by simpa using h3
  rw[if_pos h3]
  refine CW.condT (congrArg Value.bool d3) ?_
  repeat' (first|refine yX ?_|fail)
  exact zO (M:=_) rfl H ⟨rfl,fun h=>absurd h h3⟩
 have d3:((zAY s x.seller x.inst x.qty).2 != 0)=false:=by simpa using h3
 rw[if_neg h3,hrs]
 refine CW.condF (congrArg Value.bool d3) ?_
 rw[hrs] at H hC'
 have hac:=hLt.au
 have hOi:Go.Sk.Own Mu 86 9 p'.auA s.aucs.length p'.auC ((List.range s.aucs.length).flatMap (ael s.aucs p'.ad)):=hC'.au
 repeat' (first|refine yX ?_|(refine y11 sg H ?_;intro w H)|(refine CW.regionL mixed 13 (z6 (x:=cb _ (x.cells none 0) 86) (y:=cb bm (mkc { s with rows:=rs } p' n na nc t) 182) H hF (hx:=by first|exact zy (zz2 _)|exact zz4 _ (zy (zz2 _)))) [9,10,11,12] ?_ ?_;exact rfl;refine wQ H ?_;clear H;intro w H;have qh:=z6 (x:=cb _ (x.cells none 0) 86) (y:=cb bm (mkc { s with rows:=rs } p' n na nc t) 182) H hF (hx:=by first|exact zy (zz2 _)|exact zz4 _ (zy (zz2 _)));refine lT sg 0 qh ?_;refine lT sg 1 qh ?_;refine lT sg 2 qh ?_;refine lT sg 3 qh ?_;refine lT sg 4 qh ?_;refine' l1 5 qh ?_ ?_;rotate_left;(exact z3 sg);refine' l1 6 qh ?_ ?_;rotate_left;(exact z3 sg))|refine lN ?_|(refine' l6 9 ?_ ?_;rotate_left;exact z9 sg)|(refine' l6 10 ?_ ?_;rotate_left;exact z9 sg)|(refine' l6 11 ?_ ?_;rotate_left;exact z9 sg)|refine l3 12 ?_|refine l2 7 ?_|refine l2 8 ?_|(refine l5 (z6 H hF (hx:=by first|exact zy (zz2 _)|exact zz4 _ (zy (zz2 _)))) ?_)|(refine zBA sg H ?_;intro b w H _)|(have hp:=H.perm zO0;refine zc sg 9 96 (M:=Mu) hp rfl rfl rfl rfl rfl rfl rfl rfl rfl rfl rfl hOi (zn hp.mem (zz3 _ (zz2 _))) rfl (zAB rfl) (show s.aucs.length+1≤maxLen by unfold maxLen;omega) (show(s.aucs.length+1)*96≤140737488355328 by omega) ?_;clear hp H;intro a1 c1 M1 w O1 H;replace H:=H.perm zO0.symm)|fail)
 have O2:Go.Sk.Own M1 86 9 a1 (s.aucs.length+1) c1 ((List.range s.aucs.length).flatMap (ael s.aucs p'.ad)++x.cells none 0):=O1
 have hlen:s.aucs.length+1=(s.aucs++[x]).length:=by simp
 have hn:IntKind.i64.wrap (s.nextA+1)=s.nextA+1:=w64 qO qO
 rw[zVH,hlen] at O2
 rw[hlen,hn] at H
 exact zO (M:=mkL bm (mkc { s with rows:=rs,aucs:=s.aucs++[x],nextA:=s.nextA+1 } { p' with auA:=a1,auC:=c1,ad:=adN p'.ad s.aucs.length } n na nc t) Ma Mi M1 ((R++[_])++M')) rfl (H.sub (zz7 _ _)) ⟨rfl,fun _=>⟨{ p' with auA:=a1,auC:=c1,ad:=adN p'.ad s.aucs.length },Ma,Mi,M1,_,rfl,hC'.ac,hC'.ins,hC'.rw,hC'.od,O2,fun j hj=>by
  by_cases g:j<s.aucs.length
  ·show Bids _ (adN p'.ad s.aucs.length j).1 (adN p'.ad s.aucs.length j).2 ((s.aucs++[x]).getD j default).bids
   have e:(s.aucs++[x]).getD j default=s.aucs.getD j default:=by
    rw[List.getD_eq_getElem?_getD,List.getD_eq_getElem?_getD,List.getElem?_append_left g]
   rw[e,show adN p'.ad s.aucs.length j=p'.ad j from if_pos g]
   exact hC'.bd j g
  ·obtain rfl:j=s.aucs.length:=by rw[← hlen] at hj;omega
   show Bids _ (adN p'.ad s.aucs.length s.aucs.length).1 (adN p'.ad s.aucs.length s.aucs.length).2 ((s.aucs++[x]).getD s.aucs.length default).bids
   have e:(s.aucs++[x]).getD s.aucs.length default=x:=by
    rw[List.getD_eq_getElem?_getD,List.getElem?_append_right (Nat.le_refl _),Nat.sub_self];rfl
   rw[e,show adN p'.ad s.aucs.length s.aucs.length=(none,0) from if_neg (Nat.lt_irrefl _),hx0]
   exact SlA.nil⟩⟩
end
end
section
open Go Go.Sk Go.RowKit Tryz
attribute [local irreducible] Go.Calls
section
variable {F G:zB}{bm:Nat}{s:Sta}{p:SPt}{n:List Int}{na:Option Addr}{nc:Nat}{t:ByteArray}{Ma Mi Mu R:zB}
theorem zQN {w0 w:World}(hq:0≤nF n 3∧nF n 3≤1125899906842624)(hLt:LtS s)(hW:WfR s)(hl:7≤n.length)(hi:1≤nF n 2∧nF n 2≤1000)(hT:∀ j,j<s.insts.length→1≤(in_ s.insts j).tick)(hno:0≤s.nextA∧s.nextA≤4611686018427387904)(H:St w0 (mkL bm (mkc s p n na nc t) Ma Mi Mu R) w)(hC:Cps s p Ma Mi Mu R)(hF:Mem w0 F)(hN:Ints F na nc n) :
  Calls prog 165 [.pointer (some ⟨bm,0,none⟩)].toArray w (zf (zB2 bm n na nc t (zDA s ⟨nF n 0,nF n 1,nF n 2,false,nF n 3,nF n 4,nF n 5,nF n 6,[]⟩)) w0):=by
 obtain⟨hn2,hc2,b2,off2,cs2,T2,fr2,hs2⟩:=id hN
 have hs2F:=hs2.mono (List.subset_cons_self (cb bm (mkc s p n na nc t) 182) F)
 refine eN func165 ntmps165 ?_
 repeat' (first|refine yX ?_|(refine c0 zAz ?_;refine⟨_,zA2 1 qO _ (H.all hF) (zg hC hLt hN),?_⟩;clear H;intro w H)|(refine CW.regionL mixed 42 (z6s (x:=cb bm (mkc s p n na nc t) 182) H hF) [40,41] ?_ ?_;exact rfl;refine wQ H ?_;clear H;intro w H;have qh:=z6s (x:=cb bm (mkc s p n na nc t) 182) H hF;refine lT sg 0 qh ?_;refine lT sg 1 qh ?_;refine lT sg 2 qh ?_;refine lT sg 3 qh ?_;refine' l1 4 qh ?_ ?_;rotate_left;(exact z3 sg);refine' l1 5 qh ?_ ?_;rotate_left;(exact(zQ sg hs2));refine' l1 6 qh ?_ ?_;rotate_left;(exact(zK sg hs2F (show 0<n.length by omega)));refine lT sg 7 qh ?_;refine lT sg 9 qh ?_;refine lT sg 10 qh ?_;refine lT sg 11 qh ?_;refine' l1 12 qh ?_ ?_;rotate_left;(exact z3 sg);refine' l1 13 qh ?_ ?_;rotate_left;(exact(zQ sg hs2));refine' l1 14 qh ?_ ?_;rotate_left;(exact(zK sg hs2F (show 2<n.length by omega)));refine lT sg 15 qh ?_;refine lT sg 16 qh ?_;refine lT sg 17 qh ?_;refine' l1 18 qh ?_ ?_;rotate_left;(exact z3 sg);refine' l1 19 qh ?_ ?_;rotate_left;(exact(zQ sg hs2));refine' l1 20 qh ?_ ?_;rotate_left;(exact(zK sg hs2F (show 3<n.length by omega)));refine lT sg 21 qh ?_;refine lT sg 22 qh ?_;refine lT sg 23 qh ?_;refine' l1 24 qh ?_ ?_;rotate_left;(exact z3 sg);refine' l1 25 qh ?_ ?_;rotate_left;(exact(zQ sg hs2));refine' l1 26 qh ?_ ?_;rotate_left;(exact(zK sg hs2F (show 4<n.length by omega)));refine lT sg 27 qh ?_;refine lT sg 28 qh ?_;refine lT sg 29 qh ?_;refine' l1 30 qh ?_ ?_;rotate_left;(exact z3 sg);refine' l1 31 qh ?_ ?_;rotate_left;(exact(zQ sg hs2));refine' l1 32 qh ?_ ?_;rotate_left;(exact(zK sg hs2F (show 5<n.length by omega)));refine lT sg 33 qh ?_;refine lT sg 34 qh ?_;refine lT sg 35 qh ?_;refine' l1 36 qh ?_ ?_;rotate_left;(exact z3 sg);refine' l1 37 qh ?_ ?_;rotate_left;(exact(zQ sg hs2));refine' l1 38 qh ?_ ?_;rotate_left;(exact(zK sg hs2F (show 6<n.length by omega))))|refine lN ?_|refine l3 40 ?_|refine l3 41 ?_|refine l2 8 ?_|refine l2 39 ?_|(refine l5 (z6s H hF) ?_)|(refine zY rfl rfl (En.fn zRP rfl rfl) (zO1 ⟨nF n 0,nF n 1,nF n 2,false,nF n 3,nF n 4,nF n 5,nF n 6,[]⟩ rfl rfl rfl hq hLt hW qO hi hT hno H hC hF hN) ?_;rintro _ _ w ⟨rfl,hR2⟩ H2;clear H;have H:=H2;clear H2)|fail)
 exact zO (M:=_) rfl H ⟨rfl,hR2⟩
theorem zTG {w0 w:World}(hq:0≤nF n 3∧nF n 3≤1125899906842624)(hLt:LtS s)(hW:WfR s)(hl:6≤n.length)(hi:1≤nF n 2∧nF n 2≤1000)(hT:∀ j,j<s.insts.length→1≤(in_ s.insts j).tick)(hno:0≤s.nextA∧s.nextA≤4611686018427387904)(H:St w0 (mkL bm (mkc s p n na nc t) Ma Mi Mu R) w)(hC:Cps s p Ma Mi Mu R)(hF:Mem w0 F)(hN:Ints F na nc n) :
  Calls prog 167 [.pointer (some ⟨bm,0,none⟩)].toArray w (zf (zB2 bm n na nc t (zDA s ⟨nF n 0,nF n 1,nF n 2,true,nF n 3,nF n 4,0,nF n 5,[]⟩)) w0):=by
 obtain⟨hn2,hc2,b2,off2,cs2,T2,fr2,hs2⟩:=id hN
 have hs2F:=hs2.mono (List.subset_cons_self (cb bm (mkc s p n na nc t) 182) F)
 refine eN func167 ntmps167 ?_
 repeat' (first|refine yX ?_|(refine c0 zAz ?_;refine⟨_,zA2 1 qO _ (H.all hF) (zg hC hLt hN),?_⟩;clear H;intro w H)|(refine CW.regionL mixed 36 (z6s (x:=cb bm (mkc s p n na nc t) 182) H hF) [34,35] ?_ ?_;exact rfl;refine wQ H ?_;clear H;intro w H;have qh:=z6s (x:=cb bm (mkc s p n na nc t) 182) H hF;refine lT sg 0 qh ?_;refine lT sg 1 qh ?_;refine lT sg 2 qh ?_;refine lT sg 3 qh ?_;refine' l1 4 qh ?_ ?_;rotate_left;(exact z3 sg);refine' l1 5 qh ?_ ?_;rotate_left;(exact(zQ sg hs2));refine' l1 6 qh ?_ ?_;rotate_left;(exact(zK sg hs2F (show 0<n.length by omega)));refine lT sg 7 qh ?_;refine lT sg 9 qh ?_;refine lT sg 10 qh ?_;refine lT sg 11 qh ?_;refine' l1 12 qh ?_ ?_;rotate_left;(exact z3 sg);refine' l1 13 qh ?_ ?_;rotate_left;(exact(zQ sg hs2));refine' l1 14 qh ?_ ?_;rotate_left;(exact(zK sg hs2F (show 2<n.length by omega)));refine lT sg 15 qh ?_;refine lT sg 16 qh ?_;refine lT sg 17 qh ?_;refine' l1 18 qh ?_ ?_;rotate_left;(exact z3 sg);refine' l1 19 qh ?_ ?_;rotate_left;(exact(zQ sg hs2));refine' l1 20 qh ?_ ?_;rotate_left;(exact(zK sg hs2F (show 3<n.length by omega)));refine lT sg 21 qh ?_;refine lT sg 22 qh ?_;refine lT sg 23 qh ?_;refine' l1 24 qh ?_ ?_;rotate_left;(exact z3 sg);refine' l1 25 qh ?_ ?_;rotate_left;(exact(zQ sg hs2));refine' l1 26 qh ?_ ?_;rotate_left;(exact(zK sg hs2F (show 4<n.length by omega)));refine lT sg 27 qh ?_;refine lT sg 28 qh ?_;refine lT sg 29 qh ?_;refine' l1 30 qh ?_ ?_;rotate_left;(exact z3 sg);refine' l1 31 qh ?_ ?_;rotate_left;(exact(zQ sg hs2));refine' l1 32 qh ?_ ?_;rotate_left;(exact(zK sg hs2F (show 5<n.length by omega))))|refine lN ?_|refine l3 34 ?_|refine l3 35 ?_|refine l2 8 ?_|refine l2 33 ?_|(refine l5 (z6s H hF) ?_)|(refine zY rfl rfl (En.fn zRP rfl rfl) (zO1 ⟨nF n 0,nF n 1,nF n 2,true,nF n 3,nF n 4,0,nF n 5,[]⟩ rfl rfl rfl hq hLt hW qO hi hT hno H hC hF hN) ?_;rintro _ _ w ⟨rfl,hR2⟩ H2;clear H;have H:=H2;clear H2)|fail)
 exact zO (M:=_) rfl H ⟨rfl,hR2⟩
end
end
section
open Go Go.Sk Go.RowKit Tryz
attribute [local irreducible] Go.Calls
section
variable {F G:zB}{bm:Nat}{s:Sta}{p:SPt}{n:List Int}{na:Option Addr}{nc:Nat}{t:ByteArray}{Ma Mi Mu R:zB}
theorem zNk (x:Auc)(a:Option Addr)(cap:Nat)(b1:Nat){T1:TypeId}(hi:0<n.length)(w0:World)(hG:Mem w0 G)(hm:cb b1 [Value.pointer (some ⟨bm,0,none⟩)] T1∈G)(hM:Mkt G bm s p n na nc t) :
  Calls prog 263 [.agg (x.cells a cap).toArray,.pointer (some ⟨b1,0,none⟩)].toArray w0 (Ret (.bool (x.id==nF n 0)) w0):=by
 obtain⟨hn2,hc2,b2,off2,cs2,T2,fr2,hs2⟩:=hM.num
 refine eN func263 ntmps263 ?_
 have H:=zA w0
 repeat' (first|refine yX ?_|(refine yB ?_;intro b w H)|(refine CW.regionL mixed 10 (z6s (x:=cb _ (x.cells a cap) 86) H hG) [] ?_ ?_;exact rfl;refine wQ H ?_;clear H;intro w H;have qh:=z6s (x:=cb _ (x.cells a cap) 86) H hG;refine lT sg 0 qh ?_;refine' l1 1 qh ?_ ?_;rotate_left;(exact z3 sg);refine' l1 2 qh ?_ ?_;rotate_left;(exact(fun w2 hM2=>zH sg rfl rfl hM2 (zz4 _ hm) rfl rfl));refine lT sg 3 qh ?_;refine lT sg 4 qh ?_;refine' l1 5 qh ?_ ?_;rotate_left;(exact(fun w2 hM2=>zH sg rfl rfl hM2 (zz4 _ hM.blk) rfl rfl));refine' l1 6 qh ?_ ?_;rotate_left;(exact(zQ sg hs2));refine' l1 7 qh ?_ ?_;rotate_left;(exact(zK sg (hs2.mono (List.subset_cons_self _ G)) hi));refine lT sg 8 qh ?_;refine lT sg 9 qh ?_)|refine lN ?_|fail)
 exact zP rfl H.cl rfl
theorem zGy (hi:0<n.length)(hl:s.aucs.length≤100000)(w0:World)(hG:Mem w0 G)(hM:Mkt G bm s p n na nc t) :
  Calls prog 228 [.pointer (some ⟨bm,0,none⟩)].toArray w0 (Ret (.int .i64 (zAJ s (nF n 0))) w0):=by
 refine eN func228 ntmps228 ?_
 have H:=zA w0
 have hix:=fun w (b:Nat) (hG':Mem w (cb b [Value.pointer (some ⟨bm,0,none⟩)] 180::G))=>zD8 (caps:=[.pointer (some ⟨b,0,none⟩)]) (fun j=>(s.aucs.getD j default).id==nF n 0) w hG' (SlA.mono hM.sta.au.1 (List.subset_cons_self _ G)) ent263 (fun j hj w' hw=>zNk (s.aucs.getD j default) _ _ b hi w' (hG'.ext hw) (zz2 _) ⟨zz4 _ hM.blk,hM.sta.mono (List.subset_cons_self _ G),SlA.mono hM.num (List.subset_cons_self _ G)⟩)
 repeat' (first|refine yX ?_|(refine yB ?_;intro b w H)|refine z13 (zH sg rfl rfl (H.memF hG) hM.blk rfl rfl) ?_|(refine c0 zLG ?_;refine⟨_,hix _ _ (H.all hG),?_⟩;clear H;intro w H)|fail)
 exact zP rfl H.cl rfl
end
end
section
open Go Go.Sk Go.RowKit Tryz
attribute [local irreducible] Go.Calls
theorem zMA (l:List Row4)(a q:Int):-4611686018427387904≤zAg l a q∧zAg l a q≤4611686018427387904:=by
 unfold zAg zMw zB5
 split
 ·exact⟨(show(-4611686018427387904:Int)≤0 by decide),(show(0:Int)≤4611686018427387904 by decide)⟩
 ·show -4611686018427387904≤(atR l (a,q)).1+(atR l (a,q)).2∧(atR l (a,q)).1+(atR l (a,q)).2≤4611686018427387904
  omega
theorem zO2 {q z:Int}(h1:0≤q)(h3:0≤z∧z≤1000):0≤(zBh q z).1∧(zBh q z).1≤q:=by
 have e1:q*z≤q*1000:=Int.mul_le_mul_of_nonneg_left h3.2 h1
 have e2:0≤q*z:=Int.mul_nonneg h1 h3.1
 unfold zBh
 split
 ·exact⟨Int.le_refl 0,h1⟩
 ·split
  ·exact⟨Int.le_refl 0,h1⟩
  ·show 0≤q*z / 10000∧q*z / 10000≤q
   generalize q*z=y at e1 e2
   omega
section
variable {F G:zB}{bm:Nat}{s:Sta}{p:SPt}{n:List Int}{na:Option Addr}{nc:Nat}{t:ByteArray}{Ma Mi Mu R:zB}
theorem zGz {a:Option Addr}{cap:Nat}(x:Auc)(h64:R64 s.rows)(hfe:0≤s.fee∧s.fee≤1000)(hq:0≤x.qty∧x.qty≤1125899906842624)(hwa:0≤(zL x).1.amount∧(zL x).1.amount≤1125899906842624)(w0:World)(hG:Mem w0 G)(hM:Mkt G bm s p n na nc t)(hs:Bids G a cap x.bids) :
  Calls prog 208 [.pointer (some ⟨bm,0,none⟩),.agg (x.cells a cap).toArray].toArray w0 (Ret (.tuple #[.agg (zM s x).1.cells.toArray,.int .i64 (zM s x).2.1,.bool (zM s x).2.2]) w0):=by
 have htot:=fun w (a q:Int) (hG:Mem w G)=>zLX s.rows h64 a q w hG hM.sta.rw
 by_cases h0:(zL x).2=true
 ·have e0:zM s x=if zAg s.rows x.seller 0+(zL x).1.amount - (zBh (zL x).1.amount s.fee).1>1125899906842624∨zAg s.rows (zL x).1.acct x.inst+x.qty>1125899906842624 then(Bid.zero,0,false) else((zL x).1,(zBh (zL x).1.amount s.fee).1,true):=by unfold zM;rw[if_pos h0]
  have t1:=zMA s.rows x.seller 0
  have t2:=zMA s.rows (zL x).1.acct x.inst
  have f1:=zO2 hwa.1 hfe
  have e1:IntKind.i64.wrap (IntKind.i64.wrap (zAg s.rows x.seller 0+(zL x).1.amount) - (zBh (zL x).1.amount s.fee).1)=zAg s.rows x.seller 0+(zL x).1.amount - (zBh (zL x).1.amount s.fee).1:=by
   have ea:IntKind.i64.wrap (zAg s.rows x.seller 0+(zL x).1.amount)=zAg s.rows x.seller 0+(zL x).1.amount:=w64 qO qO
   rw[ea]
   exact w64 qO qO
  have e2:IntKind.i64.wrap (zAg s.rows (zL x).1.acct x.inst+x.qty)=zAg s.rows (zL x).1.acct x.inst+x.qty:=w64 qO qO
  rw[e0]
  by_cases hA:zAg s.rows x.seller 0+(zL x).1.amount - (zBh (zL x).1.amount s.fee).1>1125899906842624
  ·have d0:decide (IntKind.i64.wrap (IntKind.i64.wrap (zAg s.rows x.seller 0+(zL x).1.amount) - (zBh (zL x).1.amount s.fee).1)>1125899906842624)=true:=by rw[e1];exact decide_eq_true hA
   rw[if_pos (.inl hA)]
   refine eN func208 ntmps208 ?_
   have H:=zA w0
   repeat' (first|refine yW ?_|(refine yB ?_;intro b w H)|(refine y11 sg H ?_;intro w H)|(refine c0 zJz ?_;refine⟨_,zGC x _ (H.memF hG) hs,?_⟩;clear H;intro w H)|(refine CW.regionL mixed 12 (z6s (x:=cb _ (zL x).1.cells 136) H hG) [] ?_ ?_;exact rfl;refine wQ H ?_;clear H;intro w H;have qh:=z6s (x:=cb _ (zL x).1.cells 136) H hG;refine lT sg 0 qh ?_;refine' l1 1 qh ?_ ?_;rotate_left;(exact z3 sg);refine lT sg 2 qh ?_;refine lT sg 3 qh ?_;refine lT sg 4 qh ?_;refine lT sg 5 qh ?_;refine' l1 6 qh ?_ ?_;rotate_left;(exact(fun w2 hM2=>zH sg rfl rfl hM2 (zz4 _ hM.blk) rfl rfl)))|refine lN ?_|(refine lT sg 8 (z6s H hG) ?_)|(refine lT sg 9 (z6s H hG) ?_)|(refine lT sg 10 (z6s H hG) ?_)|(refine lT sg 11 (z6s H hG) ?_)|refine l2 7 ?_|(refine l5 (z6s H hG) ?_)|(refine CW.regionL mixed 30 (z6 (x:=cb _ (zL x).1.cells 136) (y:=cb _ (x.cells a cap) 86) H hG) [] ?_ ?_;exact rfl;refine wQ H ?_;clear H;intro w H;have qh:=z6 (x:=cb _ (zL x).1.cells 136) (y:=cb _ (x.cells a cap) 86) H hG;refine lT sg 0 qh ?_;refine lT sg 1 qh ?_;refine lT sg 2 qh ?_;refine lT sg 3 qh ?_;refine' l1 4 qh ?_ ?_;rotate_left;(exact(fun w2 hM2=>zH sg rfl rfl hM2 (zz4 _ (zz4 _ hM.blk)) rfl rfl));refine lT sg 5 qh ?_;refine' l1 6 qh ?_ ?_;rotate_left;(exact z3 sg);refine lT sg 8 qh ?_;refine' l1 9 qh ?_ ?_;rotate_left;(exact z3 sg);refine lT sg 11 qh ?_)|(refine lT sg 10 (z6 H hG) ?_)|(refine lT sg 12 (z6 H hG) ?_)|(refine' l1 13 (z6 H hG) ?_ ?_;rotate_left;(intro w2 _;refine' zCE sg ?_ w2;exact congrArg (fun x=>some (Value.bool x)) d0))|(refine lT sg 14 (z6 H hG) ?_)|(refine l8 15 (z6 H hG) ?_)|(refine l8 16 (z6 H hG) ?_)|(refine l8 17 (z6 H hG) ?_)|(refine l8 18 (z6 H hG) ?_)|(refine l8 19 (z6 H hG) ?_)|(refine l8 20 (z6 H hG) ?_)|(refine l8 21 (z6 H hG) ?_)|(refine l8 22 (z6 H hG) ?_)|(refine l8 23 (z6 H hG) ?_)|(refine l8 25 (z6 H hG) ?_)|(refine l8 26 (z6 H hG) ?_)|(refine l8 27 (z6 H hG) ?_)|(refine l8 28 (z6 H hG) ?_)|refine l2 24 ?_|refine l2 29 ?_|(refine l5 (z6 H hG) ?_)|(refine c0 zHt ?_;refine⟨_,zIY (zL x).1.amount s.fee qO qO qO qO _,?_⟩;clear H;intro w H)|(refine c0 zOD ?_;refine⟨_,htot _ _ _ (H.memF hG),?_⟩;clear H;intro w H)|(refine y23 ?_ ?_;all_goals(intro h;try (exfalso;first|((rw[h0] at h;cases h);done))))|fail)
   all_goals exact zA7 (vs:=[_,_,_]) ⟨zm sg rfl H.mem (zz2 _) rfl rfl,zW rfl,zW rfl,trivial⟩ H.cl rfl
  ·have d0:decide (IntKind.i64.wrap (IntKind.i64.wrap (zAg s.rows x.seller 0+(zL x).1.amount) - (zBh (zL x).1.amount s.fee).1)>1125899906842624)=false:=by rw[e1];exact decide_eq_false hA
   by_cases hB:zAg s.rows (zL x).1.acct x.inst+x.qty>1125899906842624
   ·have d1:decide (IntKind.i64.wrap (zAg s.rows (zL x).1.acct x.inst+x.qty)>1125899906842624)=true:=by rw[e2];exact decide_eq_true hB
    rw[if_pos (.inr hB)]
    refine eN func208 ntmps208 ?_
    have H:=zA w0
    repeat' (first|refine yW ?_|(refine yB ?_;intro b w H)|(refine y11 sg H ?_;intro w H)|(refine c0 zJz ?_;refine⟨_,zGC x _ (H.memF hG) hs,?_⟩;clear H;intro w H)|(refine CW.regionL mixed 12 (z6s (x:=cb _ (zL x).1.cells 136) H hG) [] ?_ ?_;exact rfl;refine wQ H ?_;clear H;intro w H;have qh:=z6s (x:=cb _ (zL x).1.cells 136) H hG;refine lT sg 0 qh ?_;refine' l1 1 qh ?_ ?_;rotate_left;(exact z3 sg);refine lT sg 2 qh ?_;refine lT sg 3 qh ?_;refine lT sg 4 qh ?_;refine lT sg 5 qh ?_;refine' l1 6 qh ?_ ?_;rotate_left;(exact(fun w2 hM2=>zH sg rfl rfl hM2 (zz4 _ hM.blk) rfl rfl)))|refine lN ?_|(refine lT sg 8 (z6s H hG) ?_)|(refine lT sg 9 (z6s H hG) ?_)|(refine lT sg 10 (z6s H hG) ?_)|(refine lT sg 11 (z6s H hG) ?_)|refine l2 7 ?_|(refine l5 (z6s H hG) ?_)|(refine CW.regionL mixed 30 (z6 (x:=cb _ (zL x).1.cells 136) (y:=cb _ (x.cells a cap) 86) H hG) [] ?_ ?_;exact rfl;refine wQ H ?_;clear H;intro w H;have qh:=z6 (x:=cb _ (zL x).1.cells 136) (y:=cb _ (x.cells a cap) 86) H hG;refine lT sg 0 qh ?_;refine lT sg 1 qh ?_;refine lT sg 2 qh ?_;refine lT sg 3 qh ?_;refine' l1 4 qh ?_ ?_;rotate_left;(exact(fun w2 hM2=>zH sg rfl rfl hM2 (zz4 _ (zz4 _ hM.blk)) rfl rfl));refine lT sg 5 qh ?_;refine' l1 6 qh ?_ ?_;rotate_left;(exact z3 sg);refine lT sg 8 qh ?_;refine' l1 9 qh ?_ ?_;rotate_left;(exact z3 sg);refine lT sg 11 qh ?_)|(refine lT sg 10 (z6 H hG) ?_)|(refine lT sg 12 (z6 H hG) ?_)|(refine' l1 13 (z6 H hG) ?_ ?_;rotate_left;(intro w2 _;refine' zCE sg ?_ w2;exact congrArg (fun x=>some (Value.bool x)) d0))|(refine lT sg 14 (z6 H hG) ?_)|(refine' l7 15 (z6 H hG) ?_ ?_;rotate_left;(exact z4 sg))|(refine' l7 16 (z6 H hG) ?_ ?_;rotate_left;(exact z4 sg))|(refine' l7 17 (z6 H hG) ?_ ?_;rotate_left;(exact z4 sg))|(refine' l7 18 (z6 H hG) ?_ ?_;rotate_left;(exact z4 sg))|(refine' l7 19 (z6 H hG) ?_ ?_;rotate_left;(exact(fun w2 hM2=>zH sg rfl rfl hM2 (zz4 _ (zz4 _ hM.blk)) rfl rfl)))|(refine' l7 20 (z6 H hG) ?_ ?_;rotate_left;(exact z4 sg))|(refine' l7 21 (z6 H hG) ?_ ?_;rotate_left;(exact z3 sg))|(refine' l7 22 (z6 H hG) ?_ ?_;rotate_left;(exact z4 sg))|(refine' l7 23 (z6 H hG) ?_ ?_;rotate_left;(exact z3 sg))|(refine' l7 25 (z6 H hG) ?_ ?_;rotate_left;(exact z4 sg))|(refine' l7 26 (z6 H hG) ?_ ?_;rotate_left;(exact z3 sg))|(refine' l7 27 (z6 H hG) ?_ ?_;rotate_left;(exact z4 sg))|(refine' l7 28 (z6 H hG) ?_ ?_;rotate_left;(exact z4 sg))|refine l2 24 ?_|refine l2 29 ?_|(refine l5 (z6 H hG) ?_)|(refine c0 zHt ?_;refine⟨_,zIY (zL x).1.amount s.fee qO qO qO qO _,?_⟩;clear H;intro w H)|(refine c0 zOD ?_;refine⟨_,htot _ _ _ (H.memF hG),?_⟩;clear H;intro w H)|(refine y23 ?_ ?_;all_goals(intro h;try (exfalso;first|((rw[h0] at h;cases h);done)|((cases d1.symm.trans h);done))))|fail)
    all_goals exact zA7 (vs:=[_,_,_]) ⟨zm sg rfl H.mem (zz2 _) rfl rfl,zW rfl,zW rfl,trivial⟩ H.cl rfl
   ·have d1:decide (IntKind.i64.wrap (zAg s.rows (zL x).1.acct x.inst+x.qty)>1125899906842624)=false:=by rw[e2];exact decide_eq_false hB
    rw[if_neg (fun h=>h.elim hA hB)]
    refine eN func208 ntmps208 ?_
    have H:=zA w0
    repeat' (first|refine yW ?_|(refine yB ?_;intro b w H)|(refine y11 sg H ?_;intro w H)|(refine c0 zJz ?_;refine⟨_,zGC x _ (H.memF hG) hs,?_⟩;clear H;intro w H)|(refine CW.regionL mixed 12 (z6s (x:=cb _ (zL x).1.cells 136) H hG) [] ?_ ?_;exact rfl;refine wQ H ?_;clear H;intro w H;have qh:=z6s (x:=cb _ (zL x).1.cells 136) H hG;refine lT sg 0 qh ?_;refine' l1 1 qh ?_ ?_;rotate_left;(exact z3 sg);refine lT sg 2 qh ?_;refine lT sg 3 qh ?_;refine lT sg 4 qh ?_;refine lT sg 5 qh ?_;refine' l1 6 qh ?_ ?_;rotate_left;(exact(fun w2 hM2=>zH sg rfl rfl hM2 (zz4 _ hM.blk) rfl rfl)))|refine lN ?_|(refine lT sg 8 (z6s H hG) ?_)|(refine lT sg 9 (z6s H hG) ?_)|(refine lT sg 10 (z6s H hG) ?_)|(refine lT sg 11 (z6s H hG) ?_)|refine l2 7 ?_|(refine l5 (z6s H hG) ?_)|(refine CW.regionL mixed 30 (z6 (x:=cb _ (zL x).1.cells 136) (y:=cb _ (x.cells a cap) 86) H hG) [] ?_ ?_;exact rfl;refine wQ H ?_;clear H;intro w H;have qh:=z6 (x:=cb _ (zL x).1.cells 136) (y:=cb _ (x.cells a cap) 86) H hG;refine lT sg 0 qh ?_;refine lT sg 1 qh ?_;refine lT sg 2 qh ?_;refine lT sg 3 qh ?_;refine' l1 4 qh ?_ ?_;rotate_left;(exact(fun w2 hM2=>zH sg rfl rfl hM2 (zz4 _ (zz4 _ hM.blk)) rfl rfl));refine lT sg 5 qh ?_;refine' l1 6 qh ?_ ?_;rotate_left;(exact z3 sg);refine lT sg 8 qh ?_;refine' l1 9 qh ?_ ?_;rotate_left;(exact z3 sg);refine lT sg 11 qh ?_)|(refine lT sg 10 (z6 H hG) ?_)|(refine lT sg 12 (z6 H hG) ?_)|(refine' l1 13 (z6 H hG) ?_ ?_;rotate_left;(intro w2 _;refine' zCE sg ?_ w2;exact congrArg (fun x=>some (Value.bool x)) d0))|(refine lT sg 14 (z6 H hG) ?_)|(refine' l7 15 (z6 H hG) ?_ ?_;rotate_left;(exact z4 sg))|(refine' l7 16 (z6 H hG) ?_ ?_;rotate_left;(exact z4 sg))|(refine' l7 17 (z6 H hG) ?_ ?_;rotate_left;(exact z4 sg))|(refine' l7 18 (z6 H hG) ?_ ?_;rotate_left;(exact z4 sg))|(refine' l7 19 (z6 H hG) ?_ ?_;rotate_left;(exact(fun w2 hM2=>zH sg rfl rfl hM2 (zz4 _ (zz4 _ hM.blk)) rfl rfl)))|(refine' l7 20 (z6 H hG) ?_ ?_;rotate_left;(exact z4 sg))|(refine' l7 21 (z6 H hG) ?_ ?_;rotate_left;(exact z3 sg))|(refine' l7 22 (z6 H hG) ?_ ?_;rotate_left;(exact z4 sg))|(refine' l7 23 (z6 H hG) ?_ ?_;rotate_left;(exact z3 sg))|(refine' l7 25 (z6 H hG) ?_ ?_;rotate_left;(exact z4 sg))|(refine' l7 26 (z6 H hG) ?_ ?_;rotate_left;(exact z3 sg))|(refine' l7 27 (z6 H hG) ?_ ?_;rotate_left;(exact z4 sg))|(refine' l7 28 (z6 H hG) ?_ ?_;rotate_left;(exact z4 sg))|refine l2 24 ?_|refine l2 29 ?_|(refine l5 (z6 H hG) ?_)|(refine c0 zHt ?_;refine⟨_,zIY (zL x).1.amount s.fee qO qO qO qO _,?_⟩;clear H;intro w H)|(refine c0 zOD ?_;refine⟨_,htot _ _ _ (H.memF hG),?_⟩;clear H;intro w H)|(refine y23 ?_ ?_;all_goals(intro h;try (exfalso;first|((rw[h0] at h;cases h);done)|((cases d1.symm.trans h);done))))|fail)
    all_goals exact zA7 (vs:=[_,_,_]) ⟨zm sg rfl H.mem (zz2 _) rfl rfl,zW rfl,zW rfl,trivial⟩ H.cl rfl
 ·have h0':(zL x).2=false:=by simpa using h0
  have e0:zM s x=(Bid.zero,0,false):=by unfold zM;rw[if_neg h0]
  rw[e0]
  refine eN func208 ntmps208 ?_
  have H:=zA w0
  repeat' (first|refine yW ?_|(refine yB ?_;intro b w H)|(refine y11 sg H ?_;intro w H)|(refine c0 zJz ?_;refine⟨_,zGC x _ (H.memF hG) hs,?_⟩;clear H;intro w H)|(refine y23 ?_ ?_;all_goals(intro h;try (exfalso;first|((rw[h0'] at h;cases h);done))))|fail)
  all_goals exact zA7 (vs:=[_,_,_]) ⟨zm sg rfl H.mem (zz2 _) rfl rfl,zW rfl,zW rfl,trivial⟩ H.cl rfl
end
end
section
open Go Go.Sk Go.RowKit Tryz
attribute [local irreducible] Go.Calls
section
variable {F:zB}{s:Sta}{p:SPt}
theorem c_aFee (hW:StaW s)(hfe:zCU s=true→0≤s.fee∧s.fee≤1000)(q:Int)(hq:0≤q∧q≤4503599627370496)(w0:World)(hF:Mem w0 F)(hs:StaM F s p) :
  Calls prog 148 [.agg (s.cells p).toArray,.int .i64 q].toArray w0 (Ret (.int .i64 (if zCU s=true then(zBh q s.fee).1 else 0)) w0):=by
 cases hm:zCU s with
 | true =>
   have hfe:=hfe hm
   rw[if_pos rfl]
   refine eN func148 ntmps148 ?_
   have H:=zA w0
   repeat' (first|refine yW ?_|(refine yB ?_;intro b w H)|(refine c0 zDk ?_;refine⟨_,zCn s p hW _ (H.memF hF) hs,?_⟩;clear H;intro w H)|(refine c0 zHt ?_;refine⟨_,zIY q s.fee qO qO qO qO _,?_⟩;clear H;intro w H)|(refine y23 ?_ ?_;all_goals(intro h;try (exfalso;first|((rw[hm] at h;cases h);done))))|fail)
   exact zP rfl H.cl rfl
 | false =>
   rw[if_neg (by decide)]
   refine eN func148 ntmps148 ?_
   have H:=zA w0
   repeat' (first|refine yW ?_|(refine yB ?_;intro b w H)|(refine c0 zDk ?_;refine⟨_,zCn s p hW _ (H.memF hF) hs,?_⟩;clear H;intro w H)|(refine y23 ?_ ?_;all_goals(intro h;try (exfalso;first|((rw[hm] at h;cases h);done))))|fail)
   exact zP rfl H.cl rfl
def zAu (s:Sta)(id:Int):Bid × Int × Bool:=if (zBK s.aucs id).2=true∧zCU s=true then zM s (zBK s.aucs id).1 else(Bid.zero,0,false)
theorem zQO (hW:StaW s)(id:Int)(h64:R64 s.rows)(hb:∀ j,j<s.aucs.length→(s.aucs.getD j default).bids.length≤100000)
  (hok:(zBK s.aucs id).2=true→zCU s=true→(0≤s.fee∧s.fee≤1000)∧(0≤(zBK s.aucs id).1.qty∧(zBK s.aucs id).1.qty≤1125899906842624)∧0≤(zL (zBK s.aucs id).1).1.amount∧(zL (zBK s.aucs id).1).1.amount≤1125899906842624) (w0:World) (hF:Mem w0 F) (hs:StaM F s p) :
  Calls prog 150 [.agg (s.cells p).toArray,.int .i64 id].toArray w0 (Ret (.tuple #[.int .i64 (zAu s id).1.acct,.int .i64 (zAu s id).1.amount,.int .i64 (zAu s id).2.1,.bool (zAu s id).2.2]) w0):=by
 have hget:=fun w (hF:Mem w F)=>c_Get s.aucs p.ad id w hF hs.au (fun j hj=>Nat.le_trans (hb j hj) (by decide))
 have hgl:(zBK s.aucs id).1.bids.length≤100000:=by
  unfold zBK
  split
  ·exact zzD _
  ·have:=zHW s.aucs id
   exact hb _ qO
 unfold zAu
 cases h0:(zBK s.aucs id).2 with
 | false =>
   rw[if_neg (by rintro⟨g,_⟩;cases g)]
   refine eN func150 ntmps150 ?_
   have H:=zA w0
   repeat' (first|refine yW ?_|(refine yB ?_;intro b w H)|(refine y11 sg H ?_;intro w H)|(refine f0 zMi ?_;refine⟨_,hget _ (H.memF hF),?_⟩;clear H;intro v M w hR H;(try simp only[zca,zcb] at H);obtain⟨_,⟨a1,c1,rfl,hO⟩,rfl⟩:=hR)|(refine y17 ?_ ?_;all_goals(intro h;try (exfalso;first|((rw[h0] at h;cases h);done))))|fail)
   all_goals exact zA7 (vs:=[_,_,_,_]) ⟨zW rfl,zW rfl,zW rfl,zW rfl,trivial⟩ H.cl rfl
 | true =>
   cases hm:zCU s with
   | false =>
     rw[if_neg (by rintro⟨_,g⟩;cases g)]
     refine eN func150 ntmps150 ?_
     have H:=zA w0
     repeat' (first|refine yW ?_|(refine yB ?_;intro b w H)|(refine y11 sg H ?_;intro w H)|(refine c0 zDk ?_;refine⟨_,zCn s p hW _ (H.memF hF) hs,?_⟩;clear H;intro w H)|(refine f0 zMi ?_;refine⟨_,hget _ (H.memF hF),?_⟩;clear H;intro v M w hR H;(try simp only[zca,zcb] at H);obtain⟨_,⟨a1,c1,rfl,hO⟩,rfl⟩:=hR)|((first|refine y17 ?_ ?_|refine y23 ?_ ?_);all_goals(intro h;try (exfalso;first|((rw[h0] at h;cases h);done)|((rw[hm] at h;cases h);done))))|fail)
     all_goals exact zA7 (vs:=[_,_,_,_]) ⟨zW rfl,zW rfl,zW rfl,zW rfl,trivial⟩ H.cl rfl
   | true =>
     obtain⟨hfe,hq,hwa⟩:=hok h0 hm
     rw[if_pos ⟨rfl,rfl⟩]
     refine eN func150 ntmps150 ?_
     have H:=zA w0
     have hwin:=fun w (b:Nat) (G:zB) (a1:Option Addr) (c1:Nat) (hG:Mem w G) (hM:Mkt G b s p [] none 0 ByteArray.empty) (hB:Bids G a1 c1 (zBK s.aucs id).1.bids)=>zGz (zBK s.aucs id).1 h64 hfe hq hwa w hG hM hB
     repeat' (first|refine yW ?_|(refine yB ?_;intro b w H)|(refine y11 sg H ?_;intro w H)|(refine c0 zDk ?_;refine⟨_,zCn s p hW _ (H.memF hF) hs,?_⟩;clear H;intro w H)|(refine f0 zMi ?_;refine⟨_,hget _ (H.memF hF),?_⟩;clear H;intro v M w hR H;(try simp only[zca,zcb] at H);obtain⟨_,⟨a1,c1,rfl,hO⟩,rfl⟩:=hR)|(refine c0 zMj ?_;refine⟨_,hwin _ _ _ _ _ (H.all hF) ⟨zz6 _ qC,hs.mono (zz8 _ _),SlA.nil⟩ (OwnB.bids hO qS qO),?_⟩;clear H;intro w H)|(refine CW.regionL mixed 10 (z6s (x:=cb _ (zM s (zBK s.aucs id).1).1.cells 136) H hF) [] ?_ ?_;exact rfl;refine wQ H ?_;clear H;intro w H;have qh:=z6s (x:=cb _ (zM s (zBK s.aucs id).1).1.cells 136) H hF;refine lT sg 0 qh ?_;refine' l1 1 qh ?_ ?_;rotate_left;(exact z3 sg);refine lT sg 2 qh ?_;refine' l1 3 qh ?_ ?_;rotate_left;(exact z3 sg);refine lT sg 4 qh ?_;refine lT sg 5 qh ?_;refine lT sg 6 qh ?_;refine lT sg 7 qh ?_;refine lT sg 8 qh ?_;refine lT sg 9 qh ?_)|refine lN ?_|((first|refine y17 ?_ ?_|refine y23 ?_ ?_);all_goals(intro h;try (exfalso;first|((rw[h0] at h;cases h);done)|((rw[hm] at h;cases h);done))))|fail)
     all_goals exact zA7 (vs:=[_,_,_,_]) ⟨zW rfl,zW rfl,zW rfl,zW rfl,trivial⟩ H.cl rfl
end
end
section
open Go Go.Sk Go.RowKit Tryz
attribute [local irreducible] Go.Calls
theorem zVI {x y z:Nat × Obj}{L:zB}:(x::y::z::L).Perm ([z]++(x::y::L)) :=
 ((List.Perm.swap z y L).cons x).trans (List.Perm.swap z x (y::L))
theorem zTH {w0 w:World}{x1 x2 x3 x4 x5 x6 y:Nat × Obj}{N A B C D E:zB}(H:St w0 (N++(x1::x2::x3::x4::x5::x6::y::((A++(B++(C++E)))++D))) w):St w0 (y::(A++(B++(C++((E++D)++(N++[x1,x2,x3,x4,x5,x6])))))) w:=by
 refine St.perm ?_ (zCK (N++[x1,x2,x3,x4,x5,x6]))
 simpa only[List.append_assoc,List.cons_append,List.nil_append] using H
theorem zDX {y z:Nat × Obj}{A B C:zB}:(y::(A++(B++([z]++C)))).Perm (z::y::(A++(B++C))):=by
 have h:=(List.perm_append_comm (l₁:=y::(A++B)) (l₂:=[z])).append_right C
 simpa only[List.cons_append,List.nil_append,List.append_assoc] using h
theorem zKl {l:List Auc}{x:Auc}{k j:Nat}(hk:k<l.length):(l.set k x).getD j default=if j=k then x else l.getD j default:=by
 rw[List.getD_eq_getElem?_getD,List.getD_eq_getElem?_getD,List.getElem?_set]
 by_cases h:k=j
 ·subst h;rw[if_pos rfl,if_pos rfl,if_pos hk];rfl
 ·rw[if_neg h,if_neg (fun e=>h e.symm)]
theorem zNl {l:List Auc}{ad:Nat→Option Addr × Nat}{k:Nat}{x:Auc}{a:Option Addr}{c:Nat}(hk:k<l.length){g cap:Nat}{cs:List Value}(hE:Els cs 9 l.length (ael l ad))(h1:l.length≤cap)(h2:cap≤maxLen)(h3:cs.length=cap*9) :
  Go.Sk.Own [cb g (wr cs (k*9+0) (x.cells a c)) 86] 86 9 (some ⟨g,0,none⟩) l.length cap ((List.range l.length).flatMap (ael (l.set k x) (fun j=>if j=k then(a,c) else ad j))):=by
 refine Els.own ((zF1 hE hk (show 0+9≤9 by decide)).congr fun j hj=>?_) (fun _ _=>rfl) h1 h2 (by
  have:=(hE k hk).1
  rw[zB0 (by show k*9+0+9≤_;omega)];exact h3)
 show(if j=k then wr (ael l ad k) 0 (x.cells a c) else ael l ad j)=((l.set k x).getD j default).cells (if j=k then(a,c) else ad j).1 (if j=k then(a,c) else ad j).2
 rw[zKl hk]
 by_cases hjk:j=k
 ·rw[if_pos hjk,if_pos hjk,if_pos hjk];rfl
 ·rw[if_neg hjk,if_neg hjk,if_neg hjk];rfl
theorem zKm (s:Sta)(id:Int):-1≤zAJ s id∧zAJ s id<s.aucs.length:=zHW s.aucs id
section
variable {F G:zB}{bm:Nat}{s:Sta}{p:SPt}{n:List Int}{na:Option Addr}{nc:Nat}{t:ByteArray}{Ma Mi Mu R:zB}
theorem zO3 {w0 w:World}(sealed:Bool)(hl:3≤n.length)(hz:0≤nF n 2∧nF n 2≤1125899906842624)(htop:∀ j,j<s.aucs.length→0≤(zAO (au_ s.aucs j)).1.amount∧(zAO (au_ s.aucs j)).1.amount≤1125899906842624)(htl:∀ j,j<s.aucs.length→(zS (au_ s.aucs j) ⟨nF n 1,nF n 2⟩).1.bids.length≤100000)(hLt:LtS s)(hW:WfR s)(H:St w0 (mkL bm (mkc s p n na nc t) Ma Mi Mu R) w)(hC:Cps s p Ma Mi Mu R)(hF:Mem w0 F)(hN:Ints F na nc n) :
  Calls prog 227 [.pointer (some ⟨bm,0,none⟩),.bool sealed].toArray w (zf (zB2 bm n na nc t (zH9 s n sealed)) w0):=by
 obtain⟨hn2,hc2,b2,off2,cs2,T2,fr2,hs2⟩:=id hN
 have hpl:=fun w (G:zB) (hG:Mem w G) (hM:Mkt G bm s p n na nc t)=>zGy qO hLt.au w hG hM
 have hlt:=zKm s (nF n 0)
 have ha:=fun w (b:Nat) (X:zB) (hX:Mem w X) (hm:cb b [Value.int .i64 (1:Int)] 3∈X) (G:zB) (hG:Mem w G) (hM:Mkt G bm s p n na nc t)=>zCh (T:=3) 1 qO w hX hm hG hM
 have eP:zH9 s n sealed=if zAJ s (nF n 0)<0∨(au_ s.aucs (zAJ s (nF n 0)).toNat).sealed≠sealed then(s,5) else if zAD s (nF n 1)=true then(if zAX (au_ s.aucs (zAJ s (nF n 0)).toNat) s.clock=true then(s,46) else if (zS (au_ s.aucs (zAJ s (nF n 0)).toNat) ⟨nF n 1,nF n 2⟩).2≠0 then(s,(zS (au_ s.aucs (zAJ s (nF n 0)).toNat) ⟨nF n 1,nF n 2⟩).2) else if (zh s (⟨nF n 1,0,-nF n 2,nF n 2⟩::(if (zAO (au_ s.aucs (zAJ s (nF n 0)).toNat)).2=true∧sealed=false then[⟨(zAO (au_ s.aucs (zAJ s (nF n 0)).toNat)).1.acct,0,(zAO (au_ s.aucs (zAJ s (nF n 0)).toNat)).1.amount,-(zAO (au_ s.aucs (zAJ s (nF n 0)).toNat)).1.amount⟩] else[]))).2≠0 then zh s (⟨nF n 1,0,-nF n 2,nF n 2⟩::(if (zAO (au_ s.aucs (zAJ s (nF n 0)).toNat)).2=true∧sealed=false then[⟨(zAO (au_ s.aucs (zAJ s (nF n 0)).toNat)).1.acct,0,(zAO (au_ s.aucs (zAJ s (nF n 0)).toNat)).1.amount,-(zAO (au_ s.aucs (zAJ s (nF n 0)).toNat)).1.amount⟩] else[])) else({ (zh s (⟨nF n 1,0,-nF n 2,nF n 2⟩::(if (zAO (au_ s.aucs (zAJ s (nF n 0)).toNat)).2=true∧sealed=false then[⟨(zAO (au_ s.aucs (zAJ s (nF n 0)).toNat)).1.acct,0,(zAO (au_ s.aucs (zAJ s (nF n 0)).toNat)).1.amount,-(zAO (au_ s.aucs (zAJ s (nF n 0)).toNat)).1.amount⟩] else[]))).1 with aucs:=s.aucs.set (zAJ s (nF n 0)).toNat (zS (au_ s.aucs (zAJ s (nF n 0)).toNat) ⟨nF n 1,nF n 2⟩).1 },0)) else(s,5):=rfl
 rw[eP]
 clear eP
 by_cases h0:zAJ s (nF n 0)<0
 ·have d0:decide (zAJ s (nF n 0)<0)=true:=decide_eq_true h0
  rw[if_pos (.inl h0)]
  refine eN func227 ntmps227 ?_
  repeat' (first|refine yW ?_|(refine c0 zD6 ?_;refine⟨_,hpl _ _ (H.all hF) (zg hC hLt hN),?_⟩;clear H;intro w H)|fail)
  exact zO (M:=_) rfl H ⟨rfl,fun h=>absurd h (show(5:Int)≠0 by decide)⟩
 obtain⟨k,hk⟩:∃ k:Nat,zAJ s (nF n 0)=k:=⟨(zAJ s (nF n 0)).toNat,by omega⟩
 rw[hk] at hpl hlt h0 ⊢
 rw[Int.toNat_natCast]
 have hkl:k<s.aucs.length:=by omega
 obtain⟨g,cs,hA,rfl,hcap,hcm,hcl,hE⟩:=zBy hC.au qO (fun _ _=>rfl)
 have hsI:=hE.slb (F:=[cb g cs 86]) (T:=86) (zz2 _)
 rw[← hA] at hsI
 have hfit:=(hE _ hkl).1
 by_cases h1:(au_ s.aucs k).sealed≠sealed
 ·have d1:((au_ s.aucs k).sealed != sealed)=true:=by simpa using h1
  rw[if_pos (.inr h1)]
  refine eN func227 ntmps227 ?_
  repeat' (first|refine yW ?_|(refine c0 zD6 ?_;refine⟨_,hpl _ _ (H.all hF) (zg hC hLt hN),?_⟩;clear H;intro w H)|refine x40 sg hsI ?_|(refine y44 sg (hsI) ((show Mem _ [cb g cs 86] from fun p hp=>H.mem p (by cases List.mem_singleton.1 hp;simp))) ?_ ?_;(omega))|fail)
  exact zO (M:=_) rfl H ⟨rfl,fun h=>absurd h (show(5:Int)≠0 by decide)⟩
 have d1:((au_ s.aucs k).sealed != sealed)=false:=by simpa using h1
 rw[if_neg (fun h=>h.elim h0 h1)]
 by_cases h2:zAD s (nF n 1)=true
 ·rw[if_pos h2] at ha ⊢
  by_cases h3:zAX (au_ s.aucs k) s.clock=true
  ·have d2:zAX (au_ s.aucs k) s.clock=true:=h3
   rw[if_pos h3]
   refine eN func227 ntmps227 ?_
   repeat' (first|refine yW ?_|(refine yB ?_;intro b w H)|(refine y11 sg H ?_;intro w H)|(refine c0 zA0 ?_;refine⟨_,ha _ _ _ H.mem (zz2 _) _ (H.all hF) (zg hC hLt hN),?_⟩;clear H;intro w H)|(refine c0 zD6 ?_;refine⟨_,hpl _ _ (H.all hF) (zg hC hLt hN),?_⟩;clear H;intro w H)|refine x40 sg hsI ?_|(refine y44 sg (hsI) ((show Mem _ [cb g cs 86] from fun p hp=>H.mem p (by cases List.mem_singleton.1 hp;simp))) ?_ ?_;(omega))|(refine y42 sg (hsI) ((show Mem _ [cb g cs 86] from fun p hp=>H.mem p (by cases List.mem_singleton.1 hp;simp))) ?_ ?_;(omega))|(refine CW.regionL mixed 7 (z6 (x:=cb _ ((au_ s.aucs k).cells (p.ad k).1 (p.ad k).2) 86) (y:=cb bm (mkc s p n na nc t) 182) H hF) [] ?_ ?_;exact rfl;refine wQ H ?_;clear H;intro w H;have qh:=z6 (x:=cb _ ((au_ s.aucs k).cells (p.ad k).1 (p.ad k).2) 86) (y:=cb bm (mkc s p n na nc t) 182) H hF;refine' l1 0 qh ?_ ?_;rotate_left;(exact z3 sg);refine lT sg 1 qh ?_;refine lT sg 2 qh ?_;refine lT sg 3 qh ?_;refine lT sg 4 qh ?_;refine' l1 5 qh ?_ ?_;rotate_left;(exact z3 sg))|refine lN ?_|refine l2 6 ?_|(refine l5 (z6 H hF) ?_)|(refine c0 zI7 ?_;refine⟨_,zJD (au_ s.aucs k) s.clock _ H.mem (SlA.mono (hC.bd k hkl) qS),?_⟩;clear H;intro w H)|fail)
   exact zO (M:=_) rfl H ⟨rfl,fun h=>absurd h (show(46:Int)≠0 by decide)⟩
  have d2:zAX (au_ s.aucs k) s.clock=false:=by simpa using h3
  rw[if_neg h3]
  refine eN func227 ntmps227 ?_
  repeat' (first|refine yW ?_|(refine yB ?_;intro b w H)|(refine y11 sg H ?_;intro w H)|(refine c0 zA0 ?_;refine⟨_,ha _ _ _ H.mem (zz2 _) _ (H.all hF) (zg hC hLt hN),?_⟩;clear H;intro w H)|(refine c0 zD6 ?_;refine⟨_,hpl _ _ (H.all hF) (zg hC hLt hN),?_⟩;clear H;intro w H)|refine x40 sg hsI ?_|(refine y44 sg (hsI) ((show Mem _ [cb g cs 86] from fun p hp=>H.mem p (by cases List.mem_singleton.1 hp;simp))) ?_ ?_;(omega))|(refine y42 sg (hsI) ((show Mem _ [cb g cs 86] from fun p hp=>H.mem p (by cases List.mem_singleton.1 hp;simp))) ?_ ?_;(omega))|(refine CW.regionL mixed 7 (z6 (x:=cb _ ((au_ s.aucs k).cells (p.ad k).1 (p.ad k).2) 86) (y:=cb bm (mkc s p n na nc t) 182) H hF) [] ?_ ?_;exact rfl;refine wQ H ?_;clear H;intro w H;have qh:=z6 (x:=cb _ ((au_ s.aucs k).cells (p.ad k).1 (p.ad k).2) 86) (y:=cb bm (mkc s p n na nc t) 182) H hF;refine' l1 0 qh ?_ ?_;rotate_left;(exact z3 sg);refine lT sg 1 qh ?_;refine lT sg 2 qh ?_;refine lT sg 3 qh ?_;refine lT sg 4 qh ?_;refine' l1 5 qh ?_ ?_;rotate_left;(exact z3 sg))|refine lN ?_|refine l2 6 ?_|(refine l5 (z6 H hF) ?_)|(refine c0 zI7 ?_;refine⟨_,zJD (au_ s.aucs k) s.clock _ H.mem (SlA.mono (hC.bd k hkl) qS),?_⟩;clear H;intro w H)|fail)
  refine CW.cutT (fun e w=>∃ b7 b8 b9 e',e=ovl [(0,.pointer (some ⟨bm,0,none⟩)),(1,.bool sealed),(5,.int .i64 (k:Int)),(7,.pointer (some ⟨b7,0,none⟩)),(8,.pointer (some ⟨b8,0,none⟩))] e'∧St w0 (cb b8 (Bid.cells ⟨nF n 1,nF n 2⟩) 136::cb b7 ((au_ s.aucs k).cells (p.ad k).1 (p.ad k).2) 86::cb b9 [Value.int .i64 (1:Int)] 3::mkL bm (mkc s p n na nc t) Ma Mi [cb g cs 86] R) w) ?_ ?_
  ·repeat' (first|refine yX ?_|(refine yB ?_;intro b w H)|(refine y11 sg H ?_;intro w H)|(refine c0 zAz ?_;refine⟨_,zA2 1 qO _ (H.all hF) (zg hC hLt hN),?_⟩;clear H;intro w H)|(refine CW.regionL mixed 11 (z6s (x:=cb bm (mkc s p n na nc t) 182) H hF) [] ?_ ?_;exact rfl;refine wQ H ?_;clear H;intro w H;have qh:=z6s (x:=cb bm (mkc s p n na nc t) 182) H hF;refine lT sg 0 qh ?_;refine lT sg 2 qh ?_;refine lT sg 3 qh ?_;refine lT sg 4 qh ?_;refine' l1 5 qh ?_ ?_;rotate_left;(exact z3 sg);refine' l1 6 qh ?_ ?_;rotate_left;(exact(zQ sg hs2));refine' l1 7 qh ?_ ?_;rotate_left;(exact(zK sg (hs2.mono (List.subset_cons_self _ F)) (show 2<n.length by omega))))|refine lN ?_|refine l2 1 ?_|refine l2 8 ?_|refine l2 9 ?_|refine l2 10 ?_|refine l4 1 9 ?_ ?_|refine l4 8 9 ?_ ?_|(refine l5 (z6s H hF) ?_)|fail)
   all_goals exact⟨_,_,_,_,zAc rfl (zAc rfl (zAc rfl (zSj rfl rfl))),H⟩
  clear H
  rintro _ w ⟨b7,b8,b9,e',rfl,H⟩
  by_cases h4:(zS (au_ s.aucs k) ⟨nF n 1,nF n 2⟩).2≠0
  ·have d4:((zS (au_ s.aucs k) ⟨nF n 1,nF n 2⟩).2 != 0)=true:=by simpa using h4
   rw[if_pos h4]
   repeat' (first|refine yX ?_|(refine yB ?_;intro b w H)|(refine y11 sg H ?_;intro w H)|(refine f0 zRY ?_;refine⟨_,zR7 (au_ s.aucs k) ⟨nF n 1,nF n 2⟩ _ H.mem (SlA.mono (hC.bd k hkl) qS),?_⟩;clear H;intro v M w hR H;(try simp only[zca,zcb] at H);obtain⟨_,⟨a1,c1,rfl,hO⟩,rfl⟩:=hR)|fail)
   refine CW.condT (congrArg Value.bool d4) ?_
   repeat' (first|refine yX ?_|fail)
   exact zO (M:=_) rfl H ⟨rfl,fun h=>absurd h h4⟩
  have d4:((zS (au_ s.aucs k) ⟨nF n 1,nF n 2⟩).2 != 0)=false:=by simpa using h4
  rw[if_neg h4]
  repeat' (first|refine yX ?_|(refine yB ?_;intro b w H)|(refine y11 sg H ?_;intro w H)|(refine f0 zRY ?_;refine⟨_,zR7 (au_ s.aucs k) ⟨nF n 1,nF n 2⟩ _ H.mem (SlA.mono (hC.bd k hkl) qS),?_⟩;clear H;intro v M w hR H;(try simp only[zca,zcb] at H);obtain⟨_,⟨a1,c1,rfl,hO⟩,rfl⟩:=hR)|fail)
  refine CW.condF (congrArg Value.bool d4) ?_
  have hneg:IntKind.i64.wrap (0 - nF n 2)=-nF n 2:=by rw[w64 qO qO];omega
  have htp:=htop k hkl
  have hneg2:IntKind.i64.wrap (0 - (zAO (au_ s.aucs k)).1.amount)=-(zAO (au_ s.aucs k)).1.amount:=by rw[w64 qO qO];omega
  by_cases h5:(zAO (au_ s.aucs k)).2=true∧sealed=false
  ·rw[if_pos h5]
   obtain⟨d5,d6⟩:=h5
   have d7:(!sealed)=true:=by rw[d6];rfl
   repeat' (first|refine yX ?_|(refine yB ?_;intro b w H)|(refine y11 sg H ?_;intro w H)|(refine zBA sg H ?_;intro b w H _)|(refine c0 zMo ?_;refine⟨_,zR4 (au_ s.aucs k) _ H.mem (SlA.mono (hC.bd k hkl) qS),?_⟩;clear H;intro w H)|fail)
   refine CW.condT (congrArg Value.bool d7) ?_
   repeat' (first|refine yX ?_|(refine zBA sg H ?_;intro b w H _)|(have hp:=H.perm zVI;refine zc sg 4 32 (M:=[_]) hp rfl rfl rfl rfl rfl rfl rfl rfl rfl rfl rfl ⟨rfl,.inr ⟨_,_,rfl,rfl,zzC _,(show 1≤maxLen by unfold maxLen;decide),rfl,rfl⟩⟩ (zn hp.mem (zz3 _ (zz2 _))) rfl (zAB rfl) (show 1+1≤maxLen by unfold maxLen;decide) (show(1+1)*32≤140737488355328 by decide) ?_;clear hp H;intro a2 c2 M2 w O2 H)|fail)
   rw[hneg,hneg2] at O2
   have O3:Go.Sk.Own M2 266 4 a2 2 c2 ((List.range 2).flatMap (qsl [⟨nF n 1,0,-nF n 2,nF n 2⟩,⟨(zAO (au_ s.aucs k)).1.acct,0,(zAO (au_ s.aucs k)).1.amount,-(zAO (au_ s.aucs k)).1.amount⟩])):=O2
   have H9:=zTH (A:=Ma) (B:=Mi) (C:=[cb g cs 86]) (E:=R) (D:=M) H
   clear H
   have H:=H9
   clear H9
   repeat' (first|refine yX ?_|(refine zY rfl rfl (En.fn zFg rfl rfl) (zFs hLt hW [⟨nF n 1,0,-nF n 2,nF n 2⟩,⟨(zAO (au_ s.aucs k)).1.acct,0,(zAO (au_ s.aucs k)).1.amount,-(zAO (au_ s.aucs k)).1.amount⟩] H (hC.mono (fun p hp=>zz6 _ (zz6 _ hp))) H.mem (O3.sl (fun p hp=>by simp[hp]) (fun _ _=>rfl) (show 2≤140737488355328 by decide))) ?_;rintro _ _ w ⟨rfl,p',M',rfl,hC'⟩ H2;clear H;have H:=H2;clear H2)|fail)
   by_cases h6:(zh s [⟨nF n 1,0,-nF n 2,nF n 2⟩,⟨(zAO (au_ s.aucs k)).1.acct,0,(zAO (au_ s.aucs k)).1.amount,-(zAO (au_ s.aucs k)).1.amount⟩]).2≠0
   ·have d8:((zh s [⟨nF n 1,0,-nF n 2,nF n 2⟩,⟨(zAO (au_ s.aucs k)).1.acct,0,(zAO (au_ s.aucs k)).1.amount,-(zAO (au_ s.aucs k)).1.amount⟩]).2 != 0)=true:=by simpa using h6
    rw[if_pos h6]
    refine CW.condT (congrArg Value.bool d8) ?_
    repeat' (first|refine yX ?_|fail)
    exact zO (M:=_) rfl H ⟨rfl,fun h=>absurd h h6⟩
   have d8:((zh s [⟨nF n 1,0,-nF n 2,nF n 2⟩,⟨(zAO (au_ s.aucs k)).1.acct,0,(zAO (au_ s.aucs k)).1.amount,-(zAO (au_ s.aucs k)).1.amount⟩]).2 != 0)=false:=by simpa using h6
   rw[if_neg h6]
   refine CW.condF (congrArg Value.bool d8) ?_
   obtain⟨rs,hrs⟩:=zDJ s [⟨nF n 1,0,-nF n 2,nF n 2⟩,⟨(zAO (au_ s.aucs k)).1.acct,0,(zAO (au_ s.aucs k)).1.amount,-(zAO (au_ s.aucs k)).1.amount⟩]
   rw[hrs] at H hC' ⊢
   obtain⟨g',cs',hA',hMu,hcap',hcm',hcl',hE'⟩:=zBy (n:=s.aucs.length) (el:=ael s.aucs p'.ad) hC'.au qO (fun _ _=>rfl)
   rw[hMu] at H
   have hfit':=(hE' _ hkl).1
   have hsI':=hE'.slb (F:=[cb g' cs' 86]) (T:=86) (zz2 _)
   rw[← hA'] at hsI'
   replace H:=H.perm zDX
   repeat' (first|refine yX ?_|(refine CW.regionL mixed 9 (z6 (x:=cb _ ((zS (au_ s.aucs k) ⟨nF n 1,nF n 2⟩).1.cells a1 c1) 86) (y:=cb bm (mkc { s with rows:=rs } p' n na nc t) 182) H hF (hx:=zz4 _ (zz4 _ (zz3 _ (zz3 _ (zz6 _ (zz3 _ (zz3 _ (zz5 _ (zz5 _ (zz2 _))))))))))) [] ?_ ?_;exact rfl;refine wQ H ?_;clear H;intro w H;have qh:=z6 (x:=cb _ ((zS (au_ s.aucs k) ⟨nF n 1,nF n 2⟩).1.cells a1 c1) 86) (y:=cb bm (mkc { s with rows:=rs } p' n na nc t) 182) H hF (hx:=zz4 _ (zz4 _ (zz3 _ (zz3 _ (zz6 _ (zz3 _ (zz3 _ (zz5 _ (zz5 _ (zz2 _))))))))));refine' l1 0 qh ?_ ?_;rotate_left;(exact z4 sg);refine' l1 1 qh ?_ ?_;rotate_left;(exact z4 sg);refine' l1 2 qh ?_ ?_;rotate_left;(exact z4 sg);refine' l1 3 qh ?_ ?_;rotate_left;(exact z4 sg);refine' l1 4 qh ?_ ?_;rotate_left;(exact z3 sg);refine' l1 5 qh ?_ ?_;rotate_left;(exact z4 sg);refine' l1 6 qh ?_ ?_;rotate_left;(exact z3 sg);refine' l1 7 qh ?_ ?_;rotate_left;(exact(fun w2 _=>zG sg hsI' rfl rfl rfl rfl rfl rfl rfl (zz1 k) qO qO)))|refine lN ?_|refine l2 8 ?_|(refine l5 (z6 H hF (hx:=zz4 _ (zz4 _ (zz3 _ (zz3 _ (zz6 _ (zz3 _ (zz3 _ (zz5 _ (zz5 _ (zz2 _))))))))))) ?_)|(refine OX.storeX sg (vs:=(zS (au_ s.aucs k) ⟨nF n 1,nF n 2⟩).1.cells a1 c1) H rfl rfl rfl rfl rfl rfl rfl Up.here (by show _+9≤_;omega) (zAB rfl) ?_;clear H;intro w H)|fail)
   have O9:=zNl (g:=g') (x:=(zS (au_ s.aucs k) ⟨nF n 1,nF n 2⟩).1) (a:=a1) (c:=c1) hkl hE' hcap' hcm' hcl'
   rw[← hA'] at O9
   rw[show 0+k*9=k*9+0 by omega] at H
   replace H:=H.perm zDX.symm
   have e9:mkc { s with rows:=rs,aucs:=s.aucs.set k (zS (au_ s.aucs k) ⟨nF n 1,nF n 2⟩).1 } { p' with ad:=fun j=>if j=k then(a1,c1) else p'.ad j } n na nc t=mkc { s with rows:=rs } p' n na nc t:=by unfold mkc Sta.cells;simp only[List.length_set]
   refine zO (M:=_) rfl H ⟨rfl,fun _=>⟨{ p' with ad:=fun j=>if j=k then(a1,c1) else p'.ad j },Ma,Mi,[cb g' (wr cs' (k*9+0) ((zS (au_ s.aucs k) ⟨nF n 1,nF n 2⟩).1.cells a1 c1)) 86],_,by rw[e9],hC'.ac,hC'.ins,hC'.rw,hC'.od,?_,fun j hj=>?_⟩⟩
   ·show Go.Sk.Own _ _ 9 p'.auA (s.aucs.set k (zS (au_ s.aucs k) ⟨nF n 1,nF n 2⟩).1).length p'.auC ((List.range (s.aucs.set k (zS (au_ s.aucs k) ⟨nF n 1,nF n 2⟩).1).length).flatMap (ael (s.aucs.set k (zS (au_ s.aucs k) ⟨nF n 1,nF n 2⟩).1) _))
    rw[List.length_set];exact O9
   ·show Bids _ (if j=k then(a1,c1) else p'.ad j).1 (if j=k then(a1,c1) else p'.ad j).2 ((s.aucs.set k (zS (au_ s.aucs k) ⟨nF n 1,nF n 2⟩).1).getD j default).bids
    rw[zKl hkl]
    by_cases hjk:j=k
    ·rw[if_pos hjk,if_pos hjk]
     exact OwnB.bids hO (fun q hq=>by simp[hq]) (by have:=htl k hkl;omega)
    ·rw[if_neg hjk,if_neg hjk]
     exact hC'.bd j (Nat.lt_of_lt_of_eq hj List.length_set)
  ·rw[if_neg h5]
   cases d5:(zAO (au_ s.aucs k)).2 with
   | false =>
     repeat' (first|refine yX ?_|(refine yB ?_;intro b w H)|(refine y11 sg H ?_;intro w H)|(refine zBA sg H ?_;intro b w H _)|(refine c0 zMo ?_;refine⟨_,zR4 (au_ s.aucs k) _ H.mem (SlA.mono (hC.bd k hkl) qS),?_⟩;clear H;intro w H)|fail)
     rw[hneg] at H
     have H9:=zTH (N:=[]) (A:=Ma) (B:=Mi) (C:=[cb g cs 86]) (E:=R) (D:=M) H
     clear H
     have H:=H9
     clear H9
     repeat' (first|refine yX ?_|(refine zY rfl rfl (En.fn zFg rfl rfl) (zFs hLt hW [⟨nF n 1,0,-nF n 2,nF n 2⟩] H (hC.mono (fun p hp=>zz6 _ (zz6 _ hp))) H.mem (zIc _ (Nat.le_of_ble_eq_true rfl) rfl (zId (zz5 _ (zz2 _))))) ?_;rintro _ _ w ⟨rfl,p',M',rfl,hC'⟩ H2;clear H;have H:=H2;clear H2)|fail)
     by_cases h6:(zh s [⟨nF n 1,0,-nF n 2,nF n 2⟩]).2≠0
     ·have d8:((zh s [⟨nF n 1,0,-nF n 2,nF n 2⟩]).2 != 0)=true:=by simpa using h6
      rw[if_pos h6]
      refine CW.condT (congrArg Value.bool d8) ?_
      repeat' (first|refine yX ?_|fail)
      exact zO (M:=_) rfl H ⟨rfl,fun h=>absurd h h6⟩
     have d8:((zh s [⟨nF n 1,0,-nF n 2,nF n 2⟩]).2 != 0)=false:=by simpa using h6
     rw[if_neg h6]
     refine CW.condF (congrArg Value.bool d8) ?_
     obtain⟨rs,hrs⟩:=zDJ s [⟨nF n 1,0,-nF n 2,nF n 2⟩]
     rw[hrs] at H hC' ⊢
     obtain⟨g',cs',hA',hMu,hcap',hcm',hcl',hE'⟩:=zBy (n:=s.aucs.length) (el:=ael s.aucs p'.ad) hC'.au qO (fun _ _=>rfl)
     rw[hMu] at H
     have hfit':=(hE' _ hkl).1
     have hsI':=hE'.slb (F:=[cb g' cs' 86]) (T:=86) (zz2 _)
     rw[← hA'] at hsI'
     replace H:=H.perm zDX
     repeat' (first|refine yX ?_|(refine CW.regionL mixed 9 (z6 (x:=cb _ ((zS (au_ s.aucs k) ⟨nF n 1,nF n 2⟩).1.cells a1 c1) 86) (y:=cb bm (mkc { s with rows:=rs } p' n na nc t) 182) H hF (hx:=zz4 _ (zz4 _ (zz3 _ (zz3 _ (zz6 _ (zz3 _ (zz3 _ (zz5 _ (zz5 _ (zz2 _))))))))))) [] ?_ ?_;exact rfl;refine wQ H ?_;clear H;intro w H;have qh:=z6 (x:=cb _ ((zS (au_ s.aucs k) ⟨nF n 1,nF n 2⟩).1.cells a1 c1) 86) (y:=cb bm (mkc { s with rows:=rs } p' n na nc t) 182) H hF (hx:=zz4 _ (zz4 _ (zz3 _ (zz3 _ (zz6 _ (zz3 _ (zz3 _ (zz5 _ (zz5 _ (zz2 _))))))))));refine' l1 0 qh ?_ ?_;rotate_left;(exact z4 sg);refine' l1 1 qh ?_ ?_;rotate_left;(exact z4 sg);refine' l1 2 qh ?_ ?_;rotate_left;(exact z4 sg);refine' l1 3 qh ?_ ?_;rotate_left;(exact z4 sg);refine' l1 4 qh ?_ ?_;rotate_left;(exact z3 sg);refine' l1 5 qh ?_ ?_;rotate_left;(exact z4 sg);refine' l1 6 qh ?_ ?_;rotate_left;(exact z3 sg);refine' l1 7 qh ?_ ?_;rotate_left;(exact(fun w2 _=>zG sg hsI' rfl rfl rfl rfl rfl rfl rfl (zz1 k) qO qO)))|refine lN ?_|refine l2 8 ?_|(refine l5 (z6 H hF (hx:=zz4 _ (zz4 _ (zz3 _ (zz3 _ (zz6 _ (zz3 _ (zz3 _ (zz5 _ (zz5 _ (zz2 _))))))))))) ?_)|(refine OX.storeX sg (vs:=(zS (au_ s.aucs k) ⟨nF n 1,nF n 2⟩).1.cells a1 c1) H rfl rfl rfl rfl rfl rfl rfl Up.here (by show _+9≤_;omega) (zAB rfl) ?_;clear H;intro w H)|fail)
     have O9:=zNl (g:=g') (x:=(zS (au_ s.aucs k) ⟨nF n 1,nF n 2⟩).1) (a:=a1) (c:=c1) hkl hE' hcap' hcm' hcl'
     rw[← hA'] at O9
     rw[show 0+k*9=k*9+0 by omega] at H
     replace H:=H.perm zDX.symm
     have e9:mkc { s with rows:=rs,aucs:=s.aucs.set k (zS (au_ s.aucs k) ⟨nF n 1,nF n 2⟩).1 } { p' with ad:=fun j=>if j=k then(a1,c1) else p'.ad j } n na nc t=mkc { s with rows:=rs } p' n na nc t:=by unfold mkc Sta.cells;simp only[List.length_set]
     refine zO (M:=_) rfl H ⟨rfl,fun _=>⟨{ p' with ad:=fun j=>if j=k then(a1,c1) else p'.ad j },Ma,Mi,[cb g' (wr cs' (k*9+0) ((zS (au_ s.aucs k) ⟨nF n 1,nF n 2⟩).1.cells a1 c1)) 86],_,by rw[e9],hC'.ac,hC'.ins,hC'.rw,hC'.od,?_,fun j hj=>?_⟩⟩
     ·show Go.Sk.Own _ _ 9 p'.auA (s.aucs.set k (zS (au_ s.aucs k) ⟨nF n 1,nF n 2⟩).1).length p'.auC ((List.range (s.aucs.set k (zS (au_ s.aucs k) ⟨nF n 1,nF n 2⟩).1).length).flatMap (ael (s.aucs.set k (zS (au_ s.aucs k) ⟨nF n 1,nF n 2⟩).1) _))
      rw[List.length_set];exact O9
     ·show Bids _ (if j=k then(a1,c1) else p'.ad j).1 (if j=k then(a1,c1) else p'.ad j).2 ((s.aucs.set k (zS (au_ s.aucs k) ⟨nF n 1,nF n 2⟩).1).getD j default).bids
      rw[zKl hkl]
      by_cases hjk:j=k
      ·rw[if_pos hjk,if_pos hjk]
       exact OwnB.bids hO (fun q hq=>by simp[hq]) (by have:=htl k hkl;omega)
      ·rw[if_neg hjk,if_neg hjk]
       exact hC'.bd j (Nat.lt_of_lt_of_eq hj List.length_set)
   | true =>
     have d7:(!sealed)=false:=by
      cases hse:sealed with
      | true=>rfl
      | false=>exact absurd ⟨d5,hse⟩ h5
     repeat' (first|refine yX ?_|(refine yB ?_;intro b w H)|(refine y11 sg H ?_;intro w H)|(refine zBA sg H ?_;intro b w H _)|(refine c0 zMo ?_;refine⟨_,zR4 (au_ s.aucs k) _ H.mem (SlA.mono (hC.bd k hkl) qS),?_⟩;clear H;intro w H)|fail)
     refine CW.condF (congrArg Value.bool d7) ?_
     rw[hneg] at H
     have H9:=zTH (N:=[]) (A:=Ma) (B:=Mi) (C:=[cb g cs 86]) (E:=R) (D:=M) H
     clear H
     have H:=H9
     clear H9
     repeat' (first|refine yX ?_|(refine zY rfl rfl (En.fn zFg rfl rfl) (zFs hLt hW [⟨nF n 1,0,-nF n 2,nF n 2⟩] H (hC.mono (fun p hp=>zz6 _ (zz6 _ hp))) H.mem (zIc _ (Nat.le_of_ble_eq_true rfl) rfl (zId (zz5 _ (zz2 _))))) ?_;rintro _ _ w ⟨rfl,p',M',rfl,hC'⟩ H2;clear H;have H:=H2;clear H2)|fail)
     by_cases h6:(zh s [⟨nF n 1,0,-nF n 2,nF n 2⟩]).2≠0
     ·have d8:((zh s [⟨nF n 1,0,-nF n 2,nF n 2⟩]).2 != 0)=true:=by simpa using h6
      rw[if_pos h6]
      refine CW.condT (congrArg Value.bool d8) ?_
      repeat' (first|refine yX ?_|fail)
      exact zO (M:=_) rfl H ⟨rfl,fun h=>absurd h h6⟩
     have d8:((zh s [⟨nF n 1,0,-nF n 2,nF n 2⟩]).2 != 0)=false:=by simpa using h6
     rw[if_neg h6]
     refine CW.condF (congrArg Value.bool d8) ?_
     obtain⟨rs,hrs⟩:=zDJ s [⟨nF n 1,0,-nF n 2,nF n 2⟩]
     rw[hrs] at H hC' ⊢
     obtain⟨g',cs',hA',hMu,hcap',hcm',hcl',hE'⟩:=zBy (n:=s.aucs.length) (el:=ael s.aucs p'.ad) hC'.au qO (fun _ _=>rfl)
     rw[hMu] at H
     have hfit':=(hE' _ hkl).1
     have hsI':=hE'.slb (F:=[cb g' cs' 86]) (T:=86) (zz2 _)
     rw[← hA'] at hsI'
     replace H:=H.perm zDX
     repeat' (first|refine yX ?_|(refine CW.regionL mixed 9 (z6 (x:=cb _ ((zS (au_ s.aucs k) ⟨nF n 1,nF n 2⟩).1.cells a1 c1) 86) (y:=cb bm (mkc { s with rows:=rs } p' n na nc t) 182) H hF (hx:=zz4 _ (zz4 _ (zz3 _ (zz3 _ (zz6 _ (zz3 _ (zz3 _ (zz5 _ (zz5 _ (zz2 _))))))))))) [] ?_ ?_;exact rfl;refine wQ H ?_;clear H;intro w H;have qh:=z6 (x:=cb _ ((zS (au_ s.aucs k) ⟨nF n 1,nF n 2⟩).1.cells a1 c1) 86) (y:=cb bm (mkc { s with rows:=rs } p' n na nc t) 182) H hF (hx:=zz4 _ (zz4 _ (zz3 _ (zz3 _ (zz6 _ (zz3 _ (zz3 _ (zz5 _ (zz5 _ (zz2 _))))))))));refine' l1 0 qh ?_ ?_;rotate_left;(exact z4 sg);refine' l1 1 qh ?_ ?_;rotate_left;(exact z4 sg);refine' l1 2 qh ?_ ?_;rotate_left;(exact z4 sg);refine' l1 3 qh ?_ ?_;rotate_left;(exact z4 sg);refine' l1 4 qh ?_ ?_;rotate_left;(exact z3 sg);refine' l1 5 qh ?_ ?_;rotate_left;(exact z4 sg);refine' l1 6 qh ?_ ?_;rotate_left;(exact z3 sg);refine' l1 7 qh ?_ ?_;rotate_left;(exact(fun w2 _=>zG sg hsI' rfl rfl rfl rfl rfl rfl rfl (zz1 k) qO qO)))|refine lN ?_|refine l2 8 ?_|(refine l5 (z6 H hF (hx:=zz4 _ (zz4 _ (zz3 _ (zz3 _ (zz6 _ (zz3 _ (zz3 _ (zz5 _ (zz5 _ (zz2 _))))))))))) ?_)|(refine OX.storeX sg (vs:=(zS (au_ s.aucs k) ⟨nF n 1,nF n 2⟩).1.cells a1 c1) H rfl rfl rfl rfl rfl rfl rfl Up.here (by show _+9≤_;omega) (zAB rfl) ?_;clear H;intro w H)|fail)
     have O9:=zNl (g:=g') (x:=(zS (au_ s.aucs k) ⟨nF n 1,nF n 2⟩).1) (a:=a1) (c:=c1) hkl hE' hcap' hcm' hcl'
     rw[← hA'] at O9
     rw[show 0+k*9=k*9+0 by omega] at H
     replace H:=H.perm zDX.symm
     have e9:mkc { s with rows:=rs,aucs:=s.aucs.set k (zS (au_ s.aucs k) ⟨nF n 1,nF n 2⟩).1 } { p' with ad:=fun j=>if j=k then(a1,c1) else p'.ad j } n na nc t=mkc { s with rows:=rs } p' n na nc t:=by unfold mkc Sta.cells;simp only[List.length_set]
     refine zO (M:=_) rfl H ⟨rfl,fun _=>⟨{ p' with ad:=fun j=>if j=k then(a1,c1) else p'.ad j },Ma,Mi,[cb g' (wr cs' (k*9+0) ((zS (au_ s.aucs k) ⟨nF n 1,nF n 2⟩).1.cells a1 c1)) 86],_,by rw[e9],hC'.ac,hC'.ins,hC'.rw,hC'.od,?_,fun j hj=>?_⟩⟩
     ·show Go.Sk.Own _ _ 9 p'.auA (s.aucs.set k (zS (au_ s.aucs k) ⟨nF n 1,nF n 2⟩).1).length p'.auC ((List.range (s.aucs.set k (zS (au_ s.aucs k) ⟨nF n 1,nF n 2⟩).1).length).flatMap (ael (s.aucs.set k (zS (au_ s.aucs k) ⟨nF n 1,nF n 2⟩).1) _))
      rw[List.length_set];exact O9
     ·show Bids _ (if j=k then(a1,c1) else p'.ad j).1 (if j=k then(a1,c1) else p'.ad j).2 ((s.aucs.set k (zS (au_ s.aucs k) ⟨nF n 1,nF n 2⟩).1).getD j default).bids
      rw[zKl hkl]
      by_cases hjk:j=k
      ·rw[if_pos hjk,if_pos hjk]
       exact OwnB.bids hO (fun q hq=>by simp[hq]) (by have:=htl k hkl;omega)
      ·rw[if_neg hjk,if_neg hjk]
       exact hC'.bd j (Nat.lt_of_lt_of_eq hj List.length_set)
 ·rw[if_neg h2] at ha ⊢
  refine eN func227 ntmps227 ?_
  repeat' (first|refine yW ?_|(refine yB ?_;intro b w H)|(refine c0 zA0 ?_;refine⟨_,ha _ _ _ H.mem (zz2 _) _ (H.all hF) (zg hC hLt hN),?_⟩;clear H;intro w H)|(refine c0 zD6 ?_;refine⟨_,hpl _ _ (H.all hF) (zg hC hLt hN),?_⟩;clear H;intro w H)|refine x40 sg hsI ?_|(refine y44 sg (hsI) ((show Mem _ [cb g cs 86] from fun p hp=>H.mem p (by cases List.mem_singleton.1 hp;simp))) ?_ ?_;(omega))|fail)
  exact zO (M:=_) rfl H ⟨rfl,fun h=>absurd h (show(5:Int)≠0 by decide)⟩
end
end
end Go.Proofs.YtejhijhnlogikaaGreatDoor
