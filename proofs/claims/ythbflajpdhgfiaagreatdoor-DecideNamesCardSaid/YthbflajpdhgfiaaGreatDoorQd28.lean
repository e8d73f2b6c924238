/- Texts of ours, joined: the steps of the proof, or the claim's theorem. -/
import Derived.Test.YthbflajpdhgfiaaGreatDoorQd23
set_option linter.all false
set_option maxHeartbeats 16000000
namespace Go.Proofs.YthbflajpdhgfiaaGreatDoor
section
open Go Go.Sk Go.RowKit
attribute [local irreducible] Go.Calls
theorem keepF {e:Env}{l:List (Nat × Value)}{i:Nat}{x:Value}(h1:e i=x)(h2:e=ovl l e):e=ovl ((i,x)::l) e:=by
 funext q
 rw[zBW]
 by_cases hi:q=i
 ·rw[if_pos hi,hi,h1]
 ·rw[if_neg hi];exact congrFun h2 q
section
variable {G:zC}{bm:Nat}{s:Sta}{p:SPt}{n:List Int}{na:Option Addr}{nc:Nat}{t:ByteArray}
theorem zUd (o u:Odr)(hl:5≤n.length)(hp:1≤nF n 2∧nF n 2≤1073741824)(hq:1≤nF n 3∧nF n 3≤1048576)(hfe:0≤s.fee∧s.fee≤1000)(hno:0≤s.nextO∧s.nextO≤4611686018427387904)(w0:World)(hG:Mem w0 G)(hP:PriM G)(hM:Mkt G bm s p n na nc t) :
  Calls Tryz.prog 172 [.pointer (some ⟨bm,0,none⟩),.agg o.cells.toArray,.agg u.cells.toArray].toArray w0 (Ret (.bool (zCy s n o u)) w0):=by
 obtain⟨hn2,hc2,b2,off2,cs2,T2,fr2,hs2⟩:=hM.num
 have hmul:=zFe (p:=nF n 2) (q:=nF n 3) hp.1 hp.2 hq.1 hq.2
 have hpaid:(zHD (nF n 2) (nF n 3)).1=nF n 2*nF n 3:=by
  unfold zHD
  rw[if_neg qO,if_neg qO]
 have hno1:IntKind.i64.wrap (s.nextO - 1)=s.nextO - 1:=w64 qO qO
 have eM:zCy s n o u=(o.id==s.nextO - 1&&(zA9 s.orders u.inst u.side).1.id==u.id&&zn o u&&nF n 2==u.price&&nF n 3==min o.left u.left&&nF n 4==(zBa (zHD (nF n 2) (nF n 3)).1 s.fee).1):=rfl
 have hmin:min o.left u.left=if u.left<o.left then u.left else o.left:=by split<;>omega
 rw[eM,← hno1]
 clear eM hno1
 refine enter [.tmp 6] Tryz.func172 rfl Tryz.ntmps172 rfl rfl ?_
 have H:=zA w0
 repeat' (first|refine yT ?_|(refine y9 H ?_;intro b w H)|refine yU ?_|fail)
 refine CW.cutT (fun e w=>∃ b4 b5 b7 e',e=ovl [(0,.pointer (some ⟨bm,0,none⟩)),(4,.pointer (some ⟨b4,0,none⟩)),(5,.pointer (some ⟨b5,0,none⟩)),(7,.pointer (some ⟨b7,0,none⟩))] e'∧St w0 [cb b7 (zA9 s.orders u.inst u.side).1.cells 55,cb b5 u.cells 55,cb b4 o.cells 55] w) ?_ ?_
 ·repeat' (first|refine yT ?_|(refine y10 sg H ?_;intro b w H)|(refine y11 sg H ?_;intro w H)|(refine CW.regionL mixed 16 (z6s (x:=cb _ u.cells 55) H hG) [] ?_ ?_;exact rfl;refine w2 H ?_;clear H;intro w H;have qh:=z6s (x:=cb _ u.cells 55) H hG;refine lT sg 0 qh ?_;refine lT sg 1 qh ?_;refine lT sg 2 qh ?_;refine lT sg 3 qh ?_;refine' l1 4 qh ?_ ?_;rotate_left;(exact(fun w2 hM2=>zH sg rfl rfl hM2 (zz4 _ hM.blk) rfl rfl));refine lT sg 5 qh ?_;refine' l1 6 qh ?_ ?_;rotate_left;(exact z3 sg);refine lT sg 7 qh ?_;refine' l1 8 qh ?_ ?_;rotate_left;(exact z3 sg))|((with_reducible apply RL.nil);decide +kernel)|(refine lT sg 10 (z6s H hG) ?_)|(refine lT sg 11 (z6s H hG) ?_)|(refine lT sg 12 (z6s H hG) ?_)|(refine lT sg 15 (z6s H hG) ?_)|refine l2 9 ?_|refine l2 13 ?_|refine l2 14 ?_|refine l4 9 13 ?_ ?_|(refine l5 (z6s H hG) ?_)|(refine' y30 ent96 ?_ ?_;rotate_left;exact zOP s.orders u.inst u.side _ (H.memF hG) hP hM.sta.od;refine w2 H ?_;clear H;intro w H)|refine yU ?_|fail)
  all_goals exact⟨_,_,_,_,keepF rfl (zA0 rfl rfl rfl),H⟩
 clear H
 rintro _ w ⟨b4,b5,b7,e',rfl,H⟩
 repeat' (first|refine yT ?_|refine y8 sg H ?_|refine z13 (zH sg rfl rfl (H.memF hG) hM.blk rfl rfl) ?_|((with_reducible apply zT);exact rfl;exact rfl;exact zH sg rfl rfl (H.memF hG) hM.blk rfl rfl)|refine x41 sg hs2 ?_|((with_reducible apply zT);exact rfl;exact rfl;exact Yq.loadB1 sg hs2 (H.memF hG) rfl rfl rfl rfl (show 2<n.length by omega) rfl)|((with_reducible apply zT);exact rfl;exact rfl;exact Yq.loadB1 sg hs2 (H.memF hG) rfl rfl rfl rfl (show 3<n.length by omega) rfl)|((with_reducible apply zT);exact rfl;exact rfl;exact Yq.loadB1 sg hs2 (H.memF hG) rfl rfl rfl rfl (show 4<n.length by omega) rfl)|(refine' y31 ent209 ?_ ?_;rotate_left;exact(fun _ hcl=>c_Mul (nF n 2) (nF n 3) qO qO qO qO qO _))|(refine' y30 zHf ?_ ?_;rotate_left;exact zIK (zHD (nF n 2) (nF n 3)).1 s.fee qO qO qO qO _;refine w2 H ?_;clear H;intro w H)|(refine' y31 zHe ?_ ?_;rotate_left;exact(fun _ hcl=>zGl o u _ ((H.ext hcl).memF hG) hP))|refine yU ?_|(refine y18 ?_ ?_;all_goals intro h)|(with_reducible apply zO;refine w2 H ?_;clear H;intro w H)|refine y20 mixed ?_|fail)
 all_goals
  refine zP rfl H.cl (congrArg Value.bool ?_)
  show _=(o.id==IntKind.i64.wrap (s.nextO - 1)&&(zA9 s.orders u.inst u.side).1.id==u.id&&zn o u&&n.getD (Int.toNat 2) 0==u.price&&n.getD (Int.toNat 3) 0==min o.left u.left&&n.getD (Int.toNat 4) 0==(zBa (zHD (nF n 2) (nF n 3)).1 s.fee).1)
  rw[hmin]
  simp only[*,Bool.true_and,Bool.and_true,Bool.and_false,Bool.false_and]
end
end
section
open Go Go.Sk Go.RowKit
attribute [local irreducible] Go.Calls
section
variable {F G:zC}{bm:Nat}{s:Sta}{p:SPt}{n:List Int}{na:Option Addr}{nc:Nat}{t:ByteArray}{Ma Mi Mu R:zC}
theorem wk_R {w0 w:World}{cs:List Value}{ts N:zC}{s:Sta}{p:SPt}(H:St w0 (mkL bm cs Ma Mi Mu (R++ts++N)) w)(hC:Cps s p Ma Mi Mu (R++ts++N)):∃ R':zC,(∀ x∈ts,x∈R')∧R⊆R'∧St w0 (mkL bm cs Ma Mi Mu R') w∧Cps s p Ma Mi Mu R' :=
 ⟨_,fun x hx=>zz6 _ (zz3 _ hx),fun x hx=>zz6 _ (zz6 _ hx),H,hC⟩
theorem zBp {cs:List Value}{x:Nat × Obj}(h:x∈R):x∈mkL bm cs Ma Mi Mu R:=by simp[h]
theorem zAm {cs:List Value}{x:Nat × Obj}{M:zC}(h:x∈R):x∈cb bm cs 141::(Ma++(Mi++(Mu++R))++M):=by simp[h]
abbrev zNK (b l:Odr)(inst price q fee:Int):List Pst:=[⟨b.acct,0,IntKind.i64.wrap (IntKind.i64.wrap (b.price - price)*q),IntKind.i64.wrap (IntKind.i64.wrap (0 - b.price)*q)⟩,⟨l.acct,0,IntKind.i64.wrap (IntKind.i64.wrap (price*q) - fee),0⟩,⟨0,0,fee,0⟩,⟨l.acct,inst,0,IntKind.i64.wrap (0 - q)⟩,⟨b.acct,inst,q,0⟩]
theorem zSs {b l:Odr}(hb:zAX b){inst price q fee:Int}(hp:1≤price∧price≤1073741824)(hq:1≤q∧q≤1048576)(hf:0≤fee∧fee≤1125899906842624) :
  zBI b l inst price q fee=zNK b l inst price q fee:=by
 have hbp:=hb.2.2.2.2.1
 have m1:=zFe (p:=b.price) (q:=q) qO hbp.2 hq.1 hq.2
 have m2:=zFe (p:=price) (q:=q) hp.1 hp.2 hq.1 hq.2
 have e1:IntKind.i64.wrap (b.price - price)=b.price - price:=w64 qO qO
 have e2:IntKind.i64.wrap (0 - b.price)=-b.price:=by rw[w64 qO qO];omega
 have e3:(b.price - price)*q=b.price*q - price*q:=Int.sub_mul ..
 have e4:-b.price*q=-(b.price*q):=Int.neg_mul ..
 have e5:IntKind.i64.wrap ((b.price - price)*q)=(b.price - price)*q:=by rw[e3];exact w64 qO qO
 have e6:IntKind.i64.wrap (-b.price*q)=-b.price*q:=by rw[e4];exact w64 qO qO
 have e7:IntKind.i64.wrap (price*q)=price*q:=w64 qO qO
 have e8:IntKind.i64.wrap (price*q - fee)=price*q - fee:=w64 qO qO
 have e9:IntKind.i64.wrap (0 - q)=-q:=by rw[w64 qO qO];omega
 unfold zNK
 rw[e1,e2,e5,e6,e7,e8,e9];rfl
theorem zSt {w0 w:World}(h:Good s)(hLt:LtS s)(hW:WfR s)(hl:5≤n.length)(hp:1≤nF n 2∧nF n 2≤1073741824)(hq:1≤nF n 3∧nF n 3≤1048576)(hf:0≤nF n 4∧nF n 4≤1125899906842624)(hP:PriM F)(H:St w0 (mkL bm (mkc s p n na nc t) Ma Mi Mu R) w)(hC:Cps s p Ma Mi Mu R)(hF:Mem w0 F)(hN:Ints F na nc n) :
  Calls Tryz.prog 125 [.pointer (some ⟨bm,0,none⟩)].toArray w (zi (zBw bm n na nc t (zEE s n)) w0):=by
 obtain⟨hn2,hc2,b2,off2,cs2,T2,fr2,hs2⟩:=id hN
 have hs2F:=hs2.mono (List.subset_cons_self (cb bm (mkc s p n na nc t) 141) F)
 have hnum:=zAP.1 h.nums
 have g:=h
 clear h
 have eP:zEE s n=if (zW s.orders (nF n 0)).2=true∧(zW s.orders (nF n 1)).2=true then(if zCy s n (zW s.orders (nF n 0)).1 (zW s.orders (nF n 1)).1=true then(if (zW s.orders (nF n 0)).1.acct=(zW s.orders (nF n 1)).1.acct then(s,49) else if (zm s (if (zW s.orders (nF n 0)).1.side=2 then zBI (zW s.orders (nF n 1)).1 (zW s.orders (nF n 0)).1 (zW s.orders (nF n 0)).1.inst (nF n 2) (nF n 3) (nF n 4) else zBI (zW s.orders (nF n 0)).1 (zW s.orders (nF n 1)).1 (zW s.orders (nF n 0)).1.inst (nF n 2) (nF n 3) (nF n 4))).2≠0 then zm s (if (zW s.orders (nF n 0)).1.side=2 then zBI (zW s.orders (nF n 1)).1 (zW s.orders (nF n 0)).1 (zW s.orders (nF n 0)).1.inst (nF n 2) (nF n 3) (nF n 4) else zBI (zW s.orders (nF n 0)).1 (zW s.orders (nF n 1)).1 (zW s.orders (nF n 0)).1.inst (nF n 2) (nF n 3) (nF n 4)) else({ (zm s (if (zW s.orders (nF n 0)).1.side=2 then zBI (zW s.orders (nF n 1)).1 (zW s.orders (nF n 0)).1 (zW s.orders (nF n 0)).1.inst (nF n 2) (nF n 3) (nF n 4) else zBI (zW s.orders (nF n 0)).1 (zW s.orders (nF n 1)).1 (zW s.orders (nF n 0)).1.inst (nF n 2) (nF n 3) (nF n 4))).1 with orders:=(zAs (zAs s.orders (zW s.orders (nF n 0)).1.id (nF n 3)).1 (zW s.orders (nF n 1)).1.id (nF n 3)).1 },0)) else(s,46)) else(s,5):=rfl
 rw[eP]
 clear eP
 have hfnd:=fun w (j:Int) (L:zC) (hG:Mem w (L++F)) (hsub:R⊆L)=>zFj s.orders j w hG (SlA.mono hC.od fun p hp=>zz6 _ (hsub hp))
 have hfo:(zW s.orders (nF n 0)).2=true→(zW s.orders (nF n 0)).1∈s.orders:=fun e=>(zCh e).2.1
 have hfu:(zW s.orders (nF n 1)).2=true→(zW s.orders (nF n 1)).1∈s.orders:=fun e=>(zCh e).2.1
 generalize hO:zW s.orders (nF n 0)=fo at *
 generalize hU:zW s.orders (nF n 1)=fu at *
 obtain⟨o,f1⟩:=fo
 obtain⟨u,f2⟩:=fu
 simp only at hfo hfu ⊢
 have hfnd0:=fun w (L:zC) (hG:Mem w (L++F)) (hsub:R⊆L)=>hfnd w (nF n 0) L hG hsub
 have hfnd1:=fun w (L:zC) (hG:Mem w (L++F)) (hsub:R⊆L)=>hfnd w (nF n 1) L hG hsub
 rw[hO] at hfnd0
 rw[hU] at hfnd1
 clear hfnd hO hU
 refine enter [.tmp 2] Tryz.func125 rfl Tryz.ntmps125 rfl rfl ?_
 repeat' (first|refine yT ?_|refine yU ?_|fail)
 refine CW.cutT (fun e w=>∃ b e',e=ovl [(0,.pointer (some ⟨bm,0,none⟩)),(3,.pointer (some ⟨b,0,none⟩)),(4,.bool f1)] e'∧St w0 (cb b o.cells 55::mkL bm (mkc s p n na nc t) Ma Mi Mu R) w) ?_ ?_
 ·repeat' (first|refine yT ?_|(refine y10 sg H ?_;intro b w H)|(refine y11 sg H ?_;intro w H)|(refine CW.regionL mixed 18 (z6s (x:=cb bm (mkc s p n na nc t) 141) H hF) [] ?_ ?_;exact rfl;refine w2 H ?_;clear H;intro w H;have qh:=z6s (x:=cb bm (mkc s p n na nc t) 141) H hF;refine lT sg 0 qh ?_;refine lT sg 1 qh ?_;refine lT sg 2 qh ?_;refine lT sg 3 qh ?_;refine' l1 4 qh ?_ ?_;rotate_left;(exact z3 sg);refine lT sg 5 qh ?_;refine lT sg 6 qh ?_;refine lT sg 7 qh ?_;refine' l1 8 qh ?_ ?_;rotate_left;(exact z3 sg);refine' l1 9 qh ?_ ?_;rotate_left;(exact(zQ sg hs2));refine' l1 10 qh ?_ ?_;rotate_left;(exact(zK sg hs2F (show 0<n.length by omega))))|((with_reducible apply RL.nil);decide +kernel)|(refine lT sg 12 (z6s H hF) ?_)|(refine lT sg 13 (z6s H hF) ?_)|(refine lT sg 14 (z6s H hF) ?_)|(refine lT sg 17 (z6s H hF) ?_)|refine l2 11 ?_|refine l2 15 ?_|refine l2 16 ?_|refine l4 11 15 ?_ ?_|(refine l5 (z6s H hF) ?_)|(refine' y30 zFv ?_ ?_;rotate_left;exact hfnd0 _ _ (H.all hF) (fun p hp=>by simp[hp]);refine w2 H ?_;clear H;intro w H)|refine yU ?_|fail)
  all_goals exact⟨b,_,zA0 rfl rfl rfl,H⟩
 clear H
 rintro _ w ⟨b3,e',rfl,H⟩
 repeat' (first|refine yU ?_|fail)
 refine CW.cutT (fun e w=>∃ b5 e',e=ovl [(0,.pointer (some ⟨bm,0,none⟩)),(3,.pointer (some ⟨b3,0,none⟩)),(4,.bool f1),(5,.pointer (some ⟨b5,0,none⟩)),(6,.bool f2)] e'∧St w0 (cb b5 u.cells 55::cb b3 o.cells 55::mkL bm (mkc s p n na nc t) Ma Mi Mu R) w) ?_ ?_
 ·repeat' (first|refine yT ?_|(refine y10 sg H ?_;intro b w H)|(refine y11 sg H ?_;intro w H)|(refine CW.regionL mixed 18 (z6s (x:=cb bm (mkc s p n na nc t) 141) H hF) [] ?_ ?_;exact rfl;refine w2 H ?_;clear H;intro w H;have qh:=z6s (x:=cb bm (mkc s p n na nc t) 141) H hF;refine lT sg 0 qh ?_;refine lT sg 1 qh ?_;refine lT sg 2 qh ?_;refine lT sg 3 qh ?_;refine' l1 4 qh ?_ ?_;rotate_left;(exact z3 sg);refine lT sg 5 qh ?_;refine lT sg 6 qh ?_;refine lT sg 7 qh ?_;refine' l1 8 qh ?_ ?_;rotate_left;(exact z3 sg);refine' l1 9 qh ?_ ?_;rotate_left;(exact(zQ sg hs2));refine' l1 10 qh ?_ ?_;rotate_left;(exact(zK sg hs2F (show 1<n.length by omega))))|((with_reducible apply RL.nil);decide +kernel)|(refine lT sg 12 (z6s H hF) ?_)|(refine lT sg 13 (z6s H hF) ?_)|(refine lT sg 14 (z6s H hF) ?_)|(refine lT sg 17 (z6s H hF) ?_)|refine l2 11 ?_|refine l2 15 ?_|refine l2 16 ?_|refine l4 11 15 ?_ ?_|(refine l5 (z6s H hF) ?_)|(refine' y30 zFv ?_ ?_;rotate_left;exact hfnd1 _ _ (H.all hF) (fun p hp=>by simp[hp]);refine w2 H ?_;clear H;intro w H)|refine yU ?_|fail)
  all_goals exact⟨b,_,zAE rfl (zAE rfl (zA0 rfl rfl rfl)),H⟩
 clear H
 rintro _ w ⟨b5,e2',rfl,H⟩
 cases f1 with
 | false =>
   rw[if_neg (fun e=>by cases e.1)]
   repeat' (first|refine yT ?_|refine yU ?_|with_reducible apply zB|fail)
   all_goals exact zS (M:=_) rfl H ⟨rfl,fun h=>absurd h (show(5:Int)≠0 by decide)⟩
 | true =>
 cases f2 with
 | false =>
   rw[if_neg (fun e=>by cases e.2)]
   repeat' (first|refine yT ?_|refine yU ?_|with_reducible apply zB|fail)
   all_goals exact zS (M:=_) rfl H ⟨rfl,fun h=>absurd h (show(5:Int)≠0 by decide)⟩
 | true =>
 rw[if_pos ⟨rfl,rfl⟩]
 have mo:=(zAO.1 g.ords).2.1 _ (hfo rfl)
 have mu:=(zAO.1 g.ords).2.1 _ (hfu rfl)
 have hme:=fun w (L:zC) (hG:Mem w (L++F)) (hM:Mkt (L++F) bm s p n na nc t)=>zUd o u hl hp hq hnum.2.1 qO w hG (hP.mono (zz8 _ _)) hM
 by_cases h2:zCy s n o u=true
 rotate_left
 ·have d2:(!zCy s n o u)=true:=by simpa using h2
  rw[if_neg h2]
  repeat' (first|refine yT ?_|refine y7 sg H ?_|(refine' y30 zQk ?_ ?_;rotate_left;exact hme _ _ (H.all hF) (zh hC hLt hN);refine w2 H ?_;clear H;intro w H)|refine yU ?_|with_reducible apply zB|fail)
  refine CW.condT (congrArg Value.bool d2) ?_
  repeat' (first|refine yT ?_|refine yU ?_|fail)
  exact zS (M:=_) rfl H ⟨rfl,fun h=>absurd h (show(46:Int)≠0 by decide)⟩
 have d2:(!zCy s n o u)=false:=by simpa using h2
 rw[if_pos h2]
 repeat' (first|refine yT ?_|refine y7 sg H ?_|(refine' y30 zQk ?_ ?_;rotate_left;exact hme _ _ (H.all hF) (zh hC hLt hN);refine w2 H ?_;clear H;intro w H)|refine yU ?_|with_reducible apply zB|fail)
 refine CW.condF (congrArg Value.bool d2) ?_
 by_cases h3:o.acct=u.acct
 ·have d3:(o.acct==u.acct)=true:=by simpa using h3
  rw[if_pos h3]
  repeat' (first|refine yT ?_|refine y7 sg H ?_|refine yU ?_|fail)
  refine CW.condT (congrArg Value.bool d3) ?_
  repeat' (first|refine yT ?_|refine yU ?_|fail)
  exact zS (M:=_) rfl H ⟨rfl,fun h=>absurd h (show(49:Int)≠0 by decide)⟩
 have d3:(o.acct==u.acct)=false:=by simpa using h3
 rw[if_neg h3]
 repeat' (first|refine yT ?_|refine y7 sg H ?_|refine yU ?_|fail)
 refine CW.condF (congrArg Value.bool d3) ?_
 repeat' (first|refine yU ?_|fail)
 refine CW.cutT (fun e w=>∃ b7 b8 e',e=ovl [(0,.pointer (some ⟨bm,0,none⟩)),(3,.pointer (some ⟨b3,0,none⟩)),(5,.pointer (some ⟨b5,0,none⟩)),(7,.pointer (some ⟨b7,0,none⟩)),(8,.pointer (some ⟨b8,0,none⟩))] e'∧St w0 (cb b7 o.cells 55::cb b8 u.cells 55::cb b5 u.cells 55::cb b3 o.cells 55::mkL bm (mkc s p n na nc t) Ma Mi Mu R) w) ?_ ?_
 ·repeat' (first|refine yT ?_|(refine y10 sg H ?_;intro b w H)|(refine y11 sg H ?_;intro w H)|(refine CW.regionL mixed 6 (z6 (x:=cb b5 u.cells 55) (y:=cb b3 o.cells 55) H hF) [] ?_ ?_;exact rfl;refine w2 H ?_;clear H;intro w H;refine' l1 0 (z6 H hF) ?_ ?_;rotate_left;(exact z3 sg);refine' l1 1 (z6 H hF) ?_ ?_;rotate_left;(exact z3 sg))|((with_reducible apply RL.nil);decide +kernel)|refine l2 2 ?_|refine l2 3 ?_|refine l2 4 ?_|refine l2 5 ?_|refine l4 2 3 ?_ ?_|(refine l5 (z6 H hF) ?_)|refine yU ?_|fail)
  all_goals first
   | exact⟨_,_,_,zAE rfl (zAE rfl (zA0 rfl rfl rfl)),H⟩
   | exact⟨_,_,_,zAE rfl (zAE rfl (zA0 rfl rfl rfl)),H.perm (List.Perm.swap _ _ _)⟩
 clear H
 rintro _ w ⟨b7,b8,e3',rfl,H⟩
 obtain⟨y,z,my,hPe,hcase⟩:∃ y z:Odr,zAX y∧(if o.side=2 then zBI u o o.inst (nF n 2) (nF n 3) (nF n 4) else zBI o u o.inst (nF n 2) (nF n 3) (nF n 4))=zBI y z o.inst (nF n 2) (nF n 3) (nF n 4)∧((o.side=2∧y=u∧z=o)∨(o.side≠2∧y=o∧z=u)):=by
  by_cases h5:o.side=2
  ·exact⟨u,o,mu,by rw[if_pos h5],.inl ⟨h5,rfl,rfl⟩⟩
  ·exact⟨o,u,mo,by rw[if_neg h5],.inr ⟨h5,rfl,rfl⟩⟩
 rw[hPe,zSs my hp hq hf]
 clear hPe
 refine zDu ?_
 refine CW.cutT (fun e w=>∃ e',e=ovl [(0,.pointer (some ⟨bm,0,none⟩)),(3,.pointer (some ⟨b3,0,none⟩)),(5,.pointer (some ⟨b5,0,none⟩)),(7,.pointer (some ⟨b7,0,none⟩)),(8,.pointer (some ⟨b8,0,none⟩))] e'∧St w0 (cb b7 y.cells 55::cb b8 z.cells 55::cb b5 u.cells 55::cb b3 o.cells 55::mkL bm (mkc s p n na nc t) Ma Mi Mu R) w) ?_ ?_
 ·rcases hcase with ⟨h5,rfl,rfl⟩|⟨h5,rfl,rfl⟩
  ·have d5:(z.side==2)=true:=by simpa using h5
   repeat' (first|refine yT ?_|refine y7 sg H ?_|refine yU ?_|fail)
   refine CW.condT (congrArg Value.bool d5) ?_
   repeat' (first|refine yT ?_|(refine y11 sg H ?_;intro w H)|(refine CW.regionL mixed 4 (z6 (x:=cb b5 y.cells 55) (y:=cb b3 z.cells 55) H hF) [] ?_ ?_;exact rfl;refine w2 H ?_;clear H;intro w H;refine' l1 0 (z6 H hF) ?_ ?_;rotate_left;(exact z3 sg);refine' l1 1 (z6 H hF) ?_ ?_;rotate_left;(exact z3 sg))|((with_reducible apply RL.nil);decide +kernel)|refine l2 2 ?_|refine l2 3 ?_|(refine l5 (z6 H hF) ?_)|refine yU ?_|fail)
   all_goals exact⟨_,zAE rfl (zAE rfl (zA0 rfl rfl rfl)),H⟩
  ·have d5:(y.side==2)=false:=by simpa using h5
   repeat' (first|refine yT ?_|refine y7 sg H ?_|refine yU ?_|fail)
   refine CW.condF (congrArg Value.bool d5) ?_
   repeat' (first|refine yU ?_|fail)
   exact⟨_,zAE rfl (zAE rfl (zA0 rfl rfl rfl)),H⟩
 clear H
 rintro _ w ⟨e4',rfl,H⟩
 repeat' (first|refine yT ?_|refine y7 sg H ?_|refine y8 sg H ?_|refine x41 sg hs2 ?_|((with_reducible apply zT);exact rfl;exact rfl;exact Yq.loadB1 sg hs2 (H.memF hF) rfl rfl rfl rfl (show 2<n.length by omega) rfl)|((with_reducible apply zT);exact rfl;exact rfl;exact Yq.loadB1 sg hs2 (H.memF hF) rfl rfl rfl rfl (show 3<n.length by omega) rfl)|((with_reducible apply zT);exact rfl;exact rfl;exact Yq.loadB1 sg hs2 (H.memF hF) rfl rfl rfl rfl (show 4<n.length by omega) rfl)|((with_reducible apply OX.buildA sg H);(iterate 12 exact rfl);intro b w H _)|(replace H:=H.perm (zCI [_,_,_,_,_]);refine za rfl rfl (En.fn zFa rfl rfl) (zFm hLt hW (zNK y z o.inst (nF n 2) (nF n 3) (nF n 4)) H (hC.mono (List.subset_append_left _ _)) H.mem (zIO _ (Nat.le_of_ble_eq_true rfl) rfl (zIP (zz2 _)))) ?_;rintro _ _ w ⟨rfl,p',M',rfl,hC'⟩ H2;clear H;have H:=H2;clear H2)|refine yU ?_|(with_reducible apply zO;refine w2 H ?_;clear H;intro w H)|refine y20 mixed ?_|fail)
 by_cases h6:(zm s (zNK y z o.inst (nF n 2) (nF n 3) (nF n 4))).2≠0
 ·have d6:((zm s (zNK y z o.inst (nF n 2) (nF n 3) (nF n 4))).2 != 0)=true:=by simpa using h6
  rw[if_pos h6]
  refine CW.condT (congrArg Value.bool d6) ?_
  repeat' (first|refine yT ?_|refine yU ?_|fail)
  exact zS (M:=_) rfl H ⟨rfl,fun h=>absurd h h6⟩
 have d6:((zm s (zNK y z o.inst (nF n 2) (nF n 3) (nF n 4))).2 != 0)=false:=by simpa using h6
 rw[if_neg h6]
 refine CW.condF (congrArg Value.bool d6) ?_
 obtain⟨rs,hrs⟩:∃ rs,(zm s (zNK y z o.inst (nF n 2) (nF n 3) (nF n 4))).1={ s with rows:=rs }:=zC8 _ _
 rw[hrs] at H hC' ⊢
 clear hrs d6 h6
 obtain⟨R',hts,hRs,H3,hC3⟩:=wk_R H hC'
 clear H hC'
 have H:=H3
 have hC':=hC3
 clear H3 hC3
 have hm3:=hts (cb b3 o.cells 55) (by simp)
 have hm5:=hts (cb b5 u.cells 55) (by simp)
 clear hts
 repeat' (first|refine yT ?_|refine y7 sg H ?_|(refine y11 sg H ?_;intro w H)|(refine CW.regionL mixed 17 (z6s (x:=cb b3 o.cells 55) H hF (by first|exact zBp hm3|exact zAm hm3)) [] ?_ ?_;exact rfl;refine w2 H ?_;clear H;intro w H;have qh:=z6s (x:=cb b3 o.cells 55) H hF (by first|exact zBp hm3|exact zAm hm3);refine lT sg 0 qh ?_;refine lT sg 1 qh ?_;refine lT sg 2 qh ?_;refine lT sg 3 qh ?_;refine lT sg 4 qh ?_;refine lT sg 6 qh ?_;refine' l1 7 qh ?_ ?_;rotate_left;(exact z3 sg);refine lT sg 8 qh ?_)|((with_reducible apply RL.nil);decide +kernel)|(refine lT sg 10 (z6s H hF (by first|exact zBp hm3|exact zAm hm3)) ?_)|(refine lT sg 11 (z6s H hF (by first|exact zBp hm3|exact zAm hm3)) ?_)|(refine lT sg 12 (z6s H hF (by first|exact zBp hm3|exact zAm hm3)) ?_)|(refine lT sg 13 (z6s H hF (by first|exact zBp hm3|exact zAm hm3)) ?_)|(refine lT sg 14 (z6s H hF (by first|exact zBp hm3|exact zAm hm3)) ?_)|(refine lT sg 15 (z6s H hF (by first|exact zBp hm3|exact zAm hm3)) ?_)|refine l2 5 ?_|refine l2 9 ?_|refine l2 16 ?_|(refine l5 (z6s H hF (by first|exact zBp hm3|exact zAm hm3)) ?_)|(refine' y32 zJa ?_ ?_;rotate_left;exact zHR s.orders o.id (nF n 3) _ H.mem (SlA.mono hC'.od (fun p hp=>zz4 _ (zz3 _ (zz3 _ (zz3 _ hp)))));intro v M w hR hS;replace H:=H.addR hS;clear hS;(try simp only[List.cons_append,List.nil_append] at H);obtain⟨a1,c1,rfl,hsl⟩:=hR)|refine yU ?_|fail)
 have H3:St w0 (mkL bm (mkc { s with rows:=rs,orders:=(zAs s.orders o.id (nF n 3)).1 } { p' with odA:=a1,odC:=c1 } n na nc t) Ma Mi Mu (R'++M)) w:=by
  have h9:=H
  simp only[List.append_assoc] at h9 ⊢
  exact h9
 clear H
 have H:=H3
 clear H3
 obtain⟨R2,hR2,hm5,hsl,hRs2⟩:∃ R2:zC,R'++M=R2∧cb b5 u.cells 55∈R2∧SlA R2 6 a1 (zAs s.orders o.id (nF n 3)).1.length c1 (odl (zAs s.orders o.id (nF n 3)).1)∧R'⊆R2:=⟨_,rfl,zz6 _ hm5,SlA.mono hsl (zz8 _ _),List.subset_append_left _ _⟩
 rw[hR2] at H
 clear hR2
 repeat' (first|refine yT ?_|refine y7 sg H ?_|(refine y11 sg H ?_;intro w H)|(refine CW.regionL mixed 17 (z6s (x:=cb b5 u.cells 55) H hF (by first|exact zBp hm5|exact zAm hm5)) [] ?_ ?_;exact rfl;refine w2 H ?_;clear H;intro w H;have qh:=z6s (x:=cb b5 u.cells 55) H hF (by first|exact zBp hm5|exact zAm hm5);refine lT sg 0 qh ?_;refine lT sg 1 qh ?_;refine lT sg 2 qh ?_;refine lT sg 3 qh ?_;refine lT sg 4 qh ?_;refine lT sg 6 qh ?_;refine' l1 7 qh ?_ ?_;rotate_left;(exact z3 sg);refine lT sg 8 qh ?_)|((with_reducible apply RL.nil);decide +kernel)|(refine lT sg 10 (z6s H hF (by first|exact zBp hm5|exact zAm hm5)) ?_)|(refine lT sg 11 (z6s H hF (by first|exact zBp hm5|exact zAm hm5)) ?_)|(refine lT sg 12 (z6s H hF (by first|exact zBp hm5|exact zAm hm5)) ?_)|(refine lT sg 13 (z6s H hF (by first|exact zBp hm5|exact zAm hm5)) ?_)|(refine lT sg 14 (z6s H hF (by first|exact zBp hm5|exact zAm hm5)) ?_)|(refine lT sg 15 (z6s H hF (by first|exact zBp hm5|exact zAm hm5)) ?_)|refine l2 5 ?_|refine l2 9 ?_|refine l2 16 ?_|(refine l5 (z6s H hF (by first|exact zBp hm5|exact zAm hm5)) ?_)|(refine' y32 zJa ?_ ?_;rotate_left;exact zHR (zAs s.orders o.id (nF n 3)).1 u.id (nF n 3) _ H.mem (SlA.mono hsl (fun p hp=>zz4 _ (zz3 _ (zz3 _ (zz3 _ hp)))));intro v M w hR hS;replace H:=H.addR hS;clear hS;(try simp only[List.cons_append,List.nil_append] at H);obtain⟨a2,c2,rfl,hsl2⟩:=hR)|refine yU ?_|fail)
 simp only[List.append_assoc] at H
 refine zS (M:=mkL bm (mkc { s with rows:=rs,orders:=(zAs (zAs s.orders o.id (nF n 3)).1 u.id (nF n 3)).1 } { p' with odA:=a2,odC:=c2 } n na nc t) Ma Mi Mu (R2++M)) rfl H ⟨rfl,fun _=>⟨{ p' with odA:=a2,odC:=c2 },Ma,Mi,Mu,_,rfl,hC'.ac,hC'.ins,SlA.mono hC'.rw (fun q hq=>zz6 _ (hRs2 hq)),SlA.mono hsl2 (zz8 _ _),hC'.au,fun j hj=>SlA.mono (hC'.bd j hj) (fun q hq=>zz6 _ (hRs2 hq))⟩⟩
end
end
end Go.Proofs.YthbflajpdhgfiaaGreatDoor
