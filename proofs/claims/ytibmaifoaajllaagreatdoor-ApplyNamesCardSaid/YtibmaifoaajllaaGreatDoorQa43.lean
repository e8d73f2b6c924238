/- Texts of ours, joined: the steps of the proof, or the claim's theorem. -/
import Derived.Test.YtibmaifoaajllaaGreatDoorQa42
set_option linter.unusedSimpArgs false
set_option linter.unusedVariables false
set_option maxHeartbeats 16000000
namespace Go.Proofs.YtibmaifoaajllaaGreatDoor
section
open Go Go.Sk Go.RowKit
attribute [local irreducible] Go.Calls
abbrev zM9 (a:Auc)(w:Bid)(fee:Int):List Pst :=
 [⟨w.acct,0,IntKind.i64.wrap (0 - w.amount),0⟩,⟨a.seller,0,IntKind.i64.wrap (w.amount - fee),0⟩,⟨0,0,fee,0⟩,⟨a.seller,a.inst,IntKind.i64.wrap (0 - a.qty),0⟩,⟨w.acct,a.inst,a.qty,0⟩]
theorem zUL {a:Auc}{w:Bid}{fee:Int}(h1:0≤w.amount∧w.amount≤1125899906842624)(h2:0≤fee∧fee≤w.amount)(h3:0≤a.qty∧a.qty≤1125899906842624):zDI a w fee=zM9 a w fee:=by
 have e1:IntKind.i64.wrap (0 - w.amount)=-w.amount:=by rw[w64 (by omega) (by omega)];omega
 have e2:IntKind.i64.wrap (w.amount - fee)=w.amount - fee:=w64 (by omega) (by omega)
 have e3:IntKind.i64.wrap (0 - a.qty)=-a.qty:=by rw[w64 (by omega) (by omega)];omega
 unfold zM9
 rw[e1,e2,e3];rfl
section
variable {F:zH}{bm:Nat}{s:Sta}{p:SPt}{n:List Int}{na:Option Addr}{nc:Nat}{t:ByteArray}{Ma Mi Mu R:zH}
theorem c_sold {w0 w:World}(hB:AuB s)(hl:4≤n.length)(hLt:LtS s)(hW:WfR s)(H:St w0 (mkL bm (mkc s p n na nc t) Ma Mi Mu R) w)(hC:Cps s p Ma Mi Mu R)(hF:Mem w0 F)(hN:Ints F na nc n) :
  Calls Tryz.prog 111 [.pointer (some ⟨bm,0,none⟩)].toArray w (zn (zB3 bm n na nc t (zEd s n)) w0):=by
 obtain⟨hn2,hc2,b2,off2,cs2,T2,fr2,hs2⟩:=id hN
 have hpl:=fun w (G:zH) (hG:Mem w G) (hM:Mkt G bm s p n na nc t)=>zG2 (by omega) hLt.au w hG hM
 have hlt:=zKU s (nF n 0)
 have eP:zEd s n=if zAG s (nF n 0)<0 then(s,5) else if zA6 (au_ s.aucs (zAG s (nF n 0)).toNat) s.clock=true∧(zO s (au_ s.aucs (zAG s (nF n 0)).toNat)).2.2=true∧(zO s (au_ s.aucs (zAG s (nF n 0)).toNat)).1.acct=nF n 1∧(zO s (au_ s.aucs (zAG s (nF n 0)).toNat)).1.amount=nF n 2∧(zO s (au_ s.aucs (zAG s (nF n 0)).toNat)).2.1=nF n 3 then zA3 s (zAG s (nF n 0)).toNat (zDI (au_ s.aucs (zAG s (nF n 0)).toNat) (zO s (au_ s.aucs (zAG s (nF n 0)).toNat)).1 (zO s (au_ s.aucs (zAG s (nF n 0)).toNat)).2.1) else(s,46):=rfl
 rw[eP]
 clear eP
 by_cases h0:zAG s (nF n 0)<0
 ·have d0:decide (zAG s (nF n 0)<0)=true:=decide_eq_true h0
  rw[if_pos h0]
  refine enter [.tmp 2] Tryz.func111 rfl Tryz.ntmps111 rfl rfl ?_
  repeat' (first|refine yT ?_|(refine' y30 zEB ?_ ?_;rotate_left;exact hpl _ _ (H.all hF) (zi hC hLt hN);intro w hcl;replace H:=H.ext hcl;clear hcl)|refine yU ?_|(refine y23 ?_ ?_;all_goals(intro h;try (exfalso;first|((cases d0.symm.trans h);done))))|fail)
  exact zU (M:=_) rfl H ⟨rfl,fun h=>absurd h (show(5:Int)≠0 by decide)⟩
 obtain⟨k,hk⟩:∃ k:Nat,zAG s (nF n 0)=k:=⟨(zAG s (nF n 0)).toNat,by omega⟩
 rw[hk] at hpl hlt h0 ⊢
 rw[Int.toNat_natCast,if_neg h0]
 have hkl:k<s.aucs.length:=by omega
 obtain⟨g,cs,hA,rfl,hcap,hcm,hcl,hE⟩:=own_get (n:=s.aucs.length) (el:=ael s.aucs p.ad) hC.au (by omega) (fun _ _=>rfl)
 have hsI:=hE.slb (F:=[cb g cs 62]) (T:=62) (zz2 _)
 rw[← hA] at hsI
 have hfit:=(hE _ hkl).1
 have hwin:=fun w (G:zH) (hG:Mem w G) (hM:Mkt G bm s p n na nc t) (hb:Bids G (p.ad k).1 (p.ad k).2 (au_ s.aucs k).bids)=>zG3 (au_ s.aucs k) hB.h64 hB.fee (hB.qty k hkl) (hB.win k hkl) w hG hM hb
 refine enter [.tmp 2] Tryz.func111 rfl Tryz.ntmps111 rfl rfl ?_
 repeat' (first|refine yT ?_|refine y7 sg H ?_|(refine y10 sg H ?_;intro b w H)|(refine y11 sg H ?_;intro w H)|(refine' y30 zEB ?_ ?_;rotate_left;exact hpl _ _ (H.all hF) (zi hC hLt hN);intro w hcl;replace H:=H.ext hcl;clear hcl)|(refine y40 sg (hsI) ?_ ?_ ?_;(omega);(omega))|(refine y42 sg (hsI) ((show Mem _ [cb g cs 62] from fun p hp=>H.mem p (by cases List.mem_singleton.1 hp;simp))) ?_ ?_;(omega))|(refine' y30 zQK ?_ ?_;rotate_left;exact hwin _ _ (H.all hF) (zi hC hLt hN) (SlA.mono (hC.bd k hkl) qS);intro w hcl;replace H:=H.ext hcl;clear hcl)|refine yU ?_|fail)
 by_cases hC2:zA6 (au_ s.aucs k) s.clock=true∧(zO s (au_ s.aucs k)).2.2=true∧(zO s (au_ s.aucs k)).1.acct=nF n 1∧(zO s (au_ s.aucs k)).1.amount=nF n 2∧(zO s (au_ s.aucs k)).2.1=nF n 3
 rotate_left
 ·rw[if_neg hC2]
  repeat' (first|refine yT ?_|refine y7 sg H ?_|refine y8 sg H ?_|(refine y41 sg (hs2) ?_ ?_ ?_;(omega);(omega))|((with_reducible apply zP);exact rfl;exact rfl;exact Yq.loadB1 sg hs2 (H.memF hF) rfl rfl rfl rfl (show 2<n.length by omega) rfl)|((with_reducible apply zP);exact rfl;exact rfl;exact Yq.loadB1 sg hs2 (H.memF hF) rfl rfl rfl rfl (show 3<n.length by omega) rfl)|(refine' y31 zAy ?_ ?_;rotate_left;exact(fun _ hcl=>zA2 1 (by omega) _ ((H.ext hcl).all hF) (zi hC hLt hN)))|(refine' y31 zGh ?_ ?_;rotate_left;exact(fun _ hcl=>zI0 (au_ s.aucs k) s.clock _ (H.ext hcl).mem (SlA.mono (hC.bd k hkl) qS)))|refine yU ?_|(refine y18 ?_ ?_;all_goals intro h)|(with_reducible apply zL;intro w hcl;replace H:=H.ext hcl;clear hcl)|refine y20 mixed ?_|(refine y23 ?_ ?_;all_goals intro h)|fail)
  all_goals first
   | exact zU (M:=_) rfl H ⟨rfl,fun h=>absurd h (show(46:Int)≠0 by decide)⟩
   | (exfalso;apply hC2;simp only[Bool.not_eq_eq_eq_not,Bool.not_true,Bool.not_false,bne_eq_false_iff_eq] at *;exact⟨‹_›,‹_›,‹_›,‹_›,‹_›⟩)
   | trace_state
 rw[if_pos hC2]
 have hwo:=zD0 hC2.2.1
 have hwb:=hB.win k hkl
 have hfb:=zOM hwb.1 hB.fee
 rw[zUL (by rw[hwo.2.1];exact hwb) (by rw[hwo.2.1,hwo.2.2.1];exact hfb) (hB.qty k hkl)]
 obtain⟨g0,g1,g2,g3,g4⟩:=hC2
 have d0:(!zA6 (au_ s.aucs k) s.clock)=false:=by rw[g0];rfl
 have d1:(!(zO s (au_ s.aucs k)).2.2)=false:=by rw[g1];rfl
 have d2:((zO s (au_ s.aucs k)).1.acct != nF n 1)=false:=by rw[g2];simp
 have d3:((zO s (au_ s.aucs k)).1.amount != nF n 2)=false:=by rw[g3];simp
 have d4:((zO s (au_ s.aucs k)).2.1 != nF n 3)=false:=by rw[g4];simp
 repeat' (first|refine yT ?_|refine y7 sg H ?_|refine y8 sg H ?_|(refine y41 sg (hs2) ?_ ?_ ?_;(omega);(omega))|((with_reducible apply zP);exact rfl;exact rfl;exact Yq.loadB1 sg hs2 (H.memF hF) rfl rfl rfl rfl (show 2<n.length by omega) rfl)|((with_reducible apply zP);exact rfl;exact rfl;exact Yq.loadB1 sg hs2 (H.memF hF) rfl rfl rfl rfl (show 3<n.length by omega) rfl)|(refine' y31 zAy ?_ ?_;rotate_left;exact(fun _ hcl=>zA2 1 (by omega) _ ((H.ext hcl).all hF) (zi hC hLt hN)))|(refine' y31 zGh ?_ ?_;rotate_left;exact(fun _ hcl=>zI0 (au_ s.aucs k) s.clock _ (H.ext hcl).mem (SlA.mono (hC.bd k hkl) qS)))|((with_reducible apply OX.buildA sg H);exact rfl;exact rfl;exact rfl;exact rfl;exact rfl;exact rfl;exact rfl;exact rfl;exact rfl;exact rfl;exact rfl;exact rfl;intro b w H _)|(replace H:=H.sub (List.Sublist.cons_cons _ ((zz7 _ _).trans (zz7 _ _)));refine zc rfl rfl (En.fn zQZ rfl rfl) (zLg k hkl (zM9 (au_ s.aucs k) (zO s (au_ s.aucs k)).1 (zO s (au_ s.aucs k)).2.1) (show 5≤1000 by decide) (Mp:=[_]) ⟨rfl,.inr ⟨_,_,rfl,rfl,zzC _,(show 5≤maxLen by unfold maxLen;decide),rfl,rfl⟩⟩ (hB.bds k hkl) (hB.qty k hkl) hLt hW H hC) ?_;rintro _ _ w ⟨rfl,hR2⟩ H2;clear H;have H:=H2;clear H2)|refine yU ?_|(refine y18 ?_ ?_;all_goals(intro h;try (exfalso;first|((cases d0.symm.trans h);done)|((cases d1.symm.trans h);done)|((cases d2.symm.trans h);done)|((cases d3.symm.trans h);done)|((cases d4.symm.trans h);done))))|(with_reducible apply zL;intro w hcl;replace H:=H.ext hcl;clear hcl)|refine y20 mixed ?_|(refine y23 ?_ ?_;all_goals(intro h;try (exfalso;first|((cases d0.symm.trans h);done)|((cases d1.symm.trans h);done)|((cases d2.symm.trans h);done)|((cases d3.symm.trans h);done)|((cases d4.symm.trans h);done))))|fail)
 exact zU (M:=_) rfl H ⟨rfl,hR2⟩
end
end
section
open Go Go.Sk Go.RowKit
attribute [local irreducible] Go.Calls
theorem keepF {e:Env}{l:List (Nat × Value)}{i:Nat}{x:Value}(h1:e i=x)(h2:e=ovl l e):e=ovl ((i,x)::l) e:=by
 funext q
 rw[zBn]
 by_cases hi:q=i
 ·rw[if_pos hi,hi,h1]
 ·rw[if_neg hi];exact congrFun h2 q
section
variable {G:zH}{bm:Nat}{s:Sta}{p:SPt}{n:List Int}{na:Option Addr}{nc:Nat}{t:ByteArray}
theorem zUM (o u:Odr)(hl:5≤n.length)(hp:1≤nF n 2∧nF n 2≤1073741824)(hq:1≤nF n 3∧nF n 3≤1048576)(hfe:0≤s.fee∧s.fee≤1000)(hno:0≤s.nextO∧s.nextO≤4611686018427387904)(w0:World)(hG:Mem w0 G)(hP:PriM G)(hM:Mkt G bm s p n na nc t) :
  Calls Tryz.prog 149 [.pointer (some ⟨bm,0,none⟩),.agg o.cells.toArray,.agg u.cells.toArray].toArray w0 (Ret (.bool (zDH s n o u)) w0):=by
 obtain⟨hn2,hc2,b2,off2,cs2,T2,fr2,hs2⟩:=hM.num
 have hmul:=zFl (p:=nF n 2) (q:=nF n 3) hp.1 hp.2 hq.1 hq.2
 have hpaid:(zHM (nF n 2) (nF n 3)).1=nF n 2*nF n 3:=by
  unfold zHM
  rw[if_neg (by omega),if_neg (by omega)]
 have hno1:IntKind.i64.wrap (s.nextO - 1)=s.nextO - 1:=w64 (by omega) (by omega)
 have eM:zDH s n o u=(o.id==s.nextO - 1&&(zDF s.orders u.inst u.side).1.id==u.id&&zAu o u&&nF n 2==u.price&&nF n 3==min o.left u.left&&nF n 4==(zBt (zHM (nF n 2) (nF n 3)).1 s.fee).1):=rfl
 have hmin:min o.left u.left=if u.left<o.left then u.left else o.left:=by split<;>omega
 rw[eM,← hno1]
 clear eM hno1
 refine enter [.tmp 6] Tryz.func149 rfl Tryz.ntmps149 rfl rfl ?_
 have H:=zB w0
 repeat' (first|refine yT ?_|(refine y9 H ?_;intro b w H)|refine yU ?_|fail)
 refine CW.cutT (fun e w=>∃ b4 b5 b7 e',e=ovl [(0,.pointer (some ⟨bm,0,none⟩)),(4,.pointer (some ⟨b4,0,none⟩)),(5,.pointer (some ⟨b5,0,none⟩)),(7,.pointer (some ⟨b7,0,none⟩))] e'∧St w0 [cb b7 (zDF s.orders u.inst u.side).1.cells 43,cb b5 u.cells 43,cb b4 o.cells 43] w) ?_ ?_
 ·repeat' (first|refine yT ?_|(refine y10 sg H ?_;intro b w H)|(refine y11 sg H ?_;intro w H)|(refine CW.regionL mixed 16 (z6s (x:=cb _ u.cells 43) H hG) [] ?_ ?_;exact rfl;intro w hcl;replace H:=H.ext hcl;clear hcl;have qh:=z6s (x:=cb _ u.cells 43) H hG;refine' l1 0 qh ?_ ?_;rotate_left;(exact z4 sg);refine' l1 1 qh ?_ ?_;rotate_left;(exact z4 sg);refine' l1 2 qh ?_ ?_;rotate_left;(exact z4 sg);refine' l1 3 qh ?_ ?_;rotate_left;(exact z4 sg);refine' l1 4 qh ?_ ?_;rotate_left;(exact(fun w2 hM2=>zG sg rfl rfl hM2 (zz4 _ hM.blk) rfl rfl));refine' l1 5 qh ?_ ?_;rotate_left;(exact z4 sg);refine' l1 6 qh ?_ ?_;rotate_left;(exact z3 sg);refine' l1 7 qh ?_ ?_;rotate_left;(exact z4 sg);refine' l1 8 qh ?_ ?_;rotate_left;(exact z3 sg))|((with_reducible apply RL.nil);decide +kernel)|(refine' l1 10 (z6s (x:=cb _ u.cells 43) H hG) ?_ ?_;rotate_left;(exact z4 sg))|(refine' l1 11 (z6s (x:=cb _ u.cells 43) H hG) ?_ ?_;rotate_left;(exact z4 sg))|(refine' l1 12 (z6s (x:=cb _ u.cells 43) H hG) ?_ ?_;rotate_left;(exact z4 sg))|(refine' l1 15 (z6s (x:=cb _ u.cells 43) H hG) ?_ ?_;rotate_left;(exact z4 sg))|refine l2 9 ?_|refine l2 13 ?_|refine l2 14 ?_|refine l4 9 13 ?_ ?_|(refine l5 (z6s (x:=cb _ u.cells 43) H hG) ?_)|(refine' y30 zQI ?_ ?_;rotate_left;exact zOC s.orders u.inst u.side _ (H.memF hG) hP hM.sta.od;intro w hcl;replace H:=H.ext hcl;clear hcl)|refine yU ?_|fail)
  all_goals exact⟨_,_,_,_,keepF rfl (zAZ rfl rfl rfl),H⟩
 clear H
 rintro _ w ⟨b4,b5,b7,e',rfl,H⟩
 repeat' (first|refine yT ?_|refine y8 sg H ?_|refine z13 (zG sg rfl rfl (H.memF hG) hM.blk rfl rfl) ?_|((with_reducible apply zP);exact rfl;exact rfl;exact zG sg rfl rfl (H.memF hG) hM.blk rfl rfl)|(refine y41 sg (hs2) ?_ ?_ ?_;(omega);(omega))|((with_reducible apply zP);exact rfl;exact rfl;exact Yq.loadB1 sg hs2 (H.memF hG) rfl rfl rfl rfl (show 2<n.length by omega) rfl)|((with_reducible apply zP);exact rfl;exact rfl;exact Yq.loadB1 sg hs2 (H.memF hG) rfl rfl rfl rfl (show 3<n.length by omega) rfl)|((with_reducible apply zP);exact rfl;exact rfl;exact Yq.loadB1 sg hs2 (H.memF hG) rfl rfl rfl rfl (show 4<n.length by omega) rfl)|(refine' y31 ent192 ?_ ?_;rotate_left;exact(fun _ hcl=>c_Mul (nF n 2) (nF n 3) (by omega) (by omega) (by omega) (by omega) (by omega) _))|(refine' y30 zKm ?_ ?_;rotate_left;exact zIV (zHM (nF n 2) (nF n 3)).1 s.fee (by omega) (by omega) (by omega) (by omega) _;intro w hcl;replace H:=H.ext hcl;clear hcl)|(refine' y31 zQJ ?_ ?_;rotate_left;exact(fun _ hcl=>zJM o u _ ((H.ext hcl).memF hG) hP))|refine yU ?_|(refine y18 ?_ ?_;all_goals intro h)|(with_reducible apply zL;intro w hcl;replace H:=H.ext hcl;clear hcl)|refine y20 mixed ?_|fail)
 all_goals
  refine zQ rfl H.cl (congrArg Value.bool ?_)
  show _=(o.id==IntKind.i64.wrap (s.nextO - 1)&&(zDF s.orders u.inst u.side).1.id==u.id&&zAu o u&&n.getD (Int.toNat 2) 0==u.price&&n.getD (Int.toNat 3) 0==min o.left u.left&&n.getD (Int.toNat 4) 0==(zBt (zHM (nF n 2) (nF n 3)).1 s.fee).1)
  rw[hmin]
  simp only[*,Bool.true_and,Bool.and_true,Bool.and_false,Bool.false_and]
end
end
section
open Go Go.Sk Go.RowKit
attribute [local irreducible] Go.Calls
section
variable {F G:zH}{bm:Nat}{s:Sta}{p:SPt}{n:List Int}{na:Option Addr}{nc:Nat}{t:ByteArray}{Ma Mi Mu R:zH}
theorem wk_R {w0 w:World}{cs:List Value}{ts N:zH}{s:Sta}{p:SPt}(H:St w0 (mkL bm cs Ma Mi Mu (R++ts++N)) w)(hC:Cps s p Ma Mi Mu (R++ts++N)):∃ R':zH,(∀ x∈ts,x∈R')∧R⊆R'∧St w0 (mkL bm cs Ma Mi Mu R') w∧Cps s p Ma Mi Mu R' :=
 ⟨_,fun x hx=>zz6 _ (zz3 _ hx),fun x hx=>zz6 _ (zz6 _ hx),H,hC⟩
theorem zBv {cs:List Value}{x:Nat × Obj}(h:x∈R):x∈mkL bm cs Ma Mi Mu R:=by simp[h]
theorem zAp {cs:List Value}{x:Nat × Obj}{M:zH}(h:x∈R):x∈cb bm cs 95::(Ma++(Mi++(Mu++R))++M):=by simp[h]
abbrev zNA (b l:Odr)(inst price q fee:Int):List Pst:=[⟨b.acct,0,IntKind.i64.wrap (IntKind.i64.wrap (b.price - price)*q),IntKind.i64.wrap (IntKind.i64.wrap (0 - b.price)*q)⟩,⟨l.acct,0,IntKind.i64.wrap (IntKind.i64.wrap (price*q) - fee),0⟩,⟨0,0,fee,0⟩,⟨l.acct,inst,0,IntKind.i64.wrap (0 - q)⟩,⟨b.acct,inst,q,0⟩]
theorem zSd {b l:Odr}(hb:zAm b){inst price q fee:Int}(hp:1≤price∧price≤1073741824)(hq:1≤q∧q≤1048576)(hf:0≤fee∧fee≤1125899906842624) :
  zA1 b l inst price q fee=zNA b l inst price q fee:=by
 have hbp:=hb.2.2.2.2.1
 have m1:=zFl (p:=b.price) (q:=q) (by omega) hbp.2 hq.1 hq.2
 have m2:=zFl (p:=price) (q:=q) hp.1 hp.2 hq.1 hq.2
 have e1:IntKind.i64.wrap (b.price - price)=b.price - price:=w64 (by omega) (by omega)
 have e2:IntKind.i64.wrap (0 - b.price)=-b.price:=by rw[w64 (by omega) (by omega)];omega
 have e3:(b.price - price)*q=b.price*q - price*q:=Int.sub_mul ..
 have e4:-b.price*q=-(b.price*q):=Int.neg_mul ..
 have e5:IntKind.i64.wrap ((b.price - price)*q)=(b.price - price)*q:=by rw[e3];exact w64 (by omega) (by omega)
 have e6:IntKind.i64.wrap (-b.price*q)=-b.price*q:=by rw[e4];exact w64 (by omega) (by omega)
 have e7:IntKind.i64.wrap (price*q)=price*q:=w64 (by omega) (by omega)
 have e8:IntKind.i64.wrap (price*q - fee)=price*q - fee:=w64 (by omega) (by omega)
 have e9:IntKind.i64.wrap (0 - q)=-q:=by rw[w64 (by omega) (by omega)];omega
 unfold zNA
 rw[e1,e2,e5,e6,e7,e8,e9];rfl
theorem zSe {w0 w:World}(h:Good s)(hLt:LtS s)(hW:WfR s)(hl:5≤n.length)(hp:1≤nF n 2∧nF n 2≤1073741824)(hq:1≤nF n 3∧nF n 3≤1048576)(hf:0≤nF n 4∧nF n 4≤1125899906842624)(hP:PriM F)(H:St w0 (mkL bm (mkc s p n na nc t) Ma Mi Mu R) w)(hC:Cps s p Ma Mi Mu R)(hF:Mem w0 F)(hN:Ints F na nc n) :
  Calls Tryz.prog 106 [.pointer (some ⟨bm,0,none⟩)].toArray w (zn (zB3 bm n na nc t (zCK s n)) w0):=by
 obtain⟨hn2,hc2,b2,off2,cs2,T2,fr2,hs2⟩:=id hN
 have hs2F:=hs2.mono (List.subset_cons_self (cb bm (mkc s p n na nc t) 95) F)
 have hnum:=zx.1 h.nums
 have g:=h
 clear h
 have eP:zCK s n=if (zV s.orders (nF n 0)).2=true∧(zV s.orders (nF n 1)).2=true then(if zDH s n (zV s.orders (nF n 0)).1 (zV s.orders (nF n 1)).1=true then(if (zV s.orders (nF n 0)).1.acct=(zV s.orders (nF n 1)).1.acct then(s,49) else if (zj s (if (zV s.orders (nF n 0)).1.side=2 then zA1 (zV s.orders (nF n 1)).1 (zV s.orders (nF n 0)).1 (zV s.orders (nF n 0)).1.inst (nF n 2) (nF n 3) (nF n 4) else zA1 (zV s.orders (nF n 0)).1 (zV s.orders (nF n 1)).1 (zV s.orders (nF n 0)).1.inst (nF n 2) (nF n 3) (nF n 4))).2≠0 then zj s (if (zV s.orders (nF n 0)).1.side=2 then zA1 (zV s.orders (nF n 1)).1 (zV s.orders (nF n 0)).1 (zV s.orders (nF n 0)).1.inst (nF n 2) (nF n 3) (nF n 4) else zA1 (zV s.orders (nF n 0)).1 (zV s.orders (nF n 1)).1 (zV s.orders (nF n 0)).1.inst (nF n 2) (nF n 3) (nF n 4)) else({ (zj s (if (zV s.orders (nF n 0)).1.side=2 then zA1 (zV s.orders (nF n 1)).1 (zV s.orders (nF n 0)).1 (zV s.orders (nF n 0)).1.inst (nF n 2) (nF n 3) (nF n 4) else zA1 (zV s.orders (nF n 0)).1 (zV s.orders (nF n 1)).1 (zV s.orders (nF n 0)).1.inst (nF n 2) (nF n 3) (nF n 4))).1 with orders:=(zAx (zAx s.orders (zV s.orders (nF n 0)).1.id (nF n 3)).1 (zV s.orders (nF n 1)).1.id (nF n 3)).1 },0)) else(s,46)) else(s,5):=rfl
 rw[eP]
 clear eP
 have hfnd:=fun w (j:Int) (L:zH) (hG:Mem w (L++F)) (hsub:R⊆L)=>zFu s.orders j w hG (SlA.mono hC.od fun p hp=>zz6 _ (hsub hp))
 have hfo:(zV s.orders (nF n 0)).2=true→(zV s.orders (nF n 0)).1∈s.orders:=fun e=>(zCh e).2.1
 have hfu:(zV s.orders (nF n 1)).2=true→(zV s.orders (nF n 1)).1∈s.orders:=fun e=>(zCh e).2.1
 generalize hO:zV s.orders (nF n 0)=fo at *
 generalize hU:zV s.orders (nF n 1)=fu at *
 obtain⟨o,f1⟩:=fo
 obtain⟨u,f2⟩:=fu
 simp only at hfo hfu ⊢
 have hfnd0:=fun w (L:zH) (hG:Mem w (L++F)) (hsub:R⊆L)=>hfnd w (nF n 0) L hG hsub
 have hfnd1:=fun w (L:zH) (hG:Mem w (L++F)) (hsub:R⊆L)=>hfnd w (nF n 1) L hG hsub
 rw[hO] at hfnd0
 rw[hU] at hfnd1
 clear hfnd hO hU
 refine enter [.tmp 2] Tryz.func106 rfl Tryz.ntmps106 rfl rfl ?_
 repeat' (first|refine yT ?_|refine yU ?_|fail)
 refine CW.cutT (fun e w=>∃ b e',e=ovl [(0,.pointer (some ⟨bm,0,none⟩)),(3,.pointer (some ⟨b,0,none⟩)),(4,.bool f1)] e'∧St w0 (cb b o.cells 43::mkL bm (mkc s p n na nc t) Ma Mi Mu R) w) ?_ ?_
 ·repeat' (first|refine yT ?_|(refine y10 sg H ?_;intro b w H)|(refine y11 sg H ?_;intro w H)|(refine CW.regionL mixed 18 (z6s (x:=cb bm (mkc s p n na nc t) 95) H hF) [] ?_ ?_;exact rfl;intro w hcl;replace H:=H.ext hcl;clear hcl;have qh:=z6s (x:=cb bm (mkc s p n na nc t) 95) H hF;refine' l1 0 qh ?_ ?_;rotate_left;(exact z4 sg);refine' l1 1 qh ?_ ?_;rotate_left;(exact z4 sg);refine' l1 2 qh ?_ ?_;rotate_left;(exact z4 sg);refine' l1 3 qh ?_ ?_;rotate_left;(exact z4 sg);refine' l1 4 qh ?_ ?_;rotate_left;(exact z3 sg);refine' l1 5 qh ?_ ?_;rotate_left;(exact z4 sg);refine' l1 6 qh ?_ ?_;rotate_left;(exact z4 sg);refine' l1 7 qh ?_ ?_;rotate_left;(exact z4 sg);refine' l1 8 qh ?_ ?_;rotate_left;(exact z3 sg);refine' l1 9 qh ?_ ?_;rotate_left;(exact(fun w2 _=>zF sg hs2 rfl rfl rfl rfl rfl rfl rfl (by first|with_reducible exact zz1 _|exact zD (by omega) (by omega)|with_reducible exact zI|exact zC _) (by omega) (by omega)));refine' l1 10 qh ?_ ?_;rotate_left;(exact(fun w2 hM2=>Yq.loadB1 sg hs2F hM2 rfl rfl rfl rfl (show 0<n.length by omega) rfl)))|((with_reducible apply RL.nil);decide +kernel)|(refine' l1 12 (z6s (x:=cb bm (mkc s p n na nc t) 95) H hF) ?_ ?_;rotate_left;(exact z4 sg))|(refine' l1 13 (z6s (x:=cb bm (mkc s p n na nc t) 95) H hF) ?_ ?_;rotate_left;(exact z4 sg))|(refine' l1 14 (z6s (x:=cb bm (mkc s p n na nc t) 95) H hF) ?_ ?_;rotate_left;(exact z4 sg))|(refine' l1 17 (z6s (x:=cb bm (mkc s p n na nc t) 95) H hF) ?_ ?_;rotate_left;(exact z4 sg))|refine l2 11 ?_|refine l2 15 ?_|refine l2 16 ?_|refine l4 11 15 ?_ ?_|(refine l5 (z6s (x:=cb bm (mkc s p n na nc t) 95) H hF) ?_)|(refine' y30 zFV ?_ ?_;rotate_left;exact hfnd0 _ _ (H.all hF) (fun p hp=>by simp[hp]);intro w hcl;replace H:=H.ext hcl;clear hcl)|refine yU ?_|fail)
  all_goals exact⟨b,_,zAZ rfl rfl rfl,H⟩
 clear H
 rintro _ w ⟨b3,e',rfl,H⟩
 repeat' (first|refine yU ?_|fail)
 refine CW.cutT (fun e w=>∃ b5 e',e=ovl [(0,.pointer (some ⟨bm,0,none⟩)),(3,.pointer (some ⟨b3,0,none⟩)),(4,.bool f1),(5,.pointer (some ⟨b5,0,none⟩)),(6,.bool f2)] e'∧St w0 (cb b5 u.cells 43::cb b3 o.cells 43::mkL bm (mkc s p n na nc t) Ma Mi Mu R) w) ?_ ?_
 ·repeat' (first|refine yT ?_|(refine y10 sg H ?_;intro b w H)|(refine y11 sg H ?_;intro w H)|(refine CW.regionL mixed 18 (z6s (x:=cb bm (mkc s p n na nc t) 95) H hF) [] ?_ ?_;exact rfl;intro w hcl;replace H:=H.ext hcl;clear hcl;have qh:=z6s (x:=cb bm (mkc s p n na nc t) 95) H hF;refine' l1 0 qh ?_ ?_;rotate_left;(exact z4 sg);refine' l1 1 qh ?_ ?_;rotate_left;(exact z4 sg);refine' l1 2 qh ?_ ?_;rotate_left;(exact z4 sg);refine' l1 3 qh ?_ ?_;rotate_left;(exact z4 sg);refine' l1 4 qh ?_ ?_;rotate_left;(exact z3 sg);refine' l1 5 qh ?_ ?_;rotate_left;(exact z4 sg);refine' l1 6 qh ?_ ?_;rotate_left;(exact z4 sg);refine' l1 7 qh ?_ ?_;rotate_left;(exact z4 sg);refine' l1 8 qh ?_ ?_;rotate_left;(exact z3 sg);refine' l1 9 qh ?_ ?_;rotate_left;(exact(fun w2 _=>zF sg hs2 rfl rfl rfl rfl rfl rfl rfl (by first|with_reducible exact zz1 _|exact zD (by omega) (by omega)|with_reducible exact zI|exact zC _) (by omega) (by omega)));refine' l1 10 qh ?_ ?_;rotate_left;(exact(fun w2 hM2=>Yq.loadB1 sg hs2F hM2 rfl rfl rfl rfl (show 1<n.length by omega) rfl)))|((with_reducible apply RL.nil);decide +kernel)|(refine' l1 12 (z6s (x:=cb bm (mkc s p n na nc t) 95) H hF) ?_ ?_;rotate_left;(exact z4 sg))|(refine' l1 13 (z6s (x:=cb bm (mkc s p n na nc t) 95) H hF) ?_ ?_;rotate_left;(exact z4 sg))|(refine' l1 14 (z6s (x:=cb bm (mkc s p n na nc t) 95) H hF) ?_ ?_;rotate_left;(exact z4 sg))|(refine' l1 17 (z6s (x:=cb bm (mkc s p n na nc t) 95) H hF) ?_ ?_;rotate_left;(exact z4 sg))|refine l2 11 ?_|refine l2 15 ?_|refine l2 16 ?_|refine l4 11 15 ?_ ?_|(refine l5 (z6s (x:=cb bm (mkc s p n na nc t) 95) H hF) ?_)|(refine' y30 zFV ?_ ?_;rotate_left;exact hfnd1 _ _ (H.all hF) (fun p hp=>by simp[hp]);intro w hcl;replace H:=H.ext hcl;clear hcl)|refine yU ?_|fail)
  all_goals exact⟨b,_,za rfl (za rfl (zAZ rfl rfl rfl)),H⟩
 clear H
 rintro _ w ⟨b5,e2',rfl,H⟩
 cases f1 with
 | false =>
   rw[if_neg (fun e=>by cases e.1)]
   repeat' (first|refine yT ?_|refine yU ?_|with_reducible apply zA|fail)
   all_goals exact zU (M:=_) rfl H ⟨rfl,fun h=>absurd h (show(5:Int)≠0 by decide)⟩
 | true =>
 cases f2 with
 | false =>
   rw[if_neg (fun e=>by cases e.2)]
   repeat' (first|refine yT ?_|refine yU ?_|with_reducible apply zA|fail)
   all_goals exact zU (M:=_) rfl H ⟨rfl,fun h=>absurd h (show(5:Int)≠0 by decide)⟩
 | true =>
 rw[if_pos ⟨rfl,rfl⟩]
 have mo:=(zAP.1 g.ords).2.1 _ (hfo rfl)
 have mu:=(zAP.1 g.ords).2.1 _ (hfu rfl)
 have hme:=fun w (L:zH) (hG:Mem w (L++F)) (hM:Mkt (L++F) bm s p n na nc t)=>zUM o u hl hp hq hnum.2.1 (by omega) w hG (hP.mono (zz8 _ _)) hM
 by_cases h2:zDH s n o u=true
 rotate_left
 ·have d2:(!zDH s n o u)=true:=by simpa using h2
  rw[if_neg h2]
  repeat' (first|refine yT ?_|refine y7 sg H ?_|(refine' y30 zQW ?_ ?_;rotate_left;exact hme _ _ (H.all hF) (zi hC hLt hN);intro w hcl;replace H:=H.ext hcl;clear hcl)|refine yU ?_|with_reducible apply zA|fail)
  refine CW.condT (congrArg Value.bool d2) ?_
  repeat' (first|refine yT ?_|refine yU ?_|fail)
  exact zU (M:=_) rfl H ⟨rfl,fun h=>absurd h (show(46:Int)≠0 by decide)⟩
 have d2:(!zDH s n o u)=false:=by simpa using h2
 rw[if_pos h2]
 repeat' (first|refine yT ?_|refine y7 sg H ?_|(refine' y30 zQW ?_ ?_;rotate_left;exact hme _ _ (H.all hF) (zi hC hLt hN);intro w hcl;replace H:=H.ext hcl;clear hcl)|refine yU ?_|with_reducible apply zA|fail)
 refine CW.condF (congrArg Value.bool d2) ?_
 by_cases h3:o.acct=u.acct
 ·have d3:(o.acct==u.acct)=true:=by simpa using h3
  rw[if_pos h3]
  repeat' (first|refine yT ?_|refine y7 sg H ?_|refine yU ?_|fail)
  refine CW.condT (congrArg Value.bool d3) ?_
  repeat' (first|refine yT ?_|refine yU ?_|fail)
  exact zU (M:=_) rfl H ⟨rfl,fun h=>absurd h (show(49:Int)≠0 by decide)⟩
 have d3:(o.acct==u.acct)=false:=by simpa using h3
 rw[if_neg h3]
 repeat' (first|refine yT ?_|refine y7 sg H ?_|refine yU ?_|fail)
 refine CW.condF (congrArg Value.bool d3) ?_
 repeat' (first|refine yU ?_|fail)
 refine CW.cutT (fun e w=>∃ b7 b8 e',e=ovl [(0,.pointer (some ⟨bm,0,none⟩)),(3,.pointer (some ⟨b3,0,none⟩)),(5,.pointer (some ⟨b5,0,none⟩)),(7,.pointer (some ⟨b7,0,none⟩)),(8,.pointer (some ⟨b8,0,none⟩))] e'∧St w0 (cb b7 o.cells 43::cb b8 u.cells 43::cb b5 u.cells 43::cb b3 o.cells 43::mkL bm (mkc s p n na nc t) Ma Mi Mu R) w) ?_ ?_
 ·repeat' (first|refine yT ?_|(refine y10 sg H ?_;intro b w H)|(refine y11 sg H ?_;intro w H)|(refine CW.regionL mixed 6 (z6 (x:=cb b5 u.cells 43) (y:=cb b3 o.cells 43) H hF) [] ?_ ?_;exact rfl;intro w hcl;replace H:=H.ext hcl;clear hcl;refine' l1 0 (z6 (x:=cb b5 u.cells 43) (y:=cb b3 o.cells 43) H hF) ?_ ?_;rotate_left;(exact z3 sg);refine' l1 1 (z6 (x:=cb b5 u.cells 43) (y:=cb b3 o.cells 43) H hF) ?_ ?_;rotate_left;(exact z3 sg))|((with_reducible apply RL.nil);decide +kernel)|refine l2 2 ?_|refine l2 3 ?_|refine l2 4 ?_|refine l2 5 ?_|refine l4 2 3 ?_ ?_|(refine l5 (z6 (x:=cb b5 u.cells 43) (y:=cb b3 o.cells 43) H hF) ?_)|refine yU ?_|fail)
  all_goals first
   | exact⟨_,_,_,za rfl (za rfl (zAZ rfl rfl rfl)),H⟩
   | exact⟨_,_,_,za rfl (za rfl (zAZ rfl rfl rfl)),H.perm (List.Perm.swap _ _ _)⟩
 clear H
 rintro _ w ⟨b7,b8,e3',rfl,H⟩
 obtain⟨y,z,my,hPe,hcase⟩:∃ y z:Odr,zAm y∧(if o.side=2 then zA1 u o o.inst (nF n 2) (nF n 3) (nF n 4) else zA1 o u o.inst (nF n 2) (nF n 3) (nF n 4))=zA1 y z o.inst (nF n 2) (nF n 3) (nF n 4)∧((o.side=2∧y=u∧z=o)∨(o.side≠2∧y=o∧z=u)):=by
  by_cases h5:o.side=2
  ·exact⟨u,o,mu,by rw[if_pos h5],.inl ⟨h5,rfl,rfl⟩⟩
  ·exact⟨o,u,mo,by rw[if_neg h5],.inr ⟨h5,rfl,rfl⟩⟩
 rw[hPe,zSd my hp hq hf]
 clear hPe
 refine zBW ?_
 refine CW.cutT (fun e w=>∃ e',e=ovl [(0,.pointer (some ⟨bm,0,none⟩)),(3,.pointer (some ⟨b3,0,none⟩)),(5,.pointer (some ⟨b5,0,none⟩)),(7,.pointer (some ⟨b7,0,none⟩)),(8,.pointer (some ⟨b8,0,none⟩))] e'∧St w0 (cb b7 y.cells 43::cb b8 z.cells 43::cb b5 u.cells 43::cb b3 o.cells 43::mkL bm (mkc s p n na nc t) Ma Mi Mu R) w) ?_ ?_
 ·rcases hcase with ⟨h5,rfl,rfl⟩|⟨h5,rfl,rfl⟩
  ·have d5:(z.side==2)=true:=by simpa using h5
   repeat' (first|refine yT ?_|refine y7 sg H ?_|refine yU ?_|fail)
   refine CW.condT (congrArg Value.bool d5) ?_
   repeat' (first|refine yT ?_|(refine y11 sg H ?_;intro w H)|(refine CW.regionL mixed 4 (z6 (x:=cb b5 y.cells 43) (y:=cb b3 z.cells 43) H hF) [] ?_ ?_;exact rfl;intro w hcl;replace H:=H.ext hcl;clear hcl;refine' l1 0 (z6 (x:=cb b5 y.cells 43) (y:=cb b3 z.cells 43) H hF) ?_ ?_;rotate_left;(exact z3 sg);refine' l1 1 (z6 (x:=cb b5 y.cells 43) (y:=cb b3 z.cells 43) H hF) ?_ ?_;rotate_left;(exact z3 sg))|((with_reducible apply RL.nil);decide +kernel)|refine l2 2 ?_|refine l2 3 ?_|(refine l5 (z6 (x:=cb b5 y.cells 43) (y:=cb b3 z.cells 43) H hF) ?_)|refine yU ?_|fail)
   all_goals exact⟨_,za rfl (za rfl (zAZ rfl rfl rfl)),H⟩
  ·have d5:(y.side==2)=false:=by simpa using h5
   repeat' (first|refine yT ?_|refine y7 sg H ?_|refine yU ?_|fail)
   refine CW.condF (congrArg Value.bool d5) ?_
   repeat' (first|refine yU ?_|fail)
   exact⟨_,za rfl (za rfl (zAZ rfl rfl rfl)),H⟩
 clear H
 rintro _ w ⟨e4',rfl,H⟩
 repeat' (first|refine yT ?_|refine y7 sg H ?_|refine y8 sg H ?_|(refine y41 sg (hs2) ?_ ?_ ?_;(omega);(omega))|((with_reducible apply zP);exact rfl;exact rfl;exact Yq.loadB1 sg hs2 (H.memF hF) rfl rfl rfl rfl (show 2<n.length by omega) rfl)|((with_reducible apply zP);exact rfl;exact rfl;exact Yq.loadB1 sg hs2 (H.memF hF) rfl rfl rfl rfl (show 3<n.length by omega) rfl)|((with_reducible apply zP);exact rfl;exact rfl;exact Yq.loadB1 sg hs2 (H.memF hF) rfl rfl rfl rfl (show 4<n.length by omega) rfl)|((with_reducible apply OX.buildA sg H);exact rfl;exact rfl;exact rfl;exact rfl;exact rfl;exact rfl;exact rfl;exact rfl;exact rfl;exact rfl;exact rfl;exact rfl;intro b w H _)|(replace H:=H.perm (zCN [_,_,_,_,_]);refine zc rfl rfl (En.fn zFh rfl rfl) (zFx hLt hW (zNA y z o.inst (nF n 2) (nF n 3) (nF n 4)) H (hC.mono (List.subset_append_left _ _)) H.mem (zIZ _ (Nat.le_of_ble_eq_true rfl) rfl (zIa (zz2 _)))) ?_;rintro _ _ w ⟨rfl,p',M',rfl,hC'⟩ H2;clear H;have H:=H2;clear H2)|refine yU ?_|(with_reducible apply zL;intro w hcl;replace H:=H.ext hcl;clear hcl)|refine y20 mixed ?_|fail)
 by_cases h6:(zj s (zNA y z o.inst (nF n 2) (nF n 3) (nF n 4))).2≠0
 ·have d6:((zj s (zNA y z o.inst (nF n 2) (nF n 3) (nF n 4))).2 != 0)=true:=by simpa using h6
  rw[if_pos h6]
  refine CW.condT (congrArg Value.bool d6) ?_
  repeat' (first|refine yT ?_|refine yU ?_|fail)
  exact zU (M:=_) rfl H ⟨rfl,fun h=>absurd h h6⟩
 have d6:((zj s (zNA y z o.inst (nF n 2) (nF n 3) (nF n 4))).2 != 0)=false:=by simpa using h6
 rw[if_neg h6]
 refine CW.condF (congrArg Value.bool d6) ?_
 obtain⟨rs,hrs⟩:∃ rs,(zj s (zNA y z o.inst (nF n 2) (nF n 3) (nF n 4))).1={ s with rows:=rs }:=zDR _ _
 rw[hrs] at H hC' ⊢
 clear hrs d6 h6
 obtain⟨R',hts,hRs,H3,hC3⟩:=wk_R H hC'
 clear H hC'
 have H:=H3
 have hC':=hC3
 clear H3 hC3
 have hm3:=hts (cb b3 o.cells 43) (by simp)
 have hm5:=hts (cb b5 u.cells 43) (by simp)
 clear hts
 repeat' (first|refine yT ?_|refine y7 sg H ?_|(refine y11 sg H ?_;intro w H)|(refine CW.regionL mixed 17 (z6s (x:=cb b3 o.cells 43) H hF (by first|exact zBv hm3|exact zAp hm3)) [] ?_ ?_;exact rfl;intro w hcl;replace H:=H.ext hcl;clear hcl;have qh:=z6s (x:=cb b3 o.cells 43) H hF (by first|exact zBv hm3|exact zAp hm3);refine' l1 0 qh ?_ ?_;rotate_left;(exact z4 sg);refine' l1 1 qh ?_ ?_;rotate_left;(exact z4 sg);refine' l1 2 qh ?_ ?_;rotate_left;(exact z4 sg);refine' l1 3 qh ?_ ?_;rotate_left;(exact z4 sg);refine' l1 4 qh ?_ ?_;rotate_left;(exact z4 sg);refine' l1 6 qh ?_ ?_;rotate_left;(exact z4 sg);refine' l1 7 qh ?_ ?_;rotate_left;(exact z3 sg);refine' l1 8 qh ?_ ?_;rotate_left;(exact z4 sg))|((with_reducible apply RL.nil);decide +kernel)|(refine' l1 10 (z6s (x:=cb b3 o.cells 43) H hF (by first|exact zBv hm3|exact zAp hm3)) ?_ ?_;rotate_left;(exact z4 sg))|(refine' l1 11 (z6s (x:=cb b3 o.cells 43) H hF (by first|exact zBv hm3|exact zAp hm3)) ?_ ?_;rotate_left;(exact z4 sg))|(refine' l1 12 (z6s (x:=cb b3 o.cells 43) H hF (by first|exact zBv hm3|exact zAp hm3)) ?_ ?_;rotate_left;(exact z4 sg))|(refine' l1 13 (z6s (x:=cb b3 o.cells 43) H hF (by first|exact zBv hm3|exact zAp hm3)) ?_ ?_;rotate_left;(exact z4 sg))|(refine' l1 14 (z6s (x:=cb b3 o.cells 43) H hF (by first|exact zBv hm3|exact zAp hm3)) ?_ ?_;rotate_left;(exact z4 sg))|(refine' l1 15 (z6s (x:=cb b3 o.cells 43) H hF (by first|exact zBv hm3|exact zAp hm3)) ?_ ?_;rotate_left;(exact z4 sg))|refine l2 5 ?_|refine l2 9 ?_|refine l2 16 ?_|(refine l5 (z6s (x:=cb b3 o.cells 43) H hF (by first|exact zBv hm3|exact zAp hm3)) ?_)|(refine' y32 zJd ?_ ?_;rotate_left;exact zHd s.orders o.id (nF n 3) _ H.mem (SlA.mono hC'.od (fun p hp=>zz4 _ (zz3 _ (zz3 _ (zz3 _ hp)))));intro v M w hR hS;replace H:=H.addR hS;clear hS;(try simp only[List.cons_append,List.nil_append] at H);obtain⟨a1,c1,rfl,hsl⟩:=hR)|refine yU ?_|fail)
 have H3:St w0 (mkL bm (mkc { s with rows:=rs,orders:=(zAx s.orders o.id (nF n 3)).1 } { p' with odA:=a1,odC:=c1 } n na nc t) Ma Mi Mu (R'++M)) w:=by
  have h9:=H
  simp only[List.append_assoc] at h9 ⊢
  exact h9
 clear H
 have H:=H3
 clear H3
 obtain⟨R2,hR2,hm5,hsl,hRs2⟩:∃ R2:zH,R'++M=R2∧cb b5 u.cells 43∈R2∧SlA R2 6 a1 (zAx s.orders o.id (nF n 3)).1.length c1 (odl (zAx s.orders o.id (nF n 3)).1)∧R'⊆R2:=⟨_,rfl,zz6 _ hm5,SlA.mono hsl (zz8 _ _),List.subset_append_left _ _⟩
 rw[hR2] at H
 clear hR2
 repeat' (first|refine yT ?_|refine y7 sg H ?_|(refine y11 sg H ?_;intro w H)|(refine CW.regionL mixed 17 (z6s (x:=cb b5 u.cells 43) H hF (by first|exact zBv hm5|exact zAp hm5)) [] ?_ ?_;exact rfl;intro w hcl;replace H:=H.ext hcl;clear hcl;have qh:=z6s (x:=cb b5 u.cells 43) H hF (by first|exact zBv hm5|exact zAp hm5);refine' l1 0 qh ?_ ?_;rotate_left;(exact z4 sg);refine' l1 1 qh ?_ ?_;rotate_left;(exact z4 sg);refine' l1 2 qh ?_ ?_;rotate_left;(exact z4 sg);refine' l1 3 qh ?_ ?_;rotate_left;(exact z4 sg);refine' l1 4 qh ?_ ?_;rotate_left;(exact z4 sg);refine' l1 6 qh ?_ ?_;rotate_left;(exact z4 sg);refine' l1 7 qh ?_ ?_;rotate_left;(exact z3 sg);refine' l1 8 qh ?_ ?_;rotate_left;(exact z4 sg))|((with_reducible apply RL.nil);decide +kernel)|(refine' l1 10 (z6s (x:=cb b5 u.cells 43) H hF (by first|exact zBv hm5|exact zAp hm5)) ?_ ?_;rotate_left;(exact z4 sg))|(refine' l1 11 (z6s (x:=cb b5 u.cells 43) H hF (by first|exact zBv hm5|exact zAp hm5)) ?_ ?_;rotate_left;(exact z4 sg))|(refine' l1 12 (z6s (x:=cb b5 u.cells 43) H hF (by first|exact zBv hm5|exact zAp hm5)) ?_ ?_;rotate_left;(exact z4 sg))|(refine' l1 13 (z6s (x:=cb b5 u.cells 43) H hF (by first|exact zBv hm5|exact zAp hm5)) ?_ ?_;rotate_left;(exact z4 sg))|(refine' l1 14 (z6s (x:=cb b5 u.cells 43) H hF (by first|exact zBv hm5|exact zAp hm5)) ?_ ?_;rotate_left;(exact z4 sg))|(refine' l1 15 (z6s (x:=cb b5 u.cells 43) H hF (by first|exact zBv hm5|exact zAp hm5)) ?_ ?_;rotate_left;(exact z4 sg))|refine l2 5 ?_|refine l2 9 ?_|refine l2 16 ?_|(refine l5 (z6s (x:=cb b5 u.cells 43) H hF (by first|exact zBv hm5|exact zAp hm5)) ?_)|(refine' y32 zJd ?_ ?_;rotate_left;exact zHd (zAx s.orders o.id (nF n 3)).1 u.id (nF n 3) _ H.mem (SlA.mono hsl (fun p hp=>zz4 _ (zz3 _ (zz3 _ (zz3 _ hp)))));intro v M w hR hS;replace H:=H.addR hS;clear hS;(try simp only[List.cons_append,List.nil_append] at H);obtain⟨a2,c2,rfl,hsl2⟩:=hR)|refine yU ?_|fail)
 simp only[List.append_assoc] at H
 refine zU (M:=mkL bm (mkc { s with rows:=rs,orders:=(zAx (zAx s.orders o.id (nF n 3)).1 u.id (nF n 3)).1 } { p' with odA:=a2,odC:=c2 } n na nc t) Ma Mi Mu (R2++M)) rfl H ⟨rfl,fun _=>⟨{ p' with odA:=a2,odC:=c2 },Ma,Mi,Mu,_,rfl,hC'.ac,hC'.ins,SlA.mono hC'.rw (fun q hq=>zz6 _ (hRs2 hq)),SlA.mono hsl2 (zz8 _ _),hC'.au,fun j hj=>SlA.mono (hC'.bd j hj) (fun q hq=>zz6 _ (hRs2 hq))⟩⟩
end
end
section
open Go Go.Sk Go.RowKit
def zNB (k:Int):Bool:=k==6||k==7||k==8||k==9||k==13||k==18||k==21
theorem zBI {s t:Sta}{e:Evt}(hd:zk s e=(t,0)):Good s∧Good t∧EvOk e∧e.v=3∧zBa e=true∧zBE s e.kind e.nums (e.texts.getD 0 ByteArray.empty)=(t,0):=by
 obtain⟨g1,g2⟩:=zJG hd
 unfold zk at hd
 rw[if_pos (zAl.2 g1)] at hd
 unfold zy at hd
 split at hd
 ·rename_i h1
  split at hd
  ·exact⟨g1,g2,zNx h1.1 h1.2,h1.1,h1.2,hd⟩
  ·rename_i g;exact absurd (Prod.mk.inj hd).2 g
 ·exact absurd (Prod.mk.inj hd).2 (by decide)
end
end Go.Proofs.YtibmaifoaajllaaGreatDoor
