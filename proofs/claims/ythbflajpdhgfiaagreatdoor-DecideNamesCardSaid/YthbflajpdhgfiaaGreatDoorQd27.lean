/- Texts of ours, joined: the steps of the proof, or the claim's theorem. -/
import Derived.Test.YthbflajpdhgfiaaGreatDoorQd26
set_option linter.all false
set_option maxHeartbeats 16000000
namespace Go.Proofs.YthbflajpdhgfiaaGreatDoor
open Go Go.Sk Go.RowKit
attribute [local irreducible] Go.Calls
theorem z63 {w0 w:World}{L F:zC}{x y z:Nat × Obj}(H:St w0 L w)(hF:Mem w0 F)(hx:x∈L:=by repeat (first|exact zz2 _|refine zz5 _ ?_))(hy:y∈L:=by repeat (first|exact zz2 _|refine zz5 _ ?_))(hz:z∈L:=by repeat (first|exact zz2 _|refine zz5 _ ?_)):Mem w (x::y::z::F):=fun q hq=>by
 rcases List.mem_cons.1 hq with rfl|hq
 ·exact H.mem _ hx
 ·exact z6 (x:=y) (y:=z) H hF hy hz _ hq
abbrev zNJ (a:Auc)(w:Bid)(fee:Int):List Pst :=
 [⟨w.acct,0,IntKind.i64.wrap (0 - w.amount),0⟩,⟨a.seller,0,IntKind.i64.wrap (w.amount - fee),0⟩,⟨0,0,fee,0⟩,⟨a.seller,a.inst,IntKind.i64.wrap (0 - a.qty),0⟩,⟨w.acct,a.inst,a.qty,0⟩]
theorem zUc {a:Auc}{w:Bid}{fee:Int}(h1:0≤w.amount∧w.amount≤1125899906842624)(h2:0≤fee∧fee≤w.amount)(h3:0≤a.qty∧a.qty≤1125899906842624):zDg a w fee=zNJ a w fee:=by
 have e1:IntKind.i64.wrap (0 - w.amount)=-w.amount:=by rw[w64 qO qO];omega
 have e2:IntKind.i64.wrap (w.amount - fee)=w.amount - fee:=w64 qO qO
 have e3:IntKind.i64.wrap (0 - a.qty)=-a.qty:=by rw[w64 qO qO];omega
 unfold zNJ
 rw[e1,e2,e3];rfl
section
variable {F:zC}{bm:Nat}{s:Sta}{p:SPt}{n:List Int}{na:Option Addr}{nc:Nat}{t:ByteArray}{Ma Mi Mu R:zC}
theorem c_sold {w0 w:World}(hB:AuB s)(hl:4≤n.length)(hLt:LtS s)(hW:WfR s)(H:St w0 (mkL bm (mkc s p n na nc t) Ma Mi Mu R) w)(hC:Cps s p Ma Mi Mu R)(hF:Mem w0 F)(hN:Ints F na nc n) :
  Calls Tryz.prog 130 [.pointer (some ⟨bm,0,none⟩)].toArray w (zi (zBw bm n na nc t (zF9 s n)) w0):=by
 obtain⟨hn2,hc2,b2,off2,cs2,T2,fr2,hs2⟩:=id hN
 have hpl:=fun w (G:zC) (hG:Mem w G) (hM:Mkt G bm s p n na nc t)=>zGn qO hLt.au w hG hM
 have hlt:=zKU s (nF n 0)
 have eP:zF9 s n=if zAV s (nF n 0)<0 then(s,5) else if zAA (au_ s.aucs (zAV s (nF n 0)).toNat) s.clock=true∧(zM s (au_ s.aucs (zAV s (nF n 0)).toNat)).2.2=true∧(zM s (au_ s.aucs (zAV s (nF n 0)).toNat)).1.acct=nF n 1∧(zM s (au_ s.aucs (zAV s (nF n 0)).toNat)).1.amount=nF n 2∧(zM s (au_ s.aucs (zAV s (nF n 0)).toNat)).2.1=nF n 3 then zAz s (zAV s (nF n 0)).toNat (zDg (au_ s.aucs (zAV s (nF n 0)).toNat) (zM s (au_ s.aucs (zAV s (nF n 0)).toNat)).1 (zM s (au_ s.aucs (zAV s (nF n 0)).toNat)).2.1) else(s,46):=rfl
 rw[eP]
 clear eP
 by_cases h0:zAV s (nF n 0)<0
 ·have d0:decide (zAV s (nF n 0)<0)=true:=decide_eq_true h0
  rw[if_pos h0]
  refine enter [.tmp 2] Tryz.func130 rfl Tryz.ntmps130 rfl rfl ?_
  repeat' (first|refine yT ?_|(refine' y30 zD0 ?_ ?_;rotate_left;exact hpl _ _ (H.all hF) (zh hC hLt hN);refine w2 H ?_;clear H;intro w H)|refine yU ?_|(refine y23 ?_ ?_;all_goals(intro h;try (exfalso;first|((cases d0.symm.trans h);done))))|fail)
  exact zS (M:=_) rfl H ⟨rfl,fun h=>absurd h (show(5:Int)≠0 by decide)⟩
 obtain⟨k,hk⟩:∃ k:Nat,zAV s (nF n 0)=k:=⟨(zAV s (nF n 0)).toNat,by omega⟩
 rw[hk] at hpl hlt h0 ⊢
 rw[Int.toNat_natCast,if_neg h0]
 have hkl:k<s.aucs.length:=by omega
 obtain⟨g,cs,hA,rfl,hcap,hcm,hcl,hE⟩:=zBr (n:=s.aucs.length) (el:=ael s.aucs p.ad) hC.au qO (fun _ _=>rfl)
 have hsI:=hE.slb (F:=[cb g cs 67]) (T:=67) (zz2 _)
 rw[← hA] at hsI
 have hfit:=(hE _ hkl).1
 have hwin:=fun w (G:zC) (hG:Mem w G) (hM:Mkt G bm s p n na nc t) (hb:Bids G (p.ad k).1 (p.ad k).2 (au_ s.aucs k).bids)=>zGo (au_ s.aucs k) hB.h64 hB.fee (hB.qty k hkl) (hB.win k hkl) w hG hM hb
 refine enter [.tmp 2] Tryz.func130 rfl Tryz.ntmps130 rfl rfl ?_
 repeat' (first|refine yT ?_|refine y7 sg H ?_|(refine y10 sg H ?_;intro b w H)|(refine y11 sg H ?_;intro w H)|(refine' y30 zD0 ?_ ?_;rotate_left;exact hpl _ _ (H.all hF) (zh hC hLt hN);refine w2 H ?_;clear H;intro w H)|refine x40 sg hsI ?_|(refine y42 sg (hsI) ((show Mem _ [cb g cs 67] from fun p hp=>H.mem p (by cases List.mem_singleton.1 hp;simp))) ?_ ?_;(omega))|(refine' y30 zMH ?_ ?_;rotate_left;exact hwin _ _ (H.all hF) (zh hC hLt hN) (SlA.mono (hC.bd k hkl) qS);refine w2 H ?_;clear H;intro w H)|refine yU ?_|fail)
 by_cases hC2:zAA (au_ s.aucs k) s.clock=true∧(zM s (au_ s.aucs k)).2.2=true∧(zM s (au_ s.aucs k)).1.acct=nF n 1∧(zM s (au_ s.aucs k)).1.amount=nF n 2∧(zM s (au_ s.aucs k)).2.1=nF n 3
 rotate_left
 ·rw[if_neg hC2]
  repeat' (first|refine yT ?_|refine y7 sg H ?_|refine y8 sg H ?_|refine x41 sg hs2 ?_|((with_reducible apply zT);exact rfl;exact rfl;exact Yq.loadB1 sg hs2 (H.memF hF) rfl rfl rfl rfl (show 2<n.length by omega) rfl)|((with_reducible apply zT);exact rfl;exact rfl;exact Yq.loadB1 sg hs2 (H.memF hF) rfl rfl rfl rfl (show 3<n.length by omega) rfl)|(refine' y31 zAt ?_ ?_;rotate_left;exact(fun _ hcl=>zAw 1 qO _ ((H.ext hcl).all hF) (zh hC hLt hN)))|(refine' y31 zGx ?_ ?_;rotate_left;exact(fun _ hcl=>zHj (au_ s.aucs k) s.clock _ (H.ext hcl).mem (SlA.mono (hC.bd k hkl) qS)))|refine yU ?_|(refine y18 ?_ ?_;all_goals intro h)|(with_reducible apply zO;refine w2 H ?_;clear H;intro w H)|refine y20 mixed ?_|(refine y23 ?_ ?_;all_goals intro h)|fail)
  all_goals first
   | exact zS (M:=_) rfl H ⟨rfl,fun h=>absurd h (show(46:Int)≠0 by decide)⟩
   | (exfalso;apply hC2;simp only[Bool.not_eq_eq_eq_not,Bool.not_true,Bool.not_false,bne_eq_false_iff_eq] at *;exact⟨‹_›,‹_›,‹_›,‹_›,‹_›⟩)
   | trace_state
 rw[if_pos hC2]
 have hwo:=zDq hC2.2.1
 have hwb:=hB.win k hkl
 have hfb:=zOZ hwb.1 hB.fee
 rw[zUc (by rw[hwo.2.1];exact hwb) (by rw[hwo.2.1,hwo.2.2.1];exact hfb) (hB.qty k hkl)]
 obtain⟨g0,g1,g2,g3,g4⟩:=hC2
 have d0:(!zAA (au_ s.aucs k) s.clock)=false:=by rw[g0];rfl
 have d1:(!(zM s (au_ s.aucs k)).2.2)=false:=by rw[g1];rfl
 have d2:((zM s (au_ s.aucs k)).1.acct != nF n 1)=false:=by rw[g2];simp
 have d3:((zM s (au_ s.aucs k)).1.amount != nF n 2)=false:=by rw[g3];simp
 have d4:((zM s (au_ s.aucs k)).2.1 != nF n 3)=false:=by rw[g4];simp
 repeat' (first|refine yT ?_|refine y7 sg H ?_|refine y8 sg H ?_|refine x41 sg hs2 ?_|((with_reducible apply zT);exact rfl;exact rfl;exact Yq.loadB1 sg hs2 (H.memF hF) rfl rfl rfl rfl (show 2<n.length by omega) rfl)|((with_reducible apply zT);exact rfl;exact rfl;exact Yq.loadB1 sg hs2 (H.memF hF) rfl rfl rfl rfl (show 3<n.length by omega) rfl)|(refine' y31 zAt ?_ ?_;rotate_left;exact(fun _ hcl=>zAw 1 qO _ ((H.ext hcl).all hF) (zh hC hLt hN)))|(refine' y31 zGx ?_ ?_;rotate_left;exact(fun _ hcl=>zHj (au_ s.aucs k) s.clock _ (H.ext hcl).mem (SlA.mono (hC.bd k hkl) qS)))|((with_reducible apply OX.buildA sg H);(iterate 12 exact rfl);intro b w H _)|(replace H:=H.sub (List.Sublist.cons_cons _ ((zz7 _ _).trans (zz7 _ _)));refine za rfl rfl (En.fn zQn rfl rfl) (zLp k hkl (zNJ (au_ s.aucs k) (zM s (au_ s.aucs k)).1 (zM s (au_ s.aucs k)).2.1) (show 5≤1000 by decide) (Mp:=[_]) ⟨rfl,.inr ⟨_,_,rfl,rfl,zzC _,(show 5≤maxLen by unfold maxLen;decide),rfl,rfl⟩⟩ (hB.bds k hkl) (hB.qty k hkl) hLt hW H hC) ?_;rintro _ _ w ⟨rfl,hR2⟩ H2;clear H;have H:=H2;clear H2)|refine yU ?_|((first|refine y18 ?_ ?_|refine y23 ?_ ?_);all_goals(intro h;try (exfalso;first|((cases d0.symm.trans h);done)|((cases d1.symm.trans h);done)|((cases d2.symm.trans h);done)|((cases d3.symm.trans h);done)|((cases d4.symm.trans h);done))))|(with_reducible apply zO;refine w2 H ?_;clear H;intro w H)|refine y20 mixed ?_|fail)
 exact zS (M:=_) rfl H ⟨rfl,hR2⟩
end
end Go.Proofs.YthbflajpdhgfiaaGreatDoor
