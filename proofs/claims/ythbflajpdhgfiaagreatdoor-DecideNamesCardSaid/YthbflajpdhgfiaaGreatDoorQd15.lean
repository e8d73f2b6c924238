/- Texts of ours, joined: the steps of the proof, or the claim's theorem. -/
import Derived.Test.YthbflajpdhgfiaaGreatDoorQd14
set_option linter.all false
set_option maxHeartbeats 16000000
namespace Go.Proofs.YthbflajpdhgfiaaGreatDoor
section
open Go Go.Sk Go.RowKit
attribute [local irreducible] Go.Calls
theorem z6s {w0 w:World}{L F:zC}{x:Nat × Obj}(H:St w0 L w)(hF:Mem w0 F)(hx:x∈L:=by repeat (first|exact zz2 _|refine zz5 _ ?_)):Mem w (x::F):=fun p hp=>by
 rcases List.mem_cons.1 hp with rfl|hp
 ·exact H.mem _ hx
 ·exact H.memF hF _ hp
theorem zBr {M:zC}{E:TypeId}{size:Nat}{a:Option Addr}{n cap:Nat}{el:Nat→List Value}(h:Go.Sk.Own M E size a n cap ((List.range n).flatMap el))(h0:0<n)(hel:∀ j,j<n→(el j).length=size) :
  ∃ g cs,a=some ⟨g,0,none⟩∧M=[cb g cs E]∧n≤cap∧cap≤maxLen∧cs.length=cap*size∧Els cs size n el:=by
 obtain⟨g,cs,h1,h2,h3,h4⟩:=h.els h0 hel
 rcases h.2 with ⟨g0,_⟩|⟨g',cs',e1,e2,e3,e4,e5,e6⟩
 ·omega
 ·rw[h2] at e2;cases e2
  exact⟨g,cs,h1,h2,h3,e4,e5,h4⟩
theorem zGM {x y:Nat × Obj}{A B C:zC}:(x::(A++([y]++(B++C)))).Perm (y::x::(A++(B++C))):=by
 have h:(x::(A++y::(B++C))).Perm (y::x::(A++(B++C))) :=
  (List.Perm.cons x List.perm_middle).trans (List.Perm.swap y x _)
 exact h
theorem zHS {x y:Nat × Obj}{A B:zC}:(x::y::(A++B)).Perm (A++(x::y::B)):=by
 have:=(List.perm_append_comm (l₁:=[x,y]) (l₂:=A)).append_right B
 simpa only[List.cons_append,List.nil_append,List.append_assoc] using this
theorem zUV {l:List Ac}{x:Ac}:(List.range l.length).flatMap (acl l)++x.cells=(List.range (l++[x]).length).flatMap (acl (l++[x])):=by
 rw[show(List.range l.length).flatMap (acl l)=l.flatMap Ac.cells from zA4 Ac.cells l default,show(List.range (l++[x]).length).flatMap (acl (l++[x]))=(l++[x]).flatMap Ac.cells from zA4 Ac.cells (l++[x]) default,List.flatMap_append,List.flatMap_singleton]
theorem zUW {l:List Ins}{x:Ins}:(List.range l.length).flatMap (ing l)++x.cells=(List.range (l++[x]).length).flatMap (ing (l++[x])):=by
 rw[show(List.range l.length).flatMap (ing l)=l.flatMap Ins.cells from zA4 Ins.cells l default,show(List.range (l++[x]).length).flatMap (ing (l++[x]))=(l++[x]).flatMap Ins.cells from zA4 Ins.cells (l++[x]) default,List.flatMap_append,List.flatMap_singleton]
section
variable {F:zC}{bm:Nat}{s:Sta}{p:SPt}{n:List Int}{na:Option Addr}{nc:Nat}{t:ByteArray}{Ma Mi Mu R:zC}
theorem zSX {w0 w:World}(hLt:LtS s)(hW:WfR s)(hl:3≤n.length)(h1:1≤nF n 1∧nF n 1≤1000)(hz:0≤nF n 2∧nF n 2≤1125899906842624)(H:St w0 (mkL bm (mkc s p n na nc t) Ma Mi Mu R) w)(hC:Cps s p Ma Mi Mu R)(hF:Mem w0 F)(hN:Ints F na nc n) :
  Calls Tryz.prog 120 [.pointer (some ⟨bm,0,none⟩)].toArray w (zi (zBw bm n na nc t (if zAG s (nF n 0)=true∧zBD s (nF n 1)=true then zDJ s (0) (nF n 0) (nF n 1) (nF n 2) else(s,5))) w0):=by
 obtain⟨hn2,hc2,b2,off2,cs2,T2,fr2,hs2⟩:=id hN
 have ha:=fun w (G:zC) (hG:Mem w G) (hM:Mkt G bm s p n na nc t)=>zGL qO h1 w hG hM
 by_cases ho:zAG s (nF n 0)=true∧zBD s (nF n 1)=true
 ·rw[if_pos ho] at ha ⊢
  refine enter [.tmp 2] Tryz.func120 rfl Tryz.ntmps120 rfl rfl ?_
  repeat' (first|refine yT ?_|refine y8 sg H ?_|refine y12 ?_|(refine' y30 zJY ?_ ?_;rotate_left;exact ha _ _ (H.all hF) (zh hC hLt hN);refine w2 H ?_;clear H;intro w H)|(refine CW.regionR mixed ?_;refine w2 H ?_;clear H;intro w H;(with_reducible apply RW.quiet 15);exact rfl;decide +kernel;simp only[List.append_eq,List.cons_append,List.nil_append,List.take_succ_cons,List.take_zero,List.drop_zero])|(refine' y31 zAt ?_ ?_;rotate_left;exact(fun _ hcl=>zAw 0 qO _ ((H.ext hcl).all hF) (zh hC hLt hN)))|refine x41 sg hs2 ?_|((with_reducible apply zT);exact rfl;exact rfl;exact Yq.loadB1 sg hs2 (H.memF hF) rfl rfl rfl rfl (show 1<n.length by omega) rfl)|((with_reducible apply zT);exact rfl;exact rfl;exact Yq.loadB1 sg hs2 (H.memF hF) rfl rfl rfl rfl (show 2<n.length by omega) rfl)|(refine za rfl rfl (En.fn zHg rfl rfl) (zIQ hLt hW (0) (nF n 0) (nF n 1) (nF n 2) qO H hC) ?_;rintro _ _ w hR2 H2;clear H;have H:=H2;clear H2;obtain⟨rfl,hR2⟩:=hR2)|refine yU ?_|(with_reducible apply zO;refine w2 H ?_;clear H;intro w H)|fail)
  obtain⟨p2,M2,rfl,hC2⟩:=hR2
  exact zS (M:=_) rfl H ⟨rfl,fun _=>⟨p2,Ma,Mi,Mu,_,rfl,hC2⟩⟩
 ·rw[if_neg ho] at ha ⊢
  refine enter [.tmp 2] Tryz.func120 rfl Tryz.ntmps120 rfl rfl ?_
  repeat' (first|refine yT ?_|(refine' y30 zJY ?_ ?_;rotate_left;exact ha _ _ (H.all hF) (zh hC hLt hN);refine w2 H ?_;clear H;intro w H)|refine yU ?_|fail)
  exact zS (M:=_) rfl H ⟨rfl,fun h=>absurd h (show(5:Int)≠0 by decide)⟩
theorem zM9 {w0 w:World}(hLt:LtS s)(hW:WfR s)(hl:3≤n.length)(h1:1≤nF n 1∧nF n 1≤1000)(hz:0≤nF n 2∧nF n 2≤1125899906842624)(H:St w0 (mkL bm (mkc s p n na nc t) Ma Mi Mu R) w)(hC:Cps s p Ma Mi Mu R)(hF:Mem w0 F)(hN:Ints F na nc n) :
  Calls Tryz.prog 121 [.pointer (some ⟨bm,0,none⟩)].toArray w (zi (zBw bm n na nc t (if zAG s (nF n 0)=true∧zBD s (nF n 1)=true then zDJ s (nF n 0) (0) (nF n 1) (nF n 2) else(s,5))) w0):=by
 obtain⟨hn2,hc2,b2,off2,cs2,T2,fr2,hs2⟩:=id hN
 have ha:=fun w (G:zC) (hG:Mem w G) (hM:Mkt G bm s p n na nc t)=>zGL qO h1 w hG hM
 by_cases ho:zAG s (nF n 0)=true∧zBD s (nF n 1)=true
 ·rw[if_pos ho] at ha ⊢
  refine enter [.tmp 2] Tryz.func121 rfl Tryz.ntmps121 rfl rfl ?_
  repeat' (first|refine yT ?_|refine y8 sg H ?_|refine y12 ?_|(refine' y30 zJY ?_ ?_;rotate_left;exact ha _ _ (H.all hF) (zh hC hLt hN);refine w2 H ?_;clear H;intro w H)|(refine CW.regionR mixed ?_;refine w2 H ?_;clear H;intro w H;(with_reducible apply RW.quiet 15);exact rfl;decide +kernel;simp only[List.append_eq,List.cons_append,List.nil_append,List.take_succ_cons,List.take_zero,List.drop_zero])|(refine' y31 zAt ?_ ?_;rotate_left;exact(fun _ hcl=>zAw 0 qO _ ((H.ext hcl).all hF) (zh hC hLt hN)))|refine x41 sg hs2 ?_|((with_reducible apply zT);exact rfl;exact rfl;exact Yq.loadB1 sg hs2 (H.memF hF) rfl rfl rfl rfl (show 1<n.length by omega) rfl)|((with_reducible apply zT);exact rfl;exact rfl;exact Yq.loadB1 sg hs2 (H.memF hF) rfl rfl rfl rfl (show 2<n.length by omega) rfl)|(refine za rfl rfl (En.fn zHg rfl rfl) (zIQ hLt hW (nF n 0) (0) (nF n 1) (nF n 2) qO H hC) ?_;rintro _ _ w hR2 H2;clear H;have H:=H2;clear H2;obtain⟨rfl,hR2⟩:=hR2)|refine yU ?_|(with_reducible apply zO;refine w2 H ?_;clear H;intro w H)|fail)
  obtain⟨p2,M2,rfl,hC2⟩:=hR2
  exact zS (M:=_) rfl H ⟨rfl,fun _=>⟨p2,Ma,Mi,Mu,_,rfl,hC2⟩⟩
 ·rw[if_neg ho] at ha ⊢
  refine enter [.tmp 2] Tryz.func121 rfl Tryz.ntmps121 rfl rfl ?_
  repeat' (first|refine yT ?_|(refine' y30 zJY ?_ ?_;rotate_left;exact ha _ _ (H.all hF) (zh hC hLt hN);refine w2 H ?_;clear H;intro w H)|refine yU ?_|fail)
  exact zS (M:=_) rfl H ⟨rfl,fun h=>absurd h (show(5:Int)≠0 by decide)⟩
theorem zSY {w0 w:World}(hl:1≤n.length)(H:St w0 (mkL bm (mkc s p n na nc t) Ma Mi Mu R) w)(hC:Cps s p Ma Mi Mu R)(hF:Mem w0 F)(hN:Ints F na nc n) :
  Calls Tryz.prog 122 [.pointer (some ⟨bm,0,none⟩)].toArray w (zi (zBw bm n na nc t ({ s with fee:=nF n 0 },0)) w0):=by
 obtain⟨hn2,hc2,b2,off2,cs2,T2,fr2,hs2⟩:=id hN
 refine enter [.tmp 2] Tryz.func122 rfl Tryz.ntmps122 rfl rfl ?_
 repeat' (first|refine yT ?_|refine y7 sg H ?_|(refine y11 sg H ?_;intro w H)|refine x40 sg hs2 ?_|refine z13 (Yq.loadB1 sg hs2 (H.memF hF) rfl rfl rfl rfl (show 0<n.length by omega) rfl) ?_|refine yU ?_|fail)
 exact zS (M:=mkL bm (mkc { s with fee:=nF n 0 } p n na nc t) Ma Mi Mu R) rfl H ⟨rfl,fun _=>⟨p,Ma,Mi,Mu,R,rfl,hC.ac,hC.ins,hC.rw,hC.od,hC.au,hC.bd⟩⟩
theorem zIi {w0 w:World}(hLt:LtS s)(hW:WfR s)(hl:3≤n.length)(hz:0≤nF n 2∧nF n 2≤1125899906842624)(H:St w0 (mkL bm (mkc s p n na nc t) Ma Mi Mu R) w)(hC:Cps s p Ma Mi Mu R)(hF:Mem w0 F)(hN:Ints F na nc n) :
  Calls Tryz.prog 133 [.pointer (some ⟨bm,0,none⟩)].toArray w (zi (zBw bm n na nc t (zCF s n)) w0):=by
 obtain⟨hn2,hc2,b2,off2,cs2,T2,fr2,hs2⟩:=id hN
 have ha:=fun w (b:Nat) (X:zC) (hX:Mem w X) (hm:cb b [Value.int .i64 (0:Int),Value.int .i64 (1:Int)] 3∈X) (G:zC) (hG:Mem w G) (hM:Mkt G bm s p n na nc t)=>zSW (T:=3) 0 1 qO qO w hX hm hG hM
 unfold zCF
 by_cases ho:zAG s (nF n 0)=true∧zAG s (nF n 1)=true
 ·rw[if_pos ho] at ha ⊢
  by_cases he:nF n 0=nF n 1
  ·have d1:(nF n 0==nF n 1)=true:=by rw[he];exact beq_self_eq_true _
   rw[if_pos he]
   refine enter [.tmp 2] Tryz.func133 rfl Tryz.ntmps133 rfl rfl ?_
   repeat' (first|refine yT ?_|refine y8 sg H ?_|(refine z14 sg H ?_;intro b w H)|(refine' y30 zAu ?_ ?_;rotate_left;exact ha _ _ _ H.mem (zz2 _) _ (H.all hF) (zh hC hLt hN);refine w2 H ?_;clear H;intro w H)|refine x41 sg hs2 ?_|((with_reducible apply zT);exact rfl;exact rfl;exact Yq.loadB1 sg hs2 (H.memF hF) rfl rfl rfl rfl (show 0<n.length by omega) rfl)|((with_reducible apply zT);exact rfl;exact rfl;exact Yq.loadB1 sg hs2 (H.memF hF) rfl rfl rfl rfl (show 1<n.length by omega) rfl)|refine yU ?_|(with_reducible apply zO;refine w2 H ?_;clear H;intro w H)|refine y20 mixed ?_|(refine y23 ?_ ?_;all_goals(intro h;try (exfalso;first|((exact absurd h (by decide));done)|((cases d1.symm.trans h);done))))|fail)
   exact zS (M:=_) rfl H ⟨rfl,fun h=>absurd h (show(1:Int)≠0 by decide)⟩
  ·have d1:(nF n 0==nF n 1)=false:=beq_eq_false_iff_ne.2 he
   rw[if_neg he]
   refine enter [.tmp 2] Tryz.func133 rfl Tryz.ntmps133 rfl rfl ?_
   repeat' (first|refine yT ?_|refine y8 sg H ?_|(refine z14 sg H ?_;intro b w H)|(refine' y30 zAu ?_ ?_;rotate_left;exact ha _ _ _ H.mem (zz2 _) _ (H.all hF) (zh hC hLt hN);refine w2 H ?_;clear H;intro w H)|refine x41 sg hs2 ?_|((with_reducible apply zT);exact rfl;exact rfl;exact Yq.loadB1 sg hs2 (H.memF hF) rfl rfl rfl rfl (show 0<n.length by omega) rfl)|((with_reducible apply zT);exact rfl;exact rfl;exact Yq.loadB1 sg hs2 (H.memF hF) rfl rfl rfl rfl (show 1<n.length by omega) rfl)|refine yU ?_|(with_reducible apply zO;refine w2 H ?_;clear H;intro w H)|refine y20 mixed ?_|fail)
   refine CW.condF (congrArg Value.bool d1) ?_
   repeat' (first|refine yT ?_|refine y8 sg H ?_|refine y12 ?_|(refine CW.regionR mixed ?_;refine w2 H ?_;clear H;intro w H;(with_reducible apply RW.quiet 11);exact rfl;decide +kernel;simp only[List.append_eq,List.cons_append,List.nil_append,List.take_succ_cons,List.take_zero,List.drop_zero])|(refine' y31 zAt ?_ ?_;rotate_left;exact(fun _ hcl=>zAw 0 qO _ ((H.ext hcl).all hF) (zh hC hLt hN)))|(refine' y31 zAt ?_ ?_;rotate_left;exact(fun _ hcl=>zAw 1 qO _ ((H.ext hcl).all hF) (zh hC hLt hN)))|refine x41 sg hs2 ?_|((with_reducible apply zT);exact rfl;exact rfl;exact Yq.loadB1 sg hs2 (H.memF hF) rfl rfl rfl rfl (show 2<n.length by omega) rfl)|(replace H:=H.perm (zCI [_]);refine za rfl rfl (En.fn zHg rfl rfl) (zIQ hLt hW (nF n 0) (nF n 1) 0 (nF n 2) qO H (hC.mono (List.subset_append_left _ _))) ?_;rintro _ _ w hR2 H2;clear H;have H:=H2;clear H2;obtain⟨rfl,hR2⟩:=hR2)|refine yU ?_|(with_reducible apply zO;refine w2 H ?_;clear H;intro w H)|fail)
   obtain⟨p2,M2,rfl,hC2⟩:=hR2
   exact zS (M:=_) rfl H ⟨rfl,fun _=>⟨p2,Ma,Mi,Mu,_,rfl,hC2⟩⟩
 ·rw[if_neg ho] at ha ⊢
  refine enter [.tmp 2] Tryz.func133 rfl Tryz.ntmps133 rfl rfl ?_
  repeat' (first|refine yT ?_|(refine z14 sg H ?_;intro b w H)|(refine' y30 zAu ?_ ?_;rotate_left;exact ha _ _ _ H.mem (zz2 _) _ (H.all hF) (zh hC hLt hN);refine w2 H ?_;clear H;intro w H)|refine yU ?_|fail)
  exact zS (M:=_) rfl H ⟨rfl,fun h=>absurd h (show(5:Int)≠0 by decide)⟩
theorem zSZ {w0 w:World}(hLt:LtS s)(hl:1≤n.length)(H:St w0 (mkL bm (mkc s p n na nc t) Ma Mi Mu R) w)(hC:Cps s p Ma Mi Mu R)(hF:Mem w0 F)(hN:Ints F na nc n) :
  Calls Tryz.prog 113 [.pointer (some ⟨bm,0,none⟩)].toArray w (zi (zBw bm n na nc t (zFC s n t)) w0):=by
 have hac:=hLt.ac
 have w1:IntKind.i64.wrap ((s.accts.length:Int)+1)=s.accts.length+1:=w64 qO qO
 have hnm:=fun w (G:zC) (hG:Mem w G) (hM:Mkt G bm s p n na nc t)=>zN2 s p t w hG hM.sta
 unfold zFC
 by_cases h0:nF n 0≠s.accts.length+1
 ·have d0:(nF n 0 != IntKind.i64.wrap ((s.accts.length:Int)+1))=true:=by rw[w1];simpa using h0
  rw[if_pos h0]
  refine enter [.tmp 2] Tryz.func113 rfl Tryz.ntmps113 rfl rfl ?_
  repeat' (first|refine yT ?_|refine y8 sg H ?_|(refine' y31 zAt ?_ ?_;rotate_left;exact(fun _ hcl=>zAw 0 qO _ ((H.ext hcl).all hF) (zh hC hLt hN)))|refine yU ?_|(with_reducible apply zO;refine w2 H ?_;clear H;intro w H)|refine y20 mixed ?_|with_reducible apply zB|(refine y23 ?_ ?_;all_goals(intro h;try (exfalso;first|((rw[d0] at h;cases h);done))))|fail)
  exact zS (M:=_) rfl H ⟨rfl,fun h=>absurd h (show(46:Int)≠0 by decide)⟩
 ·have d0:(nF n 0 != IntKind.i64.wrap ((s.accts.length:Int)+1))=false:=by rw[w1];simpa using h0
  rw[if_neg h0]
  by_cases h1:zA3 s.accts t ≥ 0
  ·have d1:(zA3 s.accts t+1 != 0)=true:=by simp;omega
   rw[if_pos h1]
   refine enter [.tmp 2] Tryz.func113 rfl Tryz.ntmps113 rfl rfl ?_
   repeat' (first|refine yT ?_|refine y8 sg H ?_|(refine' y31 zAt ?_ ?_;rotate_left;exact(fun _ hcl=>zAw 0 qO _ ((H.ext hcl).all hF) (zh hC hLt hN)))|(refine' y31 zJX ?_ ?_;rotate_left;exact(fun _ hcl=>hnm _ _ ((H.ext hcl).all hF) (zh hC hLt hN)))|refine yU ?_|(with_reducible apply zO;refine w2 H ?_;clear H;intro w H)|refine y20 mixed ?_|with_reducible apply zB|(refine y23 ?_ ?_;all_goals(intro h;try (exfalso;first|((rw[d0] at h;cases h);done)|((rw[d1] at h;cases h);done))))|fail)
   exact zS (M:=_) rfl H ⟨rfl,fun h=>absurd h (show(6:Int)≠0 by decide)⟩
  ·have h2:=(zIy s.accts t).1
   have d1:(zA3 s.accts t+1 != 0)=false:=by simp;omega
   rw[if_neg h1]
   refine enter [.tmp 2] Tryz.func113 rfl Tryz.ntmps113 rfl rfl ?_
   repeat' (first|refine yT ?_|refine y8 sg H ?_|(refine' y31 zAt ?_ ?_;rotate_left;exact(fun _ hcl=>zAw 0 qO _ ((H.ext hcl).all hF) (zh hC hLt hN)))|refine yU ?_|(with_reducible apply zO;refine w2 H ?_;clear H;intro w H)|refine y20 mixed ?_|with_reducible apply zB|fail)
   refine CW.condF (congrArg Value.bool d0) ?_
   repeat' (first|refine yT ?_|refine y8 sg H ?_|(refine' y31 zJX ?_ ?_;rotate_left;exact(fun _ hcl=>hnm _ _ ((H.ext hcl).all hF) (zh hC hLt hN)))|(with_reducible apply zO;refine w2 H ?_;clear H;intro w H)|refine yU ?_|refine y20 mixed ?_|fail)
   refine CW.condF (congrArg Value.bool d1) ?_
   repeat' (first|refine yT ?_|(refine y11 sg H ?_;intro w H)|(refine CW.regionL mixed 17 (z6s (x:=cb bm (mkc s p n na nc t) 141) H hF) [13,14,15,16] ?_ ?_;exact rfl;refine w2 H ?_;clear H;intro w H)|((with_reducible apply RL.nil);decide +kernel)|refine lT sg 0 (z6s H hF) ?_|refine lT sg 1 (z6s H hF) ?_|refine lT sg 2 (z6s H hF) ?_|refine lT sg 3 (z6s H hF) ?_|refine lT sg 4 (z6s H hF) ?_|(refine' l1 5 (z6s H hF) ?_ ?_;rotate_left;exact z3 sg)|refine lT sg 6 (z6s H hF) ?_|refine lT sg 7 (z6s H hF) ?_|refine lT sg 8 (z6s H hF) ?_|(refine' l1 9 (z6s H hF) ?_ ?_;rotate_left;exact z3 sg)|refine lT sg 10 (z6s H hF) ?_|(refine' l6 13 ?_ ?_;rotate_left;exact z9 sg)|(refine' l6 14 ?_ ?_;rotate_left;exact z9 sg)|(refine' l6 15 ?_ ?_;rotate_left;exact z9 sg)|refine l3 16 ?_|refine l2 11 ?_|refine l2 12 ?_|(refine l5 (z6s H hF) ?_)|((with_reducible apply OX.buildA sg H);(iterate 12 exact rfl);intro b w H _)|(have hp:=H.perm zHS;refine zj sg 2 24 (M:=Ma) hp rfl rfl rfl rfl rfl rfl rfl rfl rfl rfl rfl hC.ac (zAL hp.mem (zz3 _ (zz2 _))) rfl (zAU rfl) (by unfold maxLen;omega) qO ?_;clear hp H;intro a1 c1 M1 w O1 H;replace H:=H.perm zHS.symm)|refine yU ?_|fail)
   have hlen:s.accts.length+1=(s.accts++[(⟨t,true⟩:Ac)]).length:=by simp
   have O2:=O1
   rw[show[Value.string t,Value.bool true]=(⟨t,true⟩:Ac).cells from rfl,zUV,hlen] at O2
   rw[hlen] at H
   exact zS (M:=mkL bm (mkc { s with accts:=s.accts++[⟨t,true⟩] } { p with acA:=a1,acC:=c1 } n na nc t) M1 Mi Mu R) rfl (H.sub (zz7 _ _)) ⟨rfl,fun _=>⟨{ p with acA:=a1,acC:=c1 },M1,Mi,Mu,R,rfl,O2,hC.ins,hC.rw,hC.od,hC.au,hC.bd⟩⟩
end
end
section
open Go Go.Sk Go.RowKit
attribute [local irreducible] Go.Calls
section
variable {F:zC}{bm:Nat}{s:Sta}{p:SPt}{n:List Int}{na:Option Addr}{nc:Nat}{t:ByteArray}{Ma Mi Mu R:zC}
theorem zSa {l:List Ac}{k:Nat}{x:Ac}(hk:k<l.length){g cap:Nat}{cs vs:List Value}{f:Nat}(hE:Els cs 2 l.length (acl l))(hf:f+vs.length≤2)(hx:wr (acl l k) f vs=x.cells)(h1:l.length≤cap)(h2:cap≤maxLen)(h3:cs.length=cap*2) :
  Go.Sk.Own [cb g (wr cs (k*2+f) vs) 92] 92 2 (some ⟨g,0,none⟩) l.length cap ((List.range l.length).flatMap (acl (l.set k x))):=by
 refine Els.own ((zFt hE hk hf).congr fun j hj=>?_) (fun _ _=>rfl) h1 h2 (by
  have:=(hE k hk).1
  rw[zBt qO];exact h3)
 show(if j=k then wr (acl l k) f vs else acl l j)=(ac_ (l.set k x) j).cells
 rw[zMo hk]
 by_cases hjk:j=k
 ·rw[if_pos hjk,if_pos hjk,hx]
 ·rw[if_neg hjk,if_neg hjk];rfl
theorem zSb {l:List Ins}{k:Nat}{x:Ins}(hk:k<l.length){g cap:Nat}{cs vs:List Value}{f:Nat}(hE:Els cs 3 l.length (ing l))(hf:f+vs.length≤3)(hx:wr (ing l k) f vs=x.cells)(h1:l.length≤cap)(h2:cap≤maxLen)(h3:cs.length=cap*3) :
  Go.Sk.Own [cb g (wr cs (k*3+f) vs) 94] 94 3 (some ⟨g,0,none⟩) l.length cap ((List.range l.length).flatMap (ing (l.set k x))):=by
 refine Els.own ((zFt hE hk hf).congr fun j hj=>?_) (fun _ _=>rfl) h1 h2 (by
  have:=(hE k hk).1
  rw[zBt qO];exact h3)
 show(if j=k then wr (ing l k) f vs else ing l j)=(in_ (l.set k x) j).cells
 rw[zR0 hk]
 by_cases hjk:j=k
 ·rw[if_pos hjk,if_pos hjk,hx]
 ·rw[if_neg hjk,if_neg hjk];rfl
theorem zOR {w0 w:World}{y:Nat × Obj}{l':List Ac}{R':zC}(H:St w0 (mkL bm (mkc s p n na nc t) [y] Mi Mu R') w)(hO:Go.Sk.Own [y] 92 2 p.acA s.accts.length p.acC ((List.range s.accts.length).flatMap (acl l')))(hl:l'.length=s.accts.length)(hC:Cps s p Ma Mi Mu R)(hs:R⊆R') :
  ∃ M,St w0 M w∧zBw bm n na nc t ({ s with accts:=l' },0) M (.int .i64 0):=by
 have e:mkc { s with accts:=l' } p n na nc t=mkc s p n na nc t:=by unfold mkc Sta.cells;simp only[hl]
 refine⟨_,H,rfl,fun _=>⟨p,[y],Mi,Mu,R',by rw[e],?_,hC.ins,SlA.mono hC.rw hs,SlA.mono hC.od hs,hC.au,fun j hj=>SlA.mono (hC.bd j hj) hs⟩⟩
 show Go.Sk.Own _ _ 2 p.acA l'.length p.acC ((List.range l'.length).flatMap (acl l'))
 rw[hl];exact hO
theorem zOS {w0 w:World}{y:Nat × Obj}{l':List Ins}{R':zC}(H:St w0 (mkL bm (mkc s p n na nc t) Ma [y] Mu R') w)(hO:Go.Sk.Own [y] 94 3 p.inA s.insts.length p.inC ((List.range s.insts.length).flatMap (ing l')))(hl:l'.length=s.insts.length)(hC:Cps s p Ma Mi Mu R)(hs:R⊆R') :
  ∃ M,St w0 M w∧zBw bm n na nc t ({ s with insts:=l' },0) M (.int .i64 0):=by
 have e:mkc { s with insts:=l' } p n na nc t=mkc s p n na nc t:=by unfold mkc Sta.cells;simp only[hl]
 refine⟨_,H,rfl,fun _=>⟨p,Ma,[y],Mu,R',by rw[e],hC.ac,?_,SlA.mono hC.rw hs,SlA.mono hC.od hs,hC.au,fun j hj=>SlA.mono (hC.bd j hj) hs⟩⟩
 show Go.Sk.Own _ _ 3 p.inA l'.length p.inC ((List.range l'.length).flatMap (ing l'))
 rw[hl];exact hO
theorem zSc {w0 w:World}(hLt:LtS s)(hl:1≤n.length)(hb0:nF n 0≤1000)(H:St w0 (mkL bm (mkc s p n na nc t) Ma Mi Mu R) w)(hC:Cps s p Ma Mi Mu R)(hF:Mem w0 F)(hN:Ints F na nc n) :
  Calls Tryz.prog 114 [.pointer (some ⟨bm,0,none⟩)].toArray w (zi (zBw bm n na nc t (zFD s n)) w0):=by
 obtain⟨hn2,hc2,b2,off2,cs2,T2,fr2,hs2⟩:=id hN
 have ha:=fun w (b:Nat) (X:zC) (hX:Mem w X) (hm:cb b [Value.int .i64 (0:Int)] 3∈X) (G:zC) (hG:Mem w G) (hM:Mkt G bm s p n na nc t)=>zCZ (T:=3) 0 qO w hX hm hG hM
 unfold zFD
 by_cases ho:zAG s (nF n 0)=true
 ·rw[if_pos ho] at ha ⊢
  have hoi:=zCT.1 ho
  have hof:(ofF s.rows (nF n 0)).length>0↔(s.rows.any fun r=>r.acct==nF n 0)=true:=by
   unfold ofF
   rw[gt_iff_lt,List.length_pos_iff,ne_eq,List.filter_eq_nil_iff,List.any_eq_true]
   simp
  have hcall:=fun w (G:zC) (hG:Mem w G) (hM:Mkt G bm s p n na nc t)=>c_Of s.rows (nF n 0) (by have:=hLt.rw;omega) w hG hM.sta.rw
  by_cases hr:(s.rows.any fun r=>r.acct==nF n 0)=true
  ·rw[if_pos hr]
   have d1:decide (((ofF s.rows (nF n 0)).length:Int)>0)=true:=decide_eq_true (by have:=hof.2 hr;omega)
   refine enter [.tmp 2] Tryz.func114 rfl Tryz.ntmps114 rfl rfl ?_
   repeat' (first|refine yT ?_|(refine z14 sg H ?_;intro b w H)|(refine' y30 zAu ?_ ?_;rotate_left;exact ha _ _ _ H.mem (zz2 _) _ (H.all hF) (zh hC hLt hN);refine w2 H ?_;clear H;intro w H)|(refine CW.regionL mixed 10 (z6s (x:=cb bm (mkc s p n na nc t) 141) H hF) [] ?_ ?_;exact rfl;refine w2 H ?_;clear H;intro w H)|((with_reducible apply RL.nil);decide +kernel)|refine lT sg 0 (z6s H hF) ?_|refine lT sg 1 (z6s H hF) ?_|refine lT sg 2 (z6s H hF) ?_|refine lT sg 3 (z6s H hF) ?_|(refine' l1 4 (z6s H hF) ?_ ?_;rotate_left;exact z3 sg)|refine lT sg 5 (z6s H hF) ?_|refine lT sg 8 (z6s H hF) ?_|refine lT sg 9 (z6s H hF) ?_|refine l2 6 ?_|refine l2 7 ?_|(refine l5 (z6s H hF) ?_)|(refine' y30 zAt ?_ ?_;rotate_left;exact zAw 0 qO _ (H.all hF) (zh hC hLt hN);refine w2 H ?_;clear H;intro w H)|(refine' y32 zQh ?_ ?_;rotate_left;exact hcall _ _ (H.all hF) (zh hC hLt hN);intro v M w hR hS;replace H:=H.addR hS;clear hS;(try simp only[List.cons_append,List.nil_append] at H);obtain⟨a1,c1,rfl⟩:=hR)|refine yU ?_|(refine y23 ?_ ?_;all_goals(intro h;try (exfalso;first|((exact absurd h (by decide));done)|((cases d1.symm.trans h);done))))|fail)
   exact zS (M:=_) rfl H ⟨rfl,fun h=>absurd h (show(47:Int)≠0 by decide)⟩
  ·rw[if_neg hr]
   have d1:decide (((ofF s.rows (nF n 0)).length:Int)>0)=false:=decide_eq_false (by have:=mt hof.1 hr;omega)
   have hk:(nF n 0 - 1).toNat<s.accts.length:=by omega
   have hq:IntKind.i64.wrap (nF n 0 - 1)=(((nF n 0 - 1).toNat:Nat):Int):=by rw[w64 qO qO];omega
   obtain⟨g,cs,hA,rfl,hcap,hcm,hcl,hE⟩:=zBr hC.ac qO (fun _ _=>rfl)
   have hsA:=hE.slb (F:=[cb g cs 92]) (T:=92) (zz2 _)
   rw[← hA] at hsA
   have hfit:=(hE _ hk).1
   have hs2F:=hs2.mono (List.subset_cons_self (cb bm (mkc s p n na nc t) 141) F)
   refine enter [.tmp 2] Tryz.func114 rfl Tryz.ntmps114 rfl rfl ?_
   repeat' (first|refine yT ?_|(refine z14 sg H ?_;intro b w H)|(refine' y30 zAu ?_ ?_;rotate_left;exact ha _ _ _ H.mem (zz2 _) _ (H.all hF) (zh hC hLt hN);refine w2 H ?_;clear H;intro w H)|(refine CW.regionL mixed 10 (z6s (x:=cb bm (mkc s p n na nc t) 141) H hF) [] ?_ ?_;exact rfl;refine w2 H ?_;clear H;intro w H)|((with_reducible apply RL.nil);decide +kernel)|refine lT sg 0 (z6s H hF) ?_|refine lT sg 1 (z6s H hF) ?_|refine lT sg 2 (z6s H hF) ?_|refine lT sg 3 (z6s H hF) ?_|(refine' l1 4 (z6s H hF) ?_ ?_;rotate_left;exact z3 sg)|refine lT sg 5 (z6s H hF) ?_|refine lT sg 8 (z6s H hF) ?_|refine lT sg 9 (z6s H hF) ?_|refine l2 6 ?_|refine l2 7 ?_|(refine l5 (z6s H hF) ?_)|(refine' y30 zAt ?_ ?_;rotate_left;exact zAw 0 qO _ (H.all hF) (zh hC hLt hN);refine w2 H ?_;clear H;intro w H)|(refine' y32 zQh ?_ ?_;rotate_left;exact hcall _ _ (H.all hF) (zh hC hLt hN);intro v M w hR hS;replace H:=H.addR hS;clear hS;(try simp only[List.cons_append,List.nil_append] at H);obtain⟨a1,c1,rfl⟩:=hR)|refine yU ?_|fail)
   refine CW.condF (congrArg Value.bool d1) ?_
   (try simp only[List.cons_append,List.nil_append] at H)
   repeat' (first|refine yT ?_|(refine CW.regionL mixed 15 (z6s (x:=cb bm (mkc s p n na nc t) 141) H hF) [12,13,14] ?_ ?_;exact rfl;refine w2 H ?_;clear H;intro w H)|((with_reducible apply RL.nil);decide +kernel)|refine lT sg 0 (z6s H hF) ?_|refine lT sg 1 (z6s H hF) ?_|refine lT sg 2 (z6s H hF) ?_|refine lT sg 3 (z6s H hF) ?_|(refine' l1 4 (z6s H hF) ?_ ?_;rotate_left;exact z3 sg)|refine lT sg 5 (z6s H hF) ?_|refine lT sg 6 (z6s H hF) ?_|refine lT sg 7 (z6s H hF) ?_|(refine' l1 8 (z6s H hF) ?_ ?_;rotate_left;exact z3 sg)|(refine' l1 9 (z6s H hF) ?_ ?_;rotate_left;exact(zQ sg hs2))|(refine' l1 10 (z6s H hF) ?_ ?_;rotate_left;exact(zK sg hs2F (show 0<n.length by omega)))|refine lT sg 11 (z6s H hF) ?_|(refine' l6 12 ?_ ?_;rotate_left;exact(fun w2=>zG sg hsA rfl rfl rfl rfl rfl rfl rfl ((congrArg Int.toNat hq).trans (zz1 _)) (by rw[hq];omega) (by rw[hq];omega)))|(refine' l6 13 ?_ ?_;rotate_left;exact z9 sg)|refine l3 14 ?_|(refine OX.storeX sg (v:=.bool false) (vs:=[.bool false]) H rfl rfl rfl rfl rfl rfl rfl (Up.there (Up.there Up.here)) (by simp only[List.length_singleton];omega) (zAU rfl) ?_;clear H;intro w H)|refine yU ?_|fail)
   have O2:=zSa (g:=g) (x:=⟨(ac_ s.accts (nF n 0 - 1).toNat).name,false⟩) (vs:=[.bool false]) (f:=1) hk hE (Nat.le_refl 2) rfl hcap hcm hcl
   rw[← hA] at O2
   replace H:=H.sub (zz7 _ _)
   simp only[List.append_assoc,Nat.zero_add] at H
   obtain⟨M9,H9,hR9⟩:=zOR (l':=s.accts.set (nF n 0 - 1).toNat ⟨(ac_ s.accts (nF n 0 - 1).toNat).name,false⟩) H O2 List.length_set hC (List.subset_append_left _ _)
   exact zS (M:=M9) rfl H9 hR9
 ·have ho2:zAG s (nF n 0)=false:=by simpa using ho
  rw[if_neg ho] at ha ⊢
  refine enter [.tmp 2] Tryz.func114 rfl Tryz.ntmps114 rfl rfl ?_
  repeat' (first|refine yT ?_|(refine z14 sg H ?_;intro b w H)|(refine' y30 zAu ?_ ?_;rotate_left;exact ha _ _ _ H.mem (zz2 _) _ (H.all hF) (zh hC hLt hN);refine w2 H ?_;clear H;intro w H)|refine yU ?_|fail)
  exact zS (M:=_) rfl H ⟨rfl,fun h=>absurd h (show(5:Int)≠0 by decide)⟩
end
end
end Go.Proofs.YthbflajpdhgfiaaGreatDoor
