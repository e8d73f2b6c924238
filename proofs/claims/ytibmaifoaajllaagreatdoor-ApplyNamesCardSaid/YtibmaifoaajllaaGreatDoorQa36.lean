/- Texts of ours, joined: the steps of the proof, or the claim's theorem. -/
import Derived.Test.YtibmaifoaajllaaGreatDoorQa35
set_option linter.unusedSimpArgs false
set_option linter.unusedVariables false
set_option maxHeartbeats 16000000
namespace Go.Proofs.YtibmaifoaajllaaGreatDoor
section
open Go Go.Sk Go.RowKit
attribute [local irreducible] Go.Calls
theorem z6s {w0 w:World}{L F:zH}{x:Nat × Obj}(H:St w0 L w)(hF:Mem w0 F)(hx:x∈L:=by repeat (first|exact zz2 _|refine zz5 _ ?_)):Mem w (x::F):=fun p hp=>by
 rcases List.mem_cons.1 hp with rfl|hp
 ·exact H.mem _ hx
 ·exact H.memF hF _ hp
theorem own_get {M:zH}{E:TypeId}{size:Nat}{a:Option Addr}{n cap:Nat}{el:Nat→List Value}(h:Go.Sk.Own M E size a n cap ((List.range n).flatMap el))(h0:0<n)(hel:∀ j,j<n→(el j).length=size) :
  ∃ g cs,a=some ⟨g,0,none⟩∧M=[cb g cs E]∧n≤cap∧cap≤maxLen∧cs.length=cap*size∧Els cs size n el:=by
 obtain⟨g,cs,h1,h2,h3,h4⟩:=h.els h0 hel
 rcases h.2 with ⟨g0,_⟩|⟨g',cs',e1,e2,e3,e4,e5,e6⟩
 ·omega
 ·rw[h2] at e2;cases e2
  exact⟨g,cs,h1,h2,h3,e4,e5,h4⟩
theorem zGV {x y:Nat × Obj}{A B C:zH}:(x::(A++([y]++(B++C)))).Perm (y::x::(A++(B++C))):=by
 have h:(x::(A++y::(B++C))).Perm (y::x::(A++(B++C))) :=
  (List.Perm.cons x List.perm_middle).trans (List.Perm.swap y x _)
 exact h
theorem zHe {x y:Nat × Obj}{A B:zH}:(x::y::(A++B)).Perm (A++(x::y::B)):=by
 have:=(List.perm_append_comm (l₁:=[x,y]) (l₂:=A)).append_right B
 simpa only[List.cons_append,List.nil_append,List.append_assoc] using this
theorem zUE {l:List Ac}{x:Ac}:(List.range l.length).flatMap (acl l)++x.cells=(List.range (l++[x]).length).flatMap (acl (l++[x])):=by
 rw[show(List.range l.length).flatMap (acl l)=l.flatMap Ac.cells from zA8 Ac.cells l default,show(List.range (l++[x]).length).flatMap (acl (l++[x]))=(l++[x]).flatMap Ac.cells from zA8 Ac.cells (l++[x]) default,List.flatMap_append,List.flatMap_singleton]
theorem zUF {l:List Ins}{x:Ins}:(List.range l.length).flatMap (ing l)++x.cells=(List.range (l++[x]).length).flatMap (ing (l++[x])):=by
 rw[show(List.range l.length).flatMap (ing l)=l.flatMap Ins.cells from zA8 Ins.cells l default,show(List.range (l++[x]).length).flatMap (ing (l++[x]))=(l++[x]).flatMap Ins.cells from zA8 Ins.cells (l++[x]) default,List.flatMap_append,List.flatMap_singleton]
section
variable {F:zH}{bm:Nat}{s:Sta}{p:SPt}{n:List Int}{na:Option Addr}{nc:Nat}{t:ByteArray}{Ma Mi Mu R:zH}
theorem zSG {w0 w:World}(hLt:LtS s)(hW:WfR s)(hl:3≤n.length)(h1:1≤nF n 1∧nF n 1≤1000)(hz:0≤nF n 2∧nF n 2≤1125899906842624)(H:St w0 (mkL bm (mkc s p n na nc t) Ma Mi Mu R) w)(hC:Cps s p Ma Mi Mu R)(hF:Mem w0 F)(hN:Ints F na nc n) :
  Calls Tryz.prog 101 [.pointer (some ⟨bm,0,none⟩)].toArray w (zn (zB3 bm n na nc t (if zt s (nF n 0)=true∧zAq s (nF n 1)=true then zBu s (0) (nF n 0) (nF n 1) (nF n 2) else(s,5))) w0):=by
 obtain⟨hn2,hc2,b2,off2,cs2,T2,fr2,hs2⟩:=id hN
 have ha:=fun w (G:zH) (hG:Mem w G) (hM:Mkt G bm s p n na nc t)=>zGU (by omega) h1 w hG hM
 by_cases ho:zt s (nF n 0)=true∧zAq s (nF n 1)=true
 ·rw[if_pos ho] at ha ⊢
  refine enter [.tmp 2] Tryz.func101 rfl Tryz.ntmps101 rfl rfl ?_
  repeat' (first|refine yT ?_|refine y8 sg H ?_|refine y12 ?_|(refine' y30 zJb ?_ ?_;rotate_left;exact ha _ _ (H.all hF) (zi hC hLt hN);intro w hcl;replace H:=H.ext hcl;clear hcl)|(refine CW.regionR mixed ?_;intro w hcl;replace H:=H.ext hcl;clear hcl;(with_reducible apply RW.quiet 15);exact rfl;decide +kernel;simp only[List.append_eq,List.cons_append,List.nil_append,List.take_succ_cons,List.take_zero,List.drop_zero])|(refine' y31 zAy ?_ ?_;rotate_left;exact(fun _ hcl=>zA2 0 (by omega) _ ((H.ext hcl).all hF) (zi hC hLt hN)))|(refine y41 sg (hs2) ?_ ?_ ?_;(omega);(omega))|((with_reducible apply zP);exact rfl;exact rfl;exact Yq.loadB1 sg hs2 (H.memF hF) rfl rfl rfl rfl (show 1<n.length by omega) rfl)|((with_reducible apply zP);exact rfl;exact rfl;exact Yq.loadB1 sg hs2 (H.memF hF) rfl rfl rfl rfl (show 2<n.length by omega) rfl)|(refine zc rfl rfl (En.fn zHq rfl rfl) (zIb hLt hW (0) (nF n 0) (nF n 1) (nF n 2) (by omega) H hC) ?_;rintro _ _ w hR2 H2;clear H;have H:=H2;clear H2;obtain⟨rfl,hR2⟩:=hR2)|refine yU ?_|(with_reducible apply zL;intro w hcl;replace H:=H.ext hcl;clear hcl)|fail)
  obtain⟨p2,M2,rfl,hC2⟩:=hR2
  exact zU (M:=_) rfl H ⟨rfl,fun _=>⟨p2,Ma,Mi,Mu,_,rfl,hC2⟩⟩
 ·rw[if_neg ho] at ha ⊢
  refine enter [.tmp 2] Tryz.func101 rfl Tryz.ntmps101 rfl rfl ?_
  repeat' (first|refine yT ?_|(refine' y30 zJb ?_ ?_;rotate_left;exact ha _ _ (H.all hF) (zi hC hLt hN);intro w hcl;replace H:=H.ext hcl;clear hcl)|refine yU ?_|fail)
  exact zU (M:=_) rfl H ⟨rfl,fun h=>absurd h (show(5:Int)≠0 by decide)⟩
theorem zMy {w0 w:World}(hLt:LtS s)(hW:WfR s)(hl:3≤n.length)(h1:1≤nF n 1∧nF n 1≤1000)(hz:0≤nF n 2∧nF n 2≤1125899906842624)(H:St w0 (mkL bm (mkc s p n na nc t) Ma Mi Mu R) w)(hC:Cps s p Ma Mi Mu R)(hF:Mem w0 F)(hN:Ints F na nc n) :
  Calls Tryz.prog 102 [.pointer (some ⟨bm,0,none⟩)].toArray w (zn (zB3 bm n na nc t (if zt s (nF n 0)=true∧zAq s (nF n 1)=true then zBu s (nF n 0) (0) (nF n 1) (nF n 2) else(s,5))) w0):=by
 obtain⟨hn2,hc2,b2,off2,cs2,T2,fr2,hs2⟩:=id hN
 have ha:=fun w (G:zH) (hG:Mem w G) (hM:Mkt G bm s p n na nc t)=>zGU (by omega) h1 w hG hM
 by_cases ho:zt s (nF n 0)=true∧zAq s (nF n 1)=true
 ·rw[if_pos ho] at ha ⊢
  refine enter [.tmp 2] Tryz.func102 rfl Tryz.ntmps102 rfl rfl ?_
  repeat' (first|refine yT ?_|refine y8 sg H ?_|refine y12 ?_|(refine' y30 zJb ?_ ?_;rotate_left;exact ha _ _ (H.all hF) (zi hC hLt hN);intro w hcl;replace H:=H.ext hcl;clear hcl)|(refine CW.regionR mixed ?_;intro w hcl;replace H:=H.ext hcl;clear hcl;(with_reducible apply RW.quiet 15);exact rfl;decide +kernel;simp only[List.append_eq,List.cons_append,List.nil_append,List.take_succ_cons,List.take_zero,List.drop_zero])|(refine' y31 zAy ?_ ?_;rotate_left;exact(fun _ hcl=>zA2 0 (by omega) _ ((H.ext hcl).all hF) (zi hC hLt hN)))|(refine y41 sg (hs2) ?_ ?_ ?_;(omega);(omega))|((with_reducible apply zP);exact rfl;exact rfl;exact Yq.loadB1 sg hs2 (H.memF hF) rfl rfl rfl rfl (show 1<n.length by omega) rfl)|((with_reducible apply zP);exact rfl;exact rfl;exact Yq.loadB1 sg hs2 (H.memF hF) rfl rfl rfl rfl (show 2<n.length by omega) rfl)|(refine zc rfl rfl (En.fn zHq rfl rfl) (zIb hLt hW (nF n 0) (0) (nF n 1) (nF n 2) (by omega) H hC) ?_;rintro _ _ w hR2 H2;clear H;have H:=H2;clear H2;obtain⟨rfl,hR2⟩:=hR2)|refine yU ?_|(with_reducible apply zL;intro w hcl;replace H:=H.ext hcl;clear hcl)|fail)
  obtain⟨p2,M2,rfl,hC2⟩:=hR2
  exact zU (M:=_) rfl H ⟨rfl,fun _=>⟨p2,Ma,Mi,Mu,_,rfl,hC2⟩⟩
 ·rw[if_neg ho] at ha ⊢
  refine enter [.tmp 2] Tryz.func102 rfl Tryz.ntmps102 rfl rfl ?_
  repeat' (first|refine yT ?_|(refine' y30 zJb ?_ ?_;rotate_left;exact ha _ _ (H.all hF) (zi hC hLt hN);intro w hcl;replace H:=H.ext hcl;clear hcl)|refine yU ?_|fail)
  exact zU (M:=_) rfl H ⟨rfl,fun h=>absurd h (show(5:Int)≠0 by decide)⟩
theorem zSH {w0 w:World}(hl:1≤n.length)(H:St w0 (mkL bm (mkc s p n na nc t) Ma Mi Mu R) w)(hC:Cps s p Ma Mi Mu R)(hF:Mem w0 F)(hN:Ints F na nc n) :
  Calls Tryz.prog 103 [.pointer (some ⟨bm,0,none⟩)].toArray w (zn (zB3 bm n na nc t ({ s with fee:=nF n 0 },0)) w0):=by
 obtain⟨hn2,hc2,b2,off2,cs2,T2,fr2,hs2⟩:=id hN
 refine enter [.tmp 2] Tryz.func103 rfl Tryz.ntmps103 rfl rfl ?_
 repeat' (first|refine yT ?_|refine y7 sg H ?_|(refine y11 sg H ?_;intro w H)|(refine y40 sg (hs2) ?_ ?_ ?_;(omega);(omega))|refine z13 (Yq.loadB1 sg hs2 (H.memF hF) rfl rfl rfl rfl (show 0<n.length by omega) rfl) ?_|refine yU ?_|fail)
 exact zU (M:=mkL bm (mkc { s with fee:=nF n 0 } p n na nc t) Ma Mi Mu R) rfl H ⟨rfl,fun _=>⟨p,Ma,Mi,Mu,R,rfl,hC.ac,hC.ins,hC.rw,hC.od,hC.au,hC.bd⟩⟩
theorem zIq {w0 w:World}(hLt:LtS s)(hW:WfR s)(hl:3≤n.length)(hz:0≤nF n 2∧nF n 2≤1125899906842624)(H:St w0 (mkL bm (mkc s p n na nc t) Ma Mi Mu R) w)(hC:Cps s p Ma Mi Mu R)(hF:Mem w0 F)(hN:Ints F na nc n) :
  Calls Tryz.prog 114 [.pointer (some ⟨bm,0,none⟩)].toArray w (zn (zB3 bm n na nc t (zAe s n)) w0):=by
 obtain⟨hn2,hc2,b2,off2,cs2,T2,fr2,hs2⟩:=id hN
 have ha:=fun w (b:Nat) (X:zH) (hX:Mem w X) (hm:cb b [Value.int .i64 (0:Int),Value.int .i64 (1:Int)] 3∈X) (G:zH) (hG:Mem w G) (hM:Mkt G bm s p n na nc t)=>zSF (T:=3) 0 1 (by omega) (by omega) w hX hm hG hM
 unfold zAe
 by_cases ho:zt s (nF n 0)=true∧zt s (nF n 1)=true
 ·rw[if_pos ho] at ha ⊢
  by_cases he:nF n 0=nF n 1
  ·have d1:(nF n 0==nF n 1)=true:=by rw[he];exact beq_self_eq_true _
   rw[if_pos he]
   refine enter [.tmp 2] Tryz.func114 rfl Tryz.ntmps114 rfl rfl ?_
   repeat' (first|refine yT ?_|refine y8 sg H ?_|(refine z14 sg H ?_;intro b w H)|(refine' y30 zAz ?_ ?_;rotate_left;exact ha _ _ _ H.mem (zz2 _) _ (H.all hF) (zi hC hLt hN);intro w hcl;replace H:=H.ext hcl;clear hcl)|(refine y41 sg (hs2) ?_ ?_ ?_;(omega);(omega))|((with_reducible apply zP);exact rfl;exact rfl;exact Yq.loadB1 sg hs2 (H.memF hF) rfl rfl rfl rfl (show 0<n.length by omega) rfl)|((with_reducible apply zP);exact rfl;exact rfl;exact Yq.loadB1 sg hs2 (H.memF hF) rfl rfl rfl rfl (show 1<n.length by omega) rfl)|refine yU ?_|(with_reducible apply zL;intro w hcl;replace H:=H.ext hcl;clear hcl)|refine y20 mixed ?_|(refine y23 ?_ ?_;all_goals(intro h;try (exfalso;first|((exact absurd h (by decide));done)|((cases d1.symm.trans h);done))))|fail)
   exact zU (M:=_) rfl H ⟨rfl,fun h=>absurd h (show(1:Int)≠0 by decide)⟩
  ·have d1:(nF n 0==nF n 1)=false:=beq_eq_false_iff_ne.2 he
   rw[if_neg he]
   refine enter [.tmp 2] Tryz.func114 rfl Tryz.ntmps114 rfl rfl ?_
   repeat' (first|refine yT ?_|refine y8 sg H ?_|(refine z14 sg H ?_;intro b w H)|(refine' y30 zAz ?_ ?_;rotate_left;exact ha _ _ _ H.mem (zz2 _) _ (H.all hF) (zi hC hLt hN);intro w hcl;replace H:=H.ext hcl;clear hcl)|(refine y41 sg (hs2) ?_ ?_ ?_;(omega);(omega))|((with_reducible apply zP);exact rfl;exact rfl;exact Yq.loadB1 sg hs2 (H.memF hF) rfl rfl rfl rfl (show 0<n.length by omega) rfl)|((with_reducible apply zP);exact rfl;exact rfl;exact Yq.loadB1 sg hs2 (H.memF hF) rfl rfl rfl rfl (show 1<n.length by omega) rfl)|refine yU ?_|(with_reducible apply zL;intro w hcl;replace H:=H.ext hcl;clear hcl)|refine y20 mixed ?_|fail)
   refine CW.condF (congrArg Value.bool d1) ?_
   repeat' (first|refine yT ?_|refine y8 sg H ?_|refine y12 ?_|(refine CW.regionR mixed ?_;intro w hcl;replace H:=H.ext hcl;clear hcl;(with_reducible apply RW.quiet 11);exact rfl;decide +kernel;simp only[List.append_eq,List.cons_append,List.nil_append,List.take_succ_cons,List.take_zero,List.drop_zero])|(refine' y31 zAy ?_ ?_;rotate_left;exact(fun _ hcl=>zA2 0 (by omega) _ ((H.ext hcl).all hF) (zi hC hLt hN)))|(refine' y31 zAy ?_ ?_;rotate_left;exact(fun _ hcl=>zA2 1 (by omega) _ ((H.ext hcl).all hF) (zi hC hLt hN)))|(refine y41 sg (hs2) ?_ ?_ ?_;(omega);(omega))|((with_reducible apply zP);exact rfl;exact rfl;exact Yq.loadB1 sg hs2 (H.memF hF) rfl rfl rfl rfl (show 2<n.length by omega) rfl)|(replace H:=H.perm (zCN [_]);refine zc rfl rfl (En.fn zHq rfl rfl) (zIb hLt hW (nF n 0) (nF n 1) 0 (nF n 2) (by omega) H (hC.mono (List.subset_append_left _ _))) ?_;rintro _ _ w hR2 H2;clear H;have H:=H2;clear H2;obtain⟨rfl,hR2⟩:=hR2)|refine yU ?_|(with_reducible apply zL;intro w hcl;replace H:=H.ext hcl;clear hcl)|fail)
   obtain⟨p2,M2,rfl,hC2⟩:=hR2
   exact zU (M:=_) rfl H ⟨rfl,fun _=>⟨p2,Ma,Mi,Mu,_,rfl,hC2⟩⟩
 ·rw[if_neg ho] at ha ⊢
  refine enter [.tmp 2] Tryz.func114 rfl Tryz.ntmps114 rfl rfl ?_
  repeat' (first|refine yT ?_|(refine z14 sg H ?_;intro b w H)|(refine' y30 zAz ?_ ?_;rotate_left;exact ha _ _ _ H.mem (zz2 _) _ (H.all hF) (zi hC hLt hN);intro w hcl;replace H:=H.ext hcl;clear hcl)|refine yU ?_|fail)
  exact zU (M:=_) rfl H ⟨rfl,fun h=>absurd h (show(5:Int)≠0 by decide)⟩
theorem zSI {w0 w:World}(hLt:LtS s)(hl:1≤n.length)(H:St w0 (mkL bm (mkc s p n na nc t) Ma Mi Mu R) w)(hC:Cps s p Ma Mi Mu R)(hF:Mem w0 F)(hN:Ints F na nc n) :
  Calls Tryz.prog 94 [.pointer (some ⟨bm,0,none⟩)].toArray w (zn (zB3 bm n na nc t (zDX s n t)) w0):=by
 have hac:=hLt.ac
 have w1:IntKind.i64.wrap ((s.accts.length:Int)+1)=s.accts.length+1:=w64 (by omega) (by omega)
 have hnm:=fun w (G:zH) (hG:Mem w G) (hM:Mkt G bm s p n na nc t)=>zNs s p t w hG hM.sta
 unfold zDX
 by_cases h0:nF n 0≠s.accts.length+1
 ·have d0:(nF n 0 != IntKind.i64.wrap ((s.accts.length:Int)+1))=true:=by rw[w1];simpa using h0
  rw[if_pos h0]
  refine enter [.tmp 2] Tryz.func94 rfl Tryz.ntmps94 rfl rfl ?_
  repeat' (first|refine yT ?_|refine y8 sg H ?_|(refine' y31 zAy ?_ ?_;rotate_left;exact(fun _ hcl=>zA2 0 (by omega) _ ((H.ext hcl).all hF) (zi hC hLt hN)))|refine yU ?_|(with_reducible apply zL;intro w hcl;replace H:=H.ext hcl;clear hcl)|refine y20 mixed ?_|with_reducible apply zA|(refine y23 ?_ ?_;all_goals(intro h;try (exfalso;first|((rw[d0] at h;cases h);done))))|fail)
  exact zU (M:=_) rfl H ⟨rfl,fun h=>absurd h (show(46:Int)≠0 by decide)⟩
 ·have d0:(nF n 0 != IntKind.i64.wrap ((s.accts.length:Int)+1))=false:=by rw[w1];simpa using h0
  rw[if_neg h0]
  by_cases h1:zA7 s.accts t ≥ 0
  ·have d1:(zA7 s.accts t+1 != 0)=true:=by simp;omega
   rw[if_pos h1]
   refine enter [.tmp 2] Tryz.func94 rfl Tryz.ntmps94 rfl rfl ?_
   repeat' (first|refine yT ?_|refine y8 sg H ?_|(refine' y31 zAy ?_ ?_;rotate_left;exact(fun _ hcl=>zA2 0 (by omega) _ ((H.ext hcl).all hF) (zi hC hLt hN)))|(refine' y31 zJa ?_ ?_;rotate_left;exact(fun _ hcl=>hnm _ _ ((H.ext hcl).all hF) (zi hC hLt hN)))|refine yU ?_|(with_reducible apply zL;intro w hcl;replace H:=H.ext hcl;clear hcl)|refine y20 mixed ?_|with_reducible apply zA|(refine y23 ?_ ?_;all_goals(intro h;try (exfalso;first|((rw[d0] at h;cases h);done)|((rw[d1] at h;cases h);done))))|fail)
   exact zU (M:=_) rfl H ⟨rfl,fun h=>absurd h (show(6:Int)≠0 by decide)⟩
  ·have h2:=(zI4 s.accts t).1
   have d1:(zA7 s.accts t+1 != 0)=false:=by simp;omega
   rw[if_neg h1]
   refine enter [.tmp 2] Tryz.func94 rfl Tryz.ntmps94 rfl rfl ?_
   repeat' (first|refine yT ?_|refine y8 sg H ?_|(refine' y31 zAy ?_ ?_;rotate_left;exact(fun _ hcl=>zA2 0 (by omega) _ ((H.ext hcl).all hF) (zi hC hLt hN)))|refine yU ?_|(with_reducible apply zL;intro w hcl;replace H:=H.ext hcl;clear hcl)|refine y20 mixed ?_|with_reducible apply zA|fail)
   refine CW.condF (congrArg Value.bool d0) ?_
   repeat' (first|refine yT ?_|refine y8 sg H ?_|(refine' y31 zJa ?_ ?_;rotate_left;exact(fun _ hcl=>hnm _ _ ((H.ext hcl).all hF) (zi hC hLt hN)))|(with_reducible apply zL;intro w hcl;replace H:=H.ext hcl;clear hcl)|refine yU ?_|refine y20 mixed ?_|fail)
   refine CW.condF (congrArg Value.bool d1) ?_
   repeat' (first|refine yT ?_|(refine y11 sg H ?_;intro w H)|(refine CW.regionL mixed 17 (z6s (x:=cb bm (mkc s p n na nc t) 95) H hF) [13,14,15,16] ?_ ?_;exact rfl;intro w hcl;replace H:=H.ext hcl;clear hcl)|((with_reducible apply RL.nil);decide +kernel)|(refine' l1 0 (z6s (x:=cb bm (mkc s p n na nc t) 95) H hF) ?_ ?_;rotate_left;first|exact z4 sg|exact z3 sg)|(refine' l1 1 (z6s (x:=cb bm (mkc s p n na nc t) 95) H hF) ?_ ?_;rotate_left;first|exact z4 sg|exact z3 sg)|(refine' l1 2 (z6s (x:=cb bm (mkc s p n na nc t) 95) H hF) ?_ ?_;rotate_left;first|exact z4 sg|exact z3 sg)|(refine' l1 3 (z6s (x:=cb bm (mkc s p n na nc t) 95) H hF) ?_ ?_;rotate_left;first|exact z4 sg|exact z3 sg)|(refine' l1 4 (z6s (x:=cb bm (mkc s p n na nc t) 95) H hF) ?_ ?_;rotate_left;first|exact z4 sg|exact z3 sg)|(refine' l1 5 (z6s (x:=cb bm (mkc s p n na nc t) 95) H hF) ?_ ?_;rotate_left;first|exact z4 sg|exact z3 sg)|(refine' l1 6 (z6s (x:=cb bm (mkc s p n na nc t) 95) H hF) ?_ ?_;rotate_left;first|exact z4 sg|exact z3 sg)|(refine' l1 7 (z6s (x:=cb bm (mkc s p n na nc t) 95) H hF) ?_ ?_;rotate_left;first|exact z4 sg|exact z3 sg)|(refine' l1 8 (z6s (x:=cb bm (mkc s p n na nc t) 95) H hF) ?_ ?_;rotate_left;first|exact z4 sg|exact z3 sg)|(refine' l1 9 (z6s (x:=cb bm (mkc s p n na nc t) 95) H hF) ?_ ?_;rotate_left;first|exact z4 sg|exact z3 sg)|(refine' l1 10 (z6s (x:=cb bm (mkc s p n na nc t) 95) H hF) ?_ ?_;rotate_left;first|exact z4 sg|exact z3 sg)|(refine' l6 13 ?_ ?_;rotate_left;first|exact z9 sg)|(refine' l6 14 ?_ ?_;rotate_left;first|exact z9 sg)|(refine' l6 15 ?_ ?_;rotate_left;first|exact z9 sg)|refine l3 16 ?_|refine l2 11 ?_|refine l2 12 ?_|(refine l5 (z6s (x:=cb bm (mkc s p n na nc t) 95) H hF) ?_)|((with_reducible apply OX.buildA sg H);exact rfl;exact rfl;exact rfl;exact rfl;exact rfl;exact rfl;exact rfl;exact rfl;exact rfl;exact rfl;exact rfl;exact rfl;intro b w H _)|(have hp:=H.perm zHe;refine zo sg 2 24 (M:=Ma) hp rfl rfl rfl rfl rfl rfl rfl rfl rfl rfl rfl hC.ac (zAM hp.mem (zz3 _ (zz2 _))) rfl (zAh rfl) (by unfold maxLen;omega) (by omega) ?_;clear hp H;intro a1 c1 M1 w O1 H;replace H:=H.perm zHe.symm)|refine yU ?_|fail)
   have hlen:s.accts.length+1=(s.accts++[(⟨t,true⟩:Ac)]).length:=by simp
   have O2:=O1
   rw[show[Value.string t,Value.bool true]=(⟨t,true⟩:Ac).cells from rfl,zUE,hlen] at O2
   rw[hlen] at H
   exact zU (M:=mkL bm (mkc { s with accts:=s.accts++[⟨t,true⟩] } { p with acA:=a1,acC:=c1 } n na nc t) M1 Mi Mu R) rfl (H.sub (zz7 _ _)) ⟨rfl,fun _=>⟨{ p with acA:=a1,acC:=c1 },M1,Mi,Mu,R,rfl,O2,hC.ins,hC.rw,hC.od,hC.au,hC.bd⟩⟩
end
end
section
open Go Go.Sk Go.RowKit
attribute [local irreducible] Go.Calls
section
variable {F:zH}{bm:Nat}{s:Sta}{p:SPt}{n:List Int}{na:Option Addr}{nc:Nat}{t:ByteArray}{Ma Mi Mu R:zH}
theorem zSJ {l:List Ac}{k:Nat}{x:Ac}(hk:k<l.length){g cap:Nat}{cs vs:List Value}{f:Nat}(hE:Els cs 2 l.length (acl l))(hf:f+vs.length≤2)(hx:wr (acl l k) f vs=x.cells)(h1:l.length≤cap)(h2:cap≤maxLen)(h3:cs.length=cap*2) :
  Go.Sk.Own [cb g (wr cs (k*2+f) vs) 74] 74 2 (some ⟨g,0,none⟩) l.length cap ((List.range l.length).flatMap (acl (l.set k x))):=by
 refine Els.own ((zF2 hE hk hf).congr fun j hj=>?_) (fun _ _=>rfl) h1 h2 (by
  have:=(hE k hk).1
  rw[zB0 (by omega)];exact h3)
 show(if j=k then wr (acl l k) f vs else acl l j)=(ac_ (l.set k x) j).cells
 rw[zMe hk]
 by_cases hjk:j=k
 ·rw[if_pos hjk,if_pos hjk,hx]
 ·rw[if_neg hjk,if_neg hjk];rfl
theorem zSK {l:List Ins}{k:Nat}{x:Ins}(hk:k<l.length){g cap:Nat}{cs vs:List Value}{f:Nat}(hE:Els cs 3 l.length (ing l))(hf:f+vs.length≤3)(hx:wr (ing l k) f vs=x.cells)(h1:l.length≤cap)(h2:cap≤maxLen)(h3:cs.length=cap*3) :
  Go.Sk.Own [cb g (wr cs (k*3+f) vs) 76] 76 3 (some ⟨g,0,none⟩) l.length cap ((List.range l.length).flatMap (ing (l.set k x))):=by
 refine Els.own ((zF2 hE hk hf).congr fun j hj=>?_) (fun _ _=>rfl) h1 h2 (by
  have:=(hE k hk).1
  rw[zB0 (by omega)];exact h3)
 show(if j=k then wr (ing l k) f vs else ing l j)=(in_ (l.set k x) j).cells
 rw[zMf hk]
 by_cases hjk:j=k
 ·rw[if_pos hjk,if_pos hjk,hx]
 ·rw[if_neg hjk,if_neg hjk];rfl
theorem zOE {w0 w:World}{y:Nat × Obj}{l':List Ac}{R':zH}(H:St w0 (mkL bm (mkc s p n na nc t) [y] Mi Mu R') w)(hO:Go.Sk.Own [y] 74 2 p.acA s.accts.length p.acC ((List.range s.accts.length).flatMap (acl l')))(hl:l'.length=s.accts.length)(hC:Cps s p Ma Mi Mu R)(hs:R⊆R') :
  ∃ M,St w0 M w∧zB3 bm n na nc t ({ s with accts:=l' },0) M (.int .i64 0):=by
 have e:mkc { s with accts:=l' } p n na nc t=mkc s p n na nc t:=by unfold mkc Sta.cells;simp only[hl]
 refine⟨_,H,rfl,fun _=>⟨p,[y],Mi,Mu,R',by rw[e],?_,hC.ins,SlA.mono hC.rw hs,SlA.mono hC.od hs,hC.au,fun j hj=>SlA.mono (hC.bd j hj) hs⟩⟩
 show Go.Sk.Own _ _ 2 p.acA l'.length p.acC ((List.range l'.length).flatMap (acl l'))
 rw[hl];exact hO
theorem zOF {w0 w:World}{y:Nat × Obj}{l':List Ins}{R':zH}(H:St w0 (mkL bm (mkc s p n na nc t) Ma [y] Mu R') w)(hO:Go.Sk.Own [y] 76 3 p.inA s.insts.length p.inC ((List.range s.insts.length).flatMap (ing l')))(hl:l'.length=s.insts.length)(hC:Cps s p Ma Mi Mu R)(hs:R⊆R') :
  ∃ M,St w0 M w∧zB3 bm n na nc t ({ s with insts:=l' },0) M (.int .i64 0):=by
 have e:mkc { s with insts:=l' } p n na nc t=mkc s p n na nc t:=by unfold mkc Sta.cells;simp only[hl]
 refine⟨_,H,rfl,fun _=>⟨p,Ma,[y],Mu,R',by rw[e],hC.ac,?_,SlA.mono hC.rw hs,SlA.mono hC.od hs,hC.au,fun j hj=>SlA.mono (hC.bd j hj) hs⟩⟩
 show Go.Sk.Own _ _ 3 p.inA l'.length p.inC ((List.range l'.length).flatMap (ing l'))
 rw[hl];exact hO
theorem zSL {w0 w:World}(hLt:LtS s)(hl:1≤n.length)(hb0:nF n 0≤1000)(H:St w0 (mkL bm (mkc s p n na nc t) Ma Mi Mu R) w)(hC:Cps s p Ma Mi Mu R)(hF:Mem w0 F)(hN:Ints F na nc n) :
  Calls Tryz.prog 95 [.pointer (some ⟨bm,0,none⟩)].toArray w (zn (zB3 bm n na nc t (zDY s n)) w0):=by
 obtain⟨hn2,hc2,b2,off2,cs2,T2,fr2,hs2⟩:=id hN
 have ha:=fun w (b:Nat) (X:zH) (hX:Mem w X) (hm:cb b [Value.int .i64 (0:Int)] 3∈X) (G:zH) (hG:Mem w G) (hM:Mkt G bm s p n na nc t)=>zCp (T:=3) 0 (by omega) w hX hm hG hM
 unfold zDY
 by_cases ho:zt s (nF n 0)=true
 ·rw[if_pos ho] at ha ⊢
  have hoi:=zBi.1 ho
  have hof:(ofF s.rows (nF n 0)).length>0↔(s.rows.any fun r=>r.acct==nF n 0)=true:=by
   unfold ofF
   rw[gt_iff_lt,List.length_pos_iff,ne_eq,List.filter_eq_nil_iff,List.any_eq_true]
   simp
  have hcall:=fun w (G:zH) (hG:Mem w G) (hM:Mkt G bm s p n na nc t)=>c_Of s.rows (nF n 0) (by have:=hLt.rw;omega) w hG hM.sta.rw
  by_cases hr:(s.rows.any fun r=>r.acct==nF n 0)=true
  ·rw[if_pos hr]
   have d1:decide (((ofF s.rows (nF n 0)).length:Int)>0)=true:=decide_eq_true (by have:=hof.2 hr;omega)
   refine enter [.tmp 2] Tryz.func95 rfl Tryz.ntmps95 rfl rfl ?_
   repeat' (first|refine yT ?_|(refine z14 sg H ?_;intro b w H)|(refine' y30 zAz ?_ ?_;rotate_left;exact ha _ _ _ H.mem (zz2 _) _ (H.all hF) (zi hC hLt hN);intro w hcl;replace H:=H.ext hcl;clear hcl)|(refine CW.regionL mixed 10 (z6s (x:=cb bm (mkc s p n na nc t) 95) H hF) [] ?_ ?_;exact rfl;intro w hcl;replace H:=H.ext hcl;clear hcl)|((with_reducible apply RL.nil);decide +kernel)|(refine' l1 0 (z6s (x:=cb bm (mkc s p n na nc t) 95) H hF) ?_ ?_;rotate_left;first|exact z4 sg|exact z3 sg)|(refine' l1 1 (z6s (x:=cb bm (mkc s p n na nc t) 95) H hF) ?_ ?_;rotate_left;first|exact z4 sg|exact z3 sg)|(refine' l1 2 (z6s (x:=cb bm (mkc s p n na nc t) 95) H hF) ?_ ?_;rotate_left;first|exact z4 sg|exact z3 sg)|(refine' l1 3 (z6s (x:=cb bm (mkc s p n na nc t) 95) H hF) ?_ ?_;rotate_left;first|exact z4 sg|exact z3 sg)|(refine' l1 4 (z6s (x:=cb bm (mkc s p n na nc t) 95) H hF) ?_ ?_;rotate_left;first|exact z4 sg|exact z3 sg)|(refine' l1 5 (z6s (x:=cb bm (mkc s p n na nc t) 95) H hF) ?_ ?_;rotate_left;first|exact z4 sg|exact z3 sg)|(refine' l1 8 (z6s (x:=cb bm (mkc s p n na nc t) 95) H hF) ?_ ?_;rotate_left;first|exact z4 sg|exact z3 sg)|(refine' l1 9 (z6s (x:=cb bm (mkc s p n na nc t) 95) H hF) ?_ ?_;rotate_left;first|exact z4 sg|exact z3 sg)|refine l2 6 ?_|refine l2 7 ?_|(refine l5 (z6s (x:=cb bm (mkc s p n na nc t) 95) H hF) ?_)|(refine' y30 zAy ?_ ?_;rotate_left;exact zA2 0 (by omega) _ (H.all hF) (zi hC hLt hN);intro w hcl;replace H:=H.ext hcl;clear hcl)|(refine' y32 zQT ?_ ?_;rotate_left;exact hcall _ _ (H.all hF) (zi hC hLt hN);intro v M w hR hS;replace H:=H.addR hS;clear hS;(try simp only[List.cons_append,List.nil_append] at H);obtain⟨a1,c1,rfl⟩:=hR)|refine yU ?_|(refine y23 ?_ ?_;all_goals(intro h;try (exfalso;first|((exact absurd h (by decide));done)|((cases d1.symm.trans h);done))))|fail)
   exact zU (M:=_) rfl H ⟨rfl,fun h=>absurd h (show(47:Int)≠0 by decide)⟩
  ·rw[if_neg hr]
   have d1:decide (((ofF s.rows (nF n 0)).length:Int)>0)=false:=decide_eq_false (by have:=mt hof.1 hr;omega)
   have hk:(nF n 0 - 1).toNat<s.accts.length:=by omega
   have hq:IntKind.i64.wrap (nF n 0 - 1)=(((nF n 0 - 1).toNat:Nat):Int):=by rw[w64 (by omega) (by omega)];omega
   obtain⟨g,cs,hA,rfl,hcap,hcm,hcl,hE⟩:=own_get hC.ac (by omega) (fun _ _=>rfl)
   have hsA:=hE.slb (F:=[cb g cs 74]) (T:=74) (zz2 _)
   rw[← hA] at hsA
   have hfit:=(hE _ hk).1
   have hs2F:=hs2.mono (List.subset_cons_self (cb bm (mkc s p n na nc t) 95) F)
   refine enter [.tmp 2] Tryz.func95 rfl Tryz.ntmps95 rfl rfl ?_
   repeat' (first|refine yT ?_|(refine z14 sg H ?_;intro b w H)|(refine' y30 zAz ?_ ?_;rotate_left;exact ha _ _ _ H.mem (zz2 _) _ (H.all hF) (zi hC hLt hN);intro w hcl;replace H:=H.ext hcl;clear hcl)|(refine CW.regionL mixed 10 (z6s (x:=cb bm (mkc s p n na nc t) 95) H hF) [] ?_ ?_;exact rfl;intro w hcl;replace H:=H.ext hcl;clear hcl)|((with_reducible apply RL.nil);decide +kernel)|(refine' l1 0 (z6s (x:=cb bm (mkc s p n na nc t) 95) H hF) ?_ ?_;rotate_left;first|exact z4 sg|exact z3 sg)|(refine' l1 1 (z6s (x:=cb bm (mkc s p n na nc t) 95) H hF) ?_ ?_;rotate_left;first|exact z4 sg|exact z3 sg)|(refine' l1 2 (z6s (x:=cb bm (mkc s p n na nc t) 95) H hF) ?_ ?_;rotate_left;first|exact z4 sg|exact z3 sg)|(refine' l1 3 (z6s (x:=cb bm (mkc s p n na nc t) 95) H hF) ?_ ?_;rotate_left;first|exact z4 sg|exact z3 sg)|(refine' l1 4 (z6s (x:=cb bm (mkc s p n na nc t) 95) H hF) ?_ ?_;rotate_left;first|exact z4 sg|exact z3 sg)|(refine' l1 5 (z6s (x:=cb bm (mkc s p n na nc t) 95) H hF) ?_ ?_;rotate_left;first|exact z4 sg|exact z3 sg)|(refine' l1 8 (z6s (x:=cb bm (mkc s p n na nc t) 95) H hF) ?_ ?_;rotate_left;first|exact z4 sg|exact z3 sg)|(refine' l1 9 (z6s (x:=cb bm (mkc s p n na nc t) 95) H hF) ?_ ?_;rotate_left;first|exact z4 sg|exact z3 sg)|refine l2 6 ?_|refine l2 7 ?_|(refine l5 (z6s (x:=cb bm (mkc s p n na nc t) 95) H hF) ?_)|(refine' y30 zAy ?_ ?_;rotate_left;exact zA2 0 (by omega) _ (H.all hF) (zi hC hLt hN);intro w hcl;replace H:=H.ext hcl;clear hcl)|(refine' y32 zQT ?_ ?_;rotate_left;exact hcall _ _ (H.all hF) (zi hC hLt hN);intro v M w hR hS;replace H:=H.addR hS;clear hS;(try simp only[List.cons_append,List.nil_append] at H);obtain⟨a1,c1,rfl⟩:=hR)|refine yU ?_|fail)
   refine CW.condF (congrArg Value.bool d1) ?_
   (try simp only[List.cons_append,List.nil_append] at H)
   repeat' (first|refine yT ?_|(refine CW.regionL mixed 15 (z6s (x:=cb bm (mkc s p n na nc t) 95) H hF) [12,13,14] ?_ ?_;exact rfl;intro w hcl;replace H:=H.ext hcl;clear hcl)|((with_reducible apply RL.nil);decide +kernel)|(refine' l1 0 (z6s (x:=cb bm (mkc s p n na nc t) 95) H hF) ?_ ?_;rotate_left;first|exact z4 sg|exact z3 sg|exact(fun w2 _=>zF sg hs2 rfl rfl rfl rfl rfl rfl rfl (by first|with_reducible exact zz1 _|exact zD (by omega) (by omega)|with_reducible exact zI|exact zC _) (by omega) (by omega))|exact(fun w2 hM2=>Yq.loadB1 sg hs2F hM2 rfl rfl rfl rfl (show 0<n.length by omega) rfl)|exact(fun w2 _=>zF sg hsA rfl rfl rfl rfl rfl rfl rfl ((congrArg Int.toNat hq).trans (zz1 _)) (by rw[hq];omega) (by rw[hq];omega)))|(refine' l1 1 (z6s (x:=cb bm (mkc s p n na nc t) 95) H hF) ?_ ?_;rotate_left;first|exact z4 sg|exact z3 sg|exact(fun w2 _=>zF sg hs2 rfl rfl rfl rfl rfl rfl rfl (by first|with_reducible exact zz1 _|exact zD (by omega) (by omega)|with_reducible exact zI|exact zC _) (by omega) (by omega))|exact(fun w2 hM2=>Yq.loadB1 sg hs2F hM2 rfl rfl rfl rfl (show 0<n.length by omega) rfl)|exact(fun w2 _=>zF sg hsA rfl rfl rfl rfl rfl rfl rfl ((congrArg Int.toNat hq).trans (zz1 _)) (by rw[hq];omega) (by rw[hq];omega)))|(refine' l1 2 (z6s (x:=cb bm (mkc s p n na nc t) 95) H hF) ?_ ?_;rotate_left;first|exact z4 sg|exact z3 sg|exact(fun w2 _=>zF sg hs2 rfl rfl rfl rfl rfl rfl rfl (by first|with_reducible exact zz1 _|exact zD (by omega) (by omega)|with_reducible exact zI|exact zC _) (by omega) (by omega))|exact(fun w2 hM2=>Yq.loadB1 sg hs2F hM2 rfl rfl rfl rfl (show 0<n.length by omega) rfl)|exact(fun w2 _=>zF sg hsA rfl rfl rfl rfl rfl rfl rfl ((congrArg Int.toNat hq).trans (zz1 _)) (by rw[hq];omega) (by rw[hq];omega)))|(refine' l1 3 (z6s (x:=cb bm (mkc s p n na nc t) 95) H hF) ?_ ?_;rotate_left;first|exact z4 sg|exact z3 sg|exact(fun w2 _=>zF sg hs2 rfl rfl rfl rfl rfl rfl rfl (by first|with_reducible exact zz1 _|exact zD (by omega) (by omega)|with_reducible exact zI|exact zC _) (by omega) (by omega))|exact(fun w2 hM2=>Yq.loadB1 sg hs2F hM2 rfl rfl rfl rfl (show 0<n.length by omega) rfl)|exact(fun w2 _=>zF sg hsA rfl rfl rfl rfl rfl rfl rfl ((congrArg Int.toNat hq).trans (zz1 _)) (by rw[hq];omega) (by rw[hq];omega)))|(refine' l1 4 (z6s (x:=cb bm (mkc s p n na nc t) 95) H hF) ?_ ?_;rotate_left;first|exact z4 sg|exact z3 sg|exact(fun w2 _=>zF sg hs2 rfl rfl rfl rfl rfl rfl rfl (by first|with_reducible exact zz1 _|exact zD (by omega) (by omega)|with_reducible exact zI|exact zC _) (by omega) (by omega))|exact(fun w2 hM2=>Yq.loadB1 sg hs2F hM2 rfl rfl rfl rfl (show 0<n.length by omega) rfl)|exact(fun w2 _=>zF sg hsA rfl rfl rfl rfl rfl rfl rfl ((congrArg Int.toNat hq).trans (zz1 _)) (by rw[hq];omega) (by rw[hq];omega)))|(refine' l1 5 (z6s (x:=cb bm (mkc s p n na nc t) 95) H hF) ?_ ?_;rotate_left;first|exact z4 sg|exact z3 sg|exact(fun w2 _=>zF sg hs2 rfl rfl rfl rfl rfl rfl rfl (by first|with_reducible exact zz1 _|exact zD (by omega) (by omega)|with_reducible exact zI|exact zC _) (by omega) (by omega))|exact(fun w2 hM2=>Yq.loadB1 sg hs2F hM2 rfl rfl rfl rfl (show 0<n.length by omega) rfl)|exact(fun w2 _=>zF sg hsA rfl rfl rfl rfl rfl rfl rfl ((congrArg Int.toNat hq).trans (zz1 _)) (by rw[hq];omega) (by rw[hq];omega)))|(refine' l1 6 (z6s (x:=cb bm (mkc s p n na nc t) 95) H hF) ?_ ?_;rotate_left;first|exact z4 sg|exact z3 sg|exact(fun w2 _=>zF sg hs2 rfl rfl rfl rfl rfl rfl rfl (by first|with_reducible exact zz1 _|exact zD (by omega) (by omega)|with_reducible exact zI|exact zC _) (by omega) (by omega))|exact(fun w2 hM2=>Yq.loadB1 sg hs2F hM2 rfl rfl rfl rfl (show 0<n.length by omega) rfl)|exact(fun w2 _=>zF sg hsA rfl rfl rfl rfl rfl rfl rfl ((congrArg Int.toNat hq).trans (zz1 _)) (by rw[hq];omega) (by rw[hq];omega)))|(refine' l1 7 (z6s (x:=cb bm (mkc s p n na nc t) 95) H hF) ?_ ?_;rotate_left;first|exact z4 sg|exact z3 sg|exact(fun w2 _=>zF sg hs2 rfl rfl rfl rfl rfl rfl rfl (by first|with_reducible exact zz1 _|exact zD (by omega) (by omega)|with_reducible exact zI|exact zC _) (by omega) (by omega))|exact(fun w2 hM2=>Yq.loadB1 sg hs2F hM2 rfl rfl rfl rfl (show 0<n.length by omega) rfl)|exact(fun w2 _=>zF sg hsA rfl rfl rfl rfl rfl rfl rfl ((congrArg Int.toNat hq).trans (zz1 _)) (by rw[hq];omega) (by rw[hq];omega)))|(refine' l1 8 (z6s (x:=cb bm (mkc s p n na nc t) 95) H hF) ?_ ?_;rotate_left;first|exact z4 sg|exact z3 sg|exact(fun w2 _=>zF sg hs2 rfl rfl rfl rfl rfl rfl rfl (by first|with_reducible exact zz1 _|exact zD (by omega) (by omega)|with_reducible exact zI|exact zC _) (by omega) (by omega))|exact(fun w2 hM2=>Yq.loadB1 sg hs2F hM2 rfl rfl rfl rfl (show 0<n.length by omega) rfl)|exact(fun w2 _=>zF sg hsA rfl rfl rfl rfl rfl rfl rfl ((congrArg Int.toNat hq).trans (zz1 _)) (by rw[hq];omega) (by rw[hq];omega)))|(refine' l1 9 (z6s (x:=cb bm (mkc s p n na nc t) 95) H hF) ?_ ?_;rotate_left;first|exact z4 sg|exact z3 sg|exact(fun w2 _=>zF sg hs2 rfl rfl rfl rfl rfl rfl rfl (by first|with_reducible exact zz1 _|exact zD (by omega) (by omega)|with_reducible exact zI|exact zC _) (by omega) (by omega))|exact(fun w2 hM2=>Yq.loadB1 sg hs2F hM2 rfl rfl rfl rfl (show 0<n.length by omega) rfl)|exact(fun w2 _=>zF sg hsA rfl rfl rfl rfl rfl rfl rfl ((congrArg Int.toNat hq).trans (zz1 _)) (by rw[hq];omega) (by rw[hq];omega)))|(refine' l1 10 (z6s (x:=cb bm (mkc s p n na nc t) 95) H hF) ?_ ?_;rotate_left;first|exact z4 sg|exact z3 sg|exact(fun w2 _=>zF sg hs2 rfl rfl rfl rfl rfl rfl rfl (by first|with_reducible exact zz1 _|exact zD (by omega) (by omega)|with_reducible exact zI|exact zC _) (by omega) (by omega))|exact(fun w2 hM2=>Yq.loadB1 sg hs2F hM2 rfl rfl rfl rfl (show 0<n.length by omega) rfl)|exact(fun w2 _=>zF sg hsA rfl rfl rfl rfl rfl rfl rfl ((congrArg Int.toNat hq).trans (zz1 _)) (by rw[hq];omega) (by rw[hq];omega)))|(refine' l1 11 (z6s (x:=cb bm (mkc s p n na nc t) 95) H hF) ?_ ?_;rotate_left;first|exact z4 sg|exact z3 sg|exact(fun w2 _=>zF sg hs2 rfl rfl rfl rfl rfl rfl rfl (by first|with_reducible exact zz1 _|exact zD (by omega) (by omega)|with_reducible exact zI|exact zC _) (by omega) (by omega))|exact(fun w2 hM2=>Yq.loadB1 sg hs2F hM2 rfl rfl rfl rfl (show 0<n.length by omega) rfl)|exact(fun w2 _=>zF sg hsA rfl rfl rfl rfl rfl rfl rfl ((congrArg Int.toNat hq).trans (zz1 _)) (by rw[hq];omega) (by rw[hq];omega)))|(refine' l6 12 ?_ ?_;rotate_left;first|exact z9 sg|exact(fun w2=>zF sg hs2 rfl rfl rfl rfl rfl rfl rfl (by first|with_reducible exact zz1 _|exact zD (by omega) (by omega)|with_reducible exact zI|exact zC _) (by omega) (by omega))|exact(fun w2=>zF sg hsA rfl rfl rfl rfl rfl rfl rfl ((congrArg Int.toNat hq).trans (zz1 _)) (by rw[hq];omega) (by rw[hq];omega)))|(refine' l6 13 ?_ ?_;rotate_left;first|exact z9 sg|exact(fun w2=>zF sg hs2 rfl rfl rfl rfl rfl rfl rfl (by first|with_reducible exact zz1 _|exact zD (by omega) (by omega)|with_reducible exact zI|exact zC _) (by omega) (by omega))|exact(fun w2=>zF sg hsA rfl rfl rfl rfl rfl rfl rfl ((congrArg Int.toNat hq).trans (zz1 _)) (by rw[hq];omega) (by rw[hq];omega)))|refine l3 14 ?_|(refine OX.storeX sg (v:=.bool false) (vs:=[.bool false]) H rfl rfl rfl rfl rfl rfl rfl (Up.there (Up.there Up.here)) (by simp only[List.length_singleton];omega) (zAh rfl) ?_;clear H;intro w H)|refine yU ?_|fail)
   have O2:=zSJ (g:=g) (x:=⟨(ac_ s.accts (nF n 0 - 1).toNat).name,false⟩) (vs:=[.bool false]) (f:=1) hk hE (Nat.le_refl 2) rfl hcap hcm hcl
   rw[← hA] at O2
   replace H:=H.sub (zz7 _ _)
   simp only[List.append_assoc,Nat.zero_add] at H
   obtain⟨M9,H9,hR9⟩:=zOE (l':=s.accts.set (nF n 0 - 1).toNat ⟨(ac_ s.accts (nF n 0 - 1).toNat).name,false⟩) H O2 List.length_set hC (List.subset_append_left _ _)
   exact zU (M:=M9) rfl H9 hR9
 ·have ho2:zt s (nF n 0)=false:=by simpa using ho
  rw[if_neg ho] at ha ⊢
  refine enter [.tmp 2] Tryz.func95 rfl Tryz.ntmps95 rfl rfl ?_
  repeat' (first|refine yT ?_|(refine z14 sg H ?_;intro b w H)|(refine' y30 zAz ?_ ?_;rotate_left;exact ha _ _ _ H.mem (zz2 _) _ (H.all hF) (zi hC hLt hN);intro w hcl;replace H:=H.ext hcl;clear hcl)|refine yU ?_|fail)
  exact zU (M:=_) rfl H ⟨rfl,fun h=>absurd h (show(5:Int)≠0 by decide)⟩
end
end
section
open Go Go.Sk Go.RowKit
attribute [local irreducible] Go.Calls
theorem zOG {α:Type}(l:List α)(q:α→Bool)(d:α):decide (idx (fun j=>q (l.getD j d)) l.length ≥ 0)=l.any q:=by
 rcases zY (fun j=>q (l.getD j d)) l.length with ⟨k,hk,_,hpk,hix⟩|⟨hall,hix⟩
 ·rw[hix,decide_eq_true (by omega)]
  symm
  exact List.any_eq_true.2 ⟨_,zAK d hk,hpk⟩
 ·rw[hix,decide_eq_false (by omega)]
  symm
  rw[List.any_eq_false]
  intro x hx
  obtain⟨k,hk,rfl⟩:=zBO (d:=d) hx
  have:q (l.getD k d)=false:=hall k hk
  rw[this];decide
section
variable {F:zH}{bm:Nat}{s:Sta}{p:SPt}{n:List Int}{na:Option Addr}{nc:Nat}{t:ByteArray}{Ma Mi Mu R:zH}
theorem zPg {w0 w:World}(hLt:LtS s)(hl:1≤n.length)(hb0:nF n 0≤1000)(H:St w0 (mkL bm (mkc s p n na nc t) Ma Mi Mu R) w)(hC:Cps s p Ma Mi Mu R)(hF:Mem w0 F)(hN:Ints F na nc n) :
  Calls Tryz.prog 115 [.pointer (some ⟨bm,0,none⟩)].toArray w (zn (zB3 bm n na nc t (zCl s n t)) w0):=by
 obtain⟨hn2,hc2,b2,off2,cs2,T2,fr2,hs2⟩:=id hN
 have ha:=fun w (b:Nat) (X:zH) (hX:Mem w X) (hm:cb b [Value.int .i64 (0:Int)] 3∈X) (G:zH) (hG:Mem w G) (hM:Mkt G bm s p n na nc t)=>zCp (T:=3) 0 (by omega) w hX hm hG hM
 have hnm:=fun w (G:zH) (hG:Mem w G) (hM:Mkt G bm s p n na nc t)=>zNs s p t w hG hM.sta
 unfold zCl
 by_cases ho:zt s (nF n 0)=true
 ·rw[if_pos ho] at ha ⊢
  have hoi:=zBi.1 ho
  have h2:=(zI4 s.accts t).1
  by_cases h1:zA7 s.accts t ≥ 0
  ·have d1:(zA7 s.accts t+1 != 0)=true:=by simp;omega
   rw[if_pos h1]
   refine enter [.tmp 2] Tryz.func115 rfl Tryz.ntmps115 rfl rfl ?_
   repeat' (first|refine yT ?_|refine y8 sg H ?_|(refine z14 sg H ?_;intro b w H)|(refine' y30 zAz ?_ ?_;rotate_left;exact ha _ _ _ H.mem (zz2 _) _ (H.all hF) (zi hC hLt hN);intro w hcl;replace H:=H.ext hcl;clear hcl)|(refine' y31 zJa ?_ ?_;rotate_left;exact(fun _ hcl=>hnm _ _ ((H.ext hcl).all hF) (zi hC hLt hN)))|refine yU ?_|(with_reducible apply zL;intro w hcl;replace H:=H.ext hcl;clear hcl)|refine y20 mixed ?_|(refine y23 ?_ ?_;all_goals(intro h;try (exfalso;first|((exact absurd h (by decide));done)|((cases d1.symm.trans h);done))))|fail)
   exact zU (M:=_) rfl H ⟨rfl,fun h=>absurd h (show(6:Int)≠0 by decide)⟩
  ·have d1:(zA7 s.accts t+1 != 0)=false:=by simp;omega
   rw[if_neg h1]
   have hk:(nF n 0 - 1).toNat<s.accts.length:=by omega
   have hq:IntKind.i64.wrap (nF n 0 - 1)=(((nF n 0 - 1).toNat:Nat):Int):=by rw[w64 (by omega) (by omega)];omega
   obtain⟨g,cs,hA,rfl,hcap,hcm,hcl,hE⟩:=own_get hC.ac (by omega) (fun _ _=>rfl)
   have hsA:=hE.slb (F:=[cb g cs 74]) (T:=74) (zz2 _)
   rw[← hA] at hsA
   have hfit:=(hE _ hk).1
   have hs2F:=hs2.mono (List.subset_cons_self (cb bm (mkc s p n na nc t) 95) F)
   refine enter [.tmp 2] Tryz.func115 rfl Tryz.ntmps115 rfl rfl ?_
   repeat' (first|refine yT ?_|refine y8 sg H ?_|(refine z14 sg H ?_;intro b w H)|(refine' y30 zAz ?_ ?_;rotate_left;exact ha _ _ _ H.mem (zz2 _) _ (H.all hF) (zi hC hLt hN);intro w hcl;replace H:=H.ext hcl;clear hcl)|(refine' y31 zJa ?_ ?_;rotate_left;exact(fun _ hcl=>hnm _ _ ((H.ext hcl).all hF) (zi hC hLt hN)))|refine yU ?_|(with_reducible apply zL;intro w hcl;replace H:=H.ext hcl;clear hcl)|refine y20 mixed ?_|fail)
   refine CW.condF (congrArg Value.bool d1) ?_
   repeat' (first|refine yT ?_|(refine CW.regionL mixed 19 (z6s (x:=cb bm (mkc s p n na nc t) 95) H hF) [16,17,18] ?_ ?_;exact rfl;intro w hcl;replace H:=H.ext hcl;clear hcl)|((with_reducible apply RL.nil);decide +kernel)|(refine' l1 0 (z6s (x:=cb bm (mkc s p n na nc t) 95) H hF) ?_ ?_;rotate_left;first|exact z4 sg|exact z3 sg|exact(fun w2 _=>zF sg hs2 rfl rfl rfl rfl rfl rfl rfl (by first|with_reducible exact zz1 _|exact zD (by omega) (by omega)|with_reducible exact zI|exact zC _) (by omega) (by omega))|exact(fun w2 hM2=>Yq.loadB1 sg hs2F hM2 rfl rfl rfl rfl (show 0<n.length by omega) rfl)|exact(fun w2 _=>zF sg hsA rfl rfl rfl rfl rfl rfl rfl ((congrArg Int.toNat hq).trans (zz1 _)) (by rw[hq];omega) (by rw[hq];omega)))|(refine' l1 1 (z6s (x:=cb bm (mkc s p n na nc t) 95) H hF) ?_ ?_;rotate_left;first|exact z4 sg|exact z3 sg|exact(fun w2 _=>zF sg hs2 rfl rfl rfl rfl rfl rfl rfl (by first|with_reducible exact zz1 _|exact zD (by omega) (by omega)|with_reducible exact zI|exact zC _) (by omega) (by omega))|exact(fun w2 hM2=>Yq.loadB1 sg hs2F hM2 rfl rfl rfl rfl (show 0<n.length by omega) rfl)|exact(fun w2 _=>zF sg hsA rfl rfl rfl rfl rfl rfl rfl ((congrArg Int.toNat hq).trans (zz1 _)) (by rw[hq];omega) (by rw[hq];omega)))|(refine' l1 2 (z6s (x:=cb bm (mkc s p n na nc t) 95) H hF) ?_ ?_;rotate_left;first|exact z4 sg|exact z3 sg|exact(fun w2 _=>zF sg hs2 rfl rfl rfl rfl rfl rfl rfl (by first|with_reducible exact zz1 _|exact zD (by omega) (by omega)|with_reducible exact zI|exact zC _) (by omega) (by omega))|exact(fun w2 hM2=>Yq.loadB1 sg hs2F hM2 rfl rfl rfl rfl (show 0<n.length by omega) rfl)|exact(fun w2 _=>zF sg hsA rfl rfl rfl rfl rfl rfl rfl ((congrArg Int.toNat hq).trans (zz1 _)) (by rw[hq];omega) (by rw[hq];omega)))|(refine' l1 3 (z6s (x:=cb bm (mkc s p n na nc t) 95) H hF) ?_ ?_;rotate_left;first|exact z4 sg|exact z3 sg|exact(fun w2 _=>zF sg hs2 rfl rfl rfl rfl rfl rfl rfl (by first|with_reducible exact zz1 _|exact zD (by omega) (by omega)|with_reducible exact zI|exact zC _) (by omega) (by omega))|exact(fun w2 hM2=>Yq.loadB1 sg hs2F hM2 rfl rfl rfl rfl (show 0<n.length by omega) rfl)|exact(fun w2 _=>zF sg hsA rfl rfl rfl rfl rfl rfl rfl ((congrArg Int.toNat hq).trans (zz1 _)) (by rw[hq];omega) (by rw[hq];omega)))|(refine' l1 4 (z6s (x:=cb bm (mkc s p n na nc t) 95) H hF) ?_ ?_;rotate_left;first|exact z4 sg|exact z3 sg|exact(fun w2 _=>zF sg hs2 rfl rfl rfl rfl rfl rfl rfl (by first|with_reducible exact zz1 _|exact zD (by omega) (by omega)|with_reducible exact zI|exact zC _) (by omega) (by omega))|exact(fun w2 hM2=>Yq.loadB1 sg hs2F hM2 rfl rfl rfl rfl (show 0<n.length by omega) rfl)|exact(fun w2 _=>zF sg hsA rfl rfl rfl rfl rfl rfl rfl ((congrArg Int.toNat hq).trans (zz1 _)) (by rw[hq];omega) (by rw[hq];omega)))|(refine' l1 5 (z6s (x:=cb bm (mkc s p n na nc t) 95) H hF) ?_ ?_;rotate_left;first|exact z4 sg|exact z3 sg|exact(fun w2 _=>zF sg hs2 rfl rfl rfl rfl rfl rfl rfl (by first|with_reducible exact zz1 _|exact zD (by omega) (by omega)|with_reducible exact zI|exact zC _) (by omega) (by omega))|exact(fun w2 hM2=>Yq.loadB1 sg hs2F hM2 rfl rfl rfl rfl (show 0<n.length by omega) rfl)|exact(fun w2 _=>zF sg hsA rfl rfl rfl rfl rfl rfl rfl ((congrArg Int.toNat hq).trans (zz1 _)) (by rw[hq];omega) (by rw[hq];omega)))|(refine' l1 6 (z6s (x:=cb bm (mkc s p n na nc t) 95) H hF) ?_ ?_;rotate_left;first|exact z4 sg|exact z3 sg|exact(fun w2 _=>zF sg hs2 rfl rfl rfl rfl rfl rfl rfl (by first|with_reducible exact zz1 _|exact zD (by omega) (by omega)|with_reducible exact zI|exact zC _) (by omega) (by omega))|exact(fun w2 hM2=>Yq.loadB1 sg hs2F hM2 rfl rfl rfl rfl (show 0<n.length by omega) rfl)|exact(fun w2 _=>zF sg hsA rfl rfl rfl rfl rfl rfl rfl ((congrArg Int.toNat hq).trans (zz1 _)) (by rw[hq];omega) (by rw[hq];omega)))|(refine' l1 7 (z6s (x:=cb bm (mkc s p n na nc t) 95) H hF) ?_ ?_;rotate_left;first|exact z4 sg|exact z3 sg|exact(fun w2 _=>zF sg hs2 rfl rfl rfl rfl rfl rfl rfl (by first|with_reducible exact zz1 _|exact zD (by omega) (by omega)|with_reducible exact zI|exact zC _) (by omega) (by omega))|exact(fun w2 hM2=>Yq.loadB1 sg hs2F hM2 rfl rfl rfl rfl (show 0<n.length by omega) rfl)|exact(fun w2 _=>zF sg hsA rfl rfl rfl rfl rfl rfl rfl ((congrArg Int.toNat hq).trans (zz1 _)) (by rw[hq];omega) (by rw[hq];omega)))|(refine' l1 8 (z6s (x:=cb bm (mkc s p n na nc t) 95) H hF) ?_ ?_;rotate_left;first|exact z4 sg|exact z3 sg|exact(fun w2 _=>zF sg hs2 rfl rfl rfl rfl rfl rfl rfl (by first|with_reducible exact zz1 _|exact zD (by omega) (by omega)|with_reducible exact zI|exact zC _) (by omega) (by omega))|exact(fun w2 hM2=>Yq.loadB1 sg hs2F hM2 rfl rfl rfl rfl (show 0<n.length by omega) rfl)|exact(fun w2 _=>zF sg hsA rfl rfl rfl rfl rfl rfl rfl ((congrArg Int.toNat hq).trans (zz1 _)) (by rw[hq];omega) (by rw[hq];omega)))|(refine' l1 9 (z6s (x:=cb bm (mkc s p n na nc t) 95) H hF) ?_ ?_;rotate_left;first|exact z4 sg|exact z3 sg|exact(fun w2 _=>zF sg hs2 rfl rfl rfl rfl rfl rfl rfl (by first|with_reducible exact zz1 _|exact zD (by omega) (by omega)|with_reducible exact zI|exact zC _) (by omega) (by omega))|exact(fun w2 hM2=>Yq.loadB1 sg hs2F hM2 rfl rfl rfl rfl (show 0<n.length by omega) rfl)|exact(fun w2 _=>zF sg hsA rfl rfl rfl rfl rfl rfl rfl ((congrArg Int.toNat hq).trans (zz1 _)) (by rw[hq];omega) (by rw[hq];omega)))|(refine' l1 10 (z6s (x:=cb bm (mkc s p n na nc t) 95) H hF) ?_ ?_;rotate_left;first|exact z4 sg|exact z3 sg|exact(fun w2 _=>zF sg hs2 rfl rfl rfl rfl rfl rfl rfl (by first|with_reducible exact zz1 _|exact zD (by omega) (by omega)|with_reducible exact zI|exact zC _) (by omega) (by omega))|exact(fun w2 hM2=>Yq.loadB1 sg hs2F hM2 rfl rfl rfl rfl (show 0<n.length by omega) rfl)|exact(fun w2 _=>zF sg hsA rfl rfl rfl rfl rfl rfl rfl ((congrArg Int.toNat hq).trans (zz1 _)) (by rw[hq];omega) (by rw[hq];omega)))|(refine' l1 11 (z6s (x:=cb bm (mkc s p n na nc t) 95) H hF) ?_ ?_;rotate_left;first|exact z4 sg|exact z3 sg|exact(fun w2 _=>zF sg hs2 rfl rfl rfl rfl rfl rfl rfl (by first|with_reducible exact zz1 _|exact zD (by omega) (by omega)|with_reducible exact zI|exact zC _) (by omega) (by omega))|exact(fun w2 hM2=>Yq.loadB1 sg hs2F hM2 rfl rfl rfl rfl (show 0<n.length by omega) rfl)|exact(fun w2 _=>zF sg hsA rfl rfl rfl rfl rfl rfl rfl ((congrArg Int.toNat hq).trans (zz1 _)) (by rw[hq];omega) (by rw[hq];omega)))|(refine' l1 12 (z6s (x:=cb bm (mkc s p n na nc t) 95) H hF) ?_ ?_;rotate_left;first|exact z4 sg|exact z3 sg|exact(fun w2 _=>zF sg hs2 rfl rfl rfl rfl rfl rfl rfl (by first|with_reducible exact zz1 _|exact zD (by omega) (by omega)|with_reducible exact zI|exact zC _) (by omega) (by omega))|exact(fun w2 hM2=>Yq.loadB1 sg hs2F hM2 rfl rfl rfl rfl (show 0<n.length by omega) rfl)|exact(fun w2 _=>zF sg hsA rfl rfl rfl rfl rfl rfl rfl ((congrArg Int.toNat hq).trans (zz1 _)) (by rw[hq];omega) (by rw[hq];omega)))|(refine' l1 13 (z6s (x:=cb bm (mkc s p n na nc t) 95) H hF) ?_ ?_;rotate_left;first|exact z4 sg|exact z3 sg|exact(fun w2 _=>zF sg hs2 rfl rfl rfl rfl rfl rfl rfl (by first|with_reducible exact zz1 _|exact zD (by omega) (by omega)|with_reducible exact zI|exact zC _) (by omega) (by omega))|exact(fun w2 hM2=>Yq.loadB1 sg hs2F hM2 rfl rfl rfl rfl (show 0<n.length by omega) rfl)|exact(fun w2 _=>zF sg hsA rfl rfl rfl rfl rfl rfl rfl ((congrArg Int.toNat hq).trans (zz1 _)) (by rw[hq];omega) (by rw[hq];omega)))|(refine' l1 14 (z6s (x:=cb bm (mkc s p n na nc t) 95) H hF) ?_ ?_;rotate_left;first|exact z4 sg|exact z3 sg|exact(fun w2 _=>zF sg hs2 rfl rfl rfl rfl rfl rfl rfl (by first|with_reducible exact zz1 _|exact zD (by omega) (by omega)|with_reducible exact zI|exact zC _) (by omega) (by omega))|exact(fun w2 hM2=>Yq.loadB1 sg hs2F hM2 rfl rfl rfl rfl (show 0<n.length by omega) rfl)|exact(fun w2 _=>zF sg hsA rfl rfl rfl rfl rfl rfl rfl ((congrArg Int.toNat hq).trans (zz1 _)) (by rw[hq];omega) (by rw[hq];omega)))|(refine' l1 15 (z6s (x:=cb bm (mkc s p n na nc t) 95) H hF) ?_ ?_;rotate_left;first|exact z4 sg|exact z3 sg|exact(fun w2 _=>zF sg hs2 rfl rfl rfl rfl rfl rfl rfl (by first|with_reducible exact zz1 _|exact zD (by omega) (by omega)|with_reducible exact zI|exact zC _) (by omega) (by omega))|exact(fun w2 hM2=>Yq.loadB1 sg hs2F hM2 rfl rfl rfl rfl (show 0<n.length by omega) rfl)|exact(fun w2 _=>zF sg hsA rfl rfl rfl rfl rfl rfl rfl ((congrArg Int.toNat hq).trans (zz1 _)) (by rw[hq];omega) (by rw[hq];omega)))|(refine' l6 16 ?_ ?_;rotate_left;first|exact z9 sg|exact(fun w2=>zF sg hs2 rfl rfl rfl rfl rfl rfl rfl (by first|with_reducible exact zz1 _|exact zD (by omega) (by omega)|with_reducible exact zI|exact zC _) (by omega) (by omega))|exact(fun w2=>zF sg hsA rfl rfl rfl rfl rfl rfl rfl ((congrArg Int.toNat hq).trans (zz1 _)) (by rw[hq];omega) (by rw[hq];omega)))|(refine' l6 17 ?_ ?_;rotate_left;first|exact z9 sg|exact(fun w2=>zF sg hs2 rfl rfl rfl rfl rfl rfl rfl (by first|with_reducible exact zz1 _|exact zD (by omega) (by omega)|with_reducible exact zI|exact zC _) (by omega) (by omega))|exact(fun w2=>zF sg hsA rfl rfl rfl rfl rfl rfl rfl ((congrArg Int.toNat hq).trans (zz1 _)) (by rw[hq];omega) (by rw[hq];omega)))|refine l3 18 ?_|(refine OX.storeX sg (v:=.string t) (vs:=[.string t]) H rfl rfl rfl rfl rfl rfl rfl (Up.there (Up.there Up.here)) (by simp only[List.length_singleton];omega) (zAh rfl) ?_;clear H;intro w H)|refine yU ?_|fail)
   have O2:=zSJ (g:=g) (x:=⟨t,(ac_ s.accts (nF n 0 - 1).toNat).opn⟩) (vs:=[.string t]) (f:=0) hk hE (Nat.le_succ 1) rfl hcap hcm hcl
   rw[← hA] at O2
   replace H:=H.sub (zz7 _ _)
   simp only[Nat.zero_add,Nat.add_zero] at H O2
   obtain⟨M9,H9,hR9⟩:=zOE (l':=s.accts.set (nF n 0 - 1).toNat ⟨t,(ac_ s.accts (nF n 0 - 1).toNat).opn⟩) H O2 List.length_set hC (List.Subset.refl _)
   exact zU (M:=M9) rfl H9 hR9
 ·rw[if_neg ho] at ha ⊢
  refine enter [.tmp 2] Tryz.func115 rfl Tryz.ntmps115 rfl rfl ?_
  repeat' (first|refine yT ?_|(refine z14 sg H ?_;intro b w H)|(refine' y30 zAz ?_ ?_;rotate_left;exact ha _ _ _ H.mem (zz2 _) _ (H.all hF) (zi hC hLt hN);intro w hcl;replace H:=H.ext hcl;clear hcl)|refine yU ?_|fail)
  exact zU (M:=_) rfl H ⟨rfl,fun h=>absurd h (show(5:Int)≠0 by decide)⟩
theorem zSM {w0 w:World}(is:Bool)(hl:1≤n.length)(hb0:1≤nF n 0∧nF n 0≤1000)(hLt:LtS s)(H:St w0 (mkL bm (mkc s p n na nc t) Ma Mi Mu R) w)(hC:Cps s p Ma Mi Mu R)(hF:Mem w0 F)(hN:Ints F na nc n) :
  Calls Tryz.prog 142 [.pointer (some ⟨bm,0,none⟩),.bool is].toArray w (zn (zB3 bm n na nc t (zDG s n is)) w0):=by
 have hin:=fun w (G:zH) (hG:Mem w G) (hM:Mkt G bm s p n na nc t)=>zKP 0 (by omega) hb0 w hG hM
 unfold zDG
 by_cases hh:zAq s (nF n 0)=true
 ·rw[if_pos hh]
  have hle:=zAT.1 hh
  have hk:(nF n 0 - 1).toNat<s.insts.length:=by omega
  obtain⟨g,cs,hA,rfl,hcap,hcm,hcl,hE⟩:=own_get hC.ins (by omega) (fun _ _=>rfl)
  have e:zCO s p (nF n 0)=some ⟨g,0+(nF n 0 - 1).toNat*3,none⟩:=by unfold zCO;rw[if_pos hh,hA,Option.map_some,zz]
  rw[e] at hin
  have hfit:=(hE _ hk).1
  have hsI:=hE.slb (F:=[cb g cs 76]) (T:=76) (zz2 _)
  by_cases hx:(in_ s.insts (nF n 0 - 1).toNat).halted=is
  ·have d1:((in_ s.insts (nF n 0 - 1).toNat).halted==is)=true:=by rw[hx];exact beq_self_eq_true _
   rw[if_pos hx]
   refine enter [.tmp 4] Tryz.func142 rfl Tryz.ntmps142 rfl rfl ?_
   repeat' (first|refine yT ?_|(refine' y30 zC8 ?_ ?_;rotate_left;exact hin _ _ (H.all hF) (zi hC hLt hN);intro w hcl;replace H:=H.ext hcl;clear hcl)|refine yU ?_|fail)
   replace H:=H.perm zGV
   repeat' (first|refine yT ?_|(refine y44 sg (hsI) ((z7 H)) ?_ ?_;(omega))|refine yU ?_|with_reducible apply zA|(refine y23 ?_ ?_;all_goals(intro h;try (exfalso;first|((exact absurd h (by decide));done)|((cases d1.symm.trans h);done))))|fail)
   exact zU (M:=_) rfl H ⟨rfl,fun h=>absurd h (show(46:Int)≠0 by decide)⟩
  ·have d1:((in_ s.insts (nF n 0 - 1).toNat).halted==is)=false:=by simpa using hx
   rw[if_neg hx]
   refine enter [.tmp 4] Tryz.func142 rfl Tryz.ntmps142 rfl rfl ?_
   repeat' (first|refine yT ?_|(refine' y30 zC8 ?_ ?_;rotate_left;exact hin _ _ (H.all hF) (zi hC hLt hN);intro w hcl;replace H:=H.ext hcl;clear hcl)|refine yU ?_|fail)
   replace H:=H.perm zGV
   repeat' (first|refine yT ?_|(refine y44 sg (hsI) ((z7 H)) ?_ ?_;(omega))|(refine OX.storeX sg (v:=.bool is) (vs:=[.bool is]) H rfl rfl rfl rfl rfl rfl rfl Up.here (by simp only[List.length_singleton];omega) (zAh rfl) ?_;clear H;intro w H)|refine yU ?_|with_reducible apply zA|(refine y23 ?_ ?_;all_goals(intro h;try (exfalso;first|((exact absurd h (by decide));done)|((cases d1.symm.trans h);done))))|fail)
   have O2:=zSK (g:=g) (x:=⟨(in_ s.insts (nF n 0 - 1).toNat).name,(in_ s.insts (nF n 0 - 1).toNat).tick,is⟩) (vs:=[.bool is]) (f:=2) hk hE (Nat.le_refl 3) rfl hcap hcm hcl
   rw[← hA] at O2
   simp only[Nat.zero_add] at H
   replace H:=H.perm zGV.symm
   obtain⟨M9,H9,hR9⟩:=zOF H O2 List.length_set hC (List.Subset.refl _)
   exact zU (M:=M9) rfl H9 hR9
 ·have e:zCO s p (nF n 0)=none:=by unfold zCO;rw[if_neg hh]
  rw[e] at hin
  rw[if_neg hh]
  refine enter [.tmp 4] Tryz.func142 rfl Tryz.ntmps142 rfl rfl ?_
  repeat' (first|refine yT ?_|(refine' y30 zC8 ?_ ?_;rotate_left;exact hin _ _ (H.all hF) (zi hC hLt hN);intro w hcl;replace H:=H.ext hcl;clear hcl)|refine yU ?_|with_reducible apply zA|fail)
  exact zU (M:=_) rfl H ⟨rfl,fun h=>absurd h (show(5:Int)≠0 by decide)⟩
theorem zSN {w0 w:World}(hl:1≤n.length)(hb0:1≤nF n 0∧nF n 0≤1000)(hLt:LtS s)(H:St w0 (mkL bm (mkc s p n na nc t) Ma Mi Mu R) w)(hC:Cps s p Ma Mi Mu R)(hF:Mem w0 F)(hN:Ints F na nc n) :
  Calls Tryz.prog 97 [.pointer (some ⟨bm,0,none⟩)].toArray w (zn (zB3 bm n na nc t (zDG s n true)) w0):=by
 refine enter [.tmp 2] Tryz.func97 rfl Tryz.ntmps97 rfl rfl ?_
 repeat' (first|refine yT ?_|(refine zc rfl rfl (En.fn zQV rfl rfl) (zSM true hl hb0 hLt H hC hF hN) ?_;rintro _ _ w ⟨rfl,hR2⟩ H2;clear H;have H:=H2;clear H2)|refine yU ?_|fail)
 exact zU (M:=_) rfl H ⟨rfl,hR2⟩
theorem zPh {w0 w:World}(hl:1≤n.length)(hb0:1≤nF n 0∧nF n 0≤1000)(hLt:LtS s)(H:St w0 (mkL bm (mkc s p n na nc t) Ma Mi Mu R) w)(hC:Cps s p Ma Mi Mu R)(hF:Mem w0 F)(hN:Ints F na nc n) :
  Calls Tryz.prog 98 [.pointer (some ⟨bm,0,none⟩)].toArray w (zn (zB3 bm n na nc t (zDG s n false)) w0):=by
 refine enter [.tmp 2] Tryz.func98 rfl Tryz.ntmps98 rfl rfl ?_
 repeat' (first|refine yT ?_|(refine zc rfl rfl (En.fn zQV rfl rfl) (zSM false hl hb0 hLt H hC hF hN) ?_;rintro _ _ w ⟨rfl,hR2⟩ H2;clear H;have H:=H2;clear H2)|refine yU ?_|fail)
 exact zU (M:=_) rfl H ⟨rfl,hR2⟩
end
end
section
open Go Go.Sk Go.RowKit
attribute [local irreducible] Go.Calls
theorem zOH {x y z:Nat × Obj}{A B C:zH}:(x::y::z::(A++(B++C))).Perm (B++(x::y::z::(A++C))):=by
 have:=(List.perm_append_comm (l₁:=x::y::z::A) (l₂:=B)).append_right C
 simpa only[List.cons_append,List.append_assoc] using this
section
variable {F G:zH}{bm:Nat}{s:Sta}{p:SPt}{n:List Int}{na:Option Addr}{nc:Nat}{t:ByteArray}{Ma Mi Mu R:zH}
theorem zPi (o:Odr)(b1:Nat){T1:TypeId}(hi:0<n.length)(w0:World)(hG:Mem w0 G)(hm:cb b1 [Value.pointer (some ⟨bm,0,none⟩)] T1∈G)(hM:Mkt G bm s p n na nc t) :
  Calls Tryz.prog 159 [.agg o.cells.toArray,.pointer (some ⟨b1,0,none⟩)].toArray w0 (Ret (.bool (o.inst==nF n 0)) w0):=by
 obtain⟨hn2,hc2,b2,off2,cs2,T2,fr2,hs2⟩:=hM.num
 refine enter [.tmp 3] Tryz.func159 rfl Tryz.ntmps159 rfl rfl ?_
 have H:=zB w0
 repeat' (first|refine yT ?_|refine y8 sg H ?_|(refine y9 H ?_;intro b w H)|((with_reducible apply zP);exact rfl;exact rfl;exact zG sg rfl rfl (H.memF hG) hm rfl rfl)|((with_reducible apply zP);exact rfl;exact rfl;exact zG sg rfl rfl (H.memF hG) hM.blk rfl rfl)|(refine y41 sg (hs2) ?_ ?_ ?_;(omega);(omega))|((with_reducible apply zP);exact rfl;exact rfl;exact Yq.loadB1 sg hs2 (H.memF hG) rfl rfl rfl rfl hi rfl)|refine yU ?_|(with_reducible apply zL;intro w hcl;replace H:=H.ext hcl;clear hcl)|refine y20 mixed ?_|fail)
 exact zQ rfl H.cl rfl
theorem zPj (x:Ins)(b1:Nat){T1:TypeId}(w0:World)(hG:Mem w0 G)(hm:cb b1 [Value.pointer (some ⟨bm,0,none⟩)] T1∈G)(hM:Mkt G bm s p n na nc t) :
  Calls Tryz.prog 140 [.agg x.cells.toArray,.pointer (some ⟨b1,0,none⟩)].toArray w0 (Ret (.bool (x.name.toList==t.toList)) w0):=by
 refine enter [.tmp 3] Tryz.func140 rfl Tryz.ntmps140 rfl rfl ?_
 have H:=zB w0
 repeat' (first|refine yT ?_|refine y8 sg H ?_|(refine y9 H ?_;intro b w H)|((with_reducible apply zP);exact rfl;exact rfl;exact zG sg rfl rfl (H.memF hG) hm rfl rfl)|((with_reducible apply zP);exact rfl;exact rfl;exact zG sg rfl rfl (H.memF hG) hM.blk rfl rfl)|refine yU ?_|(with_reducible apply zL;intro w hcl;replace H:=H.ext hcl;clear hcl)|refine y20 mixed ?_|fail)
 exact zQ rfl H.cl rfl
theorem zSO {w0 w:World}(hl:2≤n.length)(hb0:1≤nF n 0∧nF n 0≤1000)(hLt:LtS s)(H:St w0 (mkL bm (mkc s p n na nc t) Ma Mi Mu R) w)(hC:Cps s p Ma Mi Mu R)(hF:Mem w0 F)(hN:Ints F na nc n) :
  Calls Tryz.prog 116 [.pointer (some ⟨bm,0,none⟩)].toArray w (zn (zB3 bm n na nc t (zDa s n)) w0):=by
 obtain⟨hn2,hc2,b2,off2,cs2,T2,fr2,hs2⟩:=id hN
 have hin:=fun w (G:zH) (hG:Mem w G) (hM:Mkt G bm s p n na nc t)=>zKP 0 (by omega) hb0 w hG hM
 have hct:=fun w (b:Nat) (T:TypeId) (G:zH) (hG:Mem w G) (hm:cb b [Value.pointer (some ⟨bm,0,none⟩)] T∈G) (hM:Mkt G bm s p n na nc t)=>zDk (caps:=[.pointer (some ⟨b,0,none⟩)]) (fun j=>(od_ s.orders j).inst==nF n 0) w hG hM.sta.od ent159 (fun j hj w' hw=>zPi (od_ s.orders j) b (by omega) w' (hG.ext hw) hm hM)
 have hany:decide (idx (fun j=>(od_ s.orders j).inst==nF n 0) s.orders.length ≥ 0)=s.orders.any (fun o=>o.inst==nF n 0):=zOG s.orders (fun o=>o.inst==nF n 0) default
 rw[hany] at hct
 unfold zDa
 by_cases hh:zAq s (nF n 0)=true
 ·rw[if_pos hh]
  have hle:=zAT.1 hh
  have hk:(nF n 0 - 1).toNat<s.insts.length:=by omega
  obtain⟨g,cs,hA,rfl,hcap,hcm,hcl,hE⟩:=own_get hC.ins (by omega) (fun _ _=>rfl)
  have e:zCO s p (nF n 0)=some ⟨g,0+(nF n 0 - 1).toNat*3,none⟩:=by unfold zCO;rw[if_pos hh,hA,Option.map_some,zz]
  rw[e] at hin
  have hfit:=(hE _ hk).1
  cases ha:s.orders.any (fun o=>o.inst==nF n 0) with
  | true =>
    rw[ha] at hct
    rw[if_pos rfl]
    refine enter [.tmp 2] Tryz.func116 rfl Tryz.ntmps116 rfl rfl ?_
    repeat' (first|refine yT ?_|refine y7 sg H ?_|(refine y9 H ?_;intro b w H)|(refine' y30 zC8 ?_ ?_;rotate_left;exact hin _ _ (H.all hF) (zi hC hLt hN);intro w hcl;replace H:=H.ext hcl;clear hcl)|(refine' y30 zNZ ?_ ?_;rotate_left;exact hct _ _ _ _ (H.all hF) (zz2 _) (zi hC hLt hN);intro w hcl;replace H:=H.ext hcl;clear hcl)|refine yU ?_|with_reducible apply zA|fail)
    exact zU (M:=_) rfl H ⟨rfl,fun h=>absurd h (show(46:Int)≠0 by decide)⟩
  | false =>
    rw[ha] at hct
    rw[if_neg (by decide)]
    refine enter [.tmp 2] Tryz.func116 rfl Tryz.ntmps116 rfl rfl ?_
    repeat' (first|refine yT ?_|refine y7 sg H ?_|(refine y9 H ?_;intro b w H)|(refine' y30 zC8 ?_ ?_;rotate_left;exact hin _ _ (H.all hF) (zi hC hLt hN);intro w hcl;replace H:=H.ext hcl;clear hcl)|(refine' y30 zNZ ?_ ?_;rotate_left;exact hct _ _ _ _ (H.all hF) (zz2 _) (zi hC hLt hN);intro w hcl;replace H:=H.ext hcl;clear hcl)|(refine y40 sg (hs2) ?_ ?_ ?_;(omega);(omega))|refine z13 (Yq.loadB1 sg hs2 (H.memF hF) rfl rfl rfl rfl (show 1<n.length by omega) rfl) ?_|(replace H:=(H.sub (zz7 _ _)).perm zGV;refine OX.storeX sg (v:=.int .i64 (nF n 1)) (vs:=[.int .i64 (nF n 1)]) H rfl rfl rfl rfl rfl rfl rfl Up.here (by simp only[List.length_singleton];omega) (zAh rfl) ?_;clear H;intro w H)|refine yU ?_|with_reducible apply zA|fail)
    have O2:=zSK (g:=g) (x:=⟨(in_ s.insts (nF n 0 - 1).toNat).name,nF n 1,(in_ s.insts (nF n 0 - 1).toNat).halted⟩) (vs:=[.int .i64 (nF n 1)]) (f:=1) hk hE (show 1+1≤3 by decide) rfl hcap hcm hcl
    rw[← hA] at O2
    simp only[Nat.zero_add] at H
    replace H:=H.perm zGV.symm
    obtain⟨M9,H9,hR9⟩:=zOF H O2 List.length_set hC (List.Subset.refl _)
    exact zU (M:=M9) rfl H9 hR9
 ·have e:zCO s p (nF n 0)=none:=by unfold zCO;rw[if_neg hh]
  rw[e] at hin
  rw[if_neg hh]
  refine enter [.tmp 2] Tryz.func116 rfl Tryz.ntmps116 rfl rfl ?_
  repeat' (first|refine yT ?_|refine y7 sg H ?_|(refine y9 H ?_;intro b w H)|(refine' y30 zC8 ?_ ?_;rotate_left;exact hin _ _ (H.all hF) (zi hC hLt hN);intro w hcl;replace H:=H.ext hcl;clear hcl)|refine yU ?_|with_reducible apply zA|fail)
  exact zU (M:=_) rfl H ⟨rfl,fun h=>absurd h (show(5:Int)≠0 by decide)⟩
theorem zSP {w0 w:World}(hLt:LtS s)(hl:2≤n.length)(H:St w0 (mkL bm (mkc s p n na nc t) Ma Mi Mu R) w)(hC:Cps s p Ma Mi Mu R)(hF:Mem w0 F)(hN:Ints F na nc n) :
  Calls Tryz.prog 96 [.pointer (some ⟨bm,0,none⟩)].toArray w (zn (zB3 bm n na nc t (zDZ s n t)) w0):=by
 obtain⟨hn2,hc2,b2,off2,cs2,T2,fr2,hs2⟩:=id hN
 have hac:=hLt.ins
 have w1:IntKind.i64.wrap ((s.insts.length:Int)+1)=s.insts.length+1:=w64 (by omega) (by omega)
 have hct:=fun w (b:Nat) (T:TypeId) (G:zH) (hG:Mem w G) (hm:cb b [Value.pointer (some ⟨bm,0,none⟩)] T∈G) (hM:Mkt G bm s p n na nc t)=>zIo (caps:=[.pointer (some ⟨b,0,none⟩)]) (fun j=>(in_ s.insts j).name.toList==t.toList) w hG hM.sta.ins ent140 (fun j hj w' hw=>zPj (in_ s.insts j) b w' (hG.ext hw) hm hM)
 have hany:decide (idx (fun j=>(in_ s.insts j).name.toList==t.toList) s.insts.length ≥ 0)=s.insts.any (fun x=>x.name.toList==t.toList):=zOG s.insts (fun x=>x.name.toList==t.toList) default
 rw[hany] at hct
 unfold zDZ
 by_cases h0:nF n 0≠s.insts.length+1
 ·have d0:(nF n 0 != IntKind.i64.wrap ((s.insts.length:Int)+1))=true:=by rw[w1];simpa using h0
  rw[if_pos h0]
  refine enter [.tmp 2] Tryz.func96 rfl Tryz.ntmps96 rfl rfl ?_
  repeat' (first|refine yT ?_|refine y8 sg H ?_|(refine y9 H ?_;intro b w H)|(refine' y31 zAy ?_ ?_;rotate_left;exact(fun _ hcl=>zA2 0 (by omega) _ ((H.ext hcl).all hF) (zi hC hLt hN)))|refine yU ?_|(with_reducible apply zL;intro w hcl;replace H:=H.ext hcl;clear hcl)|refine y20 mixed ?_|with_reducible apply zA|(refine y23 ?_ ?_;all_goals(intro h;try (exfalso;first|((cases d0.symm.trans h);done))))|fail)
  exact zU (M:=_) rfl H ⟨rfl,fun h=>absurd h (show(46:Int)≠0 by decide)⟩
 ·have d0:(nF n 0 != IntKind.i64.wrap ((s.insts.length:Int)+1))=false:=by rw[w1];simpa using h0
  rw[if_neg h0]
  cases h1:s.insts.any (fun x=>x.name.toList==t.toList) with
  | true =>
    rw[h1] at hct
    rw[if_pos rfl]
    refine enter [.tmp 2] Tryz.func96 rfl Tryz.ntmps96 rfl rfl ?_
    repeat' (first|refine yT ?_|refine y7 sg H ?_|refine y8 sg H ?_|(refine y9 H ?_;intro b w H)|(refine' y31 zAy ?_ ?_;rotate_left;exact(fun _ hcl=>zA2 0 (by omega) _ ((H.ext hcl).all hF) (zi hC hLt hN)))|(refine' y30 zQU ?_ ?_;rotate_left;exact hct _ _ _ _ (H.all hF) (zz2 _) (zi hC hLt hN);intro w hcl;replace H:=H.ext hcl;clear hcl)|refine yU ?_|(with_reducible apply zL;intro w hcl;replace H:=H.ext hcl;clear hcl)|refine y20 mixed ?_|with_reducible apply zA|(refine y23 ?_ ?_;all_goals(intro h;try (exfalso;first|((cases d0.symm.trans h);done)|((exact absurd h (by decide));done))))|fail)
    exact zU (M:=_) rfl H ⟨rfl,fun h=>absurd h (show(6:Int)≠0 by decide)⟩
  | false =>
    rw[h1] at hct
    rw[if_neg (by decide)]
    refine enter [.tmp 2] Tryz.func96 rfl Tryz.ntmps96 rfl rfl ?_
    repeat' (first|refine yT ?_|refine y8 sg H ?_|(refine y9 H ?_;intro b w H)|(refine' y31 zAy ?_ ?_;rotate_left;exact(fun _ hcl=>zA2 0 (by omega) _ ((H.ext hcl).all hF) (zi hC hLt hN)))|refine yU ?_|(with_reducible apply zL;intro w hcl;replace H:=H.ext hcl;clear hcl)|refine y20 mixed ?_|with_reducible apply zA|fail)
    refine CW.condF (congrArg Value.bool d0) ?_
    repeat' (first|refine yT ?_|refine y7 sg H ?_|(refine' y30 zQU ?_ ?_;rotate_left;exact hct _ _ _ _ (H.all hF) (zz2 _) (zi hC hLt hN);intro w hcl;replace H:=H.ext hcl;clear hcl)|refine yU ?_|fail)
    have hs2F:=(hs2.mono (List.subset_cons_self (cb bm (mkc s p n na nc t) 95) F)).mono (List.subset_cons_self (cb b [Value.pointer (some ⟨bm,0,none⟩)] 93) _)
    have hOi:=hC.ins
    repeat' (first|refine yT ?_|(refine y11 sg H ?_;intro w H)|(refine CW.regionL mixed 23 (z6 (x:=cb _ [Value.pointer (some ⟨bm,0,none⟩)] 93) (y:=cb bm (mkc s p n na nc t) 95) H hF) [19,20,21,22] ?_ ?_;exact rfl;intro w hcl;replace H:=H.ext hcl;clear hcl)|((with_reducible apply RL.nil);decide +kernel)|(refine' l1 0 (z6 (x:=cb _ [Value.pointer (some ⟨bm,0,none⟩)] 93) (y:=cb bm (mkc s p n na nc t) 95) H hF) ?_ ?_;rotate_left;first|exact z4 sg|exact z3 sg|exact(fun w2 _=>zF sg hs2 rfl rfl rfl rfl rfl rfl rfl (by first|with_reducible exact zz1 _|exact zD (by omega) (by omega)|with_reducible exact zI|exact zC _) (by omega) (by omega))|exact(fun w2 hM2=>Yq.loadB1 sg hs2F hM2 rfl rfl rfl rfl (show 1<n.length by omega) rfl))|(refine' l1 1 (z6 (x:=cb _ [Value.pointer (some ⟨bm,0,none⟩)] 93) (y:=cb bm (mkc s p n na nc t) 95) H hF) ?_ ?_;rotate_left;first|exact z4 sg|exact z3 sg|exact(fun w2 _=>zF sg hs2 rfl rfl rfl rfl rfl rfl rfl (by first|with_reducible exact zz1 _|exact zD (by omega) (by omega)|with_reducible exact zI|exact zC _) (by omega) (by omega))|exact(fun w2 hM2=>Yq.loadB1 sg hs2F hM2 rfl rfl rfl rfl (show 1<n.length by omega) rfl))|(refine' l1 2 (z6 (x:=cb _ [Value.pointer (some ⟨bm,0,none⟩)] 93) (y:=cb bm (mkc s p n na nc t) 95) H hF) ?_ ?_;rotate_left;first|exact z4 sg|exact z3 sg|exact(fun w2 _=>zF sg hs2 rfl rfl rfl rfl rfl rfl rfl (by first|with_reducible exact zz1 _|exact zD (by omega) (by omega)|with_reducible exact zI|exact zC _) (by omega) (by omega))|exact(fun w2 hM2=>Yq.loadB1 sg hs2F hM2 rfl rfl rfl rfl (show 1<n.length by omega) rfl))|(refine' l1 3 (z6 (x:=cb _ [Value.pointer (some ⟨bm,0,none⟩)] 93) (y:=cb bm (mkc s p n na nc t) 95) H hF) ?_ ?_;rotate_left;first|exact z4 sg|exact z3 sg|exact(fun w2 _=>zF sg hs2 rfl rfl rfl rfl rfl rfl rfl (by first|with_reducible exact zz1 _|exact zD (by omega) (by omega)|with_reducible exact zI|exact zC _) (by omega) (by omega))|exact(fun w2 hM2=>Yq.loadB1 sg hs2F hM2 rfl rfl rfl rfl (show 1<n.length by omega) rfl))|(refine' l1 4 (z6 (x:=cb _ [Value.pointer (some ⟨bm,0,none⟩)] 93) (y:=cb bm (mkc s p n na nc t) 95) H hF) ?_ ?_;rotate_left;first|exact z4 sg|exact z3 sg|exact(fun w2 _=>zF sg hs2 rfl rfl rfl rfl rfl rfl rfl (by first|with_reducible exact zz1 _|exact zD (by omega) (by omega)|with_reducible exact zI|exact zC _) (by omega) (by omega))|exact(fun w2 hM2=>Yq.loadB1 sg hs2F hM2 rfl rfl rfl rfl (show 1<n.length by omega) rfl))|(refine' l1 5 (z6 (x:=cb _ [Value.pointer (some ⟨bm,0,none⟩)] 93) (y:=cb bm (mkc s p n na nc t) 95) H hF) ?_ ?_;rotate_left;first|exact z4 sg|exact z3 sg|exact(fun w2 _=>zF sg hs2 rfl rfl rfl rfl rfl rfl rfl (by first|with_reducible exact zz1 _|exact zD (by omega) (by omega)|with_reducible exact zI|exact zC _) (by omega) (by omega))|exact(fun w2 hM2=>Yq.loadB1 sg hs2F hM2 rfl rfl rfl rfl (show 1<n.length by omega) rfl))|(refine' l1 6 (z6 (x:=cb _ [Value.pointer (some ⟨bm,0,none⟩)] 93) (y:=cb bm (mkc s p n na nc t) 95) H hF) ?_ ?_;rotate_left;first|exact z4 sg|exact z3 sg|exact(fun w2 _=>zF sg hs2 rfl rfl rfl rfl rfl rfl rfl (by first|with_reducible exact zz1 _|exact zD (by omega) (by omega)|with_reducible exact zI|exact zC _) (by omega) (by omega))|exact(fun w2 hM2=>Yq.loadB1 sg hs2F hM2 rfl rfl rfl rfl (show 1<n.length by omega) rfl))|(refine' l1 7 (z6 (x:=cb _ [Value.pointer (some ⟨bm,0,none⟩)] 93) (y:=cb bm (mkc s p n na nc t) 95) H hF) ?_ ?_;rotate_left;first|exact z4 sg|exact z3 sg|exact(fun w2 _=>zF sg hs2 rfl rfl rfl rfl rfl rfl rfl (by first|with_reducible exact zz1 _|exact zD (by omega) (by omega)|with_reducible exact zI|exact zC _) (by omega) (by omega))|exact(fun w2 hM2=>Yq.loadB1 sg hs2F hM2 rfl rfl rfl rfl (show 1<n.length by omega) rfl))|(refine' l1 8 (z6 (x:=cb _ [Value.pointer (some ⟨bm,0,none⟩)] 93) (y:=cb bm (mkc s p n na nc t) 95) H hF) ?_ ?_;rotate_left;first|exact z4 sg|exact z3 sg|exact(fun w2 _=>zF sg hs2 rfl rfl rfl rfl rfl rfl rfl (by first|with_reducible exact zz1 _|exact zD (by omega) (by omega)|with_reducible exact zI|exact zC _) (by omega) (by omega))|exact(fun w2 hM2=>Yq.loadB1 sg hs2F hM2 rfl rfl rfl rfl (show 1<n.length by omega) rfl))|(refine' l1 9 (z6 (x:=cb _ [Value.pointer (some ⟨bm,0,none⟩)] 93) (y:=cb bm (mkc s p n na nc t) 95) H hF) ?_ ?_;rotate_left;first|exact z4 sg|exact z3 sg|exact(fun w2 _=>zF sg hs2 rfl rfl rfl rfl rfl rfl rfl (by first|with_reducible exact zz1 _|exact zD (by omega) (by omega)|with_reducible exact zI|exact zC _) (by omega) (by omega))|exact(fun w2 hM2=>Yq.loadB1 sg hs2F hM2 rfl rfl rfl rfl (show 1<n.length by omega) rfl))|(refine' l1 10 (z6 (x:=cb _ [Value.pointer (some ⟨bm,0,none⟩)] 93) (y:=cb bm (mkc s p n na nc t) 95) H hF) ?_ ?_;rotate_left;first|exact z4 sg|exact z3 sg|exact(fun w2 _=>zF sg hs2 rfl rfl rfl rfl rfl rfl rfl (by first|with_reducible exact zz1 _|exact zD (by omega) (by omega)|with_reducible exact zI|exact zC _) (by omega) (by omega))|exact(fun w2 hM2=>Yq.loadB1 sg hs2F hM2 rfl rfl rfl rfl (show 1<n.length by omega) rfl))|(refine' l1 11 (z6 (x:=cb _ [Value.pointer (some ⟨bm,0,none⟩)] 93) (y:=cb bm (mkc s p n na nc t) 95) H hF) ?_ ?_;rotate_left;first|exact z4 sg|exact z3 sg|exact(fun w2 _=>zF sg hs2 rfl rfl rfl rfl rfl rfl rfl (by first|with_reducible exact zz1 _|exact zD (by omega) (by omega)|with_reducible exact zI|exact zC _) (by omega) (by omega))|exact(fun w2 hM2=>Yq.loadB1 sg hs2F hM2 rfl rfl rfl rfl (show 1<n.length by omega) rfl))|(refine' l1 12 (z6 (x:=cb _ [Value.pointer (some ⟨bm,0,none⟩)] 93) (y:=cb bm (mkc s p n na nc t) 95) H hF) ?_ ?_;rotate_left;first|exact z4 sg|exact z3 sg|exact(fun w2 _=>zF sg hs2 rfl rfl rfl rfl rfl rfl rfl (by first|with_reducible exact zz1 _|exact zD (by omega) (by omega)|with_reducible exact zI|exact zC _) (by omega) (by omega))|exact(fun w2 hM2=>Yq.loadB1 sg hs2F hM2 rfl rfl rfl rfl (show 1<n.length by omega) rfl))|(refine' l1 13 (z6 (x:=cb _ [Value.pointer (some ⟨bm,0,none⟩)] 93) (y:=cb bm (mkc s p n na nc t) 95) H hF) ?_ ?_;rotate_left;first|exact z4 sg|exact z3 sg|exact(fun w2 _=>zF sg hs2 rfl rfl rfl rfl rfl rfl rfl (by first|with_reducible exact zz1 _|exact zD (by omega) (by omega)|with_reducible exact zI|exact zC _) (by omega) (by omega))|exact(fun w2 hM2=>Yq.loadB1 sg hs2F hM2 rfl rfl rfl rfl (show 1<n.length by omega) rfl))|(refine' l1 14 (z6 (x:=cb _ [Value.pointer (some ⟨bm,0,none⟩)] 93) (y:=cb bm (mkc s p n na nc t) 95) H hF) ?_ ?_;rotate_left;first|exact z4 sg|exact z3 sg|exact(fun w2 _=>zF sg hs2 rfl rfl rfl rfl rfl rfl rfl (by first|with_reducible exact zz1 _|exact zD (by omega) (by omega)|with_reducible exact zI|exact zC _) (by omega) (by omega))|exact(fun w2 hM2=>Yq.loadB1 sg hs2F hM2 rfl rfl rfl rfl (show 1<n.length by omega) rfl))|(refine' l1 15 (z6 (x:=cb _ [Value.pointer (some ⟨bm,0,none⟩)] 93) (y:=cb bm (mkc s p n na nc t) 95) H hF) ?_ ?_;rotate_left;first|exact z4 sg|exact z3 sg|exact(fun w2 _=>zF sg hs2 rfl rfl rfl rfl rfl rfl rfl (by first|with_reducible exact zz1 _|exact zD (by omega) (by omega)|with_reducible exact zI|exact zC _) (by omega) (by omega))|exact(fun w2 hM2=>Yq.loadB1 sg hs2F hM2 rfl rfl rfl rfl (show 1<n.length by omega) rfl))|(refine' l1 16 (z6 (x:=cb _ [Value.pointer (some ⟨bm,0,none⟩)] 93) (y:=cb bm (mkc s p n na nc t) 95) H hF) ?_ ?_;rotate_left;first|exact z4 sg|exact z3 sg|exact(fun w2 _=>zF sg hs2 rfl rfl rfl rfl rfl rfl rfl (by first|with_reducible exact zz1 _|exact zD (by omega) (by omega)|with_reducible exact zI|exact zC _) (by omega) (by omega))|exact(fun w2 hM2=>Yq.loadB1 sg hs2F hM2 rfl rfl rfl rfl (show 1<n.length by omega) rfl))|(refine' l6 19 ?_ ?_;rotate_left;first|exact z9 sg|exact(fun w2=>zF sg hs2 rfl rfl rfl rfl rfl rfl rfl (by first|with_reducible exact zz1 _|exact zD (by omega) (by omega)|with_reducible exact zI|exact zC _) (by omega) (by omega)))|(refine' l6 20 ?_ ?_;rotate_left;first|exact z9 sg|exact(fun w2=>zF sg hs2 rfl rfl rfl rfl rfl rfl rfl (by first|with_reducible exact zz1 _|exact zD (by omega) (by omega)|with_reducible exact zI|exact zC _) (by omega) (by omega)))|(refine' l6 21 ?_ ?_;rotate_left;first|exact z9 sg|exact(fun w2=>zF sg hs2 rfl rfl rfl rfl rfl rfl rfl (by first|with_reducible exact zz1 _|exact zD (by omega) (by omega)|with_reducible exact zI|exact zC _) (by omega) (by omega)))|refine l3 22 ?_|refine l2 17 ?_|refine l2 18 ?_|(refine l5 (z6 (x:=cb _ [Value.pointer (some ⟨bm,0,none⟩)] 93) (y:=cb bm (mkc s p n na nc t) 95) H hF) ?_)|((with_reducible apply OX.buildA sg H);exact rfl;exact rfl;exact rfl;exact rfl;exact rfl;exact rfl;exact rfl;exact rfl;exact rfl;exact rfl;exact rfl;exact rfl;intro b w H _)|(have hp:=H.perm zOH;refine zo sg 3 32 (M:=Mi) hp rfl rfl rfl rfl rfl rfl rfl rfl rfl rfl rfl hOi (zAM hp.mem (zz3 _ (zz2 _))) rfl (zAh rfl) (by unfold maxLen;omega) (by omega) ?_;clear hp H;intro a1 c1 M1 w O1 H;replace H:=H.perm zOH.symm)|refine yU ?_|fail)
    have hlen:s.insts.length+1=(s.insts++[(⟨t,nF n 1,false⟩:Ins)]).length:=by simp
    have O2:Go.Sk.Own M1 76 3 a1 (s.insts.length+1) c1 ((List.range s.insts.length).flatMap (ing s.insts)++(⟨t,nF n 1,false⟩:Ins).cells):=O1
    rw[zUF,hlen] at O2
    rw[hlen] at H
    exact zU (M:=mkL bm (mkc { s with insts:=s.insts++[⟨t,nF n 1,false⟩] } { p with inA:=a1,inC:=c1 } n na nc t) Ma M1 Mu R) rfl (H.sub sub2) ⟨rfl,fun _=>⟨{ p with inA:=a1,inC:=c1 },Ma,M1,Mu,R,rfl,hC.ac,O2,hC.rw,hC.od,hC.au,hC.bd⟩⟩
end
end
end Go.Proofs.YtibmaifoaajllaaGreatDoor
