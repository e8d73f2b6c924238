/- Texts of ours, joined: the steps of the proof, or the claim's theorem. -/
import Derived.Test.YthbflajpdhgfiaaGreatDoorQd16
set_option linter.all false
set_option maxHeartbeats 16000000
namespace Go.Proofs.YthbflajpdhgfiaaGreatDoor
open Go Go.Sk Go.RowKit
attribute [local irreducible] Go.Calls
theorem zOU {x y z:Nat × Obj}{A B C:zC}:(x::y::z::(A++(B++C))).Perm (B++(x::y::z::(A++C))):=by
 have:=(List.perm_append_comm (l₁:=x::y::z::A) (l₂:=B)).append_right C
 simpa only[List.cons_append,List.append_assoc] using this
section
variable {F G:zC}{bm:Nat}{s:Sta}{p:SPt}{n:List Int}{na:Option Addr}{nc:Nat}{t:ByteArray}{Ma Mi Mu R:zC}
theorem zPy (o:Odr)(b1:Nat){T1:TypeId}(hi:0<n.length)(w0:World)(hG:Mem w0 G)(hm:cb b1 [Value.pointer (some ⟨bm,0,none⟩)] T1∈G)(hM:Mkt G bm s p n na nc t) :
  Calls Tryz.prog 180 [.agg o.cells.toArray,.pointer (some ⟨b1,0,none⟩)].toArray w0 (Ret (.bool (o.inst==nF n 0)) w0):=by
 obtain⟨hn2,hc2,b2,off2,cs2,T2,fr2,hs2⟩:=hM.num
 refine enter [.tmp 3] Tryz.func180 rfl Tryz.ntmps180 rfl rfl ?_
 have H:=zA w0
 repeat' (first|refine yT ?_|refine y8 sg H ?_|(refine y9 H ?_;intro b w H)|((with_reducible apply zT);exact rfl;exact rfl;exact zH sg rfl rfl (H.memF hG) hm rfl rfl)|((with_reducible apply zT);exact rfl;exact rfl;exact zH sg rfl rfl (H.memF hG) hM.blk rfl rfl)|refine x41 sg hs2 ?_|((with_reducible apply zT);exact rfl;exact rfl;exact Yq.loadB1 sg hs2 (H.memF hG) rfl rfl rfl rfl hi rfl)|refine yU ?_|(with_reducible apply zO;refine w2 H ?_;clear H;intro w H)|refine y20 mixed ?_|fail)
 exact zP rfl H.cl rfl
theorem zPz (x:Ins)(b1:Nat){T1:TypeId}(w0:World)(hG:Mem w0 G)(hm:cb b1 [Value.pointer (some ⟨bm,0,none⟩)] T1∈G)(hM:Mkt G bm s p n na nc t) :
  Calls Tryz.prog 162 [.agg x.cells.toArray,.pointer (some ⟨b1,0,none⟩)].toArray w0 (Ret (.bool (x.name.toList==t.toList)) w0):=by
 refine enter [.tmp 3] Tryz.func162 rfl Tryz.ntmps162 rfl rfl ?_
 have H:=zA w0
 repeat' (first|refine yT ?_|refine y8 sg H ?_|(refine y9 H ?_;intro b w H)|((with_reducible apply zT);exact rfl;exact rfl;exact zH sg rfl rfl (H.memF hG) hm rfl rfl)|((with_reducible apply zT);exact rfl;exact rfl;exact zH sg rfl rfl (H.memF hG) hM.blk rfl rfl)|refine yU ?_|(with_reducible apply zO;refine w2 H ?_;clear H;intro w H)|refine y20 mixed ?_|fail)
 exact zP rfl H.cl rfl
theorem zSf {w0 w:World}(hl:2≤n.length)(hb0:1≤nF n 0∧nF n 0≤1000)(hLt:LtS s)(H:St w0 (mkL bm (mkc s p n na nc t) Ma Mi Mu R) w)(hC:Cps s p Ma Mi Mu R)(hF:Mem w0 F)(hN:Ints F na nc n) :
  Calls Tryz.prog 135 [.pointer (some ⟨bm,0,none⟩)].toArray w (zi (zBw bm n na nc t (zFF s n)) w0):=by
 obtain⟨hn2,hc2,b2,off2,cs2,T2,fr2,hs2⟩:=id hN
 have hin:=fun w (G:zC) (hG:Mem w G) (hM:Mkt G bm s p n na nc t)=>zKO 0 qO hb0 w hG hM
 have hct:=fun w (b:Nat) (T:TypeId) (G:zC) (hG:Mem w G) (hm:cb b [Value.pointer (some ⟨bm,0,none⟩)] T∈G) (hM:Mkt G bm s p n na nc t)=>zDV (caps:=[.pointer (some ⟨b,0,none⟩)]) (fun j=>(od_ s.orders j).inst==nF n 0) w hG hM.sta.od ent180 (fun j hj w' hw=>zPy (od_ s.orders j) b qO w' (hG.ext hw) hm hM)
 have hany:decide (idx (fun j=>(od_ s.orders j).inst==nF n 0) s.orders.length ≥ 0)=s.orders.any (fun o=>o.inst==nF n 0):=zOT s.orders (fun o=>o.inst==nF n 0) default
 rw[hany] at hct
 unfold zFF
 by_cases hh:zBD s (nF n 0)=true
 ·rw[if_pos hh]
  have hle:=zAe.1 hh
  have hk:(nF n 0 - 1).toNat<s.insts.length:=by omega
  obtain⟨g,cs,hA,rfl,hcap,hcm,hcl,hE⟩:=zBr hC.ins qO (fun _ _=>rfl)
  have e:zCJ s p (nF n 0)=some ⟨g,0+(nF n 0 - 1).toNat*3,none⟩:=by unfold zCJ;rw[if_pos hh,hA,Option.map_some,zAC]
  rw[e] at hin
  have hfit:=(hE _ hk).1
  cases ha:s.orders.any (fun o=>o.inst==nF n 0) with
  | true =>
    rw[ha] at hct
    rw[if_pos rfl]
    refine enter [.tmp 2] Tryz.func135 rfl Tryz.ntmps135 rfl rfl ?_
    repeat' (first|refine yT ?_|refine y7 sg H ?_|(refine y9 H ?_;intro b w H)|(refine' y30 zCp ?_ ?_;rotate_left;exact hin _ _ (H.all hF) (zh hC hLt hN);refine w2 H ?_;clear H;intro w H)|(refine' y30 zNk ?_ ?_;rotate_left;exact hct _ _ _ _ (H.all hF) (zz2 _) (zh hC hLt hN);refine w2 H ?_;clear H;intro w H)|refine yU ?_|with_reducible apply zB|fail)
    exact zS (M:=_) rfl H ⟨rfl,fun h=>absurd h (show(46:Int)≠0 by decide)⟩
  | false =>
    rw[ha] at hct
    rw[if_neg (by decide)]
    refine enter [.tmp 2] Tryz.func135 rfl Tryz.ntmps135 rfl rfl ?_
    repeat' (first|refine yT ?_|refine y7 sg H ?_|(refine y9 H ?_;intro b w H)|(refine' y30 zCp ?_ ?_;rotate_left;exact hin _ _ (H.all hF) (zh hC hLt hN);refine w2 H ?_;clear H;intro w H)|(refine' y30 zNk ?_ ?_;rotate_left;exact hct _ _ _ _ (H.all hF) (zz2 _) (zh hC hLt hN);refine w2 H ?_;clear H;intro w H)|refine x40 sg hs2 ?_|refine z13 (Yq.loadB1 sg hs2 (H.memF hF) rfl rfl rfl rfl (show 1<n.length by omega) rfl) ?_|(replace H:=(H.sub (zz7 _ _)).perm zGM;refine OX.storeX sg (v:=.int .i64 (nF n 1)) (vs:=[.int .i64 (nF n 1)]) H rfl rfl rfl rfl rfl rfl rfl Up.here (by simp only[List.length_singleton];omega) (zAU rfl) ?_;clear H;intro w H)|refine yU ?_|with_reducible apply zB|fail)
    have O2:=zSb (g:=g) (x:=⟨(in_ s.insts (nF n 0 - 1).toNat).name,nF n 1,(in_ s.insts (nF n 0 - 1).toNat).halted⟩) (vs:=[.int .i64 (nF n 1)]) (f:=1) hk hE (show 1+1≤3 by decide) rfl hcap hcm hcl
    rw[← hA] at O2
    simp only[Nat.zero_add] at H
    replace H:=H.perm zGM.symm
    obtain⟨M9,H9,hR9⟩:=zOS H O2 List.length_set hC (List.Subset.refl _)
    exact zS (M:=M9) rfl H9 hR9
 ·have e:zCJ s p (nF n 0)=none:=by unfold zCJ;rw[if_neg hh]
  rw[e] at hin
  rw[if_neg hh]
  refine enter [.tmp 2] Tryz.func135 rfl Tryz.ntmps135 rfl rfl ?_
  repeat' (first|refine yT ?_|refine y7 sg H ?_|(refine y9 H ?_;intro b w H)|(refine' y30 zCp ?_ ?_;rotate_left;exact hin _ _ (H.all hF) (zh hC hLt hN);refine w2 H ?_;clear H;intro w H)|refine yU ?_|with_reducible apply zB|fail)
  exact zS (M:=_) rfl H ⟨rfl,fun h=>absurd h (show(5:Int)≠0 by decide)⟩
theorem zSg {w0 w:World}(hLt:LtS s)(hl:2≤n.length)(H:St w0 (mkL bm (mkc s p n na nc t) Ma Mi Mu R) w)(hC:Cps s p Ma Mi Mu R)(hF:Mem w0 F)(hN:Ints F na nc n) :
  Calls Tryz.prog 115 [.pointer (some ⟨bm,0,none⟩)].toArray w (zi (zBw bm n na nc t (zFE s n t)) w0):=by
 obtain⟨hn2,hc2,b2,off2,cs2,T2,fr2,hs2⟩:=id hN
 have hac:=hLt.ins
 have w1:IntKind.i64.wrap ((s.insts.length:Int)+1)=s.insts.length+1:=w64 qO qO
 have hct:=fun w (b:Nat) (T:TypeId) (G:zC) (hG:Mem w G) (hm:cb b [Value.pointer (some ⟨bm,0,none⟩)] T∈G) (hM:Mkt G bm s p n na nc t)=>zIg (caps:=[.pointer (some ⟨b,0,none⟩)]) (fun j=>(in_ s.insts j).name.toList==t.toList) w hG hM.sta.ins ent162 (fun j hj w' hw=>zPz (in_ s.insts j) b w' (hG.ext hw) hm hM)
 have hany:decide (idx (fun j=>(in_ s.insts j).name.toList==t.toList) s.insts.length ≥ 0)=s.insts.any (fun x=>x.name.toList==t.toList):=zOT s.insts (fun x=>x.name.toList==t.toList) default
 rw[hany] at hct
 unfold zFE
 by_cases h0:nF n 0≠s.insts.length+1
 ·have d0:(nF n 0 != IntKind.i64.wrap ((s.insts.length:Int)+1))=true:=by rw[w1];simpa using h0
  rw[if_pos h0]
  refine enter [.tmp 2] Tryz.func115 rfl Tryz.ntmps115 rfl rfl ?_
  repeat' (first|refine yT ?_|refine y8 sg H ?_|(refine y9 H ?_;intro b w H)|(refine' y31 zAt ?_ ?_;rotate_left;exact(fun _ hcl=>zAw 0 qO _ ((H.ext hcl).all hF) (zh hC hLt hN)))|refine yU ?_|(with_reducible apply zO;refine w2 H ?_;clear H;intro w H)|refine y20 mixed ?_|with_reducible apply zB|(refine y23 ?_ ?_;all_goals(intro h;try (exfalso;first|((cases d0.symm.trans h);done))))|fail)
  exact zS (M:=_) rfl H ⟨rfl,fun h=>absurd h (show(46:Int)≠0 by decide)⟩
 ·have d0:(nF n 0 != IntKind.i64.wrap ((s.insts.length:Int)+1))=false:=by rw[w1];simpa using h0
  rw[if_neg h0]
  cases h1:s.insts.any (fun x=>x.name.toList==t.toList) with
  | true =>
    rw[h1] at hct
    rw[if_pos rfl]
    refine enter [.tmp 2] Tryz.func115 rfl Tryz.ntmps115 rfl rfl ?_
    repeat' (first|refine yT ?_|refine y7 sg H ?_|refine y8 sg H ?_|(refine y9 H ?_;intro b w H)|(refine' y31 zAt ?_ ?_;rotate_left;exact(fun _ hcl=>zAw 0 qO _ ((H.ext hcl).all hF) (zh hC hLt hN)))|(refine' y30 zQi ?_ ?_;rotate_left;exact hct _ _ _ _ (H.all hF) (zz2 _) (zh hC hLt hN);refine w2 H ?_;clear H;intro w H)|refine yU ?_|(with_reducible apply zO;refine w2 H ?_;clear H;intro w H)|refine y20 mixed ?_|with_reducible apply zB|(refine y23 ?_ ?_;all_goals(intro h;try (exfalso;first|((cases d0.symm.trans h);done)|((exact absurd h (by decide));done))))|fail)
    exact zS (M:=_) rfl H ⟨rfl,fun h=>absurd h (show(6:Int)≠0 by decide)⟩
  | false =>
    rw[h1] at hct
    rw[if_neg (by decide)]
    refine enter [.tmp 2] Tryz.func115 rfl Tryz.ntmps115 rfl rfl ?_
    repeat' (first|refine yT ?_|refine y8 sg H ?_|(refine y9 H ?_;intro b w H)|(refine' y31 zAt ?_ ?_;rotate_left;exact(fun _ hcl=>zAw 0 qO _ ((H.ext hcl).all hF) (zh hC hLt hN)))|refine yU ?_|(with_reducible apply zO;refine w2 H ?_;clear H;intro w H)|refine y20 mixed ?_|with_reducible apply zB|fail)
    refine CW.condF (congrArg Value.bool d0) ?_
    repeat' (first|refine yT ?_|refine y7 sg H ?_|(refine' y30 zQi ?_ ?_;rotate_left;exact hct _ _ _ _ (H.all hF) (zz2 _) (zh hC hLt hN);refine w2 H ?_;clear H;intro w H)|refine yU ?_|fail)
    have hs2F:=(hs2.mono (List.subset_cons_self (cb bm (mkc s p n na nc t) 141) F)).mono (List.subset_cons_self (cb b [Value.pointer (some ⟨bm,0,none⟩)] 139) _)
    have hOi:=hC.ins
    repeat' (first|refine yT ?_|(refine y11 sg H ?_;intro w H)|(refine CW.regionL mixed 23 (z6 (x:=cb _ [Value.pointer (some ⟨bm,0,none⟩)] 139) (y:=cb bm (mkc s p n na nc t) 141) H hF) [19,20,21,22] ?_ ?_;exact rfl;refine w2 H ?_;clear H;intro w H)|((with_reducible apply RL.nil);decide +kernel)|(refine' l1 0 (z6 H hF) ?_ ?_;rotate_left;exact z3 sg)|(refine' l1 1 (z6 H hF) ?_ ?_;rotate_left;exact z3 sg)|refine lT sg 2 (z6 H hF) ?_|refine lT sg 3 (z6 H hF) ?_|refine lT sg 4 (z6 H hF) ?_|(refine' l1 5 (z6 H hF) ?_ ?_;rotate_left;exact z3 sg)|(refine' l1 6 (z6 H hF) ?_ ?_;rotate_left;exact z3 sg)|refine lT sg 7 (z6 H hF) ?_|refine lT sg 8 (z6 H hF) ?_|(refine' l1 9 (z6 H hF) ?_ ?_;rotate_left;exact z3 sg)|(refine' l1 10 (z6 H hF) ?_ ?_;rotate_left;exact z3 sg)|refine lT sg 11 (z6 H hF) ?_|refine lT sg 12 (z6 H hF) ?_|(refine' l1 13 (z6 H hF) ?_ ?_;rotate_left;exact z3 sg)|(refine' l1 14 (z6 H hF) ?_ ?_;rotate_left;exact(zQ sg hs2))|(refine' l1 15 (z6 H hF) ?_ ?_;rotate_left;exact(zK sg hs2F (show 1<n.length by omega)))|refine lT sg 16 (z6 H hF) ?_|(refine' l6 19 ?_ ?_;rotate_left;exact z9 sg)|(refine' l6 20 ?_ ?_;rotate_left;exact z9 sg)|(refine' l6 21 ?_ ?_;rotate_left;exact z9 sg)|refine l3 22 ?_|refine l2 17 ?_|refine l2 18 ?_|(refine l5 (z6 H hF) ?_)|((with_reducible apply OX.buildA sg H);(iterate 12 exact rfl);intro b w H _)|(have hp:=H.perm zOU;refine zj sg 3 32 (M:=Mi) hp rfl rfl rfl rfl rfl rfl rfl rfl rfl rfl rfl hOi (zAL hp.mem (zz3 _ (zz2 _))) rfl (zAU rfl) (by unfold maxLen;omega) qO ?_;clear hp H;intro a1 c1 M1 w O1 H;replace H:=H.perm zOU.symm)|refine yU ?_|fail)
    have hlen:s.insts.length+1=(s.insts++[(⟨t,nF n 1,false⟩:Ins)]).length:=by simp
    have O2:Go.Sk.Own M1 94 3 a1 (s.insts.length+1) c1 ((List.range s.insts.length).flatMap (ing s.insts)++(⟨t,nF n 1,false⟩:Ins).cells):=O1
    rw[zUW,hlen] at O2
    rw[hlen] at H
    exact zS (M:=mkL bm (mkc { s with insts:=s.insts++[⟨t,nF n 1,false⟩] } { p with inA:=a1,inC:=c1 } n na nc t) Ma M1 Mu R) rfl (H.sub sub2) ⟨rfl,fun _=>⟨{ p with inA:=a1,inC:=c1 },Ma,M1,Mu,R,rfl,hC.ac,O2,hC.rw,hC.od,hC.au,hC.bd⟩⟩
end
end Go.Proofs.YthbflajpdhgfiaaGreatDoor
