/- Texts of ours, joined: the steps of the proof, or the claim's theorem. -/
import Derived.Test.YthbflajpdhgfiaaGreatDoorQd15
set_option linter.all false
set_option maxHeartbeats 16000000
namespace Go.Proofs.YthbflajpdhgfiaaGreatDoor
open Go Go.Sk Go.RowKit
attribute [local irreducible] Go.Calls
theorem zOT {α:Type}(l:List α)(q:α→Bool)(d:α):decide (idx (fun j=>q (l.getD j d)) l.length ≥ 0)=l.any q:=by
 rcases zZ (fun j=>q (l.getD j d)) l.length with ⟨k,hk,_,hpk,hix⟩|⟨hall,hix⟩
 ·rw[hix,decide_eq_true qO]
  symm
  exact List.any_eq_true.2 ⟨_,zz d hk,hpk⟩
 ·rw[hix,decide_eq_false qO]
  symm
  rw[List.any_eq_false]
  intro x hx
  obtain⟨k,hk,rfl⟩:=zBP (d:=d) hx
  have:q (l.getD k d)=false:=hall k hk
  rw[this];decide
section
variable {F:zC}{bm:Nat}{s:Sta}{p:SPt}{n:List Int}{na:Option Addr}{nc:Nat}{t:ByteArray}{Ma Mi Mu R:zC}
theorem zPw {w0 w:World}(hLt:LtS s)(hl:1≤n.length)(hb0:nF n 0≤1000)(H:St w0 (mkL bm (mkc s p n na nc t) Ma Mi Mu R) w)(hC:Cps s p Ma Mi Mu R)(hF:Mem w0 F)(hN:Ints F na nc n) :
  Calls Tryz.prog 134 [.pointer (some ⟨bm,0,none⟩)].toArray w (zi (zBw bm n na nc t (zDh s n t)) w0):=by
 obtain⟨hn2,hc2,b2,off2,cs2,T2,fr2,hs2⟩:=id hN
 have ha:=fun w (b:Nat) (X:zC) (hX:Mem w X) (hm:cb b [Value.int .i64 (0:Int)] 3∈X) (G:zC) (hG:Mem w G) (hM:Mkt G bm s p n na nc t)=>zCZ (T:=3) 0 qO w hX hm hG hM
 have hnm:=fun w (G:zC) (hG:Mem w G) (hM:Mkt G bm s p n na nc t)=>zN2 s p t w hG hM.sta
 unfold zDh
 by_cases ho:zAG s (nF n 0)=true
 ·rw[if_pos ho] at ha ⊢
  have hoi:=zCT.1 ho
  have h2:=(zIy s.accts t).1
  by_cases h1:zA3 s.accts t ≥ 0
  ·have d1:(zA3 s.accts t+1 != 0)=true:=by simp;omega
   rw[if_pos h1]
   refine enter [.tmp 2] Tryz.func134 rfl Tryz.ntmps134 rfl rfl ?_
   repeat' (first|refine yT ?_|refine y8 sg H ?_|(refine z14 sg H ?_;intro b w H)|(refine' y30 zAu ?_ ?_;rotate_left;exact ha _ _ _ H.mem (zz2 _) _ (H.all hF) (zh hC hLt hN);refine w2 H ?_;clear H;intro w H)|(refine' y31 zJX ?_ ?_;rotate_left;exact(fun _ hcl=>hnm _ _ ((H.ext hcl).all hF) (zh hC hLt hN)))|refine yU ?_|(with_reducible apply zO;refine w2 H ?_;clear H;intro w H)|refine y20 mixed ?_|(refine y23 ?_ ?_;all_goals(intro h;try (exfalso;first|((exact absurd h (by decide));done)|((cases d1.symm.trans h);done))))|fail)
   exact zS (M:=_) rfl H ⟨rfl,fun h=>absurd h (show(6:Int)≠0 by decide)⟩
  ·have d1:(zA3 s.accts t+1 != 0)=false:=by simp;omega
   rw[if_neg h1]
   have hk:(nF n 0 - 1).toNat<s.accts.length:=by omega
   have hq:IntKind.i64.wrap (nF n 0 - 1)=(((nF n 0 - 1).toNat:Nat):Int):=by rw[w64 qO qO];omega
   obtain⟨g,cs,hA,rfl,hcap,hcm,hcl,hE⟩:=zBr hC.ac qO (fun _ _=>rfl)
   have hsA:=hE.slb (F:=[cb g cs 92]) (T:=92) (zz2 _)
   rw[← hA] at hsA
   have hfit:=(hE _ hk).1
   have hs2F:=hs2.mono (List.subset_cons_self (cb bm (mkc s p n na nc t) 141) F)
   refine enter [.tmp 2] Tryz.func134 rfl Tryz.ntmps134 rfl rfl ?_
   repeat' (first|refine yT ?_|refine y8 sg H ?_|(refine z14 sg H ?_;intro b w H)|(refine' y30 zAu ?_ ?_;rotate_left;exact ha _ _ _ H.mem (zz2 _) _ (H.all hF) (zh hC hLt hN);refine w2 H ?_;clear H;intro w H)|(refine' y31 zJX ?_ ?_;rotate_left;exact(fun _ hcl=>hnm _ _ ((H.ext hcl).all hF) (zh hC hLt hN)))|refine yU ?_|(with_reducible apply zO;refine w2 H ?_;clear H;intro w H)|refine y20 mixed ?_|fail)
   refine CW.condF (congrArg Value.bool d1) ?_
   repeat' (first|refine yT ?_|(refine CW.regionL mixed 19 (z6s (x:=cb bm (mkc s p n na nc t) 141) H hF) [16,17,18] ?_ ?_;exact rfl;refine w2 H ?_;clear H;intro w H)|((with_reducible apply RL.nil);decide +kernel)|refine lT sg 0 (z6s H hF) ?_|refine lT sg 1 (z6s H hF) ?_|refine lT sg 2 (z6s H hF) ?_|refine lT sg 3 (z6s H hF) ?_|(refine' l1 4 (z6s H hF) ?_ ?_;rotate_left;exact z3 sg)|refine lT sg 5 (z6s H hF) ?_|refine lT sg 6 (z6s H hF) ?_|refine lT sg 7 (z6s H hF) ?_|(refine' l1 8 (z6s H hF) ?_ ?_;rotate_left;exact z3 sg)|(refine' l1 9 (z6s H hF) ?_ ?_;rotate_left;exact(zQ sg hs2))|(refine' l1 10 (z6s H hF) ?_ ?_;rotate_left;exact(zK sg hs2F (show 0<n.length by omega)))|refine lT sg 11 (z6s H hF) ?_|refine lT sg 12 (z6s H hF) ?_|refine lT sg 13 (z6s H hF) ?_|refine lT sg 14 (z6s H hF) ?_|(refine' l1 15 (z6s H hF) ?_ ?_;rotate_left;exact z3 sg)|(refine' l6 16 ?_ ?_;rotate_left;exact(fun w2=>zG sg hsA rfl rfl rfl rfl rfl rfl rfl ((congrArg Int.toNat hq).trans (zz1 _)) (by rw[hq];omega) (by rw[hq];omega)))|(refine' l6 17 ?_ ?_;rotate_left;exact z9 sg)|refine l3 18 ?_|(refine OX.storeX sg (v:=.string t) (vs:=[.string t]) H rfl rfl rfl rfl rfl rfl rfl (Up.there (Up.there Up.here)) (by simp only[List.length_singleton];omega) (zAU rfl) ?_;clear H;intro w H)|refine yU ?_|fail)
   have O2:=zSa (g:=g) (x:=⟨t,(ac_ s.accts (nF n 0 - 1).toNat).opn⟩) (vs:=[.string t]) (f:=0) hk hE (Nat.le_succ 1) rfl hcap hcm hcl
   rw[← hA] at O2
   replace H:=H.sub (zz7 _ _)
   simp only[Nat.zero_add,Nat.add_zero] at H O2
   obtain⟨M9,H9,hR9⟩:=zOR (l':=s.accts.set (nF n 0 - 1).toNat ⟨t,(ac_ s.accts (nF n 0 - 1).toNat).opn⟩) H O2 List.length_set hC (List.Subset.refl _)
   exact zS (M:=M9) rfl H9 hR9
 ·rw[if_neg ho] at ha ⊢
  refine enter [.tmp 2] Tryz.func134 rfl Tryz.ntmps134 rfl rfl ?_
  repeat' (first|refine yT ?_|(refine z14 sg H ?_;intro b w H)|(refine' y30 zAu ?_ ?_;rotate_left;exact ha _ _ _ H.mem (zz2 _) _ (H.all hF) (zh hC hLt hN);refine w2 H ?_;clear H;intro w H)|refine yU ?_|fail)
  exact zS (M:=_) rfl H ⟨rfl,fun h=>absurd h (show(5:Int)≠0 by decide)⟩
theorem zSd {w0 w:World}(is:Bool)(hl:1≤n.length)(hb0:1≤nF n 0∧nF n 0≤1000)(hLt:LtS s)(H:St w0 (mkL bm (mkc s p n na nc t) Ma Mi Mu R) w)(hC:Cps s p Ma Mi Mu R)(hF:Mem w0 F)(hN:Ints F na nc n) :
  Calls Tryz.prog 164 [.pointer (some ⟨bm,0,none⟩),.bool is].toArray w (zi (zBw bm n na nc t (zF8 s n is)) w0):=by
 have hin:=fun w (G:zC) (hG:Mem w G) (hM:Mkt G bm s p n na nc t)=>zKO 0 qO hb0 w hG hM
 unfold zF8
 by_cases hh:zBD s (nF n 0)=true
 ·rw[if_pos hh]
  have hle:=zAe.1 hh
  have hk:(nF n 0 - 1).toNat<s.insts.length:=by omega
  obtain⟨g,cs,hA,rfl,hcap,hcm,hcl,hE⟩:=zBr hC.ins qO (fun _ _=>rfl)
  have e:zCJ s p (nF n 0)=some ⟨g,0+(nF n 0 - 1).toNat*3,none⟩:=by unfold zCJ;rw[if_pos hh,hA,Option.map_some,zAC]
  rw[e] at hin
  have hfit:=(hE _ hk).1
  have hsI:=hE.slb (F:=[cb g cs 94]) (T:=94) (zz2 _)
  by_cases hx:(in_ s.insts (nF n 0 - 1).toNat).halted=is
  ·have d1:((in_ s.insts (nF n 0 - 1).toNat).halted==is)=true:=by rw[hx];exact beq_self_eq_true _
   rw[if_pos hx]
   refine enter [.tmp 4] Tryz.func164 rfl Tryz.ntmps164 rfl rfl ?_
   repeat' (first|refine yT ?_|(refine' y30 zCp ?_ ?_;rotate_left;exact hin _ _ (H.all hF) (zh hC hLt hN);refine w2 H ?_;clear H;intro w H)|refine yU ?_|fail)
   replace H:=H.perm zGM
   repeat' (first|refine yT ?_|refine x44 sg hsI (z7 H) ?_|refine yU ?_|with_reducible apply zB|(refine y23 ?_ ?_;all_goals(intro h;try (exfalso;first|((exact absurd h (by decide));done)|((cases d1.symm.trans h);done))))|fail)
   exact zS (M:=_) rfl H ⟨rfl,fun h=>absurd h (show(46:Int)≠0 by decide)⟩
  ·have d1:((in_ s.insts (nF n 0 - 1).toNat).halted==is)=false:=by simpa using hx
   rw[if_neg hx]
   refine enter [.tmp 4] Tryz.func164 rfl Tryz.ntmps164 rfl rfl ?_
   repeat' (first|refine yT ?_|(refine' y30 zCp ?_ ?_;rotate_left;exact hin _ _ (H.all hF) (zh hC hLt hN);refine w2 H ?_;clear H;intro w H)|refine yU ?_|fail)
   replace H:=H.perm zGM
   repeat' (first|refine yT ?_|refine x44 sg hsI (z7 H) ?_|(refine OX.storeX sg (v:=.bool is) (vs:=[.bool is]) H rfl rfl rfl rfl rfl rfl rfl Up.here (by simp only[List.length_singleton];omega) (zAU rfl) ?_;clear H;intro w H)|refine yU ?_|with_reducible apply zB|(refine y23 ?_ ?_;all_goals(intro h;try (exfalso;first|((exact absurd h (by decide));done)|((cases d1.symm.trans h);done))))|fail)
   have O2:=zSb (g:=g) (x:=⟨(in_ s.insts (nF n 0 - 1).toNat).name,(in_ s.insts (nF n 0 - 1).toNat).tick,is⟩) (vs:=[.bool is]) (f:=2) hk hE (Nat.le_refl 3) rfl hcap hcm hcl
   rw[← hA] at O2
   simp only[Nat.zero_add] at H
   replace H:=H.perm zGM.symm
   obtain⟨M9,H9,hR9⟩:=zOS H O2 List.length_set hC (List.Subset.refl _)
   exact zS (M:=M9) rfl H9 hR9
 ·have e:zCJ s p (nF n 0)=none:=by unfold zCJ;rw[if_neg hh]
  rw[e] at hin
  rw[if_neg hh]
  refine enter [.tmp 4] Tryz.func164 rfl Tryz.ntmps164 rfl rfl ?_
  repeat' (first|refine yT ?_|(refine' y30 zCp ?_ ?_;rotate_left;exact hin _ _ (H.all hF) (zh hC hLt hN);refine w2 H ?_;clear H;intro w H)|refine yU ?_|with_reducible apply zB|fail)
  exact zS (M:=_) rfl H ⟨rfl,fun h=>absurd h (show(5:Int)≠0 by decide)⟩
theorem zSe {w0 w:World}(hl:1≤n.length)(hb0:1≤nF n 0∧nF n 0≤1000)(hLt:LtS s)(H:St w0 (mkL bm (mkc s p n na nc t) Ma Mi Mu R) w)(hC:Cps s p Ma Mi Mu R)(hF:Mem w0 F)(hN:Ints F na nc n) :
  Calls Tryz.prog 116 [.pointer (some ⟨bm,0,none⟩)].toArray w (zi (zBw bm n na nc t (zF8 s n true)) w0):=by
 refine enter [.tmp 2] Tryz.func116 rfl Tryz.ntmps116 rfl rfl ?_
 repeat' (first|refine yT ?_|(refine za rfl rfl (En.fn zQj rfl rfl) (zSd true hl hb0 hLt H hC hF hN) ?_;rintro _ _ w ⟨rfl,hR2⟩ H2;clear H;have H:=H2;clear H2)|refine yU ?_|fail)
 exact zS (M:=_) rfl H ⟨rfl,hR2⟩
theorem zPx {w0 w:World}(hl:1≤n.length)(hb0:1≤nF n 0∧nF n 0≤1000)(hLt:LtS s)(H:St w0 (mkL bm (mkc s p n na nc t) Ma Mi Mu R) w)(hC:Cps s p Ma Mi Mu R)(hF:Mem w0 F)(hN:Ints F na nc n) :
  Calls Tryz.prog 117 [.pointer (some ⟨bm,0,none⟩)].toArray w (zi (zBw bm n na nc t (zF8 s n false)) w0):=by
 refine enter [.tmp 2] Tryz.func117 rfl Tryz.ntmps117 rfl rfl ?_
 repeat' (first|refine yT ?_|(refine za rfl rfl (En.fn zQj rfl rfl) (zSd false hl hb0 hLt H hC hF hN) ?_;rintro _ _ w ⟨rfl,hR2⟩ H2;clear H;have H:=H2;clear H2)|refine yU ?_|fail)
 exact zS (M:=_) rfl H ⟨rfl,hR2⟩
end
end Go.Proofs.YthbflajpdhgfiaaGreatDoor
