/- Texts of ours, joined: the steps of the proof, or the claim's theorem. -/
import Derived.Test.YthbflajpdhgfiaaGreatDoorQd15
import Derived.Test.YthbflajpdhgfiaaGreatDoorQd21
set_option linter.all false
set_option maxHeartbeats 16000000
namespace Go.Proofs.YthbflajpdhgfiaaGreatDoor
open Go Go.Sk Go.RowKit
attribute [local irreducible] Go.Calls
section
variable {F G:zC}{bm:Nat}{s:Sta}{p:SPt}{n:List Int}{na:Option Addr}{nc:Nat}{t:ByteArray}{Ma Mi Mu R:zC}
theorem zOV {l:List Auc}{clock:Int}{r:List Auc}(h:IsRow l clock r)(hm:zAJ l=true):decide ((r.length:Int)>0)=l.any (fun a=>zAA a clock):=by
 rcases h with ⟨_,_,h2⟩|⟨h0,_⟩
 ·rw[Bool.eq_iff_iff,decide_eq_true_iff,List.any_eq_true,h2.length_eq]
  constructor
  ·intro g
   have:0<(l.filter fun x=>zAA x clock).length:=by omega
   obtain⟨x,hx⟩:=List.exists_mem_of_length_pos this
   exact⟨x,(List.mem_filter.1 hx).1,(List.mem_filter.1 hx).2⟩
  ·rintro⟨x,hx,hd⟩
   have:=List.length_pos_of_mem (List.mem_filter (p:=fun x=>zAA x clock).2 ⟨hx,hd⟩)
   omega
 ·rw[hm] at h0;cases h0
theorem zUX {w0 w:World}(hm:zAJ s.aucs=true)(hLt:LtS s)(hl:1≤n.length)(H:St w0 (mkL bm (mkc s p n na nc t) Ma Mi Mu R) w)(hC:Cps s p Ma Mi Mu R)(hF:Mem w0 F)(hN:Ints F na nc n) :
  Calls Tryz.prog 132 [.pointer (some ⟨bm,0,none⟩)].toArray w (zi (zBw bm n na nc t (zEq s n)) w0):=by
 obtain⟨hn2,hc2,b2,off2,cs2,T2,fr2,hs2⟩:=id hN
 have hs2F:=hs2.mono (List.subset_cons_self (cb bm (mkc s p n na nc t) 141) F)
 unfold zEq
 by_cases h0:nF n 0≤s.clock
 ·have d0:decide (nF n 0≤s.clock)=true:=decide_eq_true h0
  rw[if_pos (.inl h0)]
  refine enter [.tmp 2] Tryz.func132 rfl Tryz.ntmps132 rfl rfl ?_
  repeat' (first|refine yT ?_|(refine CW.regionL mixed 27 (z6s (x:=cb bm (mkc s p n na nc t) 141) H hF) [] ?_ ?_;exact rfl;refine w2 H ?_;clear H;intro w H)|((with_reducible apply RL.nil);decide +kernel)|refine lT sg 0 (z6s H hF) ?_|refine lT sg 1 (z6s H hF) ?_|refine lT sg 2 (z6s H hF) ?_|(refine' l1 3 (z6s H hF) ?_ ?_;rotate_left;exact z3 sg)|(refine' l1 4 (z6s H hF) ?_ ?_;rotate_left;exact(zQ sg hs2))|(refine' l1 5 (z6s H hF) ?_ ?_;rotate_left;exact(zK sg hs2F (show 0<n.length by omega)))|refine lT sg 6 (z6s H hF) ?_|refine lT sg 7 (z6s H hF) ?_|refine lT sg 8 (z6s H hF) ?_|refine lT sg 9 (z6s H hF) ?_|(refine' l1 10 (z6s H hF) ?_ ?_;rotate_left;exact z3 sg)|refine lT sg 12 (z6s H hF) ?_|(refine l8 13 (z6s H hF) ?_)|(refine l8 14 (z6s H hF) ?_)|(refine l8 15 (z6s H hF) ?_)|(refine l8 16 (z6s H hF) ?_)|(refine l8 17 (z6s H hF) ?_)|(refine l8 18 (z6s H hF) ?_)|(refine l8 19 (z6s H hF) ?_)|(refine l8 20 (z6s H hF) ?_)|(refine l8 21 (z6s H hF) ?_)|(refine l8 22 (z6s H hF) ?_)|(refine' l1 11 (z6s H hF) ?_ ?_;rotate_left;(intro w2 _;refine' zB9 sg ?_ w2;exact congrArg (fun x=>some (Value.bool x)) d0))|refine l2 23 ?_|refine l2 24 ?_|refine l2 25 ?_|refine l2 26 ?_|(refine l5 (z6s H hF) ?_)|refine yU ?_|fail)
  exact zS (M:=_) rfl H ⟨rfl,fun h=>absurd h (show(46:Int)≠0 by decide)⟩
 ·have d0:decide (nF n 0≤s.clock)=false:=decide_eq_false h0
  cases h1:s.aucs.any (fun a=>zAA a s.clock) with
  | true =>
    rw[if_pos (.inr rfl)]
    refine enter [.tmp 2] Tryz.func132 rfl Tryz.ntmps132 rfl rfl ?_
    repeat' (first|refine yT ?_|(refine CW.regionL mixed 27 (z6s (x:=cb bm (mkc s p n na nc t) 141) H hF) [] ?_ ?_;exact rfl;refine w2 H ?_;clear H;intro w H)|((with_reducible apply RL.nil);decide +kernel)|refine lT sg 0 (z6s H hF) ?_|refine lT sg 1 (z6s H hF) ?_|refine lT sg 2 (z6s H hF) ?_|(refine' l1 3 (z6s H hF) ?_ ?_;rotate_left;exact z3 sg)|(refine' l1 4 (z6s H hF) ?_ ?_;rotate_left;exact(zQ sg hs2))|(refine' l1 5 (z6s H hF) ?_ ?_;rotate_left;exact(zK sg hs2F (show 0<n.length by omega)))|refine lT sg 6 (z6s H hF) ?_|refine lT sg 7 (z6s H hF) ?_|refine lT sg 8 (z6s H hF) ?_|refine lT sg 9 (z6s H hF) ?_|(refine' l1 10 (z6s H hF) ?_ ?_;rotate_left;exact z3 sg)|refine lT sg 12 (z6s H hF) ?_|(refine' l7 13 (z6s H hF) ?_ ?_;rotate_left;exact z4 sg)|(refine' l7 14 (z6s H hF) ?_ ?_;rotate_left;exact z4 sg)|(refine' l7 15 (z6s H hF) ?_ ?_;rotate_left;exact z4 sg)|(refine' l7 16 (z6s H hF) ?_ ?_;rotate_left;exact z4 sg)|(refine' l7 17 (z6s H hF) ?_ ?_;rotate_left;exact z3 sg)|(refine' l7 18 (z6s H hF) ?_ ?_;rotate_left;exact z4 sg)|(refine' l7 19 (z6s H hF) ?_ ?_;rotate_left;exact z4 sg)|(refine' l7 20 (z6s H hF) ?_ ?_;rotate_left;exact z4 sg)|(refine' l7 21 (z6s H hF) ?_ ?_;rotate_left;exact z4 sg)|(refine' l7 22 (z6s H hF) ?_ ?_;rotate_left;exact z3 sg)|(refine' l1 11 (z6s H hF) ?_ ?_;rotate_left;(intro w2 _;refine' zB9 sg ?_ w2;exact congrArg (fun x=>some (Value.bool x)) d0))|refine l2 23 ?_|refine l2 24 ?_|refine l2 25 ?_|refine l2 26 ?_|(refine l5 (z6s H hF) ?_)|(refine' y32 zNf ?_ ?_;rotate_left;exact zKS s.aucs p.ad s.clock _ (H.all hF) (zh hC hLt hN).sta.au;intro v M w hR hS;replace H:=H.addR hS;clear hS;(try simp only[List.cons_append,List.nil_append] at H);obtain⟨r,a',cap',hr,rfl,hO⟩:=hR)|refine yU ?_|fail)
    refine CW.condT (congrArg Value.bool ((zOV hr hm).trans h1)) ?_
    repeat' (first|refine yT ?_|refine yU ?_|fail)
    exact zS (M:=_) rfl H ⟨rfl,fun h=>absurd h (show(46:Int)≠0 by decide)⟩
  | false =>
    rw[if_neg (by rintro(g|g);exact h0 g;cases g)]
    refine enter [.tmp 2] Tryz.func132 rfl Tryz.ntmps132 rfl rfl ?_
    repeat' (first|refine yT ?_|(refine CW.regionL mixed 27 (z6s (x:=cb bm (mkc s p n na nc t) 141) H hF) [] ?_ ?_;exact rfl;refine w2 H ?_;clear H;intro w H)|((with_reducible apply RL.nil);decide +kernel)|refine lT sg 0 (z6s H hF) ?_|refine lT sg 1 (z6s H hF) ?_|refine lT sg 2 (z6s H hF) ?_|(refine' l1 3 (z6s H hF) ?_ ?_;rotate_left;exact z3 sg)|(refine' l1 4 (z6s H hF) ?_ ?_;rotate_left;exact(zQ sg hs2))|(refine' l1 5 (z6s H hF) ?_ ?_;rotate_left;exact(zK sg hs2F (show 0<n.length by omega)))|refine lT sg 6 (z6s H hF) ?_|refine lT sg 7 (z6s H hF) ?_|refine lT sg 8 (z6s H hF) ?_|refine lT sg 9 (z6s H hF) ?_|(refine' l1 10 (z6s H hF) ?_ ?_;rotate_left;exact z3 sg)|refine lT sg 12 (z6s H hF) ?_|(refine' l7 13 (z6s H hF) ?_ ?_;rotate_left;exact z4 sg)|(refine' l7 14 (z6s H hF) ?_ ?_;rotate_left;exact z4 sg)|(refine' l7 15 (z6s H hF) ?_ ?_;rotate_left;exact z4 sg)|(refine' l7 16 (z6s H hF) ?_ ?_;rotate_left;exact z4 sg)|(refine' l7 17 (z6s H hF) ?_ ?_;rotate_left;exact z3 sg)|(refine' l7 18 (z6s H hF) ?_ ?_;rotate_left;exact z4 sg)|(refine' l7 19 (z6s H hF) ?_ ?_;rotate_left;exact z4 sg)|(refine' l7 20 (z6s H hF) ?_ ?_;rotate_left;exact z4 sg)|(refine' l7 21 (z6s H hF) ?_ ?_;rotate_left;exact z4 sg)|(refine' l7 22 (z6s H hF) ?_ ?_;rotate_left;exact z3 sg)|(refine' l1 11 (z6s H hF) ?_ ?_;rotate_left;(intro w2 _;refine' zB9 sg ?_ w2;exact congrArg (fun x=>some (Value.bool x)) d0))|refine l2 23 ?_|refine l2 24 ?_|refine l2 25 ?_|refine l2 26 ?_|(refine l5 (z6s H hF) ?_)|(refine' y32 zNf ?_ ?_;rotate_left;exact zKS s.aucs p.ad s.clock _ (H.all hF) (zh hC hLt hN).sta.au;intro v M w hR hS;replace H:=H.addR hS;clear hS;(try simp only[List.cons_append,List.nil_append] at H);obtain⟨r,a',cap',hr,rfl,hO⟩:=hR)|refine yU ?_|fail)
    refine CW.condF (congrArg Value.bool ((zOV hr hm).trans h1)) ?_
    clear hO hr
    replace H:=H.sub (List.Sublist.cons_cons _ (List.sublist_append_left _ M))
    repeat' (first|refine yT ?_|refine y7 sg H ?_|(refine y11 sg H ?_;intro w H)|refine x40 sg hs2 ?_|refine z13 (Yq.loadB1 sg hs2 (H.memF hF) rfl rfl rfl rfl (show 0<n.length by omega) rfl) ?_|refine yU ?_|fail)
    exact zS (M:=mkL bm (mkc { s with clock:=nF n 0 } p n na nc t) Ma Mi Mu R) rfl H ⟨rfl,fun _=>⟨p,Ma,Mi,Mu,R,rfl,hC.ac,hC.ins,hC.rw,hC.od,hC.au,hC.bd⟩⟩
theorem zNG (i k:Nat)(hi:i<n.length)(hk:k<n.length)(h1:1≤nF n k∧nF n k≤1000)(hT:∀ j,j<s.insts.length→1≤(in_ s.insts j).tick)(pr:Int)(hp:0≤pr∧pr≤4611686018427387904)(many:Bool)(w0:World)(hG:Mem w0 G)(hM:Mkt G bm s p n na nc t) :
  Calls Tryz.prog 167 [.pointer (some ⟨bm,0,none⟩),.int .i64 (i:Int),.int .i64 (k:Int),.int .i64 pr,.bool many].toArray w0 (Ret (.int .i64 (zAR s (nF n i) (nF n k) pr many)) w0):=by
 have ha:=fun w (b:Nat) (F:zC) (hF:Mem w F) (hm:cb b [Value.int .i64 (i:Int)] 3∈F) (hG:Mem w G)=>zCZ (T:=3) i hi w hF hm hG hM
 have hb:=fun w (hG:Mem w G)=>zKO k hk h1 w hG hM
 unfold zAR
 cases ho:zAG s (nF n i) with
 | false =>
   rw[ho] at ha
   rw[if_neg (by rintro⟨g,_⟩;cases g)]
   refine enter [.tmp 10] Tryz.func167 rfl Tryz.ntmps167 rfl rfl ?_
   have H:=zA w0
   repeat' (first|refine yT ?_|(refine z14 sg H ?_;intro b w H)|(refine' y30 zAu ?_ ?_;rotate_left;exact ha _ _ _ (H.mem) (zz2 _) (H.memF hG);refine w2 H ?_;clear H;intro w H)|(refine' y30 zCp ?_ ?_;rotate_left;exact hb _ (H.memF hG);refine w2 H ?_;clear H;intro w H)|refine yU ?_|with_reducible apply zB|fail)
   exact zP rfl H.cl rfl
 | true =>
   rw[ho] at ha
   cases hh:zBD s (nF n k) with
   | false =>
     have e:zCJ s p (nF n k)=none:=by unfold zCJ;rw[hh];rfl
     rw[e] at hb
     rw[if_neg (by rintro⟨_,g⟩;cases g)]
     refine enter [.tmp 10] Tryz.func167 rfl Tryz.ntmps167 rfl rfl ?_
     have H:=zA w0
     repeat' (first|refine yT ?_|(refine z14 sg H ?_;intro b w H)|(refine' y30 zAu ?_ ?_;rotate_left;exact ha _ _ _ (H.mem) (zz2 _) (H.memF hG);refine w2 H ?_;clear H;intro w H)|(refine' y30 zCp ?_ ?_;rotate_left;exact hb _ (H.memF hG);refine w2 H ?_;clear H;intro w H)|refine yU ?_|with_reducible apply zB|fail)
     exact zP rfl H.cl rfl
   | true =>
     have hle:=zAe.1 hh
     have hj:(nF n k - 1).toNat<s.insts.length:=by omega
     have hT1:=hT _ hj
     obtain⟨hn3,hc3,b3,off3,cs3,T3,fr3,hs3⟩:=hM.sta.ins
     have e:zCJ s p (nF n k)=some ⟨b3,off3+(nF n k - 1).toNat*3,none⟩:=by unfold zCJ;rw[if_pos hh,(hs3 qO).1,Option.map_some,zAC]
     rw[e] at hb
     rw[if_pos ⟨rfl,rfl⟩]
     refine enter [.tmp 10] Tryz.func167 rfl Tryz.ntmps167 rfl rfl ?_
     have H:=zA w0
     repeat' (first|refine yT ?_|(refine z14 sg H ?_;intro b w H)|(refine' y30 zAu ?_ ?_;rotate_left;exact ha _ _ _ (H.mem) (zz2 _) (H.memF hG);refine w2 H ?_;clear H;intro w H)|(refine' y30 zCp ?_ ?_;rotate_left;exact hb _ (H.memF hG);refine w2 H ?_;clear H;intro w H)|refine x44 sg hs3 (H.memF hG) ?_|refine z13 (Yq.rem rfl rfl rfl (show(in_ s.insts (nF n k - 1).toNat).tick≠0 by omega)) ?_|refine yU ?_|with_reducible apply zB|(refine y23 ?_ ?_;all_goals(intro h;try (exfalso;first|((exact absurd h (by decide));done))))|fail)
     all_goals
      refine zP rfl H.cl (congrArg (Value.int .i64) ?_)
      simp_all
end
end Go.Proofs.YthbflajpdhgfiaaGreatDoor
