/- Texts of ours, joined: the steps of the proof, or the claim's theorem. -/
import Derived.Test.YthbflajpdhgfiaaGreatDoorQd23
set_option linter.all false
set_option maxHeartbeats 16000000
namespace Go.Proofs.YthbflajpdhgfiaaGreatDoor
section
open Go Go.Sk Go.RowKit
attribute [local irreducible] Go.Calls
section
variable {F G:zC}{bm:Nat}{s:Sta}{p:SPt}{n:List Int}{na:Option Addr}{nc:Nat}{t:ByteArray}{Ma Mi Mu R:zC}
theorem zP2 {w0 w:World}(hq:0≤nF n 3∧nF n 3≤1125899906842624)(hLt:LtS s)(hW:WfR s)(hl:7≤n.length)(hi:1≤nF n 2∧nF n 2≤1000)(hT:∀ j,j<s.insts.length→1≤(in_ s.insts j).tick)(hno:0≤s.nextA∧s.nextA≤4611686018427387904)(H:St w0 (mkL bm (mkc s p n na nc t) Ma Mi Mu R) w)(hC:Cps s p Ma Mi Mu R)(hF:Mem w0 F)(hN:Ints F na nc n) :
  Calls Tryz.prog 126 [.pointer (some ⟨bm,0,none⟩)].toArray w (zi (zBw bm n na nc t (zEF s ⟨nF n 0,nF n 1,nF n 2,false,nF n 3,nF n 4,nF n 5,nF n 6,[]⟩)) w0):=by
 obtain⟨hn2,hc2,b2,off2,cs2,T2,fr2,hs2⟩:=id hN
 have hs2F:=hs2.mono (List.subset_cons_self (cb bm (mkc s p n na nc t) 141) F)
 refine enter [.tmp 2] Tryz.func126 rfl Tryz.ntmps126 rfl rfl ?_
 repeat' (first|refine yT ?_|(refine' y30 zAt ?_ ?_;rotate_left;exact zAw 1 qO _ (H.all hF) (zh hC hLt hN);refine w2 H ?_;clear H;intro w H)|(refine CW.regionL mixed 42 (z6s (x:=cb bm (mkc s p n na nc t) 141) H hF) [40,41] ?_ ?_;exact rfl;refine w2 H ?_;clear H;intro w H;have qh:=z6s (x:=cb bm (mkc s p n na nc t) 141) H hF;refine lT sg 0 qh ?_;refine lT sg 1 qh ?_;refine lT sg 2 qh ?_;refine lT sg 3 qh ?_;refine' l1 4 qh ?_ ?_;rotate_left;(exact z3 sg);refine' l1 5 qh ?_ ?_;rotate_left;(exact(zQ sg hs2));refine' l1 6 qh ?_ ?_;rotate_left;(exact(zK sg hs2F (show 0<n.length by omega)));refine lT sg 7 qh ?_;refine lT sg 9 qh ?_;refine lT sg 10 qh ?_;refine lT sg 11 qh ?_;refine' l1 12 qh ?_ ?_;rotate_left;(exact z3 sg);refine' l1 13 qh ?_ ?_;rotate_left;(exact(zQ sg hs2));refine' l1 14 qh ?_ ?_;rotate_left;(exact(zK sg hs2F (show 2<n.length by omega)));refine lT sg 15 qh ?_;refine lT sg 16 qh ?_;refine lT sg 17 qh ?_;refine' l1 18 qh ?_ ?_;rotate_left;(exact z3 sg);refine' l1 19 qh ?_ ?_;rotate_left;(exact(zQ sg hs2));refine' l1 20 qh ?_ ?_;rotate_left;(exact(zK sg hs2F (show 3<n.length by omega)));refine lT sg 21 qh ?_;refine lT sg 22 qh ?_;refine lT sg 23 qh ?_;refine' l1 24 qh ?_ ?_;rotate_left;(exact z3 sg);refine' l1 25 qh ?_ ?_;rotate_left;(exact(zQ sg hs2));refine' l1 26 qh ?_ ?_;rotate_left;(exact(zK sg hs2F (show 4<n.length by omega)));refine lT sg 27 qh ?_;refine lT sg 28 qh ?_;refine lT sg 29 qh ?_;refine' l1 30 qh ?_ ?_;rotate_left;(exact z3 sg);refine' l1 31 qh ?_ ?_;rotate_left;(exact(zQ sg hs2));refine' l1 32 qh ?_ ?_;rotate_left;(exact(zK sg hs2F (show 5<n.length by omega)));refine lT sg 33 qh ?_;refine lT sg 34 qh ?_;refine lT sg 35 qh ?_;refine' l1 36 qh ?_ ?_;rotate_left;(exact z3 sg);refine' l1 37 qh ?_ ?_;rotate_left;(exact(zQ sg hs2));refine' l1 38 qh ?_ ?_;rotate_left;(exact(zK sg hs2F (show 6<n.length by omega))))|((with_reducible apply RL.nil);decide +kernel)|refine l3 40 ?_|refine l3 41 ?_|refine l2 8 ?_|refine l2 39 ?_|(refine l5 (z6s H hF) ?_)|(refine za rfl rfl (En.fn zQl rfl rfl) (zOY ⟨nF n 0,nF n 1,nF n 2,false,nF n 3,nF n 4,nF n 5,nF n 6,[]⟩ rfl rfl rfl hq hLt hW qO hi hT hno H hC hF hN) ?_;rintro _ _ w ⟨rfl,hR2⟩ H2;clear H;have H:=H2;clear H2)|refine yU ?_|fail)
 exact zS (M:=_) rfl H ⟨rfl,hR2⟩
theorem zSn {w0 w:World}(hq:0≤nF n 3∧nF n 3≤1125899906842624)(hLt:LtS s)(hW:WfR s)(hl:6≤n.length)(hi:1≤nF n 2∧nF n 2≤1000)(hT:∀ j,j<s.insts.length→1≤(in_ s.insts j).tick)(hno:0≤s.nextA∧s.nextA≤4611686018427387904)(H:St w0 (mkL bm (mkc s p n na nc t) Ma Mi Mu R) w)(hC:Cps s p Ma Mi Mu R)(hF:Mem w0 F)(hN:Ints F na nc n) :
  Calls Tryz.prog 128 [.pointer (some ⟨bm,0,none⟩)].toArray w (zi (zBw bm n na nc t (zEF s ⟨nF n 0,nF n 1,nF n 2,true,nF n 3,nF n 4,0,nF n 5,[]⟩)) w0):=by
 obtain⟨hn2,hc2,b2,off2,cs2,T2,fr2,hs2⟩:=id hN
 have hs2F:=hs2.mono (List.subset_cons_self (cb bm (mkc s p n na nc t) 141) F)
 refine enter [.tmp 2] Tryz.func128 rfl Tryz.ntmps128 rfl rfl ?_
 repeat' (first|refine yT ?_|(refine' y30 zAt ?_ ?_;rotate_left;exact zAw 1 qO _ (H.all hF) (zh hC hLt hN);refine w2 H ?_;clear H;intro w H)|(refine CW.regionL mixed 36 (z6s (x:=cb bm (mkc s p n na nc t) 141) H hF) [34,35] ?_ ?_;exact rfl;refine w2 H ?_;clear H;intro w H;have qh:=z6s (x:=cb bm (mkc s p n na nc t) 141) H hF;refine lT sg 0 qh ?_;refine lT sg 1 qh ?_;refine lT sg 2 qh ?_;refine lT sg 3 qh ?_;refine' l1 4 qh ?_ ?_;rotate_left;(exact z3 sg);refine' l1 5 qh ?_ ?_;rotate_left;(exact(zQ sg hs2));refine' l1 6 qh ?_ ?_;rotate_left;(exact(zK sg hs2F (show 0<n.length by omega)));refine lT sg 7 qh ?_;refine lT sg 9 qh ?_;refine lT sg 10 qh ?_;refine lT sg 11 qh ?_;refine' l1 12 qh ?_ ?_;rotate_left;(exact z3 sg);refine' l1 13 qh ?_ ?_;rotate_left;(exact(zQ sg hs2));refine' l1 14 qh ?_ ?_;rotate_left;(exact(zK sg hs2F (show 2<n.length by omega)));refine lT sg 15 qh ?_;refine lT sg 16 qh ?_;refine lT sg 17 qh ?_;refine' l1 18 qh ?_ ?_;rotate_left;(exact z3 sg);refine' l1 19 qh ?_ ?_;rotate_left;(exact(zQ sg hs2));refine' l1 20 qh ?_ ?_;rotate_left;(exact(zK sg hs2F (show 3<n.length by omega)));refine lT sg 21 qh ?_;refine lT sg 22 qh ?_;refine lT sg 23 qh ?_;refine' l1 24 qh ?_ ?_;rotate_left;(exact z3 sg);refine' l1 25 qh ?_ ?_;rotate_left;(exact(zQ sg hs2));refine' l1 26 qh ?_ ?_;rotate_left;(exact(zK sg hs2F (show 4<n.length by omega)));refine lT sg 27 qh ?_;refine lT sg 28 qh ?_;refine lT sg 29 qh ?_;refine' l1 30 qh ?_ ?_;rotate_left;(exact z3 sg);refine' l1 31 qh ?_ ?_;rotate_left;(exact(zQ sg hs2));refine' l1 32 qh ?_ ?_;rotate_left;(exact(zK sg hs2F (show 5<n.length by omega))))|((with_reducible apply RL.nil);decide +kernel)|refine l3 34 ?_|refine l3 35 ?_|refine l2 8 ?_|refine l2 33 ?_|(refine l5 (z6s H hF) ?_)|(refine za rfl rfl (En.fn zQl rfl rfl) (zOY ⟨nF n 0,nF n 1,nF n 2,true,nF n 3,nF n 4,0,nF n 5,[]⟩ rfl rfl rfl hq hLt hW qO hi hT hno H hC hF hN) ?_;rintro _ _ w ⟨rfl,hR2⟩ H2;clear H;have H:=H2;clear H2)|refine yU ?_|fail)
 exact zS (M:=_) rfl H ⟨rfl,hR2⟩
end
end
section
open Go Go.Sk Go.RowKit
attribute [local irreducible] Go.Calls
section
variable {F G:zC}{bm:Nat}{s:Sta}{p:SPt}{n:List Int}{na:Option Addr}{nc:Nat}{t:ByteArray}{Ma Mi Mu R:zC}
theorem zNH (x:Auc)(a:Option Addr)(cap:Nat)(b1:Nat){T1:TypeId}(hi:0<n.length)(w0:World)(hG:Mem w0 G)(hm:cb b1 [Value.pointer (some ⟨bm,0,none⟩)] T1∈G)(hM:Mkt G bm s p n na nc t) :
  Calls Tryz.prog 213 [.agg (x.cells a cap).toArray,.pointer (some ⟨b1,0,none⟩)].toArray w0 (Ret (.bool (x.id==nF n 0)) w0):=by
 obtain⟨hn2,hc2,b2,off2,cs2,T2,fr2,hs2⟩:=hM.num
 refine enter [.tmp 3] Tryz.func213 rfl Tryz.ntmps213 rfl rfl ?_
 have H:=zA w0
 repeat' (first|refine yT ?_|(refine y9 H ?_;intro b w H)|(refine CW.regionL mixed 10 (z6s (x:=cb _ (x.cells a cap) 67) H hG) [] ?_ ?_;exact rfl;refine w2 H ?_;clear H;intro w H;have qh:=z6s (x:=cb _ (x.cells a cap) 67) H hG;refine lT sg 0 qh ?_;refine' l1 1 qh ?_ ?_;rotate_left;(exact z3 sg);refine' l1 2 qh ?_ ?_;rotate_left;(exact(fun w2 hM2=>zH sg rfl rfl hM2 (zz4 _ hm) rfl rfl));refine lT sg 3 qh ?_;refine lT sg 4 qh ?_;refine' l1 5 qh ?_ ?_;rotate_left;(exact(fun w2 hM2=>zH sg rfl rfl hM2 (zz4 _ hM.blk) rfl rfl));refine' l1 6 qh ?_ ?_;rotate_left;(exact(zQ sg hs2));refine' l1 7 qh ?_ ?_;rotate_left;(exact(zK sg (hs2.mono (List.subset_cons_self _ G)) hi));refine lT sg 8 qh ?_;refine lT sg 9 qh ?_)|((with_reducible apply RL.nil);decide +kernel)|refine yU ?_|fail)
 exact zP rfl H.cl rfl
theorem zGn (hi:0<n.length)(hl:s.aucs.length≤100000)(w0:World)(hG:Mem w0 G)(hM:Mkt G bm s p n na nc t) :
  Calls Tryz.prog 177 [.pointer (some ⟨bm,0,none⟩)].toArray w0 (Ret (.int .i64 (zAV s (nF n 0))) w0):=by
 refine enter [.tmp 2] Tryz.func177 rfl Tryz.ntmps177 rfl rfl ?_
 have H:=zA w0
 have hix:=fun w (b:Nat) (hG':Mem w (cb b [Value.pointer (some ⟨bm,0,none⟩)] 139::G))=>zD2 (caps:=[.pointer (some ⟨b,0,none⟩)]) (fun j=>(s.aucs.getD j default).id==nF n 0) w hG' (SlA.mono hM.sta.au.1 (List.subset_cons_self _ G)) ent213 (fun j hj w' hw=>zNH (s.aucs.getD j default) _ _ b hi w' (hG'.ext hw) (zz2 _) ⟨zz4 _ hM.blk,hM.sta.mono (List.subset_cons_self _ G),SlA.mono hM.num (List.subset_cons_self _ G)⟩)
 repeat' (first|refine yT ?_|refine y7 sg H ?_|(refine y9 H ?_;intro b w H)|refine z13 (zH sg rfl rfl (H.memF hG) hM.blk rfl rfl) ?_|(refine' y30 zKt ?_ ?_;rotate_left;exact hix _ _ (H.all hG);refine w2 H ?_;clear H;intro w H)|refine yU ?_|fail)
 exact zP rfl H.cl rfl
end
end
end Go.Proofs.YthbflajpdhgfiaaGreatDoor
