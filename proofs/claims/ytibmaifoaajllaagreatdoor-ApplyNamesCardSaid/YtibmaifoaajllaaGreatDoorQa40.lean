/- Texts of ours, joined: the steps of the proof, or the claim's theorem. -/
import Derived.Test.YtibmaifoaajllaaGreatDoorQa36
import Derived.Test.YtibmaifoaajllaaGreatDoorQa39
set_option linter.unusedSimpArgs false
set_option linter.unusedVariables false
set_option maxHeartbeats 16000000
namespace Go.Proofs.YtibmaifoaajllaaGreatDoor
section
open Go Go.Sk Go.RowKit
attribute [local irreducible] Go.Calls
section
variable {F G:zH}{bm:Nat}{s:Sta}{p:SPt}{n:List Int}{na:Option Addr}{nc:Nat}{t:ByteArray}{Ma Mi Mu R:zH}
theorem zOI {l:List Auc}{clock:Int}{r:List Auc}(h:IsRow l clock r)(hm:zAS l=true):decide ((r.length:Int)>0)=l.any (fun a=>zA6 a clock):=by
 rcases h with ⟨_,_,h2⟩|⟨h0,_⟩
 ·rw[Bool.eq_iff_iff,decide_eq_true_iff,List.any_eq_true,h2.length_eq]
  constructor
  ·intro g
   have:0<(l.filter fun x=>zA6 x clock).length:=by omega
   obtain⟨x,hx⟩:=List.exists_mem_of_length_pos this
   exact⟨x,(List.mem_filter.1 hx).1,(List.mem_filter.1 hx).2⟩
  ·rintro⟨x,hx,hd⟩
   have:=List.length_pos_of_mem (List.mem_filter (p:=fun x=>zA6 x clock).2 ⟨hx,hd⟩)
   omega
 ·rw[hm] at h0;cases h0
theorem zUG {w0 w:World}(hm:zAS s.aucs=true)(hLt:LtS s)(hl:1≤n.length)(H:St w0 (mkL bm (mkc s p n na nc t) Ma Mi Mu R) w)(hC:Cps s p Ma Mi Mu R)(hF:Mem w0 F)(hN:Ints F na nc n) :
  Calls Tryz.prog 113 [.pointer (some ⟨bm,0,none⟩)].toArray w (zn (zB3 bm n na nc t (zEs s n)) w0):=by
 obtain⟨hn2,hc2,b2,off2,cs2,T2,fr2,hs2⟩:=id hN
 have hs2F:=hs2.mono (List.subset_cons_self (cb bm (mkc s p n na nc t) 95) F)
 unfold zEs
 by_cases h0:nF n 0≤s.clock
 ·have d0:decide (nF n 0≤s.clock)=true:=decide_eq_true h0
  rw[if_pos (.inl h0)]
  refine enter [.tmp 2] Tryz.func113 rfl Tryz.ntmps113 rfl rfl ?_
  repeat' (first|refine yT ?_|(refine CW.regionL mixed 27 (z6s (x:=cb bm (mkc s p n na nc t) 95) H hF) [] ?_ ?_;exact rfl;intro w hcl;replace H:=H.ext hcl;clear hcl)|((with_reducible apply RL.nil);decide +kernel)|(refine' l1 0 (z6s (x:=cb bm (mkc s p n na nc t) 95) H hF) ?_ ?_;rotate_left;first|exact z4 sg|exact z3 sg|exact(fun w2 _=>zF sg hs2 rfl rfl rfl rfl rfl rfl rfl (by first|with_reducible exact zz1 _|exact zD (by omega) (by omega)|with_reducible exact zI|exact zC _) (by omega) (by omega))|exact(fun w2 hM2=>Yq.loadB1 sg hs2F hM2 rfl rfl rfl rfl (show 0<n.length by omega) rfl))|(refine' l1 1 (z6s (x:=cb bm (mkc s p n na nc t) 95) H hF) ?_ ?_;rotate_left;first|exact z4 sg|exact z3 sg|exact(fun w2 _=>zF sg hs2 rfl rfl rfl rfl rfl rfl rfl (by first|with_reducible exact zz1 _|exact zD (by omega) (by omega)|with_reducible exact zI|exact zC _) (by omega) (by omega))|exact(fun w2 hM2=>Yq.loadB1 sg hs2F hM2 rfl rfl rfl rfl (show 0<n.length by omega) rfl))|(refine' l1 2 (z6s (x:=cb bm (mkc s p n na nc t) 95) H hF) ?_ ?_;rotate_left;first|exact z4 sg|exact z3 sg|exact(fun w2 _=>zF sg hs2 rfl rfl rfl rfl rfl rfl rfl (by first|with_reducible exact zz1 _|exact zD (by omega) (by omega)|with_reducible exact zI|exact zC _) (by omega) (by omega))|exact(fun w2 hM2=>Yq.loadB1 sg hs2F hM2 rfl rfl rfl rfl (show 0<n.length by omega) rfl))|(refine' l1 3 (z6s (x:=cb bm (mkc s p n na nc t) 95) H hF) ?_ ?_;rotate_left;first|exact z4 sg|exact z3 sg|exact(fun w2 _=>zF sg hs2 rfl rfl rfl rfl rfl rfl rfl (by first|with_reducible exact zz1 _|exact zD (by omega) (by omega)|with_reducible exact zI|exact zC _) (by omega) (by omega))|exact(fun w2 hM2=>Yq.loadB1 sg hs2F hM2 rfl rfl rfl rfl (show 0<n.length by omega) rfl))|(refine' l1 4 (z6s (x:=cb bm (mkc s p n na nc t) 95) H hF) ?_ ?_;rotate_left;first|exact z4 sg|exact z3 sg|exact(fun w2 _=>zF sg hs2 rfl rfl rfl rfl rfl rfl rfl (by first|with_reducible exact zz1 _|exact zD (by omega) (by omega)|with_reducible exact zI|exact zC _) (by omega) (by omega))|exact(fun w2 hM2=>Yq.loadB1 sg hs2F hM2 rfl rfl rfl rfl (show 0<n.length by omega) rfl))|(refine' l1 5 (z6s (x:=cb bm (mkc s p n na nc t) 95) H hF) ?_ ?_;rotate_left;first|exact z4 sg|exact z3 sg|exact(fun w2 _=>zF sg hs2 rfl rfl rfl rfl rfl rfl rfl (by first|with_reducible exact zz1 _|exact zD (by omega) (by omega)|with_reducible exact zI|exact zC _) (by omega) (by omega))|exact(fun w2 hM2=>Yq.loadB1 sg hs2F hM2 rfl rfl rfl rfl (show 0<n.length by omega) rfl))|(refine' l1 6 (z6s (x:=cb bm (mkc s p n na nc t) 95) H hF) ?_ ?_;rotate_left;first|exact z4 sg|exact z3 sg|exact(fun w2 _=>zF sg hs2 rfl rfl rfl rfl rfl rfl rfl (by first|with_reducible exact zz1 _|exact zD (by omega) (by omega)|with_reducible exact zI|exact zC _) (by omega) (by omega))|exact(fun w2 hM2=>Yq.loadB1 sg hs2F hM2 rfl rfl rfl rfl (show 0<n.length by omega) rfl))|(refine' l1 7 (z6s (x:=cb bm (mkc s p n na nc t) 95) H hF) ?_ ?_;rotate_left;first|exact z4 sg|exact z3 sg|exact(fun w2 _=>zF sg hs2 rfl rfl rfl rfl rfl rfl rfl (by first|with_reducible exact zz1 _|exact zD (by omega) (by omega)|with_reducible exact zI|exact zC _) (by omega) (by omega))|exact(fun w2 hM2=>Yq.loadB1 sg hs2F hM2 rfl rfl rfl rfl (show 0<n.length by omega) rfl))|(refine' l1 8 (z6s (x:=cb bm (mkc s p n na nc t) 95) H hF) ?_ ?_;rotate_left;first|exact z4 sg|exact z3 sg|exact(fun w2 _=>zF sg hs2 rfl rfl rfl rfl rfl rfl rfl (by first|with_reducible exact zz1 _|exact zD (by omega) (by omega)|with_reducible exact zI|exact zC _) (by omega) (by omega))|exact(fun w2 hM2=>Yq.loadB1 sg hs2F hM2 rfl rfl rfl rfl (show 0<n.length by omega) rfl))|(refine' l1 9 (z6s (x:=cb bm (mkc s p n na nc t) 95) H hF) ?_ ?_;rotate_left;first|exact z4 sg|exact z3 sg|exact(fun w2 _=>zF sg hs2 rfl rfl rfl rfl rfl rfl rfl (by first|with_reducible exact zz1 _|exact zD (by omega) (by omega)|with_reducible exact zI|exact zC _) (by omega) (by omega))|exact(fun w2 hM2=>Yq.loadB1 sg hs2F hM2 rfl rfl rfl rfl (show 0<n.length by omega) rfl))|(refine' l1 10 (z6s (x:=cb bm (mkc s p n na nc t) 95) H hF) ?_ ?_;rotate_left;first|exact z4 sg|exact z3 sg|exact(fun w2 _=>zF sg hs2 rfl rfl rfl rfl rfl rfl rfl (by first|with_reducible exact zz1 _|exact zD (by omega) (by omega)|with_reducible exact zI|exact zC _) (by omega) (by omega))|exact(fun w2 hM2=>Yq.loadB1 sg hs2F hM2 rfl rfl rfl rfl (show 0<n.length by omega) rfl))|(refine' l1 12 (z6s (x:=cb bm (mkc s p n na nc t) 95) H hF) ?_ ?_;rotate_left;first|exact z4 sg|exact z3 sg|exact(fun w2 _=>zF sg hs2 rfl rfl rfl rfl rfl rfl rfl (by first|with_reducible exact zz1 _|exact zD (by omega) (by omega)|with_reducible exact zI|exact zC _) (by omega) (by omega))|exact(fun w2 hM2=>Yq.loadB1 sg hs2F hM2 rfl rfl rfl rfl (show 0<n.length by omega) rfl))|(refine l8 13 (z6s (x:=cb bm (mkc s p n na nc t) 95) H hF) ?_)|(refine l8 14 (z6s (x:=cb bm (mkc s p n na nc t) 95) H hF) ?_)|(refine l8 15 (z6s (x:=cb bm (mkc s p n na nc t) 95) H hF) ?_)|(refine l8 16 (z6s (x:=cb bm (mkc s p n na nc t) 95) H hF) ?_)|(refine l8 17 (z6s (x:=cb bm (mkc s p n na nc t) 95) H hF) ?_)|(refine l8 18 (z6s (x:=cb bm (mkc s p n na nc t) 95) H hF) ?_)|(refine l8 19 (z6s (x:=cb bm (mkc s p n na nc t) 95) H hF) ?_)|(refine l8 20 (z6s (x:=cb bm (mkc s p n na nc t) 95) H hF) ?_)|(refine l8 21 (z6s (x:=cb bm (mkc s p n na nc t) 95) H hF) ?_)|(refine l8 22 (z6s (x:=cb bm (mkc s p n na nc t) 95) H hF) ?_)|(refine' l1 11 (z6s (x:=cb bm (mkc s p n na nc t) 95) H hF) ?_ ?_;rotate_left;(intro w2 _;refine' zCU sg ?_ w2;exact congrArg (fun x=>some (Value.bool x)) d0))|refine l2 23 ?_|refine l2 24 ?_|refine l2 25 ?_|refine l2 26 ?_|(refine l5 (z6s (x:=cb bm (mkc s p n na nc t) 95) H hF) ?_)|refine yU ?_|fail)
  exact zU (M:=_) rfl H ⟨rfl,fun h=>absurd h (show(46:Int)≠0 by decide)⟩
 ·have d0:decide (nF n 0≤s.clock)=false:=decide_eq_false h0
  cases h1:s.aucs.any (fun a=>zA6 a s.clock) with
  | true =>
    rw[if_pos (.inr rfl)]
    refine enter [.tmp 2] Tryz.func113 rfl Tryz.ntmps113 rfl rfl ?_
    repeat' (first|refine yT ?_|(refine CW.regionL mixed 27 (z6s (x:=cb bm (mkc s p n na nc t) 95) H hF) [] ?_ ?_;exact rfl;intro w hcl;replace H:=H.ext hcl;clear hcl)|((with_reducible apply RL.nil);decide +kernel)|(refine' l1 0 (z6s (x:=cb bm (mkc s p n na nc t) 95) H hF) ?_ ?_;rotate_left;first|exact z4 sg|exact z3 sg|exact(fun w2 _=>zF sg hs2 rfl rfl rfl rfl rfl rfl rfl (by first|with_reducible exact zz1 _|exact zD (by omega) (by omega)|with_reducible exact zI|exact zC _) (by omega) (by omega))|exact(fun w2 hM2=>Yq.loadB1 sg hs2F hM2 rfl rfl rfl rfl (show 0<n.length by omega) rfl))|(refine' l1 1 (z6s (x:=cb bm (mkc s p n na nc t) 95) H hF) ?_ ?_;rotate_left;first|exact z4 sg|exact z3 sg|exact(fun w2 _=>zF sg hs2 rfl rfl rfl rfl rfl rfl rfl (by first|with_reducible exact zz1 _|exact zD (by omega) (by omega)|with_reducible exact zI|exact zC _) (by omega) (by omega))|exact(fun w2 hM2=>Yq.loadB1 sg hs2F hM2 rfl rfl rfl rfl (show 0<n.length by omega) rfl))|(refine' l1 2 (z6s (x:=cb bm (mkc s p n na nc t) 95) H hF) ?_ ?_;rotate_left;first|exact z4 sg|exact z3 sg|exact(fun w2 _=>zF sg hs2 rfl rfl rfl rfl rfl rfl rfl (by first|with_reducible exact zz1 _|exact zD (by omega) (by omega)|with_reducible exact zI|exact zC _) (by omega) (by omega))|exact(fun w2 hM2=>Yq.loadB1 sg hs2F hM2 rfl rfl rfl rfl (show 0<n.length by omega) rfl))|(refine' l1 3 (z6s (x:=cb bm (mkc s p n na nc t) 95) H hF) ?_ ?_;rotate_left;first|exact z4 sg|exact z3 sg|exact(fun w2 _=>zF sg hs2 rfl rfl rfl rfl rfl rfl rfl (by first|with_reducible exact zz1 _|exact zD (by omega) (by omega)|with_reducible exact zI|exact zC _) (by omega) (by omega))|exact(fun w2 hM2=>Yq.loadB1 sg hs2F hM2 rfl rfl rfl rfl (show 0<n.length by omega) rfl))|(refine' l1 4 (z6s (x:=cb bm (mkc s p n na nc t) 95) H hF) ?_ ?_;rotate_left;first|exact z4 sg|exact z3 sg|exact(fun w2 _=>zF sg hs2 rfl rfl rfl rfl rfl rfl rfl (by first|with_reducible exact zz1 _|exact zD (by omega) (by omega)|with_reducible exact zI|exact zC _) (by omega) (by omega))|exact(fun w2 hM2=>Yq.loadB1 sg hs2F hM2 rfl rfl rfl rfl (show 0<n.length by omega) rfl))|(refine' l1 5 (z6s (x:=cb bm (mkc s p n na nc t) 95) H hF) ?_ ?_;rotate_left;first|exact z4 sg|exact z3 sg|exact(fun w2 _=>zF sg hs2 rfl rfl rfl rfl rfl rfl rfl (by first|with_reducible exact zz1 _|exact zD (by omega) (by omega)|with_reducible exact zI|exact zC _) (by omega) (by omega))|exact(fun w2 hM2=>Yq.loadB1 sg hs2F hM2 rfl rfl rfl rfl (show 0<n.length by omega) rfl))|(refine' l1 6 (z6s (x:=cb bm (mkc s p n na nc t) 95) H hF) ?_ ?_;rotate_left;first|exact z4 sg|exact z3 sg|exact(fun w2 _=>zF sg hs2 rfl rfl rfl rfl rfl rfl rfl (by first|with_reducible exact zz1 _|exact zD (by omega) (by omega)|with_reducible exact zI|exact zC _) (by omega) (by omega))|exact(fun w2 hM2=>Yq.loadB1 sg hs2F hM2 rfl rfl rfl rfl (show 0<n.length by omega) rfl))|(refine' l1 7 (z6s (x:=cb bm (mkc s p n na nc t) 95) H hF) ?_ ?_;rotate_left;first|exact z4 sg|exact z3 sg|exact(fun w2 _=>zF sg hs2 rfl rfl rfl rfl rfl rfl rfl (by first|with_reducible exact zz1 _|exact zD (by omega) (by omega)|with_reducible exact zI|exact zC _) (by omega) (by omega))|exact(fun w2 hM2=>Yq.loadB1 sg hs2F hM2 rfl rfl rfl rfl (show 0<n.length by omega) rfl))|(refine' l1 8 (z6s (x:=cb bm (mkc s p n na nc t) 95) H hF) ?_ ?_;rotate_left;first|exact z4 sg|exact z3 sg|exact(fun w2 _=>zF sg hs2 rfl rfl rfl rfl rfl rfl rfl (by first|with_reducible exact zz1 _|exact zD (by omega) (by omega)|with_reducible exact zI|exact zC _) (by omega) (by omega))|exact(fun w2 hM2=>Yq.loadB1 sg hs2F hM2 rfl rfl rfl rfl (show 0<n.length by omega) rfl))|(refine' l1 9 (z6s (x:=cb bm (mkc s p n na nc t) 95) H hF) ?_ ?_;rotate_left;first|exact z4 sg|exact z3 sg|exact(fun w2 _=>zF sg hs2 rfl rfl rfl rfl rfl rfl rfl (by first|with_reducible exact zz1 _|exact zD (by omega) (by omega)|with_reducible exact zI|exact zC _) (by omega) (by omega))|exact(fun w2 hM2=>Yq.loadB1 sg hs2F hM2 rfl rfl rfl rfl (show 0<n.length by omega) rfl))|(refine' l1 10 (z6s (x:=cb bm (mkc s p n na nc t) 95) H hF) ?_ ?_;rotate_left;first|exact z4 sg|exact z3 sg|exact(fun w2 _=>zF sg hs2 rfl rfl rfl rfl rfl rfl rfl (by first|with_reducible exact zz1 _|exact zD (by omega) (by omega)|with_reducible exact zI|exact zC _) (by omega) (by omega))|exact(fun w2 hM2=>Yq.loadB1 sg hs2F hM2 rfl rfl rfl rfl (show 0<n.length by omega) rfl))|(refine' l1 12 (z6s (x:=cb bm (mkc s p n na nc t) 95) H hF) ?_ ?_;rotate_left;first|exact z4 sg|exact z3 sg|exact(fun w2 _=>zF sg hs2 rfl rfl rfl rfl rfl rfl rfl (by first|with_reducible exact zz1 _|exact zD (by omega) (by omega)|with_reducible exact zI|exact zC _) (by omega) (by omega))|exact(fun w2 hM2=>Yq.loadB1 sg hs2F hM2 rfl rfl rfl rfl (show 0<n.length by omega) rfl))|(refine' l7 13 (z6s (x:=cb bm (mkc s p n na nc t) 95) H hF) ?_ ?_;rotate_left;first|exact z4 sg|exact z3 sg|exact(fun w2 _=>zF sg hs2 rfl rfl rfl rfl rfl rfl rfl (by first|with_reducible exact zz1 _|exact zD (by omega) (by omega)|with_reducible exact zI|exact zC _) (by omega) (by omega))|exact(fun w2 hM2=>Yq.loadB1 sg hs2F hM2 rfl rfl rfl rfl (show 0<n.length by omega) rfl))|(refine' l7 14 (z6s (x:=cb bm (mkc s p n na nc t) 95) H hF) ?_ ?_;rotate_left;first|exact z4 sg|exact z3 sg|exact(fun w2 _=>zF sg hs2 rfl rfl rfl rfl rfl rfl rfl (by first|with_reducible exact zz1 _|exact zD (by omega) (by omega)|with_reducible exact zI|exact zC _) (by omega) (by omega))|exact(fun w2 hM2=>Yq.loadB1 sg hs2F hM2 rfl rfl rfl rfl (show 0<n.length by omega) rfl))|(refine' l7 15 (z6s (x:=cb bm (mkc s p n na nc t) 95) H hF) ?_ ?_;rotate_left;first|exact z4 sg|exact z3 sg|exact(fun w2 _=>zF sg hs2 rfl rfl rfl rfl rfl rfl rfl (by first|with_reducible exact zz1 _|exact zD (by omega) (by omega)|with_reducible exact zI|exact zC _) (by omega) (by omega))|exact(fun w2 hM2=>Yq.loadB1 sg hs2F hM2 rfl rfl rfl rfl (show 0<n.length by omega) rfl))|(refine' l7 16 (z6s (x:=cb bm (mkc s p n na nc t) 95) H hF) ?_ ?_;rotate_left;first|exact z4 sg|exact z3 sg|exact(fun w2 _=>zF sg hs2 rfl rfl rfl rfl rfl rfl rfl (by first|with_reducible exact zz1 _|exact zD (by omega) (by omega)|with_reducible exact zI|exact zC _) (by omega) (by omega))|exact(fun w2 hM2=>Yq.loadB1 sg hs2F hM2 rfl rfl rfl rfl (show 0<n.length by omega) rfl))|(refine' l7 17 (z6s (x:=cb bm (mkc s p n na nc t) 95) H hF) ?_ ?_;rotate_left;first|exact z4 sg|exact z3 sg|exact(fun w2 _=>zF sg hs2 rfl rfl rfl rfl rfl rfl rfl (by first|with_reducible exact zz1 _|exact zD (by omega) (by omega)|with_reducible exact zI|exact zC _) (by omega) (by omega))|exact(fun w2 hM2=>Yq.loadB1 sg hs2F hM2 rfl rfl rfl rfl (show 0<n.length by omega) rfl))|(refine' l7 18 (z6s (x:=cb bm (mkc s p n na nc t) 95) H hF) ?_ ?_;rotate_left;first|exact z4 sg|exact z3 sg|exact(fun w2 _=>zF sg hs2 rfl rfl rfl rfl rfl rfl rfl (by first|with_reducible exact zz1 _|exact zD (by omega) (by omega)|with_reducible exact zI|exact zC _) (by omega) (by omega))|exact(fun w2 hM2=>Yq.loadB1 sg hs2F hM2 rfl rfl rfl rfl (show 0<n.length by omega) rfl))|(refine' l7 19 (z6s (x:=cb bm (mkc s p n na nc t) 95) H hF) ?_ ?_;rotate_left;first|exact z4 sg|exact z3 sg|exact(fun w2 _=>zF sg hs2 rfl rfl rfl rfl rfl rfl rfl (by first|with_reducible exact zz1 _|exact zD (by omega) (by omega)|with_reducible exact zI|exact zC _) (by omega) (by omega))|exact(fun w2 hM2=>Yq.loadB1 sg hs2F hM2 rfl rfl rfl rfl (show 0<n.length by omega) rfl))|(refine' l7 20 (z6s (x:=cb bm (mkc s p n na nc t) 95) H hF) ?_ ?_;rotate_left;first|exact z4 sg|exact z3 sg|exact(fun w2 _=>zF sg hs2 rfl rfl rfl rfl rfl rfl rfl (by first|with_reducible exact zz1 _|exact zD (by omega) (by omega)|with_reducible exact zI|exact zC _) (by omega) (by omega))|exact(fun w2 hM2=>Yq.loadB1 sg hs2F hM2 rfl rfl rfl rfl (show 0<n.length by omega) rfl))|(refine' l7 21 (z6s (x:=cb bm (mkc s p n na nc t) 95) H hF) ?_ ?_;rotate_left;first|exact z4 sg|exact z3 sg|exact(fun w2 _=>zF sg hs2 rfl rfl rfl rfl rfl rfl rfl (by first|with_reducible exact zz1 _|exact zD (by omega) (by omega)|with_reducible exact zI|exact zC _) (by omega) (by omega))|exact(fun w2 hM2=>Yq.loadB1 sg hs2F hM2 rfl rfl rfl rfl (show 0<n.length by omega) rfl))|(refine' l7 22 (z6s (x:=cb bm (mkc s p n na nc t) 95) H hF) ?_ ?_;rotate_left;first|exact z4 sg|exact z3 sg|exact(fun w2 _=>zF sg hs2 rfl rfl rfl rfl rfl rfl rfl (by first|with_reducible exact zz1 _|exact zD (by omega) (by omega)|with_reducible exact zI|exact zC _) (by omega) (by omega))|exact(fun w2 hM2=>Yq.loadB1 sg hs2F hM2 rfl rfl rfl rfl (show 0<n.length by omega) rfl))|(refine' l1 11 (z6s (x:=cb bm (mkc s p n na nc t) 95) H hF) ?_ ?_;rotate_left;(intro w2 _;refine' zCU sg ?_ w2;exact congrArg (fun x=>some (Value.bool x)) d0))|refine l2 23 ?_|refine l2 24 ?_|refine l2 25 ?_|refine l2 26 ?_|(refine l5 (z6s (x:=cb bm (mkc s p n na nc t) 95) H hF) ?_)|(refine' y32 zQa ?_ ?_;rotate_left;exact zSU s.aucs p.ad s.clock _ (H.all hF) (zi hC hLt hN).sta.au;intro v M w hR hS;replace H:=H.addR hS;clear hS;(try simp only[List.cons_append,List.nil_append] at H);obtain⟨r,a',cap',hr,rfl,hO⟩:=hR)|refine yU ?_|fail)
    refine CW.condT (congrArg Value.bool ((zOI hr hm).trans h1)) ?_
    repeat' (first|refine yT ?_|refine yU ?_|fail)
    exact zU (M:=_) rfl H ⟨rfl,fun h=>absurd h (show(46:Int)≠0 by decide)⟩
  | false =>
    rw[if_neg (by rintro(g|g);exact h0 g;cases g)]
    refine enter [.tmp 2] Tryz.func113 rfl Tryz.ntmps113 rfl rfl ?_
    repeat' (first|refine yT ?_|(refine CW.regionL mixed 27 (z6s (x:=cb bm (mkc s p n na nc t) 95) H hF) [] ?_ ?_;exact rfl;intro w hcl;replace H:=H.ext hcl;clear hcl)|((with_reducible apply RL.nil);decide +kernel)|(refine' l1 0 (z6s (x:=cb bm (mkc s p n na nc t) 95) H hF) ?_ ?_;rotate_left;first|exact z4 sg|exact z3 sg|exact(fun w2 _=>zF sg hs2 rfl rfl rfl rfl rfl rfl rfl (by first|with_reducible exact zz1 _|exact zD (by omega) (by omega)|with_reducible exact zI|exact zC _) (by omega) (by omega))|exact(fun w2 hM2=>Yq.loadB1 sg hs2F hM2 rfl rfl rfl rfl (show 0<n.length by omega) rfl))|(refine' l1 1 (z6s (x:=cb bm (mkc s p n na nc t) 95) H hF) ?_ ?_;rotate_left;first|exact z4 sg|exact z3 sg|exact(fun w2 _=>zF sg hs2 rfl rfl rfl rfl rfl rfl rfl (by first|with_reducible exact zz1 _|exact zD (by omega) (by omega)|with_reducible exact zI|exact zC _) (by omega) (by omega))|exact(fun w2 hM2=>Yq.loadB1 sg hs2F hM2 rfl rfl rfl rfl (show 0<n.length by omega) rfl))|(refine' l1 2 (z6s (x:=cb bm (mkc s p n na nc t) 95) H hF) ?_ ?_;rotate_left;first|exact z4 sg|exact z3 sg|exact(fun w2 _=>zF sg hs2 rfl rfl rfl rfl rfl rfl rfl (by first|with_reducible exact zz1 _|exact zD (by omega) (by omega)|with_reducible exact zI|exact zC _) (by omega) (by omega))|exact(fun w2 hM2=>Yq.loadB1 sg hs2F hM2 rfl rfl rfl rfl (show 0<n.length by omega) rfl))|(refine' l1 3 (z6s (x:=cb bm (mkc s p n na nc t) 95) H hF) ?_ ?_;rotate_left;first|exact z4 sg|exact z3 sg|exact(fun w2 _=>zF sg hs2 rfl rfl rfl rfl rfl rfl rfl (by first|with_reducible exact zz1 _|exact zD (by omega) (by omega)|with_reducible exact zI|exact zC _) (by omega) (by omega))|exact(fun w2 hM2=>Yq.loadB1 sg hs2F hM2 rfl rfl rfl rfl (show 0<n.length by omega) rfl))|(refine' l1 4 (z6s (x:=cb bm (mkc s p n na nc t) 95) H hF) ?_ ?_;rotate_left;first|exact z4 sg|exact z3 sg|exact(fun w2 _=>zF sg hs2 rfl rfl rfl rfl rfl rfl rfl (by first|with_reducible exact zz1 _|exact zD (by omega) (by omega)|with_reducible exact zI|exact zC _) (by omega) (by omega))|exact(fun w2 hM2=>Yq.loadB1 sg hs2F hM2 rfl rfl rfl rfl (show 0<n.length by omega) rfl))|(refine' l1 5 (z6s (x:=cb bm (mkc s p n na nc t) 95) H hF) ?_ ?_;rotate_left;first|exact z4 sg|exact z3 sg|exact(fun w2 _=>zF sg hs2 rfl rfl rfl rfl rfl rfl rfl (by first|with_reducible exact zz1 _|exact zD (by omega) (by omega)|with_reducible exact zI|exact zC _) (by omega) (by omega))|exact(fun w2 hM2=>Yq.loadB1 sg hs2F hM2 rfl rfl rfl rfl (show 0<n.length by omega) rfl))|(refine' l1 6 (z6s (x:=cb bm (mkc s p n na nc t) 95) H hF) ?_ ?_;rotate_left;first|exact z4 sg|exact z3 sg|exact(fun w2 _=>zF sg hs2 rfl rfl rfl rfl rfl rfl rfl (by first|with_reducible exact zz1 _|exact zD (by omega) (by omega)|with_reducible exact zI|exact zC _) (by omega) (by omega))|exact(fun w2 hM2=>Yq.loadB1 sg hs2F hM2 rfl rfl rfl rfl (show 0<n.length by omega) rfl))|(refine' l1 7 (z6s (x:=cb bm (mkc s p n na nc t) 95) H hF) ?_ ?_;rotate_left;first|exact z4 sg|exact z3 sg|exact(fun w2 _=>zF sg hs2 rfl rfl rfl rfl rfl rfl rfl (by first|with_reducible exact zz1 _|exact zD (by omega) (by omega)|with_reducible exact zI|exact zC _) (by omega) (by omega))|exact(fun w2 hM2=>Yq.loadB1 sg hs2F hM2 rfl rfl rfl rfl (show 0<n.length by omega) rfl))|(refine' l1 8 (z6s (x:=cb bm (mkc s p n na nc t) 95) H hF) ?_ ?_;rotate_left;first|exact z4 sg|exact z3 sg|exact(fun w2 _=>zF sg hs2 rfl rfl rfl rfl rfl rfl rfl (by first|with_reducible exact zz1 _|exact zD (by omega) (by omega)|with_reducible exact zI|exact zC _) (by omega) (by omega))|exact(fun w2 hM2=>Yq.loadB1 sg hs2F hM2 rfl rfl rfl rfl (show 0<n.length by omega) rfl))|(refine' l1 9 (z6s (x:=cb bm (mkc s p n na nc t) 95) H hF) ?_ ?_;rotate_left;first|exact z4 sg|exact z3 sg|exact(fun w2 _=>zF sg hs2 rfl rfl rfl rfl rfl rfl rfl (by first|with_reducible exact zz1 _|exact zD (by omega) (by omega)|with_reducible exact zI|exact zC _) (by omega) (by omega))|exact(fun w2 hM2=>Yq.loadB1 sg hs2F hM2 rfl rfl rfl rfl (show 0<n.length by omega) rfl))|(refine' l1 10 (z6s (x:=cb bm (mkc s p n na nc t) 95) H hF) ?_ ?_;rotate_left;first|exact z4 sg|exact z3 sg|exact(fun w2 _=>zF sg hs2 rfl rfl rfl rfl rfl rfl rfl (by first|with_reducible exact zz1 _|exact zD (by omega) (by omega)|with_reducible exact zI|exact zC _) (by omega) (by omega))|exact(fun w2 hM2=>Yq.loadB1 sg hs2F hM2 rfl rfl rfl rfl (show 0<n.length by omega) rfl))|(refine' l1 12 (z6s (x:=cb bm (mkc s p n na nc t) 95) H hF) ?_ ?_;rotate_left;first|exact z4 sg|exact z3 sg|exact(fun w2 _=>zF sg hs2 rfl rfl rfl rfl rfl rfl rfl (by first|with_reducible exact zz1 _|exact zD (by omega) (by omega)|with_reducible exact zI|exact zC _) (by omega) (by omega))|exact(fun w2 hM2=>Yq.loadB1 sg hs2F hM2 rfl rfl rfl rfl (show 0<n.length by omega) rfl))|(refine' l7 13 (z6s (x:=cb bm (mkc s p n na nc t) 95) H hF) ?_ ?_;rotate_left;first|exact z4 sg|exact z3 sg|exact(fun w2 _=>zF sg hs2 rfl rfl rfl rfl rfl rfl rfl (by first|with_reducible exact zz1 _|exact zD (by omega) (by omega)|with_reducible exact zI|exact zC _) (by omega) (by omega))|exact(fun w2 hM2=>Yq.loadB1 sg hs2F hM2 rfl rfl rfl rfl (show 0<n.length by omega) rfl))|(refine' l7 14 (z6s (x:=cb bm (mkc s p n na nc t) 95) H hF) ?_ ?_;rotate_left;first|exact z4 sg|exact z3 sg|exact(fun w2 _=>zF sg hs2 rfl rfl rfl rfl rfl rfl rfl (by first|with_reducible exact zz1 _|exact zD (by omega) (by omega)|with_reducible exact zI|exact zC _) (by omega) (by omega))|exact(fun w2 hM2=>Yq.loadB1 sg hs2F hM2 rfl rfl rfl rfl (show 0<n.length by omega) rfl))|(refine' l7 15 (z6s (x:=cb bm (mkc s p n na nc t) 95) H hF) ?_ ?_;rotate_left;first|exact z4 sg|exact z3 sg|exact(fun w2 _=>zF sg hs2 rfl rfl rfl rfl rfl rfl rfl (by first|with_reducible exact zz1 _|exact zD (by omega) (by omega)|with_reducible exact zI|exact zC _) (by omega) (by omega))|exact(fun w2 hM2=>Yq.loadB1 sg hs2F hM2 rfl rfl rfl rfl (show 0<n.length by omega) rfl))|(refine' l7 16 (z6s (x:=cb bm (mkc s p n na nc t) 95) H hF) ?_ ?_;rotate_left;first|exact z4 sg|exact z3 sg|exact(fun w2 _=>zF sg hs2 rfl rfl rfl rfl rfl rfl rfl (by first|with_reducible exact zz1 _|exact zD (by omega) (by omega)|with_reducible exact zI|exact zC _) (by omega) (by omega))|exact(fun w2 hM2=>Yq.loadB1 sg hs2F hM2 rfl rfl rfl rfl (show 0<n.length by omega) rfl))|(refine' l7 17 (z6s (x:=cb bm (mkc s p n na nc t) 95) H hF) ?_ ?_;rotate_left;first|exact z4 sg|exact z3 sg|exact(fun w2 _=>zF sg hs2 rfl rfl rfl rfl rfl rfl rfl (by first|with_reducible exact zz1 _|exact zD (by omega) (by omega)|with_reducible exact zI|exact zC _) (by omega) (by omega))|exact(fun w2 hM2=>Yq.loadB1 sg hs2F hM2 rfl rfl rfl rfl (show 0<n.length by omega) rfl))|(refine' l7 18 (z6s (x:=cb bm (mkc s p n na nc t) 95) H hF) ?_ ?_;rotate_left;first|exact z4 sg|exact z3 sg|exact(fun w2 _=>zF sg hs2 rfl rfl rfl rfl rfl rfl rfl (by first|with_reducible exact zz1 _|exact zD (by omega) (by omega)|with_reducible exact zI|exact zC _) (by omega) (by omega))|exact(fun w2 hM2=>Yq.loadB1 sg hs2F hM2 rfl rfl rfl rfl (show 0<n.length by omega) rfl))|(refine' l7 19 (z6s (x:=cb bm (mkc s p n na nc t) 95) H hF) ?_ ?_;rotate_left;first|exact z4 sg|exact z3 sg|exact(fun w2 _=>zF sg hs2 rfl rfl rfl rfl rfl rfl rfl (by first|with_reducible exact zz1 _|exact zD (by omega) (by omega)|with_reducible exact zI|exact zC _) (by omega) (by omega))|exact(fun w2 hM2=>Yq.loadB1 sg hs2F hM2 rfl rfl rfl rfl (show 0<n.length by omega) rfl))|(refine' l7 20 (z6s (x:=cb bm (mkc s p n na nc t) 95) H hF) ?_ ?_;rotate_left;first|exact z4 sg|exact z3 sg|exact(fun w2 _=>zF sg hs2 rfl rfl rfl rfl rfl rfl rfl (by first|with_reducible exact zz1 _|exact zD (by omega) (by omega)|with_reducible exact zI|exact zC _) (by omega) (by omega))|exact(fun w2 hM2=>Yq.loadB1 sg hs2F hM2 rfl rfl rfl rfl (show 0<n.length by omega) rfl))|(refine' l7 21 (z6s (x:=cb bm (mkc s p n na nc t) 95) H hF) ?_ ?_;rotate_left;first|exact z4 sg|exact z3 sg|exact(fun w2 _=>zF sg hs2 rfl rfl rfl rfl rfl rfl rfl (by first|with_reducible exact zz1 _|exact zD (by omega) (by omega)|with_reducible exact zI|exact zC _) (by omega) (by omega))|exact(fun w2 hM2=>Yq.loadB1 sg hs2F hM2 rfl rfl rfl rfl (show 0<n.length by omega) rfl))|(refine' l7 22 (z6s (x:=cb bm (mkc s p n na nc t) 95) H hF) ?_ ?_;rotate_left;first|exact z4 sg|exact z3 sg|exact(fun w2 _=>zF sg hs2 rfl rfl rfl rfl rfl rfl rfl (by first|with_reducible exact zz1 _|exact zD (by omega) (by omega)|with_reducible exact zI|exact zC _) (by omega) (by omega))|exact(fun w2 hM2=>Yq.loadB1 sg hs2F hM2 rfl rfl rfl rfl (show 0<n.length by omega) rfl))|(refine' l1 11 (z6s (x:=cb bm (mkc s p n na nc t) 95) H hF) ?_ ?_;rotate_left;(intro w2 _;refine' zCU sg ?_ w2;exact congrArg (fun x=>some (Value.bool x)) d0))|refine l2 23 ?_|refine l2 24 ?_|refine l2 25 ?_|refine l2 26 ?_|(refine l5 (z6s (x:=cb bm (mkc s p n na nc t) 95) H hF) ?_)|(refine' y32 zQa ?_ ?_;rotate_left;exact zSU s.aucs p.ad s.clock _ (H.all hF) (zi hC hLt hN).sta.au;intro v M w hR hS;replace H:=H.addR hS;clear hS;(try simp only[List.cons_append,List.nil_append] at H);obtain⟨r,a',cap',hr,rfl,hO⟩:=hR)|refine yU ?_|fail)
    refine CW.condF (congrArg Value.bool ((zOI hr hm).trans h1)) ?_
    clear hO hr
    replace H:=H.sub (List.Sublist.cons_cons _ (List.sublist_append_left _ M))
    repeat' (first|refine yT ?_|refine y7 sg H ?_|(refine y11 sg H ?_;intro w H)|(refine y40 sg (hs2) ?_ ?_ ?_;(omega);(omega))|refine z13 (Yq.loadB1 sg hs2 (H.memF hF) rfl rfl rfl rfl (show 0<n.length by omega) rfl) ?_|refine yU ?_|fail)
    exact zU (M:=mkL bm (mkc { s with clock:=nF n 0 } p n na nc t) Ma Mi Mu R) rfl H ⟨rfl,fun _=>⟨p,Ma,Mi,Mu,R,rfl,hC.ac,hC.ins,hC.rw,hC.od,hC.au,hC.bd⟩⟩
theorem zM5 (i k:Nat)(hi:i<n.length)(hk:k<n.length)(h1:1≤nF n k∧nF n k≤1000)(hT:∀ j,j<s.insts.length→1≤(in_ s.insts j).tick)(pr:Int)(hp:0≤pr∧pr≤4611686018427387904)(many:Bool)(w0:World)(hG:Mem w0 G)(hM:Mkt G bm s p n na nc t) :
  Calls Tryz.prog 145 [.pointer (some ⟨bm,0,none⟩),.int .i64 (i:Int),.int .i64 (k:Int),.int .i64 pr,.bool many].toArray w0 (Ret (.int .i64 (zAF s (nF n i) (nF n k) pr many)) w0):=by
 have ha:=fun w (b:Nat) (F:zH) (hF:Mem w F) (hm:cb b [Value.int .i64 (i:Int)] 3∈F) (hG:Mem w G)=>zCp (T:=3) i hi w hF hm hG hM
 have hb:=fun w (hG:Mem w G)=>zKP k hk h1 w hG hM
 unfold zAF
 cases ho:zt s (nF n i) with
 | false =>
   rw[ho] at ha
   rw[if_neg (by rintro⟨g,_⟩;cases g)]
   refine enter [.tmp 10] Tryz.func145 rfl Tryz.ntmps145 rfl rfl ?_
   have H:=zB w0
   repeat' (first|refine yT ?_|(refine z14 sg H ?_;intro b w H)|(refine' y30 zAz ?_ ?_;rotate_left;exact ha _ _ _ (H.mem) (zz2 _) (H.memF hG);intro w hcl;replace H:=H.ext hcl;clear hcl)|(refine' y30 zC8 ?_ ?_;rotate_left;exact hb _ (H.memF hG);intro w hcl;replace H:=H.ext hcl;clear hcl)|refine yU ?_|with_reducible apply zA|fail)
   exact zQ rfl H.cl rfl
 | true =>
   rw[ho] at ha
   cases hh:zAq s (nF n k) with
   | false =>
     have e:zCO s p (nF n k)=none:=by unfold zCO;rw[hh];rfl
     rw[e] at hb
     rw[if_neg (by rintro⟨_,g⟩;cases g)]
     refine enter [.tmp 10] Tryz.func145 rfl Tryz.ntmps145 rfl rfl ?_
     have H:=zB w0
     repeat' (first|refine yT ?_|(refine z14 sg H ?_;intro b w H)|(refine' y30 zAz ?_ ?_;rotate_left;exact ha _ _ _ (H.mem) (zz2 _) (H.memF hG);intro w hcl;replace H:=H.ext hcl;clear hcl)|(refine' y30 zC8 ?_ ?_;rotate_left;exact hb _ (H.memF hG);intro w hcl;replace H:=H.ext hcl;clear hcl)|refine yU ?_|with_reducible apply zA|fail)
     exact zQ rfl H.cl rfl
   | true =>
     have hle:=zAT.1 hh
     have hj:(nF n k - 1).toNat<s.insts.length:=by omega
     have hT1:=hT _ hj
     obtain⟨hn3,hc3,b3,off3,cs3,T3,fr3,hs3⟩:=hM.sta.ins
     have e:zCO s p (nF n k)=some ⟨b3,off3+(nF n k - 1).toNat*3,none⟩:=by unfold zCO;rw[if_pos hh,(hs3 (by omega)).1,Option.map_some,zz]
     rw[e] at hb
     rw[if_pos ⟨rfl,rfl⟩]
     refine enter [.tmp 10] Tryz.func145 rfl Tryz.ntmps145 rfl rfl ?_
     have H:=zB w0
     repeat' (first|refine yT ?_|(refine z14 sg H ?_;intro b w H)|(refine' y30 zAz ?_ ?_;rotate_left;exact ha _ _ _ (H.mem) (zz2 _) (H.memF hG);intro w hcl;replace H:=H.ext hcl;clear hcl)|(refine' y30 zC8 ?_ ?_;rotate_left;exact hb _ (H.memF hG);intro w hcl;replace H:=H.ext hcl;clear hcl)|(refine y44 sg (hs3) ((H.memF hG)) ?_ ?_;(omega))|refine z13 (Yq.rem rfl rfl rfl (show(in_ s.insts (nF n k - 1).toNat).tick≠0 by omega)) ?_|refine yU ?_|with_reducible apply zA|(refine y23 ?_ ?_;all_goals(intro h;try (exfalso;first|((exact absurd h (by decide));done))))|fail)
     all_goals
      refine zQ rfl H.cl (congrArg (Value.int .i64) ?_)
      simp_all
end
end
section
open Go Go.Sk Go.RowKit
attribute [local irreducible] Go.Calls
section
variable {F G:zH}{bm:Nat}{s:Sta}{p:SPt}{n:List Int}{na:Option Addr}{nc:Nat}{t:ByteArray}{Ma Mi Mu R:zH}
theorem CW.cutT {P:Program}{nw:Nw}{c:Code}{K:Env→World→Prop}{Z:zAX}{e:Env}{w:World}(R:Env→World→Prop)(h:CW P nw c (thn R (fun _ _ _=>False)) e w)(hk:∀ e w,R e w→K e w):CW P nw c (thn K Z) e w :=
 CW.mono (fun x e w q=>by cases x<;>first|exact hk _ _ q|exact q.elim) h
theorem zSV {e:Env}{i j:Nat}{x y:Value}(h1:e i=x)(h2:e j=y):e=ovl [(i,x),(j,y)] e:=by
 funext k
 rw[zBn,zBn]
 by_cases hi:k=i
 ·rw[if_pos hi,hi,h1]
 ·rw[if_neg hi]
  by_cases hj:k=j
  ·rw[if_pos hj,hj,h2]
  ·rw[if_neg hj];rfl
theorem zw {cs:List Value}{ts N:zH}{x:Nat × Obj}(h:x∈ts):x∈mkL bm cs Ma Mi Mu (R++ts++N):=by
 simp[h]
theorem zBS {cs:List Value}{ts N M:zH}{x:Nat × Obj}(h:x∈ts):x∈cb bm cs 95::(Ma++(Mi++(Mu++(R++ts++N)))++M):=by
 simp[h]
theorem u8_id {q:Int}(h:0≤q∧q≤255):IntKind.u8.wrap q=q:=by
 show q % 256=q
 omega
theorem zOJ (o:Odr):0≤(zT o).2∧(zT o).2≤1125899906842624:=by
 unfold zT
 by_cases hm:zu o=true
 ·rw[if_pos hm]
  obtain⟨_,_,_,_,h5,h6⟩:=(zAi o).1 hm
  by_cases hs:o.side=1
  ·rw[if_pos hs]
   have:=zFl h5.1 h5.2 h6.1 h6.2
   show 0≤o.price*o.left∧o.price*o.left≤_
   omega
  ·rw[if_neg hs]
   show 0≤o.left∧o.left≤_
   omega
 ·rw[if_neg hm];exact⟨Int.le_refl 0,(show(0:Int)≤1125899906842624 by decide)⟩
theorem zDR (s:Sta)(ps:List Pst):∃ rs,(zj s ps).1={ s with rows:=rs }:=by
 unfold zj
 split
 ·exact⟨_,rfl⟩
 ·exact⟨s.rows,rfl⟩
theorem zSW {w0 w:World}(hLt:LtS s)(hW:WfR s)(hl:6≤n.length)(hi:1≤nF n 2∧nF n 2≤1000)(hd:0≤nF n 3∧nF n 3≤255)(hp:0≤nF n 4∧nF n 4≤1125899906842624)(hT:∀ j,j<s.insts.length→1≤(in_ s.insts j).tick)(hno:0≤s.nextO∧s.nextO≤4611686018427387904)(H:St w0 (mkL bm (mkc s p n na nc t) Ma Mi Mu R) w)(hC:Cps s p Ma Mi Mu R)(hF:Mem w0 F)(hN:Ints F na nc n) :
  Calls Tryz.prog 104 [.pointer (some ⟨bm,0,none⟩)].toArray w (zn (zB3 bm n na nc t (zCJ s n)) w0):=by
 obtain⟨hn2,hc2,b2,off2,cs2,T2,fr2,hs2⟩:=id hN
 have hs2F:=hs2.mono (List.subset_cons_self (cb bm (mkc s p n na nc t) 95) F)
 let o:Odr:=⟨nF n 0,nF n 1,nF n 2,nF n 3,nF n 4,nF n 5⟩
 have hcells:[Value.int .i64 (nF n 0),.int .i64 (nF n 1),.int .i64 (nF n 2),.int .u8 (IntKind.u8.wrap (nF n 3)),.int .i64 (nF n 4),.int .i64 (nF n 5)]=o.cells:=by rw[u8_id hd];rfl
 have eP:zCJ s n=if nF n 0≠s.nextO then(s,46) else if zAF s (nF n 1) (nF n 2) (nF n 4) (decide (128≤s.orders.length))≠0 then(s,zAF s (nF n 1) (nF n 2) (nF n 4) (decide (128≤s.orders.length))) else if (zAO s (nF n 1) (zT o).1 (zT o).2).2≠0 then zAO s (nF n 1) (zT o).1 (zT o).2 else({ (zAO s (nF n 1) (zT o).1 (zT o).2).1 with orders:=(zFT s.orders o).1,nextO:=s.nextO+1 },0):=rfl
 have hlen:decide ((s.orders.length:Int) ≥ 128)=decide (128≤s.orders.length):=by
  rw[Bool.eq_iff_iff,decide_eq_true_iff,decide_eq_true_iff];omega
 rw[eP,← hlen]
 clear hlen eP
 refine enter [.tmp 2] Tryz.func104 rfl Tryz.ntmps104 rfl rfl ?_
 repeat' (first|refine yT ?_|refine yU ?_|fail)
 refine CW.cutT (fun e w=>∃ b e',e=ovl [(0,.pointer (some ⟨bm,0,none⟩)),(3,.pointer (some ⟨b,0,none⟩))] e'∧St w0 (cb b o.cells 43::mkL bm (mkc s p n na nc t) Ma Mi Mu R) w) ?_ ?_
 ·repeat' (first|refine yT ?_|(refine y10 sg H ?_;intro b w H)|(refine y11 sg H ?_;intro w H)|(refine' y30 zAy ?_ ?_;rotate_left;exact zA2 1 (by omega) _ (H.all hF) (zi hC hLt hN);intro w hcl;replace H:=H.ext hcl;clear hcl)|(refine CW.regionL mixed 36 (z6s (x:=cb bm (mkc s p n na nc t) 95) H hF) [] ?_ ?_;exact rfl;intro w hcl;replace H:=H.ext hcl;clear hcl;have zh:=z6s (x:=cb bm (mkc s p n na nc t) 95) H hF;refine' l1 0 zh ?_ ?_;rotate_left;(exact z4 sg);refine' l1 1 zh ?_ ?_;rotate_left;(exact z4 sg);refine' l1 2 zh ?_ ?_;rotate_left;(exact z4 sg);refine' l1 3 zh ?_ ?_;rotate_left;(exact z3 sg);refine' l1 4 zh ?_ ?_;rotate_left;(exact(fun w2 _=>zF sg hs2 rfl rfl rfl rfl rfl rfl rfl (by first|with_reducible exact zz1 _|exact zD (by omega) (by omega)|with_reducible exact zI|exact zC _) (by omega) (by omega)));refine' l1 5 zh ?_ ?_;rotate_left;(exact(fun w2 hM2=>Yq.loadB1 sg hs2F hM2 rfl rfl rfl rfl (show 0<n.length by omega) rfl));refine' l1 6 zh ?_ ?_;rotate_left;(exact z4 sg);refine' l1 8 zh ?_ ?_;rotate_left;(exact z4 sg);refine' l1 9 zh ?_ ?_;rotate_left;(exact z4 sg);refine' l1 10 zh ?_ ?_;rotate_left;(exact z4 sg);refine' l1 11 zh ?_ ?_;rotate_left;(exact z3 sg);refine' l1 12 zh ?_ ?_;rotate_left;(exact(fun w2 _=>zF sg hs2 rfl rfl rfl rfl rfl rfl rfl (by first|with_reducible exact zz1 _|exact zD (by omega) (by omega)|with_reducible exact zI|exact zC _) (by omega) (by omega)));refine' l1 13 zh ?_ ?_;rotate_left;(exact(fun w2 hM2=>Yq.loadB1 sg hs2F hM2 rfl rfl rfl rfl (show 2<n.length by omega) rfl));refine' l1 14 zh ?_ ?_;rotate_left;(exact z4 sg);refine' l1 15 zh ?_ ?_;rotate_left;(exact z4 sg);refine' l1 16 zh ?_ ?_;rotate_left;(exact z4 sg);refine' l1 17 zh ?_ ?_;rotate_left;(exact z3 sg);refine' l1 18 zh ?_ ?_;rotate_left;(exact(fun w2 _=>zF sg hs2 rfl rfl rfl rfl rfl rfl rfl (by first|with_reducible exact zz1 _|exact zD (by omega) (by omega)|with_reducible exact zI|exact zC _) (by omega) (by omega)));refine' l1 19 zh ?_ ?_;rotate_left;(exact(fun w2 hM2=>Yq.loadB1 sg hs2F hM2 rfl rfl rfl rfl (show 3<n.length by omega) rfl));refine' l1 20 zh ?_ ?_;rotate_left;(exact z4 sg);refine' l1 21 zh ?_ ?_;rotate_left;(exact z4 sg);refine' l1 22 zh ?_ ?_;rotate_left;(exact z4 sg);refine' l1 23 zh ?_ ?_;rotate_left;(exact z4 sg);refine' l1 24 zh ?_ ?_;rotate_left;(exact z3 sg);refine' l1 25 zh ?_ ?_;rotate_left;(exact(fun w2 _=>zF sg hs2 rfl rfl rfl rfl rfl rfl rfl (by first|with_reducible exact zz1 _|exact zD (by omega) (by omega)|with_reducible exact zI|exact zC _) (by omega) (by omega)));refine' l1 26 zh ?_ ?_;rotate_left;(exact(fun w2 hM2=>Yq.loadB1 sg hs2F hM2 rfl rfl rfl rfl (show 4<n.length by omega) rfl));refine' l1 27 zh ?_ ?_;rotate_left;(exact z4 sg);refine' l1 28 zh ?_ ?_;rotate_left;(exact z4 sg);refine' l1 29 zh ?_ ?_;rotate_left;(exact z4 sg);refine' l1 30 zh ?_ ?_;rotate_left;(exact z3 sg);refine' l1 31 zh ?_ ?_;rotate_left;(exact(fun w2 _=>zF sg hs2 rfl rfl rfl rfl rfl rfl rfl (by first|with_reducible exact zz1 _|exact zD (by omega) (by omega)|with_reducible exact zI|exact zC _) (by omega) (by omega)));refine' l1 32 zh ?_ ?_;rotate_left;(exact(fun w2 hM2=>Yq.loadB1 sg hs2F hM2 rfl rfl rfl rfl (show 5<n.length by omega) rfl)))|((with_reducible apply RL.nil);decide +kernel)|refine l2 7 ?_|refine l2 33 ?_|refine l2 34 ?_|refine l2 35 ?_|refine l4 7 34 ?_ ?_|refine l4 33 34 ?_ ?_|(refine l5 (z6s (x:=cb bm (mkc s p n na nc t) 95) H hF) ?_)|refine yU ?_|fail)
  all_goals exact⟨b,_,zSV rfl rfl,by rw[← hcells];exact H⟩
 clear H
 rintro _ w ⟨b,e',rfl,H⟩
 have hmay:=fun w (G:zH) (hG:Mem w G) (hM:Mkt G bm s p n na nc t)=>zM5 1 2 (by omega) (by omega) hi hT (nF n 4) (by omega) (decide ((s.orders.length:Int) ≥ 128)) w hG hM
 have hlen:decide ((s.orders.length:Int) ≥ 128)=decide (128≤s.orders.length):=by
  rw[Bool.eq_iff_iff,decide_eq_true_iff,decide_eq_true_iff];omega
 have hmay:=fun w (G:zH) (hG:Mem w G) (hM:Mkt G bm s p n na nc t)=>zM5 1 2 (by omega) (by omega) hi hT (nF n 4) (by omega) (decide ((s.orders.length:Int) ≥ 128)) w hG hM
 by_cases h0:nF n 0≠s.nextO
 ·have d0:(nF n 0 != s.nextO)=true:=by simpa using h0
  rw[if_pos h0]
  repeat' (first|(refine CW.regionL mixed 8 (z6 (x:=cb b o.cells 43) (y:=cb bm (mkc s p n na nc t) 95) H hF) [] ?_ ?_;exact rfl;intro w hcl;replace H:=H.ext hcl;clear hcl;have zh:=z6 (x:=cb b o.cells 43) (y:=cb bm (mkc s p n na nc t) 95) H hF;refine' l1 0 zh ?_ ?_;rotate_left;(exact z4 sg);refine' l1 1 zh ?_ ?_;rotate_left;(exact z3 sg);refine' l1 2 zh ?_ ?_;rotate_left;(exact z4 sg);refine' l1 3 zh ?_ ?_;rotate_left;(exact z4 sg);refine' l1 4 zh ?_ ?_;rotate_left;(exact z4 sg);refine' l1 5 zh ?_ ?_;rotate_left;(exact z4 sg);refine' l1 6 zh ?_ ?_;rotate_left;(exact z3 sg);refine' l1 7 zh ?_ ?_;rotate_left;(exact z4 sg))|((with_reducible apply RL.nil);decide +kernel)|refine yU ?_|fail)
  refine CW.condT (congrArg Value.bool d0) ?_
  repeat' (first|refine yT ?_|refine yU ?_|fail)
  exact zU (M:=_) rfl H ⟨rfl,fun h=>absurd h (show(46:Int)≠0 by decide)⟩
 ·have d0:(nF n 0 != s.nextO)=false:=by simpa using h0
  rw[if_neg h0]
  repeat' (first|(refine CW.regionL mixed 8 (z6 (x:=cb b o.cells 43) (y:=cb bm (mkc s p n na nc t) 95) H hF) [] ?_ ?_;exact rfl;intro w hcl;replace H:=H.ext hcl;clear hcl;have zh:=z6 (x:=cb b o.cells 43) (y:=cb bm (mkc s p n na nc t) 95) H hF;refine' l1 0 zh ?_ ?_;rotate_left;(exact z4 sg);refine' l1 1 zh ?_ ?_;rotate_left;(exact z3 sg);refine' l1 2 zh ?_ ?_;rotate_left;(exact z4 sg);refine' l1 3 zh ?_ ?_;rotate_left;(exact z4 sg);refine' l1 4 zh ?_ ?_;rotate_left;(exact z4 sg);refine' l1 5 zh ?_ ?_;rotate_left;(exact z4 sg);refine' l1 6 zh ?_ ?_;rotate_left;(exact z3 sg);refine' l1 7 zh ?_ ?_;rotate_left;(exact z4 sg))|((with_reducible apply RL.nil);decide +kernel)|refine yU ?_|fail)
  refine CW.condF (congrArg Value.bool d0) ?_
  by_cases h1:zAF s (nF n 1) (nF n 2) (nF n 4) (decide ((s.orders.length:Int) ≥ 128))≠0
  ·have d1:(zAF s (nF n 1) (nF n 2) (nF n 4) (decide ((s.orders.length:Int) ≥ 128)) != 0)=true:=by simpa using h1
   rw[if_pos h1]
   repeat' (first|refine yT ?_|(refine CW.regionL mixed 12 (z6 (x:=cb b o.cells 43) (y:=cb bm (mkc s p n na nc t) 95) H hF) [] ?_ ?_;exact rfl;intro w hcl;replace H:=H.ext hcl;clear hcl;have zh:=z6 (x:=cb b o.cells 43) (y:=cb bm (mkc s p n na nc t) 95) H hF;refine' l1 0 zh ?_ ?_;rotate_left;(exact z4 sg);refine' l1 1 zh ?_ ?_;rotate_left;(exact z4 sg);refine' l1 2 zh ?_ ?_;rotate_left;(exact z3 sg);refine' l1 3 zh ?_ ?_;rotate_left;(exact z4 sg);refine' l1 4 zh ?_ ?_;rotate_left;(exact z4 sg);refine' l1 5 zh ?_ ?_;rotate_left;(exact z4 sg);refine' l1 6 zh ?_ ?_;rotate_left;(exact z4 sg);refine' l1 7 zh ?_ ?_;rotate_left;(exact z3 sg))|((with_reducible apply RL.nil);decide +kernel)|refine l2 8 ?_|refine l2 9 ?_|refine l2 10 ?_|refine l2 11 ?_|(refine l5 (z6 (x:=cb b o.cells 43) (y:=cb bm (mkc s p n na nc t) 95) H hF) ?_)|(refine' y30 zJc ?_ ?_;rotate_left;exact hmay _ _ (H.all hF) (zi hC hLt hN);intro w hcl;replace H:=H.ext hcl;clear hcl)|refine yU ?_|fail)
   refine CW.condT (congrArg Value.bool d1) ?_
   repeat' (first|refine yT ?_|refine yU ?_|fail)
   exact zU (M:=_) rfl H ⟨rfl,fun h=>absurd h h1⟩
  ·have d1:(zAF s (nF n 1) (nF n 2) (nF n 4) (decide ((s.orders.length:Int) ≥ 128)) != 0)=false:=by simpa using h1
   rw[if_neg h1]
   repeat' (first|refine yT ?_|(refine CW.regionL mixed 12 (z6 (x:=cb b o.cells 43) (y:=cb bm (mkc s p n na nc t) 95) H hF) [] ?_ ?_;exact rfl;intro w hcl;replace H:=H.ext hcl;clear hcl;have zh:=z6 (x:=cb b o.cells 43) (y:=cb bm (mkc s p n na nc t) 95) H hF;refine' l1 0 zh ?_ ?_;rotate_left;(exact z4 sg);refine' l1 1 zh ?_ ?_;rotate_left;(exact z4 sg);refine' l1 2 zh ?_ ?_;rotate_left;(exact z3 sg);refine' l1 3 zh ?_ ?_;rotate_left;(exact z4 sg);refine' l1 4 zh ?_ ?_;rotate_left;(exact z4 sg);refine' l1 5 zh ?_ ?_;rotate_left;(exact z4 sg);refine' l1 6 zh ?_ ?_;rotate_left;(exact z4 sg);refine' l1 7 zh ?_ ?_;rotate_left;(exact z3 sg))|((with_reducible apply RL.nil);decide +kernel)|refine l2 8 ?_|refine l2 9 ?_|refine l2 10 ?_|refine l2 11 ?_|(refine l5 (z6 (x:=cb b o.cells 43) (y:=cb bm (mkc s p n na nc t) 95) H hF) ?_)|(refine' y30 zJc ?_ ?_;rotate_left;exact hmay _ _ (H.all hF) (zi hC hLt hN);intro w hcl;replace H:=H.ext hcl;clear hcl)|refine yU ?_|fail)
   refine CW.condF (congrArg Value.bool d1) ?_
   have hbd:=zOJ o
   obtain⟨rs,hrs⟩:∃ rs,(zAO s (nF n 1) (zT o).1 (zT o).2).1={ s with rows:=rs }:=zDR _ _
   repeat' (first|refine yT ?_|refine y7 sg H ?_|(refine' y30 zQR ?_ ?_;rotate_left;exact zJm o _;intro w hcl;replace H:=H.ext hcl;clear hcl)|(replace H:=H.perm (zCN [_]);refine zc rfl rfl (En.fn zL7 rfl rfl) (c_holds hLt hW (nF n 1) (zT o).1 (zT o).2 (by omega) H (hC.mono (List.subset_append_left _ _))) ?_;rintro _ _ w ⟨rfl,p',M',rfl,hC'⟩ H2;clear H;have H:=H2;clear H2)|refine yU ?_|fail)
   by_cases h2:(zAO s (nF n 1) (zT o).1 (zT o).2).2≠0
   ·have d2:((zAO s (nF n 1) (zT o).1 (zT o).2).2 != 0)=true:=by simpa using h2
    rw[if_pos h2]
    refine CW.condT (congrArg Value.bool d2) ?_
    repeat' (first|refine yT ?_|refine yU ?_|fail)
    exact zU (M:=_) rfl H ⟨rfl,fun h=>absurd h h2⟩
   ·have d2:((zAO s (nF n 1) (zT o).1 (zT o).2).2 != 0)=false:=by simpa using h2
    rw[if_neg h2,hrs]
    refine CW.condF (congrArg Value.bool d2) ?_
    rw[hrs] at H hC'
    repeat' (first|refine yT ?_|refine y7 sg H ?_|(refine y11 sg H ?_;intro w H)|(refine CW.regionL mixed 15 (z6s (x:=cb b o.cells 43) H hF (by first|exact zw (zz2 _)|exact zBS (zz2 _))) [] ?_ ?_;exact rfl;intro w hcl;replace H:=H.ext hcl;clear hcl;have zh:=z6s (x:=cb b o.cells 43) H hF (by first|exact zw (zz2 _)|exact zBS (zz2 _));refine' l1 0 zh ?_ ?_;rotate_left;(exact z4 sg);refine' l1 1 zh ?_ ?_;rotate_left;(exact z4 sg);refine' l1 2 zh ?_ ?_;rotate_left;(exact z4 sg);refine' l1 3 zh ?_ ?_;rotate_left;(exact z4 sg);refine' l1 4 zh ?_ ?_;rotate_left;(exact z4 sg);refine' l1 6 zh ?_ ?_;rotate_left;(exact z3 sg))|((with_reducible apply RL.nil);decide +kernel)|(refine' l1 8 (z6s (x:=cb b o.cells 43) H hF (by first|exact zw (zz2 _)|exact zBS (zz2 _))) ?_ ?_;rotate_left;(exact z4 sg))|(refine' l1 9 (z6s (x:=cb b o.cells 43) H hF (by first|exact zw (zz2 _)|exact zBS (zz2 _))) ?_ ?_;rotate_left;(exact z4 sg))|(refine' l1 10 (z6s (x:=cb b o.cells 43) H hF (by first|exact zw (zz2 _)|exact zBS (zz2 _))) ?_ ?_;rotate_left;(exact z4 sg))|(refine' l1 11 (z6s (x:=cb b o.cells 43) H hF (by first|exact zw (zz2 _)|exact zBS (zz2 _))) ?_ ?_;rotate_left;(exact z4 sg))|(refine' l1 12 (z6s (x:=cb b o.cells 43) H hF (by first|exact zw (zz2 _)|exact zBS (zz2 _))) ?_ ?_;rotate_left;(exact z4 sg))|(refine' l1 13 (z6s (x:=cb b o.cells 43) H hF (by first|exact zw (zz2 _)|exact zBS (zz2 _))) ?_ ?_;rotate_left;(exact z4 sg))|refine l2 5 ?_|refine l2 7 ?_|refine l2 14 ?_|(refine l5 (z6s (x:=cb b o.cells 43) H hF (by first|exact zw (zz2 _)|exact zBS (zz2 _))) ?_)|(refine' y32 ent147 ?_ ?_;rotate_left;exact c_Add_ s.orders o _ H.mem (SlA.mono hC'.od (fun p hp=>zz4 _ (zz3 _ (zz3 _ (zz3 _ hp)))));intro v M w hR hS;replace H:=H.addR hS;clear hS;(try simp only[List.cons_append,List.nil_append] at H);obtain⟨a1,c1,rfl,hsl⟩:=hR)|refine yU ?_|fail)
    have hn:IntKind.i64.wrap (s.nextO+1)=s.nextO+1:=w64 (by omega) (by omega)
    repeat' (first|fail)
    all_goals
     rw[hn] at H
     simp only[List.append_assoc] at H
     refine zU (M:=mkL bm (mkc { s with rows:=rs,orders:=(zFT s.orders o).1,nextO:=s.nextO+1 } { p' with odA:=a1,odC:=c1 } n na nc t) Ma Mi Mu _) rfl H ⟨rfl,fun _=>⟨{ p' with odA:=a1,odC:=c1 },Ma,Mi,Mu,_,rfl,hC'.ac,hC'.ins,SlA.mono hC'.rw ?_,SlA.mono hsl ?_,hC'.au,fun j hj=>SlA.mono (hC'.bd j hj) ?_⟩⟩
     all_goals
      intro p hp
      simp only[List.mem_append] at hp ⊢
      first|exact .inr (.inr (.inr hp))|(rcases hp with (h|h)|h<;>simp[h])
end
end
section
open Go Go.Sk Go.RowKit
attribute [local irreducible] Go.Calls
section
variable {F G:zH}{bm:Nat}{s:Sta}{p:SPt}{n:List Int}{na:Option Addr}{nc:Nat}{t:ByteArray}{Ma Mi Mu R:zH}
theorem zAZ {e:Env}{i j k:Nat}{x y z:Value}(h1:e i=x)(h2:e j=y)(h3:e k=z):e=ovl [(i,x),(j,y),(k,z)] e:=by
 have:=zSV h2 h3
 funext q
 rw[zBn]
 by_cases hi:q=i
 ·rw[if_pos hi,hi,h1]
 ·rw[if_neg hi];exact congrFun this q
theorem zSX (l:List Odr)(id:Int):(zCy l id).1.length≤l.length:=by
 unfold zCy zAx
 by_cases h1:zd l=true
 ·rw[if_pos h1]
  by_cases h2:(zV l id).2=true
  ·rw[if_pos h2]
   by_cases h3:(zV l id).1.left<1∨(zV l id).1.left>(zV l id).1.left
   ·rw[if_pos h3];exact zzD _
   ·rw[if_neg h3]
    unfold zBs
    refine Nat.le_trans (List.length_filter_le _ _) (Nat.le_of_eq ?_)
    exact List.length_map _
  ·rw[if_neg h2];exact zzD _
 ·rw[if_neg h1];exact zzD _
theorem zLe {w0 w:World}(hLt:LtS s)(hW:WfR s)(hl:1≤n.length)(H:St w0 (mkL bm (mkc s p n na nc t) Ma Mi Mu R) w)(hC:Cps s p Ma Mi Mu R)(hF:Mem w0 F)(hN:Ints F na nc n) :
  Calls Tryz.prog 105 [.pointer (some ⟨bm,0,none⟩)].toArray w (zn (zB3 bm n na nc t (zAv s n)) w0):=by
 obtain⟨hn2,hc2,b2,off2,cs2,T2,fr2,hs2⟩:=id hN
 have hs2F:=hs2.mono (List.subset_cons_self (cb bm (mkc s p n na nc t) 95) F)
 let o:Odr:=(zV s.orders (nF n 0)).1
 have eP:zAv s n=if (zV s.orders (nF n 0)).2=true then zAO { s with orders:=(zCy s.orders o.id).1 } o.acct (zT o).1 (-(zT o).2) else(s,5):=rfl
 rw[eP]
 clear eP
 refine enter [.tmp 2] Tryz.func105 rfl Tryz.ntmps105 rfl rfl ?_
 repeat' (first|refine yT ?_|refine yU ?_|fail)
 refine CW.cutT (fun e w=>∃ b e',e=ovl [(0,.pointer (some ⟨bm,0,none⟩)),(3,.pointer (some ⟨b,0,none⟩)),(4,.bool (zV s.orders (nF n 0)).2)] e'∧St w0 (cb b o.cells 43::mkL bm (mkc s p n na nc t) Ma Mi Mu R) w) ?_ ?_
 ·repeat' (first|refine yT ?_|(refine y10 sg H ?_;intro b w H)|(refine y11 sg H ?_;intro w H)|(refine CW.regionL mixed 18 (z6s (x:=cb bm (mkc s p n na nc t) 95) H hF) [] ?_ ?_;exact rfl;intro w hcl;replace H:=H.ext hcl;clear hcl;have zh:=z6s (x:=cb bm (mkc s p n na nc t) 95) H hF;refine' l1 0 zh ?_ ?_;rotate_left;(exact z4 sg);refine' l1 1 zh ?_ ?_;rotate_left;(exact z4 sg);refine' l1 2 zh ?_ ?_;rotate_left;(exact z4 sg);refine' l1 3 zh ?_ ?_;rotate_left;(exact z4 sg);refine' l1 4 zh ?_ ?_;rotate_left;(exact z3 sg);refine' l1 5 zh ?_ ?_;rotate_left;(exact z4 sg);refine' l1 6 zh ?_ ?_;rotate_left;(exact z4 sg);refine' l1 7 zh ?_ ?_;rotate_left;(exact z4 sg);refine' l1 8 zh ?_ ?_;rotate_left;(exact z3 sg);refine' l1 9 zh ?_ ?_;rotate_left;(exact(fun w2 _=>zF sg hs2 rfl rfl rfl rfl rfl rfl rfl (by first|with_reducible exact zz1 _|exact zD (by omega) (by omega)|with_reducible exact zI|exact zC _) (by omega) (by omega)));refine' l1 10 zh ?_ ?_;rotate_left;(exact(fun w2 hM2=>Yq.loadB1 sg hs2F hM2 rfl rfl rfl rfl (show 0<n.length by omega) rfl)))|((with_reducible apply RL.nil);decide +kernel)|(refine' l1 12 (z6s (x:=cb bm (mkc s p n na nc t) 95) H hF) ?_ ?_;rotate_left;(exact z4 sg))|(refine' l1 13 (z6s (x:=cb bm (mkc s p n na nc t) 95) H hF) ?_ ?_;rotate_left;(exact z4 sg))|(refine' l1 14 (z6s (x:=cb bm (mkc s p n na nc t) 95) H hF) ?_ ?_;rotate_left;(exact z4 sg))|(refine' l1 17 (z6s (x:=cb bm (mkc s p n na nc t) 95) H hF) ?_ ?_;rotate_left;(exact z4 sg))|refine l2 11 ?_|refine l2 15 ?_|refine l2 16 ?_|refine l4 11 15 ?_ ?_|(refine l5 (z6s (x:=cb bm (mkc s p n na nc t) 95) H hF) ?_)|(refine' y30 zFV ?_ ?_;rotate_left;exact zFu s.orders (nF n 0) _ (H.all hF) (SlA.mono ((hC.sta hLt).od) (fun p hp=>zz6 _ (by first|exact zz4 _ hp|exact zz4 _ (zz4 _ hp))));intro w hcl;replace H:=H.ext hcl;clear hcl)|refine yU ?_|fail)
  all_goals exact⟨b,_,zAZ rfl rfl rfl,H⟩
 clear H
 rintro _ w ⟨b,e',rfl,H⟩
 by_cases h0:(zV s.orders (nF n 0)).2=true
 ·rw[if_pos h0]
  have d0:(!(zV s.orders (nF n 0)).2)=false:=by rw[h0];rfl
  have hbd:=zOJ o
  have hneg:IntKind.i64.wrap (0 - (zT o).2)=-(zT o).2:=by rw[w64 (by omega) (by omega)];omega
  repeat' (first|refine yT ?_|refine yU ?_|fail)
  refine CW.condF (congrArg Value.bool d0) ?_
  repeat' (first|refine yT ?_|refine y7 sg H ?_|(refine y11 sg H ?_;intro w H)|(refine' y30 zQR ?_ ?_;rotate_left;exact zJm o _;intro w hcl;replace H:=H.ext hcl;clear hcl)|(refine CW.regionL mixed 16 (z6s (x:=cb b o.cells 43) H hF) [] ?_ ?_;exact rfl;intro w hcl;replace H:=H.ext hcl;clear hcl;have zh:=z6s (x:=cb b o.cells 43) H hF;refine' l1 0 zh ?_ ?_;rotate_left;(exact z4 sg);refine' l1 1 zh ?_ ?_;rotate_left;(exact z4 sg);refine' l1 2 zh ?_ ?_;rotate_left;(exact z4 sg);refine' l1 3 zh ?_ ?_;rotate_left;(exact z4 sg);refine' l1 4 zh ?_ ?_;rotate_left;(exact z4 sg);refine' l1 6 zh ?_ ?_;rotate_left;(exact z4 sg);refine' l1 7 zh ?_ ?_;rotate_left;(exact z3 sg))|((with_reducible apply RL.nil);decide +kernel)|(refine' l1 9 (z6s (x:=cb b o.cells 43) H hF) ?_ ?_;rotate_left;(exact z4 sg))|(refine' l1 10 (z6s (x:=cb b o.cells 43) H hF) ?_ ?_;rotate_left;(exact z4 sg))|(refine' l1 11 (z6s (x:=cb b o.cells 43) H hF) ?_ ?_;rotate_left;(exact z4 sg))|(refine' l1 12 (z6s (x:=cb b o.cells 43) H hF) ?_ ?_;rotate_left;(exact z4 sg))|(refine' l1 13 (z6s (x:=cb b o.cells 43) H hF) ?_ ?_;rotate_left;(exact z4 sg))|(refine' l1 14 (z6s (x:=cb b o.cells 43) H hF) ?_ ?_;rotate_left;(exact z4 sg))|refine l2 5 ?_|refine l2 8 ?_|refine l2 15 ?_|(refine l5 (z6s (x:=cb b o.cells 43) H hF) ?_)|(refine' y32 ent148 ?_ ?_;rotate_left;exact c_Drop s.orders o.id _ H.mem (SlA.mono ((hC.sta hLt).od) (fun p hp=>zz4 _ (zz4 _ hp)));intro v M w hR hS;replace H:=H.addR hS;clear hS;(try simp only[List.cons_append,List.nil_append] at H);obtain⟨a1,c1,rfl,hsl⟩:=hR)|refine yU ?_|fail)
  have hLt2:LtS { s with orders:=(zCy s.orders o.id).1 }:=⟨hLt.ac,hLt.ins,hLt.rw,Nat.le_trans (zSX _ _) hLt.od,hLt.au,hLt.bd⟩
  have hC2:Cps { s with orders:=(zCy s.orders o.id).1 } { p with odA:=a1,odC:=c1 } Ma Mi Mu ((R++M)++[cb b o.cells 43]):=⟨hC.ac,hC.ins,SlA.mono hC.rw fun p hp=>zz6 _ (zz6 _ hp),SlA.mono hsl fun p hp=>zz6 _ (zz3 _ hp),hC.au,fun j hj=>SlA.mono (hC.bd j hj) fun p hp=>zz6 _ (zz6 _ hp)⟩
  have e:(Ma++(Mi++(Mu++R)))++M=Ma++(Mi++(Mu++(R++M))):=by simp only[List.append_assoc]
  rw[e] at H
  have H3:St w0 (mkL bm (mkc { s with orders:=(zCy s.orders o.id).1 } { p with odA:=a1,odC:=c1 } n na nc t) Ma Mi Mu ((R++M)++[cb b o.cells 43])) w:=H.perm (zCN [_])
  clear H e
  have H:=H3
  clear H3
  rw[hneg]
  repeat' (first|refine yT ?_|(refine zc rfl rfl (En.fn zL7 rfl rfl) (c_holds hLt2 hW o.acct (zT o).1 (-(zT o).2) (by omega) H hC2) ?_;rintro _ _ w ⟨rfl,hR2⟩ H2;clear H;have H:=H2;clear H2)|refine yU ?_|fail)
  exact zU (M:=_) rfl H (MkP.mkt ⟨rfl,hR2⟩)
 ·rw[if_neg h0]
  have d0:(!(zV s.orders (nF n 0)).2)=true:=by simpa using h0
  repeat' (first|refine yT ?_|refine yU ?_|fail)
  refine CW.condT (congrArg Value.bool d0) ?_
  repeat' (first|refine yT ?_|refine yU ?_|fail)
  exact zU (M:=_) rfl H ⟨rfl,fun h=>absurd h (show(5:Int)≠0 by decide)⟩
end
end
section
open Go Go.Sk Go.RowKit
attribute [local irreducible] Go.Calls
theorem zOK {x y:Nat × Obj}{A B C D:zH}:(x::y::(A++(B++(C++D)))).Perm (C++(x::y::(A++(B++D)))):=by
 have:=(List.perm_append_comm (l₁:=x::y::(A++B)) (l₂:=C)).append_right D
 simpa only[List.cons_append,List.append_assoc] using this
def adN (ad:Nat→Option Addr × Nat)(k:Nat)(j:Nat):Option Addr × Nat:=if j<k then ad j else(none,0)
theorem zUH {l:List Auc}{ad:Nat→Option Addr × Nat}{x:Auc}:(List.range l.length).flatMap (ael l ad)++x.cells none 0=(List.range (l++[x]).length).flatMap (ael (l++[x]) (adN ad l.length)):=by
 rw[List.length_append,List.length_singleton,List.range_succ,List.flatMap_append,List.flatMap_singleton]
 congr 1
 ·have:∀ j∈List.range l.length,ael l ad j=ael (l++[x]) (adN ad l.length) j:=fun j hj=>by
   have hj:=List.mem_range.1 hj
   unfold ael adN
   rw[if_pos hj,List.getD_eq_getElem?_getD,List.getD_eq_getElem?_getD,List.getElem?_append_left hj]
  rw[List.flatMap_def,List.flatMap_def,List.map_congr_left this]
 ·unfold ael adN
  rw[if_neg (Nat.lt_irrefl _),List.getD_eq_getElem?_getD,List.getElem?_append_right (Nat.le_refl _),Nat.sub_self]
  rfl
section
variable {F G:zH}{bm:Nat}{s:Sta}{p:SPt}{n:List Int}{na:Option Addr}{nc:Nat}{t:ByteArray}{Ma Mi Mu R:zH}
theorem zOL {w0 w:World}(x:Auc)(hx1:x.seller=nF n 1)(hx2:x.inst=nF n 2)(hx0:x.bids=[])(hq:0≤x.qty∧x.qty≤1125899906842624)(hLt:LtS s)(hW:WfR s)(hl:3≤n.length)(hi:1≤nF n 2∧nF n 2≤1000)(hT:∀ j,j<s.insts.length→1≤(in_ s.insts j).tick)(hno:0≤s.nextA∧s.nextA≤4611686018427387904)(H:St w0 (mkL bm (mkc s p n na nc t) Ma Mi Mu R) w)(hC:Cps s p Ma Mi Mu R)(hF:Mem w0 F)(hN:Ints F na nc n) :
  Calls Tryz.prog 152 [.pointer (some ⟨bm,0,none⟩),.agg (x.cells none 0).toArray].toArray w (zn (zB3 bm n na nc t (zCa s x)) w0):=by
 have eP:zCa s x=if x.id≠s.nextA∨x.fin≤s.clock then(s,46) else if zAF s (nF n 1) (nF n 2) 0 (decide (32≤s.aucs.length))≠0 then(s,zAF s (nF n 1) (nF n 2) 0 (decide (32≤s.aucs.length))) else if (zAO s x.seller x.inst x.qty).2≠0 then zAO s x.seller x.inst x.qty else({ (zAO s x.seller x.inst x.qty).1 with aucs:=s.aucs++[x],nextA:=s.nextA+1 },0):=by rw[← hx1,← hx2];rfl
 have hlen:decide ((s.aucs.length:Int) ≥ 32)=decide (32≤s.aucs.length):=by
  rw[Bool.eq_iff_iff,decide_eq_true_iff,decide_eq_true_iff];omega
 rw[eP,← hlen]
 clear hlen eP
 have hmay:=fun w (G:zH) (hG:Mem w G) (hM:Mkt G bm s p n na nc t)=>zM5 1 2 (by omega) (by omega) hi hT 0 (by omega) (decide ((s.aucs.length:Int) ≥ 32)) w hG hM
 by_cases h0:x.id≠s.nextA
 ·have d0:(x.id != s.nextA)=true:=by simpa using h0
  rw[if_pos (.inl h0)]
  refine enter [.tmp 4] Tryz.func152 rfl Tryz.ntmps152 rfl rfl ?_
  repeat' (first|refine yT ?_|(refine y9 H ?_;intro b w H)|(refine CW.regionL mixed 18 (z6 (x:=cb _ (x.cells none 0) 62) (y:=cb bm (mkc s p n na nc t) 95) H hF) [] ?_ ?_;exact rfl;intro w hcl;replace H:=H.ext hcl;clear hcl;have zh:=z6 (x:=cb _ (x.cells none 0) 62) (y:=cb bm (mkc s p n na nc t) 95) H hF;refine' l1 0 zh ?_ ?_;rotate_left;(exact z4 sg);refine' l1 1 zh ?_ ?_;rotate_left;(exact z3 sg);refine' l1 2 zh ?_ ?_;rotate_left;(exact z4 sg);refine' l1 3 zh ?_ ?_;rotate_left;(exact z4 sg);refine' l1 4 zh ?_ ?_;rotate_left;(exact z4 sg);refine' l1 5 zh ?_ ?_;rotate_left;(exact z4 sg);refine' l1 6 zh ?_ ?_;rotate_left;(exact z3 sg);refine' l1 7 zh ?_ ?_;rotate_left;(intro w2 _;refine' zCU sg ?_ w2;exact congrArg (fun x=>some (Value.bool x)) d0);refine' l1 8 zh ?_ ?_;rotate_left;(exact z4 sg);refine l8 9 zh ?_;refine l8 10 zh ?_;refine l8 11 zh ?_;refine l8 12 zh ?_;refine l8 13 zh ?_;refine l8 14 zh ?_;refine l8 15 zh ?_;refine l8 16 zh ?_)|((with_reducible apply RL.nil);decide +kernel)|refine l2 17 ?_|(refine l5 (z6 (x:=cb _ (x.cells none 0) 62) (y:=cb bm (mkc s p n na nc t) 95) H hF) ?_)|refine yU ?_|fail)
  exact zU (M:=_) rfl H ⟨rfl,fun h=>absurd h (show(46:Int)≠0 by decide)⟩
 have d0:(x.id != s.nextA)=false:=by simpa using h0
 by_cases h1:x.fin≤s.clock
 ·have d1:decide (x.fin≤s.clock)=true:=decide_eq_true h1
  rw[if_pos (.inr h1)]
  refine enter [.tmp 4] Tryz.func152 rfl Tryz.ntmps152 rfl rfl ?_
  repeat' (first|refine yT ?_|(refine y9 H ?_;intro b w H)|(refine CW.regionL mixed 18 (z6 (x:=cb _ (x.cells none 0) 62) (y:=cb bm (mkc s p n na nc t) 95) H hF) [] ?_ ?_;exact rfl;intro w hcl;replace H:=H.ext hcl;clear hcl;have zh:=z6 (x:=cb _ (x.cells none 0) 62) (y:=cb bm (mkc s p n na nc t) 95) H hF;refine' l1 0 zh ?_ ?_;rotate_left;(exact z4 sg);refine' l1 1 zh ?_ ?_;rotate_left;(exact z3 sg);refine' l1 2 zh ?_ ?_;rotate_left;(exact z4 sg);refine' l1 3 zh ?_ ?_;rotate_left;(exact z4 sg);refine' l1 4 zh ?_ ?_;rotate_left;(exact z4 sg);refine' l1 5 zh ?_ ?_;rotate_left;(exact z4 sg);refine' l1 6 zh ?_ ?_;rotate_left;(exact z3 sg);refine' l1 7 zh ?_ ?_;rotate_left;(intro w2 _;refine' zCU sg ?_ w2;exact congrArg (fun x=>some (Value.bool x)) d0);refine' l1 8 zh ?_ ?_;rotate_left;(exact z4 sg);refine' l7 9 zh ?_ ?_;rotate_left;(exact z4 sg);refine' l7 10 zh ?_ ?_;rotate_left;(exact z3 sg);refine' l7 11 zh ?_ ?_;rotate_left;(exact z4 sg);refine' l7 12 zh ?_ ?_;rotate_left;(exact z4 sg);refine' l7 13 zh ?_ ?_;rotate_left;(exact z4 sg);refine' l7 14 zh ?_ ?_;rotate_left;(exact z4 sg);refine' l7 15 zh ?_ ?_;rotate_left;(exact z3 sg);refine' l7 16 zh ?_ ?_;rotate_left;(exact z4 sg))|((with_reducible apply RL.nil);decide +kernel)|refine l2 17 ?_|(refine l5 (z6 (x:=cb _ (x.cells none 0) 62) (y:=cb bm (mkc s p n na nc t) 95) H hF) ?_)|refine yU ?_|fail)
  refine CW.condT (congrArg Value.bool d1) ?_
  repeat' (first|refine yT ?_|refine yU ?_|fail)
  exact zU (M:=_) rfl H ⟨rfl,fun h=>absurd h (show(46:Int)≠0 by decide)⟩
 have d1:decide (x.fin≤s.clock)=false:=decide_eq_false h1
 rw[if_neg (fun h=>h.elim h0 h1)]
 refine enter [.tmp 4] Tryz.func152 rfl Tryz.ntmps152 rfl rfl ?_
 repeat' (first|refine yT ?_|(refine y9 H ?_;intro b w H)|(refine CW.regionL mixed 18 (z6 (x:=cb _ (x.cells none 0) 62) (y:=cb bm (mkc s p n na nc t) 95) H hF) [] ?_ ?_;exact rfl;intro w hcl;replace H:=H.ext hcl;clear hcl;have zh:=z6 (x:=cb _ (x.cells none 0) 62) (y:=cb bm (mkc s p n na nc t) 95) H hF;refine' l1 0 zh ?_ ?_;rotate_left;(exact z4 sg);refine' l1 1 zh ?_ ?_;rotate_left;(exact z3 sg);refine' l1 2 zh ?_ ?_;rotate_left;(exact z4 sg);refine' l1 3 zh ?_ ?_;rotate_left;(exact z4 sg);refine' l1 4 zh ?_ ?_;rotate_left;(exact z4 sg);refine' l1 5 zh ?_ ?_;rotate_left;(exact z4 sg);refine' l1 6 zh ?_ ?_;rotate_left;(exact z3 sg);refine' l1 7 zh ?_ ?_;rotate_left;(intro w2 _;refine' zCU sg ?_ w2;exact congrArg (fun x=>some (Value.bool x)) d0);refine' l1 8 zh ?_ ?_;rotate_left;(exact z4 sg);refine' l7 9 zh ?_ ?_;rotate_left;(exact z4 sg);refine' l7 10 zh ?_ ?_;rotate_left;(exact z3 sg);refine' l7 11 zh ?_ ?_;rotate_left;(exact z4 sg);refine' l7 12 zh ?_ ?_;rotate_left;(exact z4 sg);refine' l7 13 zh ?_ ?_;rotate_left;(exact z4 sg);refine' l7 14 zh ?_ ?_;rotate_left;(exact z4 sg);refine' l7 15 zh ?_ ?_;rotate_left;(exact z3 sg);refine' l7 16 zh ?_ ?_;rotate_left;(exact z4 sg))|((with_reducible apply RL.nil);decide +kernel)|refine l2 17 ?_|(refine l5 (z6 (x:=cb _ (x.cells none 0) 62) (y:=cb bm (mkc s p n na nc t) 95) H hF) ?_)|refine yU ?_|fail)
 refine CW.condF (congrArg Value.bool d1) ?_
 by_cases h2:zAF s (nF n 1) (nF n 2) 0 (decide ((s.aucs.length:Int) ≥ 32))≠0
 ·have d2:(zAF s (nF n 1) (nF n 2) 0 (decide ((s.aucs.length:Int) ≥ 32)) != 0)=true:=by simpa using h2
  rw[if_pos h2]
  repeat' (first|refine yT ?_|refine y7 sg H ?_|(refine' y30 zJc ?_ ?_;rotate_left;exact hmay _ _ (H.all hF) (zi hC hLt hN);intro w hcl;replace H:=H.ext hcl;clear hcl)|refine yU ?_|fail)
  refine CW.condT (congrArg Value.bool d2) ?_
  repeat' (first|refine yT ?_|refine yU ?_|fail)
  exact zU (M:=_) rfl H ⟨rfl,fun h=>absurd h h2⟩
 have d2:(zAF s (nF n 1) (nF n 2) 0 (decide ((s.aucs.length:Int) ≥ 32)) != 0)=false:=by simpa using h2
 rw[if_neg h2]
 repeat' (first|refine yT ?_|refine y7 sg H ?_|(refine' y30 zJc ?_ ?_;rotate_left;exact hmay _ _ (H.all hF) (zi hC hLt hN);intro w hcl;replace H:=H.ext hcl;clear hcl)|refine yU ?_|fail)
 refine CW.condF (congrArg Value.bool d2) ?_
 obtain⟨rs,hrs⟩:∃ rs,(zAO s x.seller x.inst x.qty).1={ s with rows:=rs }:=zDR _ _
 repeat' (first|refine yT ?_|refine y7 sg H ?_|(replace H:=H.perm (zCN [_]);refine zc rfl rfl (En.fn zL7 rfl rfl) (c_holds hLt hW x.seller x.inst x.qty (by omega) H (hC.mono (List.subset_append_left _ _))) ?_;rintro _ _ w ⟨rfl,p',M',rfl,hC'⟩ H2;clear H;have H:=H2;clear H2)|refine yU ?_|fail)
 by_cases h3:(zAO s x.seller x.inst x.qty).2≠0
 ·have d3:((zAO s x.seller x.inst x.qty).2 != 0)=true:=by simpa using h3
  rw[if_pos h3]
  refine CW.condT (congrArg Value.bool d3) ?_
  repeat' (first|refine yT ?_|refine yU ?_|fail)
  exact zU (M:=_) rfl H ⟨rfl,fun h=>absurd h h3⟩
 have d3:((zAO s x.seller x.inst x.qty).2 != 0)=false:=by simpa using h3
 rw[if_neg h3,hrs]
 refine CW.condF (congrArg Value.bool d3) ?_
 rw[hrs] at H hC'
 have hac:=hLt.au
 have hOi:Go.Sk.Own Mu 62 9 p'.auA s.aucs.length p'.auC ((List.range s.aucs.length).flatMap (ael s.aucs p'.ad)):=hC'.au
 repeat' (first|refine yT ?_|refine y7 sg H ?_|(refine y11 sg H ?_;intro w H)|(refine CW.regionL mixed 13 (z6 (x:=cb _ (x.cells none 0) 62) (y:=cb bm (mkc { s with rows:=rs } p' n na nc t) 95) H hF (hx:=by first|exact zw (zz2 _)|exact zz4 _ (zw (zz2 _)))) [9,10,11,12] ?_ ?_;exact rfl;intro w hcl;replace H:=H.ext hcl;clear hcl;have zh:=z6 (x:=cb _ (x.cells none 0) 62) (y:=cb bm (mkc { s with rows:=rs } p' n na nc t) 95) H hF (hx:=by first|exact zw (zz2 _)|exact zz4 _ (zw (zz2 _)));refine' l1 0 zh ?_ ?_;rotate_left;(exact z4 sg);refine' l1 1 zh ?_ ?_;rotate_left;(exact z4 sg);refine' l1 2 zh ?_ ?_;rotate_left;(exact z4 sg);refine' l1 3 zh ?_ ?_;rotate_left;(exact z4 sg);refine' l1 4 zh ?_ ?_;rotate_left;(exact z4 sg);refine' l1 5 zh ?_ ?_;rotate_left;(exact z3 sg);refine' l1 6 zh ?_ ?_;rotate_left;(exact z3 sg))|((with_reducible apply RL.nil);decide +kernel)|(refine' l6 9 ?_ ?_;rotate_left;exact z9 sg)|(refine' l6 10 ?_ ?_;rotate_left;exact z9 sg)|(refine' l6 11 ?_ ?_;rotate_left;exact z9 sg)|refine l3 12 ?_|refine l2 7 ?_|refine l2 8 ?_|(refine l5 (z6 (x:=cb _ (x.cells none 0) 62) (y:=cb bm (mkc { s with rows:=rs } p' n na nc t) 95) H hF (hx:=by first|exact zw (zz2 _)|exact zz4 _ (zw (zz2 _)))) ?_)|((with_reducible apply OX.buildA sg H);exact rfl;exact rfl;exact rfl;exact rfl;exact rfl;exact rfl;exact rfl;exact rfl;exact rfl;exact rfl;exact rfl;exact rfl;intro b w H _)|(have hp:=H.perm zOK;refine zo sg 9 96 (M:=Mu) hp rfl rfl rfl rfl rfl rfl rfl rfl rfl rfl rfl hOi (zAM hp.mem (zz3 _ (zz2 _))) rfl (zAh rfl) (show s.aucs.length+1≤maxLen by unfold maxLen;omega) (show(s.aucs.length+1)*96≤140737488355328 by omega) ?_;clear hp H;intro a1 c1 M1 w O1 H;replace H:=H.perm zOK.symm)|refine yU ?_|fail)
 have O2:Go.Sk.Own M1 62 9 a1 (s.aucs.length+1) c1 ((List.range s.aucs.length).flatMap (ael s.aucs p'.ad)++x.cells none 0):=O1
 have hlen:s.aucs.length+1=(s.aucs++[x]).length:=by simp
 have hn:IntKind.i64.wrap (s.nextA+1)=s.nextA+1:=w64 (by omega) (by omega)
 rw[zUH,hlen] at O2
 rw[hlen,hn] at H
 exact zU (M:=mkL bm (mkc { s with rows:=rs,aucs:=s.aucs++[x],nextA:=s.nextA+1 } { p' with auA:=a1,auC:=c1,ad:=adN p'.ad s.aucs.length } n na nc t) Ma Mi M1 ((R++[_])++M')) rfl (H.sub (zz7 _ _)) ⟨rfl,fun _=>⟨{ p' with auA:=a1,auC:=c1,ad:=adN p'.ad s.aucs.length },Ma,Mi,M1,_,rfl,hC'.ac,hC'.ins,hC'.rw,hC'.od,O2,fun j hj=>by
  by_cases g:j<s.aucs.length
  ·show Bids _ (adN p'.ad s.aucs.length j).1 (adN p'.ad s.aucs.length j).2 ((s.aucs++[x]).getD j default).bids
   have e:(s.aucs++[x]).getD j default=s.aucs.getD j default:=by
    rw[List.getD_eq_getElem?_getD,List.getD_eq_getElem?_getD,List.getElem?_append_left g]
   rw[e,show adN p'.ad s.aucs.length j=p'.ad j from if_pos g]
   exact hC'.bd j g
  ·obtain rfl:j=s.aucs.length:=by rw[← hlen] at hj;omega
   show Bids _ (adN p'.ad s.aucs.length s.aucs.length).1 (adN p'.ad s.aucs.length s.aucs.length).2 ((s.aucs++[x]).getD s.aucs.length default).bids
   have e:(s.aucs++[x]).getD s.aucs.length default=x:=by
    rw[List.getD_eq_getElem?_getD,List.getElem?_append_right (Nat.le_refl _),Nat.sub_self];rfl
   rw[e,show adN p'.ad s.aucs.length s.aucs.length=(none,0) from if_neg (Nat.lt_irrefl _),hx0]
   exact SlA.nil⟩⟩
end
end
end Go.Proofs.YtibmaifoaajllaaGreatDoor
