/- Texts of ours, joined: the steps of the proof, or the claim's theorem. -/
import Derived.Test.YthbflajpdhgfiaaGreatDoorQd15
import Derived.Test.YthbflajpdhgfiaaGreatDoorQd21
set_option linter.all false
set_option maxHeartbeats 16000000
namespace Go.Proofs.YthbflajpdhgfiaaGreatDoor
open Go Go.Sk Go.RowKit
attribute [local irreducible] Go.Calls
theorem zLo (l:List Row4)(a q:Int):-4611686018427387904≤zAi l a q∧zAi l a q≤4611686018427387904:=by
 unfold zAi zMU zBz
 split
 ·exact⟨(show(-4611686018427387904:Int)≤0 by decide),(show(0:Int)≤4611686018427387904 by decide)⟩
 ·show -4611686018427387904≤(atR l (a,q)).1+(atR l (a,q)).2∧(atR l (a,q)).1+(atR l (a,q)).2≤4611686018427387904
  omega
theorem zOZ {q z:Int}(h1:0≤q)(h3:0≤z∧z≤1000):0≤(zBa q z).1∧(zBa q z).1≤q:=by
 have e1:q*z≤q*1000:=Int.mul_le_mul_of_nonneg_left h3.2 h1
 have e2:0≤q*z:=Int.mul_nonneg h1 h3.1
 unfold zBa
 split
 ·exact⟨Int.le_refl 0,h1⟩
 ·split
  ·exact⟨Int.le_refl 0,h1⟩
  ·show 0≤q*z / 10000∧q*z / 10000≤q
   generalize q*z=y at e1 e2
   omega
section
variable {F G:zC}{bm:Nat}{s:Sta}{p:SPt}{n:List Int}{na:Option Addr}{nc:Nat}{t:ByteArray}{Ma Mi Mu R:zC}
theorem zGo {a:Option Addr}{cap:Nat}(x:Auc)(h64:R64 s.rows)(hfe:0≤s.fee∧s.fee≤1000)(hq:0≤x.qty∧x.qty≤1125899906842624)(hwa:0≤(zL x).1.amount∧(zL x).1.amount≤1125899906842624)(w0:World)(hG:Mem w0 G)(hM:Mkt G bm s p n na nc t)(hs:Bids G a cap x.bids) :
  Calls Tryz.prog 152 [.pointer (some ⟨bm,0,none⟩),.agg (x.cells a cap).toArray].toArray w0 (Ret (.tuple #[.agg (zM s x).1.cells.toArray,.int .i64 (zM s x).2.1,.bool (zM s x).2.2]) w0):=by
 have htot:=fun w (a q:Int) (hG:Mem w G)=>zRk s.rows h64 a q w hG hM.sta.rw
 by_cases h0:(zL x).2=true
 ·have e0:zM s x=if zAi s.rows x.seller 0+(zL x).1.amount - (zBa (zL x).1.amount s.fee).1>1125899906842624∨zAi s.rows (zL x).1.acct x.inst+x.qty>1125899906842624 then(Bid.zero,0,false) else((zL x).1,(zBa (zL x).1.amount s.fee).1,true):=by unfold zM;rw[if_pos h0]
  have t1:=zLo s.rows x.seller 0
  have t2:=zLo s.rows (zL x).1.acct x.inst
  have f1:=zOZ hwa.1 hfe
  have e1:IntKind.i64.wrap (IntKind.i64.wrap (zAi s.rows x.seller 0+(zL x).1.amount) - (zBa (zL x).1.amount s.fee).1)=zAi s.rows x.seller 0+(zL x).1.amount - (zBa (zL x).1.amount s.fee).1:=by
   have ea:IntKind.i64.wrap (zAi s.rows x.seller 0+(zL x).1.amount)=zAi s.rows x.seller 0+(zL x).1.amount:=w64 qO qO
   rw[ea]
   exact w64 qO qO
  have e2:IntKind.i64.wrap (zAi s.rows (zL x).1.acct x.inst+x.qty)=zAi s.rows (zL x).1.acct x.inst+x.qty:=w64 qO qO
  rw[e0]
  by_cases hA:zAi s.rows x.seller 0+(zL x).1.amount - (zBa (zL x).1.amount s.fee).1>1125899906842624
  ·have d0:decide (IntKind.i64.wrap (IntKind.i64.wrap (zAi s.rows x.seller 0+(zL x).1.amount) - (zBa (zL x).1.amount s.fee).1)>1125899906842624)=true:=by rw[e1];exact decide_eq_true hA
   rw[if_pos (.inl hA)]
   refine enter [.cell 4 72,.tmp 5,.tmp 6] Tryz.func152 rfl Tryz.ntmps152 rfl rfl ?_
   have H:=zA w0
   repeat' (first|refine yT ?_|refine y7 sg H ?_|(refine y9 H ?_;intro b w H)|(refine y10 sg H ?_;intro b w H)|(refine y11 sg H ?_;intro w H)|(refine' y30 zJe ?_ ?_;rotate_left;exact zF6 x _ (H.memF hG) hs;refine w2 H ?_;clear H;intro w H)|(refine CW.regionL mixed 12 (z6s (x:=cb _ (zL x).1.cells 72) H hG) [] ?_ ?_;exact rfl;refine w2 H ?_;clear H;intro w H;have qh:=z6s (x:=cb _ (zL x).1.cells 72) H hG;refine lT sg 0 qh ?_;refine' l1 1 qh ?_ ?_;rotate_left;(exact z3 sg);refine lT sg 2 qh ?_;refine lT sg 3 qh ?_;refine lT sg 4 qh ?_;refine lT sg 5 qh ?_;refine' l1 6 qh ?_ ?_;rotate_left;(exact(fun w2 hM2=>zH sg rfl rfl hM2 (zz4 _ hM.blk) rfl rfl)))|((with_reducible apply RL.nil);decide +kernel)|(refine lT sg 8 (z6s H hG) ?_)|(refine lT sg 9 (z6s H hG) ?_)|(refine lT sg 10 (z6s H hG) ?_)|(refine lT sg 11 (z6s H hG) ?_)|refine l2 7 ?_|(refine l5 (z6s H hG) ?_)|(refine CW.regionL mixed 30 (z6 (x:=cb _ (zL x).1.cells 72) (y:=cb _ (x.cells a cap) 67) H hG) [] ?_ ?_;exact rfl;refine w2 H ?_;clear H;intro w H;have qh:=z6 (x:=cb _ (zL x).1.cells 72) (y:=cb _ (x.cells a cap) 67) H hG;refine lT sg 0 qh ?_;refine lT sg 1 qh ?_;refine lT sg 2 qh ?_;refine lT sg 3 qh ?_;refine' l1 4 qh ?_ ?_;rotate_left;(exact(fun w2 hM2=>zH sg rfl rfl hM2 (zz4 _ (zz4 _ hM.blk)) rfl rfl));refine lT sg 5 qh ?_;refine' l1 6 qh ?_ ?_;rotate_left;(exact z3 sg);refine lT sg 8 qh ?_;refine' l1 9 qh ?_ ?_;rotate_left;(exact z3 sg);refine lT sg 11 qh ?_)|(refine lT sg 10 (z6 H hG) ?_)|(refine lT sg 12 (z6 H hG) ?_)|(refine' l1 13 (z6 H hG) ?_ ?_;rotate_left;(intro w2 _;refine' zB9 sg ?_ w2;exact congrArg (fun x=>some (Value.bool x)) d0))|(refine lT sg 14 (z6 H hG) ?_)|(refine l8 15 (z6 H hG) ?_)|(refine l8 16 (z6 H hG) ?_)|(refine l8 17 (z6 H hG) ?_)|(refine l8 18 (z6 H hG) ?_)|(refine l8 19 (z6 H hG) ?_)|(refine l8 20 (z6 H hG) ?_)|(refine l8 21 (z6 H hG) ?_)|(refine l8 22 (z6 H hG) ?_)|(refine l8 23 (z6 H hG) ?_)|(refine l8 25 (z6 H hG) ?_)|(refine l8 26 (z6 H hG) ?_)|(refine l8 27 (z6 H hG) ?_)|(refine l8 28 (z6 H hG) ?_)|refine l2 24 ?_|refine l2 29 ?_|(refine l5 (z6 H hG) ?_)|(refine' y30 zHf ?_ ?_;rotate_left;exact zIK (zL x).1.amount s.fee qO qO qO qO _;refine w2 H ?_;clear H;intro w H)|(refine' y30 zMK ?_ ?_;rotate_left;exact htot _ _ _ (H.memF hG);refine w2 H ?_;clear H;intro w H)|refine yU ?_|(refine y23 ?_ ?_;all_goals(intro h;try (exfalso;first|((rw[h0] at h;cases h);done))))|fail)
   all_goals exact zA5 (vs:=[_,_,_]) ⟨zy sg rfl H.mem (zz2 _) rfl rfl,zb rfl,zb rfl,trivial⟩ H.cl rfl
  ·have d0:decide (IntKind.i64.wrap (IntKind.i64.wrap (zAi s.rows x.seller 0+(zL x).1.amount) - (zBa (zL x).1.amount s.fee).1)>1125899906842624)=false:=by rw[e1];exact decide_eq_false hA
   by_cases hB:zAi s.rows (zL x).1.acct x.inst+x.qty>1125899906842624
   ·have d1:decide (IntKind.i64.wrap (zAi s.rows (zL x).1.acct x.inst+x.qty)>1125899906842624)=true:=by rw[e2];exact decide_eq_true hB
    rw[if_pos (.inr hB)]
    refine enter [.cell 4 72,.tmp 5,.tmp 6] Tryz.func152 rfl Tryz.ntmps152 rfl rfl ?_
    have H:=zA w0
    repeat' (first|refine yT ?_|refine y7 sg H ?_|(refine y9 H ?_;intro b w H)|(refine y10 sg H ?_;intro b w H)|(refine y11 sg H ?_;intro w H)|(refine' y30 zJe ?_ ?_;rotate_left;exact zF6 x _ (H.memF hG) hs;refine w2 H ?_;clear H;intro w H)|(refine CW.regionL mixed 12 (z6s (x:=cb _ (zL x).1.cells 72) H hG) [] ?_ ?_;exact rfl;refine w2 H ?_;clear H;intro w H;have qh:=z6s (x:=cb _ (zL x).1.cells 72) H hG;refine lT sg 0 qh ?_;refine' l1 1 qh ?_ ?_;rotate_left;(exact z3 sg);refine lT sg 2 qh ?_;refine lT sg 3 qh ?_;refine lT sg 4 qh ?_;refine lT sg 5 qh ?_;refine' l1 6 qh ?_ ?_;rotate_left;(exact(fun w2 hM2=>zH sg rfl rfl hM2 (zz4 _ hM.blk) rfl rfl)))|((with_reducible apply RL.nil);decide +kernel)|(refine lT sg 8 (z6s H hG) ?_)|(refine lT sg 9 (z6s H hG) ?_)|(refine lT sg 10 (z6s H hG) ?_)|(refine lT sg 11 (z6s H hG) ?_)|refine l2 7 ?_|(refine l5 (z6s H hG) ?_)|(refine CW.regionL mixed 30 (z6 (x:=cb _ (zL x).1.cells 72) (y:=cb _ (x.cells a cap) 67) H hG) [] ?_ ?_;exact rfl;refine w2 H ?_;clear H;intro w H;have qh:=z6 (x:=cb _ (zL x).1.cells 72) (y:=cb _ (x.cells a cap) 67) H hG;refine lT sg 0 qh ?_;refine lT sg 1 qh ?_;refine lT sg 2 qh ?_;refine lT sg 3 qh ?_;refine' l1 4 qh ?_ ?_;rotate_left;(exact(fun w2 hM2=>zH sg rfl rfl hM2 (zz4 _ (zz4 _ hM.blk)) rfl rfl));refine lT sg 5 qh ?_;refine' l1 6 qh ?_ ?_;rotate_left;(exact z3 sg);refine lT sg 8 qh ?_;refine' l1 9 qh ?_ ?_;rotate_left;(exact z3 sg);refine lT sg 11 qh ?_)|(refine lT sg 10 (z6 H hG) ?_)|(refine lT sg 12 (z6 H hG) ?_)|(refine' l1 13 (z6 H hG) ?_ ?_;rotate_left;(intro w2 _;refine' zB9 sg ?_ w2;exact congrArg (fun x=>some (Value.bool x)) d0))|(refine lT sg 14 (z6 H hG) ?_)|(refine' l7 15 (z6 H hG) ?_ ?_;rotate_left;(exact z4 sg))|(refine' l7 16 (z6 H hG) ?_ ?_;rotate_left;(exact z4 sg))|(refine' l7 17 (z6 H hG) ?_ ?_;rotate_left;(exact z4 sg))|(refine' l7 18 (z6 H hG) ?_ ?_;rotate_left;(exact z4 sg))|(refine' l7 19 (z6 H hG) ?_ ?_;rotate_left;(exact(fun w2 hM2=>zH sg rfl rfl hM2 (zz4 _ (zz4 _ hM.blk)) rfl rfl)))|(refine' l7 20 (z6 H hG) ?_ ?_;rotate_left;(exact z4 sg))|(refine' l7 21 (z6 H hG) ?_ ?_;rotate_left;(exact z3 sg))|(refine' l7 22 (z6 H hG) ?_ ?_;rotate_left;(exact z4 sg))|(refine' l7 23 (z6 H hG) ?_ ?_;rotate_left;(exact z3 sg))|(refine' l7 25 (z6 H hG) ?_ ?_;rotate_left;(exact z4 sg))|(refine' l7 26 (z6 H hG) ?_ ?_;rotate_left;(exact z3 sg))|(refine' l7 27 (z6 H hG) ?_ ?_;rotate_left;(exact z4 sg))|(refine' l7 28 (z6 H hG) ?_ ?_;rotate_left;(exact z4 sg))|refine l2 24 ?_|refine l2 29 ?_|(refine l5 (z6 H hG) ?_)|(refine' y30 zHf ?_ ?_;rotate_left;exact zIK (zL x).1.amount s.fee qO qO qO qO _;refine w2 H ?_;clear H;intro w H)|(refine' y30 zMK ?_ ?_;rotate_left;exact htot _ _ _ (H.memF hG);refine w2 H ?_;clear H;intro w H)|refine yU ?_|(refine y23 ?_ ?_;all_goals(intro h;try (exfalso;first|((rw[h0] at h;cases h);done)|((cases d1.symm.trans h);done))))|fail)
    all_goals exact zA5 (vs:=[_,_,_]) ⟨zy sg rfl H.mem (zz2 _) rfl rfl,zb rfl,zb rfl,trivial⟩ H.cl rfl
   ·have d1:decide (IntKind.i64.wrap (zAi s.rows (zL x).1.acct x.inst+x.qty)>1125899906842624)=false:=by rw[e2];exact decide_eq_false hB
    rw[if_neg (fun h=>h.elim hA hB)]
    refine enter [.cell 4 72,.tmp 5,.tmp 6] Tryz.func152 rfl Tryz.ntmps152 rfl rfl ?_
    have H:=zA w0
    repeat' (first|refine yT ?_|refine y7 sg H ?_|(refine y9 H ?_;intro b w H)|(refine y10 sg H ?_;intro b w H)|(refine y11 sg H ?_;intro w H)|(refine' y30 zJe ?_ ?_;rotate_left;exact zF6 x _ (H.memF hG) hs;refine w2 H ?_;clear H;intro w H)|(refine CW.regionL mixed 12 (z6s (x:=cb _ (zL x).1.cells 72) H hG) [] ?_ ?_;exact rfl;refine w2 H ?_;clear H;intro w H;have qh:=z6s (x:=cb _ (zL x).1.cells 72) H hG;refine lT sg 0 qh ?_;refine' l1 1 qh ?_ ?_;rotate_left;(exact z3 sg);refine lT sg 2 qh ?_;refine lT sg 3 qh ?_;refine lT sg 4 qh ?_;refine lT sg 5 qh ?_;refine' l1 6 qh ?_ ?_;rotate_left;(exact(fun w2 hM2=>zH sg rfl rfl hM2 (zz4 _ hM.blk) rfl rfl)))|((with_reducible apply RL.nil);decide +kernel)|(refine lT sg 8 (z6s H hG) ?_)|(refine lT sg 9 (z6s H hG) ?_)|(refine lT sg 10 (z6s H hG) ?_)|(refine lT sg 11 (z6s H hG) ?_)|refine l2 7 ?_|(refine l5 (z6s H hG) ?_)|(refine CW.regionL mixed 30 (z6 (x:=cb _ (zL x).1.cells 72) (y:=cb _ (x.cells a cap) 67) H hG) [] ?_ ?_;exact rfl;refine w2 H ?_;clear H;intro w H;have qh:=z6 (x:=cb _ (zL x).1.cells 72) (y:=cb _ (x.cells a cap) 67) H hG;refine lT sg 0 qh ?_;refine lT sg 1 qh ?_;refine lT sg 2 qh ?_;refine lT sg 3 qh ?_;refine' l1 4 qh ?_ ?_;rotate_left;(exact(fun w2 hM2=>zH sg rfl rfl hM2 (zz4 _ (zz4 _ hM.blk)) rfl rfl));refine lT sg 5 qh ?_;refine' l1 6 qh ?_ ?_;rotate_left;(exact z3 sg);refine lT sg 8 qh ?_;refine' l1 9 qh ?_ ?_;rotate_left;(exact z3 sg);refine lT sg 11 qh ?_)|(refine lT sg 10 (z6 H hG) ?_)|(refine lT sg 12 (z6 H hG) ?_)|(refine' l1 13 (z6 H hG) ?_ ?_;rotate_left;(intro w2 _;refine' zB9 sg ?_ w2;exact congrArg (fun x=>some (Value.bool x)) d0))|(refine lT sg 14 (z6 H hG) ?_)|(refine' l7 15 (z6 H hG) ?_ ?_;rotate_left;(exact z4 sg))|(refine' l7 16 (z6 H hG) ?_ ?_;rotate_left;(exact z4 sg))|(refine' l7 17 (z6 H hG) ?_ ?_;rotate_left;(exact z4 sg))|(refine' l7 18 (z6 H hG) ?_ ?_;rotate_left;(exact z4 sg))|(refine' l7 19 (z6 H hG) ?_ ?_;rotate_left;(exact(fun w2 hM2=>zH sg rfl rfl hM2 (zz4 _ (zz4 _ hM.blk)) rfl rfl)))|(refine' l7 20 (z6 H hG) ?_ ?_;rotate_left;(exact z4 sg))|(refine' l7 21 (z6 H hG) ?_ ?_;rotate_left;(exact z3 sg))|(refine' l7 22 (z6 H hG) ?_ ?_;rotate_left;(exact z4 sg))|(refine' l7 23 (z6 H hG) ?_ ?_;rotate_left;(exact z3 sg))|(refine' l7 25 (z6 H hG) ?_ ?_;rotate_left;(exact z4 sg))|(refine' l7 26 (z6 H hG) ?_ ?_;rotate_left;(exact z3 sg))|(refine' l7 27 (z6 H hG) ?_ ?_;rotate_left;(exact z4 sg))|(refine' l7 28 (z6 H hG) ?_ ?_;rotate_left;(exact z4 sg))|refine l2 24 ?_|refine l2 29 ?_|(refine l5 (z6 H hG) ?_)|(refine' y30 zHf ?_ ?_;rotate_left;exact zIK (zL x).1.amount s.fee qO qO qO qO _;refine w2 H ?_;clear H;intro w H)|(refine' y30 zMK ?_ ?_;rotate_left;exact htot _ _ _ (H.memF hG);refine w2 H ?_;clear H;intro w H)|refine yU ?_|(refine y23 ?_ ?_;all_goals(intro h;try (exfalso;first|((rw[h0] at h;cases h);done)|((cases d1.symm.trans h);done))))|fail)
    all_goals exact zA5 (vs:=[_,_,_]) ⟨zy sg rfl H.mem (zz2 _) rfl rfl,zb rfl,zb rfl,trivial⟩ H.cl rfl
 ·have h0':(zL x).2=false:=by simpa using h0
  have e0:zM s x=(Bid.zero,0,false):=by unfold zM;rw[if_neg h0]
  rw[e0]
  refine enter [.cell 4 72,.tmp 5,.tmp 6] Tryz.func152 rfl Tryz.ntmps152 rfl rfl ?_
  have H:=zA w0
  repeat' (first|refine yT ?_|refine y7 sg H ?_|(refine y9 H ?_;intro b w H)|(refine y10 sg H ?_;intro b w H)|(refine y11 sg H ?_;intro w H)|(refine' y30 zJe ?_ ?_;rotate_left;exact zF6 x _ (H.memF hG) hs;refine w2 H ?_;clear H;intro w H)|refine yU ?_|(refine y23 ?_ ?_;all_goals(intro h;try (exfalso;first|((rw[h0'] at h;cases h);done))))|fail)
  all_goals exact zA5 (vs:=[_,_,_]) ⟨zy sg rfl H.mem (zz2 _) rfl rfl,zb rfl,zb rfl,trivial⟩ H.cl rfl
end
end Go.Proofs.YthbflajpdhgfiaaGreatDoor
