/- Texts of ours, joined: the steps of the proof, or the claim's theorem. -/
import Derived.Test.YthbflajpdhgfiaaGreatDoorQd22
set_option linter.all false
set_option maxHeartbeats 16000000
namespace Go.Proofs.YthbflajpdhgfiaaGreatDoor
section
open Go Go.Sk Go.RowKit
attribute [local irreducible] Go.Calls
section
variable {F G:zC}{bm:Nat}{s:Sta}{p:SPt}{n:List Int}{na:Option Addr}{nc:Nat}{t:ByteArray}{Ma Mi Mu R:zC}
theorem zx {cs:List Value}{ts N:zC}{x:Nat × Obj}(h:x∈ts):x∈mkL bm cs Ma Mi Mu (R++ts++N):=by
 simp[h]
theorem zBV {cs:List Value}{ts N M:zC}{x:Nat × Obj}(h:x∈ts):x∈cb bm cs 141::(Ma++(Mi++(Mu++(R++ts++N)))++M):=by
 simp[h]
theorem u8_id {q:Int}(h:0≤q∧q≤255):IntKind.u8.wrap q=q:=by
 show q % 256=q
 omega
theorem zOW (o:Odr):0≤(zY o).2∧(zY o).2≤1125899906842624:=by
 unfold zY
 by_cases hm:zw o=true
 ·rw[if_pos hm]
  obtain⟨_,_,_,_,h5,h6⟩:=(zAf o).1 hm
  by_cases hs:o.side=1
  ·rw[if_pos hs]
   have:=zFe h5.1 h5.2 h6.1 h6.2
   show 0≤o.price*o.left∧o.price*o.left≤_
   omega
  ·rw[if_neg hs]
   show 0≤o.left∧o.left≤_
   omega
 ·rw[if_neg hm];exact⟨Int.le_refl 0,(show(0:Int)≤1125899906842624 by decide)⟩
theorem zC8 (s:Sta)(ps:List Pst):∃ rs,(zm s ps).1={ s with rows:=rs }:=by
 unfold zm
 split
 ·exact⟨_,rfl⟩
 ·exact⟨s.rows,rfl⟩
theorem zSl {w0 w:World}(hLt:LtS s)(hW:WfR s)(hl:6≤n.length)(hi:1≤nF n 2∧nF n 2≤1000)(hd:0≤nF n 3∧nF n 3≤255)(hp:0≤nF n 4∧nF n 4≤1125899906842624)(hT:∀ j,j<s.insts.length→1≤(in_ s.insts j).tick)(hno:0≤s.nextO∧s.nextO≤4611686018427387904)(H:St w0 (mkL bm (mkc s p n na nc t) Ma Mi Mu R) w)(hC:Cps s p Ma Mi Mu R)(hF:Mem w0 F)(hN:Ints F na nc n) :
  Calls Tryz.prog 123 [.pointer (some ⟨bm,0,none⟩)].toArray w (zi (zBw bm n na nc t (zDK s n)) w0):=by
 obtain⟨hn2,hc2,b2,off2,cs2,T2,fr2,hs2⟩:=id hN
 have hs2F:=hs2.mono (List.subset_cons_self (cb bm (mkc s p n na nc t) 141) F)
 let o:Odr:=⟨nF n 0,nF n 1,nF n 2,nF n 3,nF n 4,nF n 5⟩
 have hcells:[Value.int .i64 (nF n 0),.int .i64 (nF n 1),.int .i64 (nF n 2),.int .u8 (IntKind.u8.wrap (nF n 3)),.int .i64 (nF n 4),.int .i64 (nF n 5)]=o.cells:=by rw[u8_id hd];rfl
 have eP:zDK s n=if nF n 0≠s.nextO then(s,46) else if zAR s (nF n 1) (nF n 2) (nF n 4) (decide (128≤s.orders.length))≠0 then(s,zAR s (nF n 1) (nF n 2) (nF n 4) (decide (128≤s.orders.length))) else if (zAb s (nF n 1) (zY o).1 (zY o).2).2≠0 then zAb s (nF n 1) (zY o).1 (zY o).2 else({ (zAb s (nF n 1) (zY o).1 (zY o).2).1 with orders:=(zEp s.orders o).1,nextO:=s.nextO+1 },0):=rfl
 have hlen:decide ((s.orders.length:Int) ≥ 128)=decide (128≤s.orders.length):=by
  rw[Bool.eq_iff_iff,decide_eq_true_iff,decide_eq_true_iff];omega
 rw[eP,← hlen]
 clear hlen eP
 refine enter [.tmp 2] Tryz.func123 rfl Tryz.ntmps123 rfl rfl ?_
 repeat' (first|refine yT ?_|refine yU ?_|fail)
 refine CW.cutT (fun e w=>∃ b e',e=ovl [(0,.pointer (some ⟨bm,0,none⟩)),(3,.pointer (some ⟨b,0,none⟩))] e'∧St w0 (cb b o.cells 55::mkL bm (mkc s p n na nc t) Ma Mi Mu R) w) ?_ ?_
 ·repeat' (first|refine yT ?_|(refine y10 sg H ?_;intro b w H)|(refine y11 sg H ?_;intro w H)|(refine' y30 zAt ?_ ?_;rotate_left;exact zAw 1 qO _ (H.all hF) (zh hC hLt hN);refine w2 H ?_;clear H;intro w H)|(refine CW.regionL mixed 36 (z6s (x:=cb bm (mkc s p n na nc t) 141) H hF) [] ?_ ?_;exact rfl;refine w2 H ?_;clear H;intro w H;have qh:=z6s (x:=cb bm (mkc s p n na nc t) 141) H hF;refine lT sg 0 qh ?_;refine lT sg 1 qh ?_;refine lT sg 2 qh ?_;refine' l1 3 qh ?_ ?_;rotate_left;(exact z3 sg);refine' l1 4 qh ?_ ?_;rotate_left;(exact(zQ sg hs2));refine' l1 5 qh ?_ ?_;rotate_left;(exact(zK sg hs2F (show 0<n.length by omega)));refine lT sg 6 qh ?_;refine lT sg 8 qh ?_;refine lT sg 9 qh ?_;refine lT sg 10 qh ?_;refine' l1 11 qh ?_ ?_;rotate_left;(exact z3 sg);refine' l1 12 qh ?_ ?_;rotate_left;(exact(zQ sg hs2));refine' l1 13 qh ?_ ?_;rotate_left;(exact(zK sg hs2F (show 2<n.length by omega)));refine lT sg 14 qh ?_;refine lT sg 15 qh ?_;refine lT sg 16 qh ?_;refine' l1 17 qh ?_ ?_;rotate_left;(exact z3 sg);refine' l1 18 qh ?_ ?_;rotate_left;(exact(zQ sg hs2));refine' l1 19 qh ?_ ?_;rotate_left;(exact(zK sg hs2F (show 3<n.length by omega)));refine lT sg 20 qh ?_;refine lT sg 21 qh ?_;refine lT sg 22 qh ?_;refine lT sg 23 qh ?_;refine' l1 24 qh ?_ ?_;rotate_left;(exact z3 sg);refine' l1 25 qh ?_ ?_;rotate_left;(exact(zQ sg hs2));refine' l1 26 qh ?_ ?_;rotate_left;(exact(zK sg hs2F (show 4<n.length by omega)));refine lT sg 27 qh ?_;refine lT sg 28 qh ?_;refine lT sg 29 qh ?_;refine' l1 30 qh ?_ ?_;rotate_left;(exact z3 sg);refine' l1 31 qh ?_ ?_;rotate_left;(exact(zQ sg hs2));refine' l1 32 qh ?_ ?_;rotate_left;(exact(zK sg hs2F (show 5<n.length by omega))))|((with_reducible apply RL.nil);decide +kernel)|refine l2 7 ?_|refine l2 33 ?_|refine l2 34 ?_|refine l2 35 ?_|refine l4 7 34 ?_ ?_|refine l4 33 34 ?_ ?_|(refine l5 (z6s H hF) ?_)|refine yU ?_|fail)
  all_goals exact⟨b,_,zSB rfl rfl,by rw[← hcells];exact H⟩
 clear H
 rintro _ w ⟨b,e',rfl,H⟩
 have hmay:=fun w (G:zC) (hG:Mem w G) (hM:Mkt G bm s p n na nc t)=>zNG 1 2 qO qO hi hT (nF n 4) qO (decide ((s.orders.length:Int) ≥ 128)) w hG hM
 have hlen:decide ((s.orders.length:Int) ≥ 128)=decide (128≤s.orders.length):=by
  rw[Bool.eq_iff_iff,decide_eq_true_iff,decide_eq_true_iff];omega
 have hmay:=fun w (G:zC) (hG:Mem w G) (hM:Mkt G bm s p n na nc t)=>zNG 1 2 qO qO hi hT (nF n 4) qO (decide ((s.orders.length:Int) ≥ 128)) w hG hM
 by_cases h0:nF n 0≠s.nextO
 ·have d0:(nF n 0 != s.nextO)=true:=by simpa using h0
  rw[if_pos h0]
  repeat' (first|(refine CW.regionL mixed 8 (z6 (x:=cb b o.cells 55) (y:=cb bm (mkc s p n na nc t) 141) H hF) [] ?_ ?_;exact rfl;refine w2 H ?_;clear H;intro w H;have qh:=z6 (x:=cb b o.cells 55) (y:=cb bm (mkc s p n na nc t) 141) H hF;refine lT sg 0 qh ?_;refine' l1 1 qh ?_ ?_;rotate_left;(exact z3 sg);refine lT sg 2 qh ?_;refine lT sg 3 qh ?_;refine lT sg 4 qh ?_;refine lT sg 5 qh ?_;refine' l1 6 qh ?_ ?_;rotate_left;(exact z3 sg);refine lT sg 7 qh ?_)|((with_reducible apply RL.nil);decide +kernel)|refine yU ?_|fail)
  refine CW.condT (congrArg Value.bool d0) ?_
  repeat' (first|refine yT ?_|refine yU ?_|fail)
  exact zS (M:=_) rfl H ⟨rfl,fun h=>absurd h (show(46:Int)≠0 by decide)⟩
 ·have d0:(nF n 0 != s.nextO)=false:=by simpa using h0
  rw[if_neg h0]
  repeat' (first|(refine CW.regionL mixed 8 (z6 (x:=cb b o.cells 55) (y:=cb bm (mkc s p n na nc t) 141) H hF) [] ?_ ?_;exact rfl;refine w2 H ?_;clear H;intro w H;have qh:=z6 (x:=cb b o.cells 55) (y:=cb bm (mkc s p n na nc t) 141) H hF;refine lT sg 0 qh ?_;refine' l1 1 qh ?_ ?_;rotate_left;(exact z3 sg);refine lT sg 2 qh ?_;refine lT sg 3 qh ?_;refine lT sg 4 qh ?_;refine lT sg 5 qh ?_;refine' l1 6 qh ?_ ?_;rotate_left;(exact z3 sg);refine lT sg 7 qh ?_)|((with_reducible apply RL.nil);decide +kernel)|refine yU ?_|fail)
  refine CW.condF (congrArg Value.bool d0) ?_
  by_cases h1:zAR s (nF n 1) (nF n 2) (nF n 4) (decide ((s.orders.length:Int) ≥ 128))≠0
  ·have d1:(zAR s (nF n 1) (nF n 2) (nF n 4) (decide ((s.orders.length:Int) ≥ 128)) != 0)=true:=by simpa using h1
   rw[if_pos h1]
   repeat' (first|refine yT ?_|(refine CW.regionL mixed 12 (z6 (x:=cb b o.cells 55) (y:=cb bm (mkc s p n na nc t) 141) H hF) [] ?_ ?_;exact rfl;refine w2 H ?_;clear H;intro w H;have qh:=z6 (x:=cb b o.cells 55) (y:=cb bm (mkc s p n na nc t) 141) H hF;refine lT sg 0 qh ?_;refine lT sg 1 qh ?_;refine' l1 2 qh ?_ ?_;rotate_left;(exact z3 sg);refine lT sg 3 qh ?_;refine lT sg 4 qh ?_;refine lT sg 5 qh ?_;refine lT sg 6 qh ?_;refine' l1 7 qh ?_ ?_;rotate_left;(exact z3 sg))|((with_reducible apply RL.nil);decide +kernel)|refine l2 8 ?_|refine l2 9 ?_|refine l2 10 ?_|refine l2 11 ?_|(refine l5 (z6 H hF) ?_)|(refine' y30 zJZ ?_ ?_;rotate_left;exact hmay _ _ (H.all hF) (zh hC hLt hN);refine w2 H ?_;clear H;intro w H)|refine yU ?_|fail)
   refine CW.condT (congrArg Value.bool d1) ?_
   repeat' (first|refine yT ?_|refine yU ?_|fail)
   exact zS (M:=_) rfl H ⟨rfl,fun h=>absurd h h1⟩
  ·have d1:(zAR s (nF n 1) (nF n 2) (nF n 4) (decide ((s.orders.length:Int) ≥ 128)) != 0)=false:=by simpa using h1
   rw[if_neg h1]
   repeat' (first|refine yT ?_|(refine CW.regionL mixed 12 (z6 (x:=cb b o.cells 55) (y:=cb bm (mkc s p n na nc t) 141) H hF) [] ?_ ?_;exact rfl;refine w2 H ?_;clear H;intro w H;have qh:=z6 (x:=cb b o.cells 55) (y:=cb bm (mkc s p n na nc t) 141) H hF;refine lT sg 0 qh ?_;refine lT sg 1 qh ?_;refine' l1 2 qh ?_ ?_;rotate_left;(exact z3 sg);refine lT sg 3 qh ?_;refine lT sg 4 qh ?_;refine lT sg 5 qh ?_;refine lT sg 6 qh ?_;refine' l1 7 qh ?_ ?_;rotate_left;(exact z3 sg))|((with_reducible apply RL.nil);decide +kernel)|refine l2 8 ?_|refine l2 9 ?_|refine l2 10 ?_|refine l2 11 ?_|(refine l5 (z6 H hF) ?_)|(refine' y30 zJZ ?_ ?_;rotate_left;exact hmay _ _ (H.all hF) (zh hC hLt hN);refine w2 H ?_;clear H;intro w H)|refine yU ?_|fail)
   refine CW.condF (congrArg Value.bool d1) ?_
   have hbd:=zOW o
   obtain⟨rs,hrs⟩:∃ rs,(zAb s (nF n 1) (zY o).1 (zY o).2).1={ s with rows:=rs }:=zC8 _ _
   repeat' (first|refine yT ?_|refine y7 sg H ?_|(refine' y30 zMI ?_ ?_;rotate_left;exact zJh o _;refine w2 H ?_;clear H;intro w H)|(replace H:=H.perm (zCI [_]);refine za rfl rfl (En.fn zMJ rfl rfl) (c_holds hLt hW (nF n 1) (zY o).1 (zY o).2 qO H (hC.mono (List.subset_append_left _ _))) ?_;rintro _ _ w ⟨rfl,p',M',rfl,hC'⟩ H2;clear H;have H:=H2;clear H2)|refine yU ?_|fail)
   by_cases h2:(zAb s (nF n 1) (zY o).1 (zY o).2).2≠0
   ·have d2:((zAb s (nF n 1) (zY o).1 (zY o).2).2 != 0)=true:=by simpa using h2
    rw[if_pos h2]
    refine CW.condT (congrArg Value.bool d2) ?_
    repeat' (first|refine yT ?_|refine yU ?_|fail)
    exact zS (M:=_) rfl H ⟨rfl,fun h=>absurd h h2⟩
   ·have d2:((zAb s (nF n 1) (zY o).1 (zY o).2).2 != 0)=false:=by simpa using h2
    rw[if_neg h2,hrs]
    refine CW.condF (congrArg Value.bool d2) ?_
    rw[hrs] at H hC'
    repeat' (first|refine yT ?_|refine y7 sg H ?_|(refine y11 sg H ?_;intro w H)|(refine CW.regionL mixed 15 (z6s (x:=cb b o.cells 55) H hF (by first|exact zx (zz2 _)|exact zBV (zz2 _))) [] ?_ ?_;exact rfl;refine w2 H ?_;clear H;intro w H;have qh:=z6s (x:=cb b o.cells 55) H hF (by first|exact zx (zz2 _)|exact zBV (zz2 _));refine lT sg 0 qh ?_;refine lT sg 1 qh ?_;refine lT sg 2 qh ?_;refine lT sg 3 qh ?_;refine lT sg 4 qh ?_;refine' l1 6 qh ?_ ?_;rotate_left;(exact z3 sg))|((with_reducible apply RL.nil);decide +kernel)|(refine lT sg 8 (z6s H hF (by first|exact zx (zz2 _)|exact zBV (zz2 _))) ?_)|(refine lT sg 9 (z6s H hF (by first|exact zx (zz2 _)|exact zBV (zz2 _))) ?_)|(refine lT sg 10 (z6s H hF (by first|exact zx (zz2 _)|exact zBV (zz2 _))) ?_)|(refine lT sg 11 (z6s H hF (by first|exact zx (zz2 _)|exact zBV (zz2 _))) ?_)|(refine lT sg 12 (z6s H hF (by first|exact zx (zz2 _)|exact zBV (zz2 _))) ?_)|(refine lT sg 13 (z6s H hF (by first|exact zx (zz2 _)|exact zBV (zz2 _))) ?_)|refine l2 5 ?_|refine l2 7 ?_|refine l2 14 ?_|(refine l5 (z6s H hF (by first|exact zx (zz2 _)|exact zBV (zz2 _))) ?_)|(refine' y32 ent170 ?_ ?_;rotate_left;exact c_Add_ s.orders o _ H.mem (SlA.mono hC'.od (fun p hp=>zz4 _ (zz3 _ (zz3 _ (zz3 _ hp)))));intro v M w hR hS;replace H:=H.addR hS;clear hS;(try simp only[List.cons_append,List.nil_append] at H);obtain⟨a1,c1,rfl,hsl⟩:=hR)|refine yU ?_|fail)
    have hn:IntKind.i64.wrap (s.nextO+1)=s.nextO+1:=w64 qO qO
    repeat' (first|fail)
    all_goals
     rw[hn] at H
     simp only[List.append_assoc] at H
     refine zS (M:=mkL bm (mkc { s with rows:=rs,orders:=(zEp s.orders o).1,nextO:=s.nextO+1 } { p' with odA:=a1,odC:=c1 } n na nc t) Ma Mi Mu _) rfl H ⟨rfl,fun _=>⟨{ p' with odA:=a1,odC:=c1 },Ma,Mi,Mu,_,rfl,hC'.ac,hC'.ins,SlA.mono hC'.rw ?_,SlA.mono hsl ?_,hC'.au,fun j hj=>SlA.mono (hC'.bd j hj) ?_⟩⟩
     all_goals
      intro p hp
      simp only[List.mem_append] at hp ⊢
      first|exact .inr (.inr (.inr hp))|(rcases hp with (h|h)|h<;>simp[h])
end
end
section
open Go Go.Sk Go.RowKit
attribute [local irreducible] Go.Calls
section
variable {F G:zC}{bm:Nat}{s:Sta}{p:SPt}{n:List Int}{na:Option Addr}{nc:Nat}{t:ByteArray}{Ma Mi Mu R:zC}
theorem zSm (l:List Odr)(id:Int):(zDI l id).1.length≤l.length:=by
 unfold zDI zAs
 by_cases h1:ze l=true
 ·rw[if_pos h1]
  by_cases h2:(zW l id).2=true
  ·rw[if_pos h2]
   by_cases h3:(zW l id).1.left<1∨(zW l id).1.left>(zW l id).1.left
   ·rw[if_pos h3];exact zzD _
   ·rw[if_neg h3]
    unfold zBU
    refine Nat.le_trans (List.length_filter_le _ _) (Nat.le_of_eq ?_)
    exact List.length_map _
  ·rw[if_neg h2];exact zzD _
 ·rw[if_neg h1];exact zzD _
theorem zLn {w0 w:World}(hLt:LtS s)(hW:WfR s)(hl:1≤n.length)(H:St w0 (mkL bm (mkc s p n na nc t) Ma Mi Mu R) w)(hC:Cps s p Ma Mi Mu R)(hF:Mem w0 F)(hN:Ints F na nc n) :
  Calls Tryz.prog 124 [.pointer (some ⟨bm,0,none⟩)].toArray w (zi (zBw bm n na nc t (zBb s n)) w0):=by
 obtain⟨hn2,hc2,b2,off2,cs2,T2,fr2,hs2⟩:=id hN
 have hs2F:=hs2.mono (List.subset_cons_self (cb bm (mkc s p n na nc t) 141) F)
 let o:Odr:=(zW s.orders (nF n 0)).1
 have eP:zBb s n=if (zW s.orders (nF n 0)).2=true then zAb { s with orders:=(zDI s.orders o.id).1 } o.acct (zY o).1 (-(zY o).2) else(s,5):=rfl
 rw[eP]
 clear eP
 refine enter [.tmp 2] Tryz.func124 rfl Tryz.ntmps124 rfl rfl ?_
 repeat' (first|refine yT ?_|refine yU ?_|fail)
 refine CW.cutT (fun e w=>∃ b e',e=ovl [(0,.pointer (some ⟨bm,0,none⟩)),(3,.pointer (some ⟨b,0,none⟩)),(4,.bool (zW s.orders (nF n 0)).2)] e'∧St w0 (cb b o.cells 55::mkL bm (mkc s p n na nc t) Ma Mi Mu R) w) ?_ ?_
 ·repeat' (first|refine yT ?_|(refine y10 sg H ?_;intro b w H)|(refine y11 sg H ?_;intro w H)|(refine CW.regionL mixed 18 (z6s (x:=cb bm (mkc s p n na nc t) 141) H hF) [] ?_ ?_;exact rfl;refine w2 H ?_;clear H;intro w H;have qh:=z6s (x:=cb bm (mkc s p n na nc t) 141) H hF;refine lT sg 0 qh ?_;refine lT sg 1 qh ?_;refine lT sg 2 qh ?_;refine lT sg 3 qh ?_;refine' l1 4 qh ?_ ?_;rotate_left;(exact z3 sg);refine lT sg 5 qh ?_;refine lT sg 6 qh ?_;refine lT sg 7 qh ?_;refine' l1 8 qh ?_ ?_;rotate_left;(exact z3 sg);refine' l1 9 qh ?_ ?_;rotate_left;(exact(zQ sg hs2));refine' l1 10 qh ?_ ?_;rotate_left;(exact(zK sg hs2F (show 0<n.length by omega))))|((with_reducible apply RL.nil);decide +kernel)|(refine lT sg 12 (z6s H hF) ?_)|(refine lT sg 13 (z6s H hF) ?_)|(refine lT sg 14 (z6s H hF) ?_)|(refine lT sg 17 (z6s H hF) ?_)|refine l2 11 ?_|refine l2 15 ?_|refine l2 16 ?_|refine l4 11 15 ?_ ?_|(refine l5 (z6s H hF) ?_)|(refine' y30 zFv ?_ ?_;rotate_left;exact zFj s.orders (nF n 0) _ (H.all hF) (SlA.mono ((hC.sta hLt).od) (fun p hp=>zz6 _ (by first|exact zz4 _ hp|exact zz4 _ (zz4 _ hp))));refine w2 H ?_;clear H;intro w H)|refine yU ?_|fail)
  all_goals exact⟨b,_,zA0 rfl rfl rfl,H⟩
 clear H
 rintro _ w ⟨b,e',rfl,H⟩
 by_cases h0:(zW s.orders (nF n 0)).2=true
 ·rw[if_pos h0]
  have d0:(!(zW s.orders (nF n 0)).2)=false:=by rw[h0];rfl
  have hbd:=zOW o
  have hneg:IntKind.i64.wrap (0 - (zY o).2)=-(zY o).2:=by rw[w64 qO qO];omega
  repeat' (first|refine yT ?_|refine yU ?_|fail)
  refine CW.condF (congrArg Value.bool d0) ?_
  repeat' (first|refine yT ?_|refine y7 sg H ?_|(refine y11 sg H ?_;intro w H)|(refine' y30 zMI ?_ ?_;rotate_left;exact zJh o _;refine w2 H ?_;clear H;intro w H)|(refine CW.regionL mixed 16 (z6s (x:=cb b o.cells 55) H hF) [] ?_ ?_;exact rfl;refine w2 H ?_;clear H;intro w H;have qh:=z6s (x:=cb b o.cells 55) H hF;refine lT sg 0 qh ?_;refine lT sg 1 qh ?_;refine lT sg 2 qh ?_;refine lT sg 3 qh ?_;refine lT sg 4 qh ?_;refine lT sg 6 qh ?_;refine' l1 7 qh ?_ ?_;rotate_left;(exact z3 sg))|((with_reducible apply RL.nil);decide +kernel)|(refine lT sg 9 (z6s H hF) ?_)|(refine lT sg 10 (z6s H hF) ?_)|(refine lT sg 11 (z6s H hF) ?_)|(refine lT sg 12 (z6s H hF) ?_)|(refine lT sg 13 (z6s H hF) ?_)|(refine lT sg 14 (z6s H hF) ?_)|refine l2 5 ?_|refine l2 8 ?_|refine l2 15 ?_|(refine l5 (z6s H hF) ?_)|(refine' y32 ent171 ?_ ?_;rotate_left;exact c_Drop s.orders o.id _ H.mem (SlA.mono ((hC.sta hLt).od) (fun p hp=>zz4 _ (zz4 _ hp)));intro v M w hR hS;replace H:=H.addR hS;clear hS;(try simp only[List.cons_append,List.nil_append] at H);obtain⟨a1,c1,rfl,hsl⟩:=hR)|refine yU ?_|fail)
  have hLt2:LtS { s with orders:=(zDI s.orders o.id).1 }:=⟨hLt.ac,hLt.ins,hLt.rw,Nat.le_trans (zSm _ _) hLt.od,hLt.au,hLt.bd⟩
  have hC2:Cps { s with orders:=(zDI s.orders o.id).1 } { p with odA:=a1,odC:=c1 } Ma Mi Mu ((R++M)++[cb b o.cells 55]):=⟨hC.ac,hC.ins,SlA.mono hC.rw fun p hp=>zz6 _ (zz6 _ hp),SlA.mono hsl fun p hp=>zz6 _ (zz3 _ hp),hC.au,fun j hj=>SlA.mono (hC.bd j hj) fun p hp=>zz6 _ (zz6 _ hp)⟩
  have e:(Ma++(Mi++(Mu++R)))++M=Ma++(Mi++(Mu++(R++M))):=by simp only[List.append_assoc]
  rw[e] at H
  have H3:St w0 (mkL bm (mkc { s with orders:=(zDI s.orders o.id).1 } { p with odA:=a1,odC:=c1 } n na nc t) Ma Mi Mu ((R++M)++[cb b o.cells 55])) w:=H.perm (zCI [_])
  clear H e
  have H:=H3
  clear H3
  rw[hneg]
  repeat' (first|refine yT ?_|(refine za rfl rfl (En.fn zMJ rfl rfl) (c_holds hLt2 hW o.acct (zY o).1 (-(zY o).2) qO H hC2) ?_;rintro _ _ w ⟨rfl,hR2⟩ H2;clear H;have H:=H2;clear H2)|refine yU ?_|fail)
  exact zS (M:=_) rfl H (MkP.mkt ⟨rfl,hR2⟩)
 ·rw[if_neg h0]
  have d0:(!(zW s.orders (nF n 0)).2)=true:=by simpa using h0
  repeat' (first|refine yT ?_|refine yU ?_|fail)
  refine CW.condT (congrArg Value.bool d0) ?_
  repeat' (first|refine yT ?_|refine yU ?_|fail)
  exact zS (M:=_) rfl H ⟨rfl,fun h=>absurd h (show(5:Int)≠0 by decide)⟩
end
end
section
open Go Go.Sk Go.RowKit
attribute [local irreducible] Go.Calls
theorem zOX {x y:Nat × Obj}{A B C D:zC}:(x::y::(A++(B++(C++D)))).Perm (C++(x::y::(A++(B++D)))):=by
 have:=(List.perm_append_comm (l₁:=x::y::(A++B)) (l₂:=C)).append_right D
 simpa only[List.cons_append,List.append_assoc] using this
def adN (ad:Nat→Option Addr × Nat)(k:Nat)(j:Nat):Option Addr × Nat:=if j<k then ad j else(none,0)
theorem zUY {l:List Auc}{ad:Nat→Option Addr × Nat}{x:Auc}:(List.range l.length).flatMap (ael l ad)++x.cells none 0=(List.range (l++[x]).length).flatMap (ael (l++[x]) (adN ad l.length)):=by
 rw[List.length_append,List.length_singleton,List.range_succ,List.flatMap_append,List.flatMap_singleton]
 congr 1
 ·have:∀ j∈List.range l.length,ael l ad j=ael (l++[x]) (adN ad l.length) j:=fun j hj=>by
   have hj:=List.mem_range.1 hj
   unfold ael adN
   rw[if_pos hj,List.getD_eq_getElem?_getD,List.getD_eq_getElem?_getD,List.getElem?_append_left hj]
  rw[List.flatMap_def,List.flatMap_def,List.map_congr_left this]
 ·unfold ael adN
  rw[if_neg (Nat.lt_irrefl _),List.getD_eq_getElem?_getD,List.getElem?_append_right (Nat.le_refl _),Nat.sub_self]
  rfl
section
variable {F G:zC}{bm:Nat}{s:Sta}{p:SPt}{n:List Int}{na:Option Addr}{nc:Nat}{t:ByteArray}{Ma Mi Mu R:zC}
theorem zOY {w0 w:World}(x:Auc)(hx1:x.seller=nF n 1)(hx2:x.inst=nF n 2)(hx0:x.bids=[])(hq:0≤x.qty∧x.qty≤1125899906842624)(hLt:LtS s)(hW:WfR s)(hl:3≤n.length)(hi:1≤nF n 2∧nF n 2≤1000)(hT:∀ j,j<s.insts.length→1≤(in_ s.insts j).tick)(hno:0≤s.nextA∧s.nextA≤4611686018427387904)(H:St w0 (mkL bm (mkc s p n na nc t) Ma Mi Mu R) w)(hC:Cps s p Ma Mi Mu R)(hF:Mem w0 F)(hN:Ints F na nc n) :
  Calls Tryz.prog 175 [.pointer (some ⟨bm,0,none⟩),.agg (x.cells none 0).toArray].toArray w (zi (zBw bm n na nc t (zEF s x)) w0):=by
 have eP:zEF s x=if x.id≠s.nextA∨x.fin≤s.clock then(s,46) else if zAR s (nF n 1) (nF n 2) 0 (decide (32≤s.aucs.length))≠0 then(s,zAR s (nF n 1) (nF n 2) 0 (decide (32≤s.aucs.length))) else if (zAb s x.seller x.inst x.qty).2≠0 then zAb s x.seller x.inst x.qty else({ (zAb s x.seller x.inst x.qty).1 with aucs:=s.aucs++[x],nextA:=s.nextA+1 },0):=by rw[← hx1,← hx2];rfl
 have hlen:decide ((s.aucs.length:Int) ≥ 32)=decide (32≤s.aucs.length):=by
  rw[Bool.eq_iff_iff,decide_eq_true_iff,decide_eq_true_iff];omega
 rw[eP,← hlen]
 clear hlen eP
 have hmay:=fun w (G:zC) (hG:Mem w G) (hM:Mkt G bm s p n na nc t)=>zNG 1 2 qO qO hi hT 0 qO (decide ((s.aucs.length:Int) ≥ 32)) w hG hM
 by_cases h0:x.id≠s.nextA
 ·have d0:(x.id != s.nextA)=true:=by simpa using h0
  rw[if_pos (.inl h0)]
  refine enter [.tmp 4] Tryz.func175 rfl Tryz.ntmps175 rfl rfl ?_
  repeat' (first|refine yT ?_|(refine y9 H ?_;intro b w H)|(refine CW.regionL mixed 18 (z6 (x:=cb _ (x.cells none 0) 67) (y:=cb bm (mkc s p n na nc t) 141) H hF) [] ?_ ?_;exact rfl;refine w2 H ?_;clear H;intro w H;have qh:=z6 (x:=cb _ (x.cells none 0) 67) (y:=cb bm (mkc s p n na nc t) 141) H hF;refine lT sg 0 qh ?_;refine' l1 1 qh ?_ ?_;rotate_left;(exact z3 sg);refine lT sg 2 qh ?_;refine lT sg 3 qh ?_;refine lT sg 4 qh ?_;refine lT sg 5 qh ?_;refine' l1 6 qh ?_ ?_;rotate_left;(exact z3 sg);refine' l1 7 qh ?_ ?_;rotate_left;(intro w2 _;refine' zB9 sg ?_ w2;exact congrArg (fun x=>some (Value.bool x)) d0);refine lT sg 8 qh ?_;refine l8 9 qh ?_;refine l8 10 qh ?_;refine l8 11 qh ?_;refine l8 12 qh ?_;refine l8 13 qh ?_;refine l8 14 qh ?_;refine l8 15 qh ?_;refine l8 16 qh ?_)|((with_reducible apply RL.nil);decide +kernel)|refine l2 17 ?_|(refine l5 (z6 H hF) ?_)|refine yU ?_|fail)
  exact zS (M:=_) rfl H ⟨rfl,fun h=>absurd h (show(46:Int)≠0 by decide)⟩
 have d0:(x.id != s.nextA)=false:=by simpa using h0
 by_cases h1:x.fin≤s.clock
 ·have d1:decide (x.fin≤s.clock)=true:=decide_eq_true h1
  rw[if_pos (.inr h1)]
  refine enter [.tmp 4] Tryz.func175 rfl Tryz.ntmps175 rfl rfl ?_
  repeat' (first|refine yT ?_|(refine y9 H ?_;intro b w H)|(refine CW.regionL mixed 18 (z6 (x:=cb _ (x.cells none 0) 67) (y:=cb bm (mkc s p n na nc t) 141) H hF) [] ?_ ?_;exact rfl;refine w2 H ?_;clear H;intro w H;have qh:=z6 (x:=cb _ (x.cells none 0) 67) (y:=cb bm (mkc s p n na nc t) 141) H hF;refine lT sg 0 qh ?_;refine' l1 1 qh ?_ ?_;rotate_left;(exact z3 sg);refine lT sg 2 qh ?_;refine lT sg 3 qh ?_;refine lT sg 4 qh ?_;refine lT sg 5 qh ?_;refine' l1 6 qh ?_ ?_;rotate_left;(exact z3 sg);refine' l1 7 qh ?_ ?_;rotate_left;(intro w2 _;refine' zB9 sg ?_ w2;exact congrArg (fun x=>some (Value.bool x)) d0);refine lT sg 8 qh ?_;refine' l7 9 qh ?_ ?_;rotate_left;(exact z4 sg);refine' l7 10 qh ?_ ?_;rotate_left;(exact z3 sg);refine' l7 11 qh ?_ ?_;rotate_left;(exact z4 sg);refine' l7 12 qh ?_ ?_;rotate_left;(exact z4 sg);refine' l7 13 qh ?_ ?_;rotate_left;(exact z4 sg);refine' l7 14 qh ?_ ?_;rotate_left;(exact z4 sg);refine' l7 15 qh ?_ ?_;rotate_left;(exact z3 sg);refine' l7 16 qh ?_ ?_;rotate_left;(exact z4 sg))|((with_reducible apply RL.nil);decide +kernel)|refine l2 17 ?_|(refine l5 (z6 H hF) ?_)|refine yU ?_|fail)
  refine CW.condT (congrArg Value.bool d1) ?_
  repeat' (first|refine yT ?_|refine yU ?_|fail)
  exact zS (M:=_) rfl H ⟨rfl,fun h=>absurd h (show(46:Int)≠0 by decide)⟩
 have d1:decide (x.fin≤s.clock)=false:=decide_eq_false h1
 rw[if_neg (fun h=>h.elim h0 h1)]
 refine enter [.tmp 4] Tryz.func175 rfl Tryz.ntmps175 rfl rfl ?_
 repeat' (first|refine yT ?_|(refine y9 H ?_;intro b w H)|(refine CW.regionL mixed 18 (z6 (x:=cb _ (x.cells none 0) 67) (y:=cb bm (mkc s p n na nc t) 141) H hF) [] ?_ ?_;exact rfl;refine w2 H ?_;clear H;intro w H;have qh:=z6 (x:=cb _ (x.cells none 0) 67) (y:=cb bm (mkc s p n na nc t) 141) H hF;refine lT sg 0 qh ?_;refine' l1 1 qh ?_ ?_;rotate_left;(exact z3 sg);refine lT sg 2 qh ?_;refine lT sg 3 qh ?_;refine lT sg 4 qh ?_;refine lT sg 5 qh ?_;refine' l1 6 qh ?_ ?_;rotate_left;(exact z3 sg);refine' l1 7 qh ?_ ?_;rotate_left;(intro w2 _;refine' zB9 sg ?_ w2;exact congrArg (fun x=>some (Value.bool x)) d0);refine lT sg 8 qh ?_;refine' l7 9 qh ?_ ?_;rotate_left;(exact z4 sg);refine' l7 10 qh ?_ ?_;rotate_left;(exact z3 sg);refine' l7 11 qh ?_ ?_;rotate_left;(exact z4 sg);refine' l7 12 qh ?_ ?_;rotate_left;(exact z4 sg);refine' l7 13 qh ?_ ?_;rotate_left;(exact z4 sg);refine' l7 14 qh ?_ ?_;rotate_left;(exact z4 sg);refine' l7 15 qh ?_ ?_;rotate_left;(exact z3 sg);refine' l7 16 qh ?_ ?_;rotate_left;(exact z4 sg))|((with_reducible apply RL.nil);decide +kernel)|refine l2 17 ?_|(refine l5 (z6 H hF) ?_)|refine yU ?_|fail)
 refine CW.condF (congrArg Value.bool d1) ?_
 by_cases h2:zAR s (nF n 1) (nF n 2) 0 (decide ((s.aucs.length:Int) ≥ 32))≠0
 ·have d2:(zAR s (nF n 1) (nF n 2) 0 (decide ((s.aucs.length:Int) ≥ 32)) != 0)=true:=by simpa using h2
  rw[if_pos h2]
  repeat' (first|refine yT ?_|refine y7 sg H ?_|(refine' y30 zJZ ?_ ?_;rotate_left;exact hmay _ _ (H.all hF) (zh hC hLt hN);refine w2 H ?_;clear H;intro w H)|refine yU ?_|fail)
  refine CW.condT (congrArg Value.bool d2) ?_
  repeat' (first|refine yT ?_|refine yU ?_|fail)
  exact zS (M:=_) rfl H ⟨rfl,fun h=>absurd h h2⟩
 have d2:(zAR s (nF n 1) (nF n 2) 0 (decide ((s.aucs.length:Int) ≥ 32)) != 0)=false:=by simpa using h2
 rw[if_neg h2]
 repeat' (first|refine yT ?_|refine y7 sg H ?_|(refine' y30 zJZ ?_ ?_;rotate_left;exact hmay _ _ (H.all hF) (zh hC hLt hN);refine w2 H ?_;clear H;intro w H)|refine yU ?_|fail)
 refine CW.condF (congrArg Value.bool d2) ?_
 obtain⟨rs,hrs⟩:∃ rs,(zAb s x.seller x.inst x.qty).1={ s with rows:=rs }:=zC8 _ _
 repeat' (first|refine yT ?_|refine y7 sg H ?_|(replace H:=H.perm (zCI [_]);refine za rfl rfl (En.fn zMJ rfl rfl) (c_holds hLt hW x.seller x.inst x.qty qO H (hC.mono (List.subset_append_left _ _))) ?_;rintro _ _ w ⟨rfl,p',M',rfl,hC'⟩ H2;clear H;have H:=H2;clear H2)|refine yU ?_|fail)
 by_cases h3:(zAb s x.seller x.inst x.qty).2≠0
 ·have d3:((zAb s x.seller x.inst x.qty).2 != 0)=true:=by simpa using h3
  rw[if_pos h3]
  refine CW.condT (congrArg Value.bool d3) ?_
  repeat' (first|refine yT ?_|refine yU ?_|fail)
  exact zS (M:=_) rfl H ⟨rfl,fun h=>absurd h h3⟩
 have d3:((zAb s x.seller x.inst x.qty).2 != 0)=false:=by simpa using h3
 rw[if_neg h3,hrs]
 refine CW.condF (congrArg Value.bool d3) ?_
 rw[hrs] at H hC'
 have hac:=hLt.au
 have hOi:Go.Sk.Own Mu 67 9 p'.auA s.aucs.length p'.auC ((List.range s.aucs.length).flatMap (ael s.aucs p'.ad)):=hC'.au
 repeat' (first|refine yT ?_|refine y7 sg H ?_|(refine y11 sg H ?_;intro w H)|(refine CW.regionL mixed 13 (z6 (x:=cb _ (x.cells none 0) 67) (y:=cb bm (mkc { s with rows:=rs } p' n na nc t) 141) H hF (hx:=by first|exact zx (zz2 _)|exact zz4 _ (zx (zz2 _)))) [9,10,11,12] ?_ ?_;exact rfl;refine w2 H ?_;clear H;intro w H;have qh:=z6 (x:=cb _ (x.cells none 0) 67) (y:=cb bm (mkc { s with rows:=rs } p' n na nc t) 141) H hF (hx:=by first|exact zx (zz2 _)|exact zz4 _ (zx (zz2 _)));refine lT sg 0 qh ?_;refine lT sg 1 qh ?_;refine lT sg 2 qh ?_;refine lT sg 3 qh ?_;refine lT sg 4 qh ?_;refine' l1 5 qh ?_ ?_;rotate_left;(exact z3 sg);refine' l1 6 qh ?_ ?_;rotate_left;(exact z3 sg))|((with_reducible apply RL.nil);decide +kernel)|(refine' l6 9 ?_ ?_;rotate_left;exact z9 sg)|(refine' l6 10 ?_ ?_;rotate_left;exact z9 sg)|(refine' l6 11 ?_ ?_;rotate_left;exact z9 sg)|refine l3 12 ?_|refine l2 7 ?_|refine l2 8 ?_|(refine l5 (z6 H hF (hx:=by first|exact zx (zz2 _)|exact zz4 _ (zx (zz2 _)))) ?_)|((with_reducible apply OX.buildA sg H);(iterate 12 exact rfl);intro b w H _)|(have hp:=H.perm zOX;refine zj sg 9 96 (M:=Mu) hp rfl rfl rfl rfl rfl rfl rfl rfl rfl rfl rfl hOi (zAL hp.mem (zz3 _ (zz2 _))) rfl (zAU rfl) (show s.aucs.length+1≤maxLen by unfold maxLen;omega) (show(s.aucs.length+1)*96≤140737488355328 by omega) ?_;clear hp H;intro a1 c1 M1 w O1 H;replace H:=H.perm zOX.symm)|refine yU ?_|fail)
 have O2:Go.Sk.Own M1 67 9 a1 (s.aucs.length+1) c1 ((List.range s.aucs.length).flatMap (ael s.aucs p'.ad)++x.cells none 0):=O1
 have hlen:s.aucs.length+1=(s.aucs++[x]).length:=by simp
 have hn:IntKind.i64.wrap (s.nextA+1)=s.nextA+1:=w64 qO qO
 rw[zUY,hlen] at O2
 rw[hlen,hn] at H
 exact zS (M:=mkL bm (mkc { s with rows:=rs,aucs:=s.aucs++[x],nextA:=s.nextA+1 } { p' with auA:=a1,auC:=c1,ad:=adN p'.ad s.aucs.length } n na nc t) Ma Mi M1 ((R++[_])++M')) rfl (H.sub (zz7 _ _)) ⟨rfl,fun _=>⟨{ p' with auA:=a1,auC:=c1,ad:=adN p'.ad s.aucs.length },Ma,Mi,M1,_,rfl,hC'.ac,hC'.ins,hC'.rw,hC'.od,O2,fun j hj=>by
  by_cases g:j<s.aucs.length
  ·show Bids _ (adN p'.ad s.aucs.length j).1 (adN p'.ad s.aucs.length j).2 ((s.aucs++[x]).getD j default).bids
   have e:(s.aucs++[x]).getD j default=s.aucs.getD j default:=by
    rw[List.getD_eq_getElem?_getD,List.getD_eq_getElem?_getD,List.getElem?_append_left g]
   rw[e,show adN p'.ad s.aucs.length j=p'.ad j from if_pos g]
   exact hC'.bd j g
  ·obtain rfl:j=s.aucs.length:=by rw[← hlen] at hj;omega
   show Bids _ (adN p'.ad s.aucs.length s.aucs.length).1 (adN p'.ad s.aucs.length s.aucs.length).2 ((s.aucs++[x]).getD s.aucs.length default).bids
   have e:(s.aucs++[x]).getD s.aucs.length default=x:=by
    rw[List.getD_eq_getElem?_getD,List.getElem?_append_right (Nat.le_refl _),Nat.sub_self];rfl
   rw[e,show adN p'.ad s.aucs.length s.aucs.length=(none,0) from if_neg (Nat.lt_irrefl _),hx0]
   exact SlA.nil⟩⟩
end
end
end Go.Proofs.YthbflajpdhgfiaaGreatDoor
