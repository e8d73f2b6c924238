/- Texts of ours, joined: the steps of the proof, or the claim's theorem. -/
import Derived.Test.YthbflajpdhgfiaaGreatDoorQd24
import Derived.Test.YthbflajpdhgfiaaGreatDoorQd25
set_option linter.all false
set_option maxHeartbeats 16000000
namespace Go.Proofs.YthbflajpdhgfiaaGreatDoor
section
open Go Go.Sk Go.RowKit
attribute [local irreducible] Go.Calls
section
variable {F:zC}{s:Sta}{p:SPt}
theorem c_aFee (hW:StaW s)(hfe:zCY s=true→0≤s.fee∧s.fee≤1000)(q:Int)(hq:0≤q∧q≤4503599627370496)(w0:World)(hF:Mem w0 F)(hs:StaM F s p) :
  Calls Tryz.prog 97 [.agg (s.cells p).toArray,.int .i64 q].toArray w0 (Ret (.int .i64 (if zCY s=true then(zBa q s.fee).1 else 0)) w0):=by
 cases hm:zCY s with
 | true =>
   have hfe:=hfe hm
   rw[if_pos rfl]
   refine enter [.tmp 4] Tryz.func97 rfl Tryz.ntmps97 rfl rfl ?_
   have H:=zA w0
   repeat' (first|refine yT ?_|refine y7 sg H ?_|(refine y9 H ?_;intro b w H)|(refine' y30 zDd ?_ ?_;rotate_left;exact zDG s p hW _ (H.memF hF) hs;refine w2 H ?_;clear H;intro w H)|(refine' y30 zHf ?_ ?_;rotate_left;exact zIK q s.fee qO qO qO qO _;refine w2 H ?_;clear H;intro w H)|refine yU ?_|(refine y23 ?_ ?_;all_goals(intro h;try (exfalso;first|((rw[hm] at h;cases h);done))))|fail)
   exact zP rfl H.cl rfl
 | false =>
   rw[if_neg (by decide)]
   refine enter [.tmp 4] Tryz.func97 rfl Tryz.ntmps97 rfl rfl ?_
   have H:=zA w0
   repeat' (first|refine yT ?_|refine y7 sg H ?_|(refine y9 H ?_;intro b w H)|(refine' y30 zDd ?_ ?_;rotate_left;exact zDG s p hW _ (H.memF hF) hs;refine w2 H ?_;clear H;intro w H)|refine yU ?_|(refine y23 ?_ ?_;all_goals(intro h;try (exfalso;first|((rw[hm] at h;cases h);done))))|fail)
   exact zP rfl H.cl rfl
def zAq (s:Sta)(id:Int):Bid × Int × Bool:=if (zAy s.aucs id).2=true∧zCY s=true then zM s (zAy s.aucs id).1 else(Bid.zero,0,false)
theorem zP3 (hW:StaW s)(id:Int)(h64:R64 s.rows)(hb:∀ j,j<s.aucs.length→(s.aucs.getD j default).bids.length≤100000)
  (hok:(zAy s.aucs id).2=true→zCY s=true→(0≤s.fee∧s.fee≤1000)∧(0≤(zAy s.aucs id).1.qty∧(zAy s.aucs id).1.qty≤1125899906842624)∧0≤(zL (zAy s.aucs id).1).1.amount∧(zL (zAy s.aucs id).1).1.amount≤1125899906842624) (w0:World) (hF:Mem w0 F) (hs:StaM F s p) :
  Calls Tryz.prog 99 [.agg (s.cells p).toArray,.int .i64 id].toArray w0 (Ret (.tuple #[.int .i64 (zAq s id).1.acct,.int .i64 (zAq s id).1.amount,.int .i64 (zAq s id).2.1,.bool (zAq s id).2.2]) w0):=by
 have hget:=fun w (hF:Mem w F)=>c_Get s.aucs p.ad id w hF hs.au (fun j hj=>Nat.le_trans (hb j hj) (by decide))
 have hgl:(zAy s.aucs id).1.bids.length≤100000:=by
  unfold zAy
  split
  ·exact zzD _
  ·have:=zHN s.aucs id
   exact hb _ qO
 unfold zAq
 cases h0:(zAy s.aucs id).2 with
 | false =>
   rw[if_neg (by rintro⟨g,_⟩;cases g)]
   refine enter [.tmp 4,.tmp 5,.tmp 6,.tmp 7] Tryz.func99 rfl Tryz.ntmps99 rfl rfl ?_
   have H:=zA w0
   repeat' (first|refine yT ?_|refine y7 sg H ?_|(refine y9 H ?_;intro b w H)|(refine y10 sg H ?_;intro b w H)|(refine y11 sg H ?_;intro w H)|(refine' y32 zKr ?_ ?_;rotate_left;exact hget _ (H.memF hF);intro v M w hR hS;replace H:=H.addR hS;clear hS;(try simp only[List.cons_append,List.nil_append] at H);obtain⟨_,⟨a1,c1,rfl,hO⟩,rfl⟩:=hR)|refine yU ?_|(refine y17 ?_ ?_;all_goals(intro h;try (exfalso;first|((rw[h0] at h;cases h);done))))|fail)
   all_goals exact zA5 (vs:=[_,_,_,_]) ⟨zb rfl,zb rfl,zb rfl,zb rfl,trivial⟩ H.cl rfl
 | true =>
   cases hm:zCY s with
   | false =>
     rw[if_neg (by rintro⟨_,g⟩;cases g)]
     refine enter [.tmp 4,.tmp 5,.tmp 6,.tmp 7] Tryz.func99 rfl Tryz.ntmps99 rfl rfl ?_
     have H:=zA w0
     repeat' (first|refine yT ?_|refine y7 sg H ?_|(refine y9 H ?_;intro b w H)|(refine y10 sg H ?_;intro b w H)|(refine y11 sg H ?_;intro w H)|(refine' y30 zDd ?_ ?_;rotate_left;exact zDG s p hW _ (H.memF hF) hs;refine w2 H ?_;clear H;intro w H)|(refine' y32 zKr ?_ ?_;rotate_left;exact hget _ (H.memF hF);intro v M w hR hS;replace H:=H.addR hS;clear hS;(try simp only[List.cons_append,List.nil_append] at H);obtain⟨_,⟨a1,c1,rfl,hO⟩,rfl⟩:=hR)|refine yU ?_|((first|refine y17 ?_ ?_|refine y23 ?_ ?_);all_goals(intro h;try (exfalso;first|((rw[h0] at h;cases h);done)|((rw[hm] at h;cases h);done))))|fail)
     all_goals exact zA5 (vs:=[_,_,_,_]) ⟨zb rfl,zb rfl,zb rfl,zb rfl,trivial⟩ H.cl rfl
   | true =>
     obtain⟨hfe,hq,hwa⟩:=hok h0 hm
     rw[if_pos ⟨rfl,rfl⟩]
     refine enter [.tmp 4,.tmp 5,.tmp 6,.tmp 7] Tryz.func99 rfl Tryz.ntmps99 rfl rfl ?_
     have H:=zA w0
     have hwin:=fun w (b:Nat) (G:zC) (a1:Option Addr) (c1:Nat) (hG:Mem w G) (hM:Mkt G b s p [] none 0 ByteArray.empty) (hB:Bids G a1 c1 (zAy s.aucs id).1.bids)=>zGo (zAy s.aucs id).1 h64 hfe hq hwa w hG hM hB
     repeat' (first|refine yT ?_|refine y7 sg H ?_|(refine y9 H ?_;intro b w H)|(refine y10 sg H ?_;intro b w H)|(refine y11 sg H ?_;intro w H)|(refine' y30 zDd ?_ ?_;rotate_left;exact zDG s p hW _ (H.memF hF) hs;refine w2 H ?_;clear H;intro w H)|(refine' y32 zKr ?_ ?_;rotate_left;exact hget _ (H.memF hF);intro v M w hR hS;replace H:=H.addR hS;clear hS;(try simp only[List.cons_append,List.nil_append] at H);obtain⟨_,⟨a1,c1,rfl,hO⟩,rfl⟩:=hR)|(refine' y30 zMH ?_ ?_;rotate_left;exact hwin _ _ _ _ _ (H.all hF) ⟨zz6 _ qC,hs.mono (zz8 _ _),SlA.nil⟩ (OwnB.bids hO qS qO);refine w2 H ?_;clear H;intro w H)|(refine CW.regionL mixed 10 (z6s (x:=cb _ (zM s (zAy s.aucs id).1).1.cells 72) H hF) [] ?_ ?_;exact rfl;refine w2 H ?_;clear H;intro w H;have qh:=z6s (x:=cb _ (zM s (zAy s.aucs id).1).1.cells 72) H hF;refine lT sg 0 qh ?_;refine' l1 1 qh ?_ ?_;rotate_left;(exact z3 sg);refine lT sg 2 qh ?_;refine' l1 3 qh ?_ ?_;rotate_left;(exact z3 sg);refine lT sg 4 qh ?_;refine lT sg 5 qh ?_;refine lT sg 6 qh ?_;refine lT sg 7 qh ?_;refine lT sg 8 qh ?_;refine lT sg 9 qh ?_)|((with_reducible apply RL.nil);decide +kernel)|refine yU ?_|((first|refine y17 ?_ ?_|refine y23 ?_ ?_);all_goals(intro h;try (exfalso;first|((rw[h0] at h;cases h);done)|((rw[hm] at h;cases h);done))))|fail)
     all_goals exact zA5 (vs:=[_,_,_,_]) ⟨zb rfl,zb rfl,zb rfl,zb rfl,trivial⟩ H.cl rfl
end
end
section
open Go Go.Sk Go.RowKit
attribute [local irreducible] Go.Calls
theorem zUZ {x y z:Nat × Obj}{L:zC}:(x::y::z::L).Perm ([z]++(x::y::L)) :=
 ((List.Perm.swap z y L).cons x).trans (List.Perm.swap z x (y::L))
theorem zSo {w0 w:World}{x1 x2 x3 x4 x5 x6 y:Nat × Obj}{N A B C D E:zC}(H:St w0 (N++(x1::x2::x3::x4::x5::x6::y::((A++(B++(C++E)))++D))) w):St w0 (y::(A++(B++(C++((E++D)++(N++[x1,x2,x3,x4,x5,x6])))))) w:=by
 refine St.perm ?_ (zCI (N++[x1,x2,x3,x4,x5,x6]))
 simpa only[List.append_assoc,List.cons_append,List.nil_append] using H
theorem zDQ {y z:Nat × Obj}{A B C:zC}:(y::(A++(B++([z]++C)))).Perm (z::y::(A++(B++C))):=by
 have h:=(List.perm_append_comm (l₁:=y::(A++B)) (l₂:=[z])).append_right C
 simpa only[List.cons_append,List.nil_append,List.append_assoc] using h
theorem zKT {l:List Auc}{x:Auc}{k j:Nat}(hk:k<l.length):(l.set k x).getD j default=if j=k then x else l.getD j default:=by
 rw[List.getD_eq_getElem?_getD,List.getD_eq_getElem?_getD,List.getElem?_set]
 by_cases h:k=j
 ·subst h;rw[if_pos rfl,if_pos rfl,if_pos hk];rfl
 ·rw[if_neg h,if_neg (fun e=>h e.symm)]
theorem zNI {l:List Auc}{ad:Nat→Option Addr × Nat}{k:Nat}{x:Auc}{a:Option Addr}{c:Nat}(hk:k<l.length){g cap:Nat}{cs:List Value}(hE:Els cs 9 l.length (ael l ad))(h1:l.length≤cap)(h2:cap≤maxLen)(h3:cs.length=cap*9) :
  Go.Sk.Own [cb g (wr cs (k*9+0) (x.cells a c)) 67] 67 9 (some ⟨g,0,none⟩) l.length cap ((List.range l.length).flatMap (ael (l.set k x) (fun j=>if j=k then(a,c) else ad j))):=by
 refine Els.own ((zFt hE hk (show 0+9≤9 by decide)).congr fun j hj=>?_) (fun _ _=>rfl) h1 h2 (by
  have:=(hE k hk).1
  rw[zBt (by show k*9+0+9≤_;omega)];exact h3)
 show(if j=k then wr (ael l ad k) 0 (x.cells a c) else ael l ad j)=((l.set k x).getD j default).cells (if j=k then(a,c) else ad j).1 (if j=k then(a,c) else ad j).2
 rw[zKT hk]
 by_cases hjk:j=k
 ·rw[if_pos hjk,if_pos hjk,if_pos hjk];rfl
 ·rw[if_neg hjk,if_neg hjk,if_neg hjk];rfl
theorem zKU (s:Sta)(id:Int):-1≤zAV s id∧zAV s id<s.aucs.length:=zHN s.aucs id
section
variable {F G:zC}{bm:Nat}{s:Sta}{p:SPt}{n:List Int}{na:Option Addr}{nc:Nat}{t:ByteArray}{Ma Mi Mu R:zC}
theorem zOa {w0 w:World}(sealed:Bool)(hl:3≤n.length)(hz:0≤nF n 2∧nF n 2≤1125899906842624)(htop:∀ j,j<s.aucs.length→0≤(zAD (au_ s.aucs j)).1.amount∧(zAD (au_ s.aucs j)).1.amount≤1125899906842624)(htl:∀ j,j<s.aucs.length→(zU (au_ s.aucs j) ⟨nF n 1,nF n 2⟩).1.bids.length≤100000)(hLt:LtS s)(hW:WfR s)(H:St w0 (mkL bm (mkc s p n na nc t) Ma Mi Mu R) w)(hC:Cps s p Ma Mi Mu R)(hF:Mem w0 F)(hN:Ints F na nc n) :
  Calls Tryz.prog 176 [.pointer (some ⟨bm,0,none⟩),.bool sealed].toArray w (zi (zBw bm n na nc t (zJz s n sealed)) w0):=by
 obtain⟨hn2,hc2,b2,off2,cs2,T2,fr2,hs2⟩:=id hN
 have hpl:=fun w (G:zC) (hG:Mem w G) (hM:Mkt G bm s p n na nc t)=>zGn qO hLt.au w hG hM
 have hlt:=zKU s (nF n 0)
 have ha:=fun w (b:Nat) (X:zC) (hX:Mem w X) (hm:cb b [Value.int .i64 (1:Int)] 3∈X) (G:zC) (hG:Mem w G) (hM:Mkt G bm s p n na nc t)=>zCZ (T:=3) 1 qO w hX hm hG hM
 have eP:zJz s n sealed=if zAV s (nF n 0)<0∨(au_ s.aucs (zAV s (nF n 0)).toNat).sealed≠sealed then(s,5) else if zAG s (nF n 1)=true then(if zAA (au_ s.aucs (zAV s (nF n 0)).toNat) s.clock=true then(s,46) else if (zU (au_ s.aucs (zAV s (nF n 0)).toNat) ⟨nF n 1,nF n 2⟩).2≠0 then(s,(zU (au_ s.aucs (zAV s (nF n 0)).toNat) ⟨nF n 1,nF n 2⟩).2) else if (zm s (⟨nF n 1,0,-nF n 2,nF n 2⟩::(if (zAD (au_ s.aucs (zAV s (nF n 0)).toNat)).2=true∧sealed=false then[⟨(zAD (au_ s.aucs (zAV s (nF n 0)).toNat)).1.acct,0,(zAD (au_ s.aucs (zAV s (nF n 0)).toNat)).1.amount,-(zAD (au_ s.aucs (zAV s (nF n 0)).toNat)).1.amount⟩] else[]))).2≠0 then zm s (⟨nF n 1,0,-nF n 2,nF n 2⟩::(if (zAD (au_ s.aucs (zAV s (nF n 0)).toNat)).2=true∧sealed=false then[⟨(zAD (au_ s.aucs (zAV s (nF n 0)).toNat)).1.acct,0,(zAD (au_ s.aucs (zAV s (nF n 0)).toNat)).1.amount,-(zAD (au_ s.aucs (zAV s (nF n 0)).toNat)).1.amount⟩] else[])) else({ (zm s (⟨nF n 1,0,-nF n 2,nF n 2⟩::(if (zAD (au_ s.aucs (zAV s (nF n 0)).toNat)).2=true∧sealed=false then[⟨(zAD (au_ s.aucs (zAV s (nF n 0)).toNat)).1.acct,0,(zAD (au_ s.aucs (zAV s (nF n 0)).toNat)).1.amount,-(zAD (au_ s.aucs (zAV s (nF n 0)).toNat)).1.amount⟩] else[]))).1 with aucs:=s.aucs.set (zAV s (nF n 0)).toNat (zU (au_ s.aucs (zAV s (nF n 0)).toNat) ⟨nF n 1,nF n 2⟩).1 },0)) else(s,5):=rfl
 rw[eP]
 clear eP
 by_cases h0:zAV s (nF n 0)<0
 ·have d0:decide (zAV s (nF n 0)<0)=true:=decide_eq_true h0
  rw[if_pos (.inl h0)]
  refine enter [.tmp 4] Tryz.func176 rfl Tryz.ntmps176 rfl rfl ?_
  repeat' (first|refine yT ?_|(refine' y30 zD0 ?_ ?_;rotate_left;exact hpl _ _ (H.all hF) (zh hC hLt hN);refine w2 H ?_;clear H;intro w H)|refine yU ?_|(refine y17 ?_ ?_;all_goals(intro h;try (exfalso;first|((cases d0.symm.trans h);done))))|fail)
  exact zS (M:=_) rfl H ⟨rfl,fun h=>absurd h (show(5:Int)≠0 by decide)⟩
 obtain⟨k,hk⟩:∃ k:Nat,zAV s (nF n 0)=k:=⟨(zAV s (nF n 0)).toNat,by omega⟩
 rw[hk] at hpl hlt h0 ⊢
 rw[Int.toNat_natCast]
 have hkl:k<s.aucs.length:=by omega
 obtain⟨g,cs,hA,rfl,hcap,hcm,hcl,hE⟩:=zBr hC.au qO (fun _ _=>rfl)
 have hsI:=hE.slb (F:=[cb g cs 67]) (T:=67) (zz2 _)
 rw[← hA] at hsI
 have hfit:=(hE _ hkl).1
 by_cases h1:(au_ s.aucs k).sealed≠sealed
 ·have d1:((au_ s.aucs k).sealed != sealed)=true:=by simpa using h1
  rw[if_pos (.inr h1)]
  refine enter [.tmp 4] Tryz.func176 rfl Tryz.ntmps176 rfl rfl ?_
  repeat' (first|refine yT ?_|refine y7 sg H ?_|(refine' y30 zD0 ?_ ?_;rotate_left;exact hpl _ _ (H.all hF) (zh hC hLt hN);refine w2 H ?_;clear H;intro w H)|refine x40 sg hsI ?_|(refine y44 sg (hsI) ((show Mem _ [cb g cs 67] from fun p hp=>H.mem p (by cases List.mem_singleton.1 hp;simp))) ?_ ?_;(omega))|refine yU ?_|(refine y23 ?_ ?_;all_goals(intro h;try (exfalso;first|((exact absurd (zzA h) h0);done)|((cases d1.symm.trans h);done))))|fail)
  exact zS (M:=_) rfl H ⟨rfl,fun h=>absurd h (show(5:Int)≠0 by decide)⟩
 have d1:((au_ s.aucs k).sealed != sealed)=false:=by simpa using h1
 rw[if_neg (fun h=>h.elim h0 h1)]
 by_cases h2:zAG s (nF n 1)=true
 ·rw[if_pos h2] at ha ⊢
  by_cases h3:zAA (au_ s.aucs k) s.clock=true
  ·have d2:zAA (au_ s.aucs k) s.clock=true:=h3
   rw[if_pos h3]
   refine enter [.tmp 4] Tryz.func176 rfl Tryz.ntmps176 rfl rfl ?_
   repeat' (first|refine yT ?_|refine y7 sg H ?_|(refine y10 sg H ?_;intro b w H)|(refine y11 sg H ?_;intro w H)|(refine z14 sg H ?_;intro b w H)|(refine' y30 zAu ?_ ?_;rotate_left;exact ha _ _ _ H.mem (zz2 _) _ (H.all hF) (zh hC hLt hN);refine w2 H ?_;clear H;intro w H)|(refine' y30 zD0 ?_ ?_;rotate_left;exact hpl _ _ (H.all hF) (zh hC hLt hN);refine w2 H ?_;clear H;intro w H)|refine x40 sg hsI ?_|(refine y44 sg (hsI) ((show Mem _ [cb g cs 67] from fun p hp=>H.mem p (by cases List.mem_singleton.1 hp;simp))) ?_ ?_;(omega))|(refine y42 sg (hsI) ((show Mem _ [cb g cs 67] from fun p hp=>H.mem p (by cases List.mem_singleton.1 hp;simp))) ?_ ?_;(omega))|(refine CW.regionL mixed 7 (z6 (x:=cb _ ((au_ s.aucs k).cells (p.ad k).1 (p.ad k).2) 67) (y:=cb bm (mkc s p n na nc t) 141) H hF) [] ?_ ?_;exact rfl;refine w2 H ?_;clear H;intro w H;have qh:=z6 (x:=cb _ ((au_ s.aucs k).cells (p.ad k).1 (p.ad k).2) 67) (y:=cb bm (mkc s p n na nc t) 141) H hF;refine' l1 0 qh ?_ ?_;rotate_left;(exact z3 sg);refine lT sg 1 qh ?_;refine lT sg 2 qh ?_;refine lT sg 3 qh ?_;refine lT sg 4 qh ?_;refine' l1 5 qh ?_ ?_;rotate_left;(exact z3 sg))|((with_reducible apply RL.nil);decide +kernel)|refine l2 6 ?_|(refine l5 (z6 H hF) ?_)|(refine' y30 zGx ?_ ?_;rotate_left;exact zHj (au_ s.aucs k) s.clock _ H.mem (SlA.mono (hC.bd k hkl) qS);refine w2 H ?_;clear H;intro w H)|refine yU ?_|(refine y23 ?_ ?_;all_goals(intro h;try (exfalso;first|((exact absurd (zzA h) h0);done)|((cases d1.symm.trans h);done)|((exact absurd h (by decide));done)|((cases d2.symm.trans h);done))))|fail)
   exact zS (M:=_) rfl H ⟨rfl,fun h=>absurd h (show(46:Int)≠0 by decide)⟩
  have d2:zAA (au_ s.aucs k) s.clock=false:=by simpa using h3
  rw[if_neg h3]
  refine enter [.tmp 4] Tryz.func176 rfl Tryz.ntmps176 rfl rfl ?_
  repeat' (first|refine yT ?_|refine y7 sg H ?_|(refine y10 sg H ?_;intro b w H)|(refine y11 sg H ?_;intro w H)|(refine z14 sg H ?_;intro b w H)|(refine' y30 zAu ?_ ?_;rotate_left;exact ha _ _ _ H.mem (zz2 _) _ (H.all hF) (zh hC hLt hN);refine w2 H ?_;clear H;intro w H)|(refine' y30 zD0 ?_ ?_;rotate_left;exact hpl _ _ (H.all hF) (zh hC hLt hN);refine w2 H ?_;clear H;intro w H)|refine x40 sg hsI ?_|(refine y44 sg (hsI) ((show Mem _ [cb g cs 67] from fun p hp=>H.mem p (by cases List.mem_singleton.1 hp;simp))) ?_ ?_;(omega))|(refine y42 sg (hsI) ((show Mem _ [cb g cs 67] from fun p hp=>H.mem p (by cases List.mem_singleton.1 hp;simp))) ?_ ?_;(omega))|(refine CW.regionL mixed 7 (z6 (x:=cb _ ((au_ s.aucs k).cells (p.ad k).1 (p.ad k).2) 67) (y:=cb bm (mkc s p n na nc t) 141) H hF) [] ?_ ?_;exact rfl;refine w2 H ?_;clear H;intro w H;have qh:=z6 (x:=cb _ ((au_ s.aucs k).cells (p.ad k).1 (p.ad k).2) 67) (y:=cb bm (mkc s p n na nc t) 141) H hF;refine' l1 0 qh ?_ ?_;rotate_left;(exact z3 sg);refine lT sg 1 qh ?_;refine lT sg 2 qh ?_;refine lT sg 3 qh ?_;refine lT sg 4 qh ?_;refine' l1 5 qh ?_ ?_;rotate_left;(exact z3 sg))|((with_reducible apply RL.nil);decide +kernel)|refine l2 6 ?_|(refine l5 (z6 H hF) ?_)|(refine' y30 zGx ?_ ?_;rotate_left;exact zHj (au_ s.aucs k) s.clock _ H.mem (SlA.mono (hC.bd k hkl) qS);refine w2 H ?_;clear H;intro w H)|refine yU ?_|(refine y23 ?_ ?_;all_goals(intro h;try (exfalso;first|((exact absurd (zzA h) h0);done)|((cases d1.symm.trans h);done)|((exact absurd h (by decide));done)|((cases d2.symm.trans h);done))))|fail)
  refine CW.cutT (fun e w=>∃ b7 b8 b9 e',e=ovl [(0,.pointer (some ⟨bm,0,none⟩)),(1,.bool sealed),(5,.int .i64 (k:Int)),(7,.pointer (some ⟨b7,0,none⟩)),(8,.pointer (some ⟨b8,0,none⟩))] e'∧St w0 (cb b8 (Bid.cells ⟨nF n 1,nF n 2⟩) 72::cb b7 ((au_ s.aucs k).cells (p.ad k).1 (p.ad k).2) 67::cb b9 [Value.int .i64 (1:Int)] 3::mkL bm (mkc s p n na nc t) Ma Mi [cb g cs 67] R) w) ?_ ?_
  ·repeat' (first|refine yT ?_|(refine y10 sg H ?_;intro b w H)|(refine y11 sg H ?_;intro w H)|(refine' y30 zAt ?_ ?_;rotate_left;exact zAw 1 qO _ (H.all hF) (zh hC hLt hN);refine w2 H ?_;clear H;intro w H)|(refine CW.regionL mixed 11 (z6s (x:=cb bm (mkc s p n na nc t) 141) H hF) [] ?_ ?_;exact rfl;refine w2 H ?_;clear H;intro w H;have qh:=z6s (x:=cb bm (mkc s p n na nc t) 141) H hF;refine lT sg 0 qh ?_;refine lT sg 2 qh ?_;refine lT sg 3 qh ?_;refine lT sg 4 qh ?_;refine' l1 5 qh ?_ ?_;rotate_left;(exact z3 sg);refine' l1 6 qh ?_ ?_;rotate_left;(exact(zQ sg hs2));refine' l1 7 qh ?_ ?_;rotate_left;(exact(zK sg (hs2.mono (List.subset_cons_self _ F)) (show 2<n.length by omega))))|((with_reducible apply RL.nil);decide +kernel)|refine l2 1 ?_|refine l2 8 ?_|refine l2 9 ?_|refine l2 10 ?_|refine l4 1 9 ?_ ?_|refine l4 8 9 ?_ ?_|(refine l5 (z6s H hF) ?_)|refine yU ?_|fail)
   all_goals exact⟨_,_,_,_,zAE rfl (zAE rfl (zAE rfl (zSB rfl rfl))),H⟩
  clear H
  rintro _ w ⟨b7,b8,b9,e',rfl,H⟩
  by_cases h4:(zU (au_ s.aucs k) ⟨nF n 1,nF n 2⟩).2≠0
  ·have d4:((zU (au_ s.aucs k) ⟨nF n 1,nF n 2⟩).2 != 0)=true:=by simpa using h4
   rw[if_pos h4]
   repeat' (first|refine yT ?_|refine y7 sg H ?_|(refine y10 sg H ?_;intro b w H)|(refine y11 sg H ?_;intro w H)|(refine' y32 zQu ?_ ?_;rotate_left;exact zRW (au_ s.aucs k) ⟨nF n 1,nF n 2⟩ _ H.mem (SlA.mono (hC.bd k hkl) qS);intro v M w hR hS;replace H:=H.addR hS;clear hS;(try simp only[List.cons_append,List.nil_append] at H);obtain⟨_,⟨a1,c1,rfl,hO⟩,rfl⟩:=hR)|refine yU ?_|fail)
   refine CW.condT (congrArg Value.bool d4) ?_
   repeat' (first|refine yT ?_|refine yU ?_|fail)
   exact zS (M:=_) rfl H ⟨rfl,fun h=>absurd h h4⟩
  have d4:((zU (au_ s.aucs k) ⟨nF n 1,nF n 2⟩).2 != 0)=false:=by simpa using h4
  rw[if_neg h4]
  repeat' (first|refine yT ?_|refine y7 sg H ?_|(refine y10 sg H ?_;intro b w H)|(refine y11 sg H ?_;intro w H)|(refine' y32 zQu ?_ ?_;rotate_left;exact zRW (au_ s.aucs k) ⟨nF n 1,nF n 2⟩ _ H.mem (SlA.mono (hC.bd k hkl) qS);intro v M w hR hS;replace H:=H.addR hS;clear hS;(try simp only[List.cons_append,List.nil_append] at H);obtain⟨_,⟨a1,c1,rfl,hO⟩,rfl⟩:=hR)|refine yU ?_|fail)
  refine CW.condF (congrArg Value.bool d4) ?_
  have hneg:IntKind.i64.wrap (0 - nF n 2)=-nF n 2:=by rw[w64 qO qO];omega
  have htp:=htop k hkl
  have hneg2:IntKind.i64.wrap (0 - (zAD (au_ s.aucs k)).1.amount)=-(zAD (au_ s.aucs k)).1.amount:=by rw[w64 qO qO];omega
  by_cases h5:(zAD (au_ s.aucs k)).2=true∧sealed=false
  ·rw[if_pos h5]
   obtain⟨d5,d6⟩:=h5
   have d7:(!sealed)=true:=by rw[d6];rfl
   repeat' (first|refine yT ?_|refine y7 sg H ?_|(refine y10 sg H ?_;intro b w H)|(refine y11 sg H ?_;intro w H)|((with_reducible apply OX.buildA sg H);(iterate 12 exact rfl);intro b w H _)|(refine' y30 zNc ?_ ?_;rotate_left;exact zNw (au_ s.aucs k) _ H.mem (SlA.mono (hC.bd k hkl) qS);refine w2 H ?_;clear H;intro w H)|refine yU ?_|(refine y17 ?_ ?_;all_goals(intro h;try (exfalso;first|((cases d5.symm.trans h);done))))|fail)
   refine CW.condT (congrArg Value.bool d7) ?_
   repeat' (first|refine yT ?_|refine y7 sg H ?_|((with_reducible apply OX.buildA sg H);(iterate 12 exact rfl);intro b w H _)|(have hp:=H.perm zUZ;refine zj sg 4 32 (M:=[_]) hp rfl rfl rfl rfl rfl rfl rfl rfl rfl rfl rfl ⟨rfl,.inr ⟨_,_,rfl,rfl,zzC _,(show 1≤maxLen by unfold maxLen;decide),rfl,rfl⟩⟩ (zAL hp.mem (zz3 _ (zz2 _))) rfl (zAU rfl) (show 1+1≤maxLen by unfold maxLen;decide) (show(1+1)*32≤140737488355328 by decide) ?_;clear hp H;intro a2 c2 M2 w O2 H)|refine yU ?_|fail)
   rw[hneg,hneg2] at O2
   have O3:Go.Sk.Own M2 221 4 a2 2 c2 ((List.range 2).flatMap (qsl [⟨nF n 1,0,-nF n 2,nF n 2⟩,⟨(zAD (au_ s.aucs k)).1.acct,0,(zAD (au_ s.aucs k)).1.amount,-(zAD (au_ s.aucs k)).1.amount⟩])):=O2
   have H9:=zSo (A:=Ma) (B:=Mi) (C:=[cb g cs 67]) (E:=R) (D:=M) H
   clear H
   have H:=H9
   clear H9
   repeat' (first|refine yT ?_|(refine za rfl rfl (En.fn zFa rfl rfl) (zFm hLt hW [⟨nF n 1,0,-nF n 2,nF n 2⟩,⟨(zAD (au_ s.aucs k)).1.acct,0,(zAD (au_ s.aucs k)).1.amount,-(zAD (au_ s.aucs k)).1.amount⟩] H (hC.mono (fun p hp=>zz6 _ (zz6 _ hp))) H.mem (O3.sl (fun p hp=>by simp[hp]) (fun _ _=>rfl) (show 2≤140737488355328 by decide))) ?_;rintro _ _ w ⟨rfl,p',M',rfl,hC'⟩ H2;clear H;have H:=H2;clear H2)|refine yU ?_|fail)
   by_cases h6:(zm s [⟨nF n 1,0,-nF n 2,nF n 2⟩,⟨(zAD (au_ s.aucs k)).1.acct,0,(zAD (au_ s.aucs k)).1.amount,-(zAD (au_ s.aucs k)).1.amount⟩]).2≠0
   ·have d8:((zm s [⟨nF n 1,0,-nF n 2,nF n 2⟩,⟨(zAD (au_ s.aucs k)).1.acct,0,(zAD (au_ s.aucs k)).1.amount,-(zAD (au_ s.aucs k)).1.amount⟩]).2 != 0)=true:=by simpa using h6
    rw[if_pos h6]
    refine CW.condT (congrArg Value.bool d8) ?_
    repeat' (first|refine yT ?_|refine yU ?_|fail)
    exact zS (M:=_) rfl H ⟨rfl,fun h=>absurd h h6⟩
   have d8:((zm s [⟨nF n 1,0,-nF n 2,nF n 2⟩,⟨(zAD (au_ s.aucs k)).1.acct,0,(zAD (au_ s.aucs k)).1.amount,-(zAD (au_ s.aucs k)).1.amount⟩]).2 != 0)=false:=by simpa using h6
   rw[if_neg h6]
   refine CW.condF (congrArg Value.bool d8) ?_
   obtain⟨rs,hrs⟩:=zC8 s [⟨nF n 1,0,-nF n 2,nF n 2⟩,⟨(zAD (au_ s.aucs k)).1.acct,0,(zAD (au_ s.aucs k)).1.amount,-(zAD (au_ s.aucs k)).1.amount⟩]
   rw[hrs] at H hC' ⊢
   obtain⟨g',cs',hA',hMu,hcap',hcm',hcl',hE'⟩:=zBr (n:=s.aucs.length) (el:=ael s.aucs p'.ad) hC'.au qO (fun _ _=>rfl)
   rw[hMu] at H
   have hfit':=(hE' _ hkl).1
   have hsI':=hE'.slb (F:=[cb g' cs' 67]) (T:=67) (zz2 _)
   rw[← hA'] at hsI'
   replace H:=H.perm zDQ
   repeat' (first|refine yT ?_|(refine CW.regionL mixed 9 (z6 (x:=cb _ ((zU (au_ s.aucs k) ⟨nF n 1,nF n 2⟩).1.cells a1 c1) 67) (y:=cb bm (mkc { s with rows:=rs } p' n na nc t) 141) H hF (hx:=zz4 _ (zz4 _ (zz3 _ (zz3 _ (zz6 _ (zz3 _ (zz3 _ (zz5 _ (zz5 _ (zz2 _))))))))))) [] ?_ ?_;exact rfl;refine w2 H ?_;clear H;intro w H;have qh:=z6 (x:=cb _ ((zU (au_ s.aucs k) ⟨nF n 1,nF n 2⟩).1.cells a1 c1) 67) (y:=cb bm (mkc { s with rows:=rs } p' n na nc t) 141) H hF (hx:=zz4 _ (zz4 _ (zz3 _ (zz3 _ (zz6 _ (zz3 _ (zz3 _ (zz5 _ (zz5 _ (zz2 _))))))))));refine' l1 0 qh ?_ ?_;rotate_left;(exact z4 sg);refine' l1 1 qh ?_ ?_;rotate_left;(exact z4 sg);refine' l1 2 qh ?_ ?_;rotate_left;(exact z4 sg);refine' l1 3 qh ?_ ?_;rotate_left;(exact z4 sg);refine' l1 4 qh ?_ ?_;rotate_left;(exact z3 sg);refine' l1 5 qh ?_ ?_;rotate_left;(exact z4 sg);refine' l1 6 qh ?_ ?_;rotate_left;(exact z3 sg);refine' l1 7 qh ?_ ?_;rotate_left;(exact(fun w2 _=>zG sg hsI' rfl rfl rfl rfl rfl rfl rfl (zz1 k) qO qO)))|((with_reducible apply RL.nil);decide +kernel)|refine l2 8 ?_|(refine l5 (z6 H hF (hx:=zz4 _ (zz4 _ (zz3 _ (zz3 _ (zz6 _ (zz3 _ (zz3 _ (zz5 _ (zz5 _ (zz2 _))))))))))) ?_)|(refine OX.storeX sg (vs:=(zU (au_ s.aucs k) ⟨nF n 1,nF n 2⟩).1.cells a1 c1) H rfl rfl rfl rfl rfl rfl rfl Up.here (by show _+9≤_;omega) (zAU rfl) ?_;clear H;intro w H)|refine yU ?_|fail)
   have O9:=zNI (g:=g') (x:=(zU (au_ s.aucs k) ⟨nF n 1,nF n 2⟩).1) (a:=a1) (c:=c1) hkl hE' hcap' hcm' hcl'
   rw[← hA'] at O9
   rw[show 0+k*9=k*9+0 by omega] at H
   replace H:=H.perm zDQ.symm
   have e9:mkc { s with rows:=rs,aucs:=s.aucs.set k (zU (au_ s.aucs k) ⟨nF n 1,nF n 2⟩).1 } { p' with ad:=fun j=>if j=k then(a1,c1) else p'.ad j } n na nc t=mkc { s with rows:=rs } p' n na nc t:=by unfold mkc Sta.cells;simp only[List.length_set]
   refine zS (M:=_) rfl H ⟨rfl,fun _=>⟨{ p' with ad:=fun j=>if j=k then(a1,c1) else p'.ad j },Ma,Mi,[cb g' (wr cs' (k*9+0) ((zU (au_ s.aucs k) ⟨nF n 1,nF n 2⟩).1.cells a1 c1)) 67],_,by rw[e9],hC'.ac,hC'.ins,hC'.rw,hC'.od,?_,fun j hj=>?_⟩⟩
   ·show Go.Sk.Own _ _ 9 p'.auA (s.aucs.set k (zU (au_ s.aucs k) ⟨nF n 1,nF n 2⟩).1).length p'.auC ((List.range (s.aucs.set k (zU (au_ s.aucs k) ⟨nF n 1,nF n 2⟩).1).length).flatMap (ael (s.aucs.set k (zU (au_ s.aucs k) ⟨nF n 1,nF n 2⟩).1) _))
    rw[List.length_set];exact O9
   ·show Bids _ (if j=k then(a1,c1) else p'.ad j).1 (if j=k then(a1,c1) else p'.ad j).2 ((s.aucs.set k (zU (au_ s.aucs k) ⟨nF n 1,nF n 2⟩).1).getD j default).bids
    rw[zKT hkl]
    by_cases hjk:j=k
    ·rw[if_pos hjk,if_pos hjk]
     exact OwnB.bids hO (fun q hq=>by simp[hq]) (by have:=htl k hkl;omega)
    ·rw[if_neg hjk,if_neg hjk]
     exact hC'.bd j (Nat.lt_of_lt_of_eq hj List.length_set)
  ·rw[if_neg h5]
   cases d5:(zAD (au_ s.aucs k)).2 with
   | false =>
     repeat' (first|refine yT ?_|refine y7 sg H ?_|(refine y10 sg H ?_;intro b w H)|(refine y11 sg H ?_;intro w H)|((with_reducible apply OX.buildA sg H);(iterate 12 exact rfl);intro b w H _)|(refine' y30 zNc ?_ ?_;rotate_left;exact zNw (au_ s.aucs k) _ H.mem (SlA.mono (hC.bd k hkl) qS);refine w2 H ?_;clear H;intro w H)|refine yU ?_|(refine y17 ?_ ?_;all_goals(intro h;try (exfalso;first|((cases d5.symm.trans h);done))))|fail)
     rw[hneg] at H
     have H9:=zSo (N:=[]) (A:=Ma) (B:=Mi) (C:=[cb g cs 67]) (E:=R) (D:=M) H
     clear H
     have H:=H9
     clear H9
     repeat' (first|refine yT ?_|(refine za rfl rfl (En.fn zFa rfl rfl) (zFm hLt hW [⟨nF n 1,0,-nF n 2,nF n 2⟩] H (hC.mono (fun p hp=>zz6 _ (zz6 _ hp))) H.mem (zIO _ (Nat.le_of_ble_eq_true rfl) rfl (zIP (zz5 _ (zz2 _))))) ?_;rintro _ _ w ⟨rfl,p',M',rfl,hC'⟩ H2;clear H;have H:=H2;clear H2)|refine yU ?_|fail)
     by_cases h6:(zm s [⟨nF n 1,0,-nF n 2,nF n 2⟩]).2≠0
     ·have d8:((zm s [⟨nF n 1,0,-nF n 2,nF n 2⟩]).2 != 0)=true:=by simpa using h6
      rw[if_pos h6]
      refine CW.condT (congrArg Value.bool d8) ?_
      repeat' (first|refine yT ?_|refine yU ?_|fail)
      exact zS (M:=_) rfl H ⟨rfl,fun h=>absurd h h6⟩
     have d8:((zm s [⟨nF n 1,0,-nF n 2,nF n 2⟩]).2 != 0)=false:=by simpa using h6
     rw[if_neg h6]
     refine CW.condF (congrArg Value.bool d8) ?_
     obtain⟨rs,hrs⟩:=zC8 s [⟨nF n 1,0,-nF n 2,nF n 2⟩]
     rw[hrs] at H hC' ⊢
     obtain⟨g',cs',hA',hMu,hcap',hcm',hcl',hE'⟩:=zBr (n:=s.aucs.length) (el:=ael s.aucs p'.ad) hC'.au qO (fun _ _=>rfl)
     rw[hMu] at H
     have hfit':=(hE' _ hkl).1
     have hsI':=hE'.slb (F:=[cb g' cs' 67]) (T:=67) (zz2 _)
     rw[← hA'] at hsI'
     replace H:=H.perm zDQ
     repeat' (first|refine yT ?_|(refine CW.regionL mixed 9 (z6 (x:=cb _ ((zU (au_ s.aucs k) ⟨nF n 1,nF n 2⟩).1.cells a1 c1) 67) (y:=cb bm (mkc { s with rows:=rs } p' n na nc t) 141) H hF (hx:=zz4 _ (zz4 _ (zz3 _ (zz3 _ (zz6 _ (zz3 _ (zz3 _ (zz5 _ (zz5 _ (zz2 _))))))))))) [] ?_ ?_;exact rfl;refine w2 H ?_;clear H;intro w H;have qh:=z6 (x:=cb _ ((zU (au_ s.aucs k) ⟨nF n 1,nF n 2⟩).1.cells a1 c1) 67) (y:=cb bm (mkc { s with rows:=rs } p' n na nc t) 141) H hF (hx:=zz4 _ (zz4 _ (zz3 _ (zz3 _ (zz6 _ (zz3 _ (zz3 _ (zz5 _ (zz5 _ (zz2 _))))))))));refine' l1 0 qh ?_ ?_;rotate_left;(exact z4 sg);refine' l1 1 qh ?_ ?_;rotate_left;(exact z4 sg);refine' l1 2 qh ?_ ?_;rotate_left;(exact z4 sg);refine' l1 3 qh ?_ ?_;rotate_left;(exact z4 sg);refine' l1 4 qh ?_ ?_;rotate_left;(exact z3 sg);refine' l1 5 qh ?_ ?_;rotate_left;(exact z4 sg);refine' l1 6 qh ?_ ?_;rotate_left;(exact z3 sg);refine' l1 7 qh ?_ ?_;rotate_left;(exact(fun w2 _=>zG sg hsI' rfl rfl rfl rfl rfl rfl rfl (zz1 k) qO qO)))|((with_reducible apply RL.nil);decide +kernel)|refine l2 8 ?_|(refine l5 (z6 H hF (hx:=zz4 _ (zz4 _ (zz3 _ (zz3 _ (zz6 _ (zz3 _ (zz3 _ (zz5 _ (zz5 _ (zz2 _))))))))))) ?_)|(refine OX.storeX sg (vs:=(zU (au_ s.aucs k) ⟨nF n 1,nF n 2⟩).1.cells a1 c1) H rfl rfl rfl rfl rfl rfl rfl Up.here (by show _+9≤_;omega) (zAU rfl) ?_;clear H;intro w H)|refine yU ?_|fail)
     have O9:=zNI (g:=g') (x:=(zU (au_ s.aucs k) ⟨nF n 1,nF n 2⟩).1) (a:=a1) (c:=c1) hkl hE' hcap' hcm' hcl'
     rw[← hA'] at O9
     rw[show 0+k*9=k*9+0 by omega] at H
     replace H:=H.perm zDQ.symm
     have e9:mkc { s with rows:=rs,aucs:=s.aucs.set k (zU (au_ s.aucs k) ⟨nF n 1,nF n 2⟩).1 } { p' with ad:=fun j=>if j=k then(a1,c1) else p'.ad j } n na nc t=mkc { s with rows:=rs } p' n na nc t:=by unfold mkc Sta.cells;simp only[List.length_set]
     refine zS (M:=_) rfl H ⟨rfl,fun _=>⟨{ p' with ad:=fun j=>if j=k then(a1,c1) else p'.ad j },Ma,Mi,[cb g' (wr cs' (k*9+0) ((zU (au_ s.aucs k) ⟨nF n 1,nF n 2⟩).1.cells a1 c1)) 67],_,by rw[e9],hC'.ac,hC'.ins,hC'.rw,hC'.od,?_,fun j hj=>?_⟩⟩
     ·show Go.Sk.Own _ _ 9 p'.auA (s.aucs.set k (zU (au_ s.aucs k) ⟨nF n 1,nF n 2⟩).1).length p'.auC ((List.range (s.aucs.set k (zU (au_ s.aucs k) ⟨nF n 1,nF n 2⟩).1).length).flatMap (ael (s.aucs.set k (zU (au_ s.aucs k) ⟨nF n 1,nF n 2⟩).1) _))
      rw[List.length_set];exact O9
     ·show Bids _ (if j=k then(a1,c1) else p'.ad j).1 (if j=k then(a1,c1) else p'.ad j).2 ((s.aucs.set k (zU (au_ s.aucs k) ⟨nF n 1,nF n 2⟩).1).getD j default).bids
      rw[zKT hkl]
      by_cases hjk:j=k
      ·rw[if_pos hjk,if_pos hjk]
       exact OwnB.bids hO (fun q hq=>by simp[hq]) (by have:=htl k hkl;omega)
      ·rw[if_neg hjk,if_neg hjk]
       exact hC'.bd j (Nat.lt_of_lt_of_eq hj List.length_set)
   | true =>
     have d7:(!sealed)=false:=by
      cases hse:sealed with
      | true=>rfl
      | false=>exact absurd ⟨d5,hse⟩ h5
     repeat' (first|refine yT ?_|refine y7 sg H ?_|(refine y10 sg H ?_;intro b w H)|(refine y11 sg H ?_;intro w H)|((with_reducible apply OX.buildA sg H);(iterate 12 exact rfl);intro b w H _)|(refine' y30 zNc ?_ ?_;rotate_left;exact zNw (au_ s.aucs k) _ H.mem (SlA.mono (hC.bd k hkl) qS);refine w2 H ?_;clear H;intro w H)|refine yU ?_|(refine y17 ?_ ?_;all_goals(intro h;try (exfalso;first|((cases d5.symm.trans h);done))))|fail)
     refine CW.condF (congrArg Value.bool d7) ?_
     rw[hneg] at H
     have H9:=zSo (N:=[]) (A:=Ma) (B:=Mi) (C:=[cb g cs 67]) (E:=R) (D:=M) H
     clear H
     have H:=H9
     clear H9
     repeat' (first|refine yT ?_|(refine za rfl rfl (En.fn zFa rfl rfl) (zFm hLt hW [⟨nF n 1,0,-nF n 2,nF n 2⟩] H (hC.mono (fun p hp=>zz6 _ (zz6 _ hp))) H.mem (zIO _ (Nat.le_of_ble_eq_true rfl) rfl (zIP (zz5 _ (zz2 _))))) ?_;rintro _ _ w ⟨rfl,p',M',rfl,hC'⟩ H2;clear H;have H:=H2;clear H2)|refine yU ?_|fail)
     by_cases h6:(zm s [⟨nF n 1,0,-nF n 2,nF n 2⟩]).2≠0
     ·have d8:((zm s [⟨nF n 1,0,-nF n 2,nF n 2⟩]).2 != 0)=true:=by simpa using h6
      rw[if_pos h6]
      refine CW.condT (congrArg Value.bool d8) ?_
      repeat' (first|refine yT ?_|refine yU ?_|fail)
      exact zS (M:=_) rfl H ⟨rfl,fun h=>absurd h h6⟩
     have d8:((zm s [⟨nF n 1,0,-nF n 2,nF n 2⟩]).2 != 0)=false:=by simpa using h6
     rw[if_neg h6]
     refine CW.condF (congrArg Value.bool d8) ?_
     obtain⟨rs,hrs⟩:=zC8 s [⟨nF n 1,0,-nF n 2,nF n 2⟩]
     rw[hrs] at H hC' ⊢
     obtain⟨g',cs',hA',hMu,hcap',hcm',hcl',hE'⟩:=zBr (n:=s.aucs.length) (el:=ael s.aucs p'.ad) hC'.au qO (fun _ _=>rfl)
     rw[hMu] at H
     have hfit':=(hE' _ hkl).1
     have hsI':=hE'.slb (F:=[cb g' cs' 67]) (T:=67) (zz2 _)
     rw[← hA'] at hsI'
     replace H:=H.perm zDQ
     repeat' (first|refine yT ?_|(refine CW.regionL mixed 9 (z6 (x:=cb _ ((zU (au_ s.aucs k) ⟨nF n 1,nF n 2⟩).1.cells a1 c1) 67) (y:=cb bm (mkc { s with rows:=rs } p' n na nc t) 141) H hF (hx:=zz4 _ (zz4 _ (zz3 _ (zz3 _ (zz6 _ (zz3 _ (zz3 _ (zz5 _ (zz5 _ (zz2 _))))))))))) [] ?_ ?_;exact rfl;refine w2 H ?_;clear H;intro w H;have qh:=z6 (x:=cb _ ((zU (au_ s.aucs k) ⟨nF n 1,nF n 2⟩).1.cells a1 c1) 67) (y:=cb bm (mkc { s with rows:=rs } p' n na nc t) 141) H hF (hx:=zz4 _ (zz4 _ (zz3 _ (zz3 _ (zz6 _ (zz3 _ (zz3 _ (zz5 _ (zz5 _ (zz2 _))))))))));refine' l1 0 qh ?_ ?_;rotate_left;(exact z4 sg);refine' l1 1 qh ?_ ?_;rotate_left;(exact z4 sg);refine' l1 2 qh ?_ ?_;rotate_left;(exact z4 sg);refine' l1 3 qh ?_ ?_;rotate_left;(exact z4 sg);refine' l1 4 qh ?_ ?_;rotate_left;(exact z3 sg);refine' l1 5 qh ?_ ?_;rotate_left;(exact z4 sg);refine' l1 6 qh ?_ ?_;rotate_left;(exact z3 sg);refine' l1 7 qh ?_ ?_;rotate_left;(exact(fun w2 _=>zG sg hsI' rfl rfl rfl rfl rfl rfl rfl (zz1 k) qO qO)))|((with_reducible apply RL.nil);decide +kernel)|refine l2 8 ?_|(refine l5 (z6 H hF (hx:=zz4 _ (zz4 _ (zz3 _ (zz3 _ (zz6 _ (zz3 _ (zz3 _ (zz5 _ (zz5 _ (zz2 _))))))))))) ?_)|(refine OX.storeX sg (vs:=(zU (au_ s.aucs k) ⟨nF n 1,nF n 2⟩).1.cells a1 c1) H rfl rfl rfl rfl rfl rfl rfl Up.here (by show _+9≤_;omega) (zAU rfl) ?_;clear H;intro w H)|refine yU ?_|fail)
     have O9:=zNI (g:=g') (x:=(zU (au_ s.aucs k) ⟨nF n 1,nF n 2⟩).1) (a:=a1) (c:=c1) hkl hE' hcap' hcm' hcl'
     rw[← hA'] at O9
     rw[show 0+k*9=k*9+0 by omega] at H
     replace H:=H.perm zDQ.symm
     have e9:mkc { s with rows:=rs,aucs:=s.aucs.set k (zU (au_ s.aucs k) ⟨nF n 1,nF n 2⟩).1 } { p' with ad:=fun j=>if j=k then(a1,c1) else p'.ad j } n na nc t=mkc { s with rows:=rs } p' n na nc t:=by unfold mkc Sta.cells;simp only[List.length_set]
     refine zS (M:=_) rfl H ⟨rfl,fun _=>⟨{ p' with ad:=fun j=>if j=k then(a1,c1) else p'.ad j },Ma,Mi,[cb g' (wr cs' (k*9+0) ((zU (au_ s.aucs k) ⟨nF n 1,nF n 2⟩).1.cells a1 c1)) 67],_,by rw[e9],hC'.ac,hC'.ins,hC'.rw,hC'.od,?_,fun j hj=>?_⟩⟩
     ·show Go.Sk.Own _ _ 9 p'.auA (s.aucs.set k (zU (au_ s.aucs k) ⟨nF n 1,nF n 2⟩).1).length p'.auC ((List.range (s.aucs.set k (zU (au_ s.aucs k) ⟨nF n 1,nF n 2⟩).1).length).flatMap (ael (s.aucs.set k (zU (au_ s.aucs k) ⟨nF n 1,nF n 2⟩).1) _))
      rw[List.length_set];exact O9
     ·show Bids _ (if j=k then(a1,c1) else p'.ad j).1 (if j=k then(a1,c1) else p'.ad j).2 ((s.aucs.set k (zU (au_ s.aucs k) ⟨nF n 1,nF n 2⟩).1).getD j default).bids
      rw[zKT hkl]
      by_cases hjk:j=k
      ·rw[if_pos hjk,if_pos hjk]
       exact OwnB.bids hO (fun q hq=>by simp[hq]) (by have:=htl k hkl;omega)
      ·rw[if_neg hjk,if_neg hjk]
       exact hC'.bd j (Nat.lt_of_lt_of_eq hj List.length_set)
 ·rw[if_neg h2] at ha ⊢
  refine enter [.tmp 4] Tryz.func176 rfl Tryz.ntmps176 rfl rfl ?_
  repeat' (first|refine yT ?_|refine y7 sg H ?_|(refine z14 sg H ?_;intro b w H)|(refine' y30 zAu ?_ ?_;rotate_left;exact ha _ _ _ H.mem (zz2 _) _ (H.all hF) (zh hC hLt hN);refine w2 H ?_;clear H;intro w H)|(refine' y30 zD0 ?_ ?_;rotate_left;exact hpl _ _ (H.all hF) (zh hC hLt hN);refine w2 H ?_;clear H;intro w H)|refine x40 sg hsI ?_|(refine y44 sg (hsI) ((show Mem _ [cb g cs 67] from fun p hp=>H.mem p (by cases List.mem_singleton.1 hp;simp))) ?_ ?_;(omega))|refine yU ?_|(refine y23 ?_ ?_;all_goals(intro h;try (exfalso;first|((exact absurd (zzA h) h0);done)|((cases d1.symm.trans h);done)|((exact absurd h (by decide));done))))|fail)
  exact zS (M:=_) rfl H ⟨rfl,fun h=>absurd h (show(5:Int)≠0 by decide)⟩
end
end
section
open Go Go.Sk Go.RowKit
attribute [local irreducible] Go.Calls
section
variable {F:zC}{bm:Nat}{s:Sta}{p:SPt}{n:List Int}{na:Option Addr}{nc:Nat}{t:ByteArray}{Ma Mi Mu R:zC}
theorem zSp {w0 w:World}(hl:3≤n.length)(hz:0≤nF n 2∧nF n 2≤1125899906842624)(htop:∀ j,j<s.aucs.length→0≤(zAD (au_ s.aucs j)).1.amount∧(zAD (au_ s.aucs j)).1.amount≤1125899906842624)(htl:∀ j,j<s.aucs.length→(zU (au_ s.aucs j) ⟨nF n 1,nF n 2⟩).1.bids.length≤100000)(hLt:LtS s)(hW:WfR s)(H:St w0 (mkL bm (mkc s p n na nc t) Ma Mi Mu R) w)(hC:Cps s p Ma Mi Mu R)(hF:Mem w0 F)(hN:Ints F na nc n) :
  Calls Tryz.prog 127 [.pointer (some ⟨bm,0,none⟩)].toArray w (zi (zBw bm n na nc t (zJz s n false)) w0):=by
 refine enter [.tmp 2] Tryz.func127 rfl Tryz.ntmps127 rfl rfl ?_
 repeat' (first|refine yT ?_|(refine za rfl rfl (En.fn zQm rfl rfl) (zOa false hl hz htop htl hLt hW H hC hF hN) ?_;rintro _ _ w ⟨rfl,hR2⟩ H2;clear H;have H:=H2;clear H2)|refine yU ?_|fail)
 exact zS (M:=_) rfl H ⟨rfl,hR2⟩
theorem c_bid {w0 w:World}(hl:3≤n.length)(hz:0≤nF n 2∧nF n 2≤1125899906842624)(htop:∀ j,j<s.aucs.length→0≤(zAD (au_ s.aucs j)).1.amount∧(zAD (au_ s.aucs j)).1.amount≤1125899906842624)(htl:∀ j,j<s.aucs.length→(zU (au_ s.aucs j) ⟨nF n 1,nF n 2⟩).1.bids.length≤100000)(hLt:LtS s)(hW:WfR s)(H:St w0 (mkL bm (mkc s p n na nc t) Ma Mi Mu R) w)(hC:Cps s p Ma Mi Mu R)(hF:Mem w0 F)(hN:Ints F na nc n) :
  Calls Tryz.prog 129 [.pointer (some ⟨bm,0,none⟩)].toArray w (zi (zBw bm n na nc t (zJz s n true)) w0):=by
 refine enter [.tmp 2] Tryz.func129 rfl Tryz.ntmps129 rfl rfl ?_
 repeat' (first|refine yT ?_|(refine za rfl rfl (En.fn zQm rfl rfl) (zOa true hl hz htop htl hLt hW H hC hF hN) ?_;rintro _ _ w ⟨rfl,hR2⟩ H2;clear H;have H:=H2;clear H2)|refine yU ?_|fail)
 exact zS (M:=_) rfl H ⟨rfl,hR2⟩
end
end
section
open Go Go.Sk Go.RowKit
attribute [local irreducible] Go.Calls
def bkP (y:Bid):Pst:=⟨y.acct,0,y.amount,-y.amount⟩
theorem zUa (l:List Bid){j:Nat}(h:j<l.length):(l.take (j+1)).map bkP=(l.take j).map bkP++[bkP (l.getD j default)]:=by
 rw[List.take_succ_eq_append_getElem h,List.map_append,List.getD_eq_getElem?_getD,List.getElem?_eq_getElem h];rfl
theorem lift2 {w0 w:World}{x1 x2 y:Nat × Obj}{N A B C E:zC}(H:St w0 (N++(x1::x2::y::(A++(B++(C++E))))) w):St w0 (y::(A++(B++(C++(E++(N++[x1,x2])))))) w:=by
 refine St.perm ?_ (zCI (N++[x1,x2]))
 simpa only[List.append_assoc,List.cons_append,List.nil_append] using H
theorem zSq (l:List Auc)(k j:Nat):(l.eraseIdx k).getD j default=if j<k then l.getD j default else l.getD (j+1) default:=by
 rw[List.getD_eq_getElem?_getD,List.getElem?_eraseIdx]
 split<;>rw[List.getD_eq_getElem?_getD]
def adD (ad:Nat→Option Addr × Nat)(k j:Nat):Option Addr × Nat:=if j<k then ad j else ad (j+1)
theorem zUb (l:List Auc)(ad:Nat→Option Addr × Nat)(k j:Nat):ael (l.eraseIdx k) (adD ad k) j=if j<k then ael l ad j else ael l ad (j+1):=by
 unfold ael adD
 rw[zSq]
 split<;>rfl
section
variable {F:zC}{bm:Nat}{s:Sta}{p:SPt}{n:List Int}{na:Option Addr}{nc:Nat}{t:ByteArray}{Ma Mi Mu R:zC}
theorem zLp {w0 w:World}(k:Nat)(hkl:k<s.aucs.length)(ps:List Pst)(hps:ps.length≤1000){Mp:zC}{ap:Option Addr}{cp:Nat}(hO:Go.Sk.Own Mp 221 4 ap ps.length cp (ps.flatMap Pst.cells))
  (hbd:∀ y∈(au_ s.aucs k).bids,0≤y.amount∧y.amount≤1125899906842624) (hq:0≤(au_ s.aucs k).qty∧(au_ s.aucs k).qty≤1125899906842624) (hLt:LtS s) (hW:WfR s) (H:St w0 (Mp++mkL bm (mkc s p n na nc t) Ma Mi Mu R) w) (hC:Cps s p Ma Mi Mu R) :
  Calls Tryz.prog 178 [.pointer (some ⟨bm,0,none⟩),.int .i64 (k:Int),.slice ap ps.length cp].toArray w (zi (zBw bm n na nc t (zAz s k ps)) w0):=by
 obtain⟨g,cs,hA,rfl,hcap,hcm,hcl,hE⟩:=zBr (n:=s.aucs.length) (el:=ael s.aucs p.ad) hC.au qO (fun _ _=>rfl)
 have hsI:=hE.slb (F:=[cb g cs 67]) (T:=67) (zz2 _)
 rw[← hA] at hsI
 have hfit:=(hE _ hkl).1
 have hbl:=hLt.bd k hkl
 obtain⟨hnB,hcB,bB,offB,csB,TB,frB,hsB⟩:=hC.bd k hkl
 refine enter [.tmp 6] Tryz.func178 rfl Tryz.ntmps178 rfl rfl ?_
 repeat' (first|refine yT ?_|refine y7 sg H ?_|(refine y10 sg H ?_;intro b w H)|(refine y11 sg H ?_;intro w H)|refine x40 sg hsI ?_|(refine y42 sg (hsI) ((show Mem _ [cb g cs 67] from fun p hp=>H.mem p (by cases List.mem_singleton.1 hp;simp))) ?_ ?_;(omega))|refine z13 (zH sg rfl rfl (show Mem _ [cb bm (mkc s p n na nc t) 141] from fun p hp=>H.mem p (by cases List.mem_singleton.1 hp;simp)) (zz2 _) rfl rfl) ?_|refine yU ?_|with_reducible apply zB|fail)
 refine zI [(2,2),(9,9),(22,37)] (fun x:Gr × List Pst=>[(22,.int .i64 (x.1.k:Int)),(2,.slice x.1.a x.2.length x.1.cap)])
  (fun x w=>x.1.k≤(au_ s.aucs k).bids.length∧x.2=ps++((au_ s.aucs k).bids.take x.1.k).map bkP∧Go.Sk.Own x.1.M 221 4 x.1.a x.2.length x.1.cap (x.2.flatMap Pst.cells)∧St w0 (x.1.M++(cb b ((au_ s.aucs k).cells (p.ad k).1 (p.ad k).2) 67::mkL bm (mkc s p n na nc t) Ma Mi [cb g cs 67] R)) w)
  (fun x=>(au_ s.aucs k).bids.length - x.1.k) (⟨0,ap,cp,Mp⟩,ps) ⟨rfl,rfl,trivial⟩ ⟨zzD _,by simp,hO,H.perm List.perm_middle.symm⟩ ?_
 clear H hO
 rintro⟨⟨j,ao,co,M⟩,u⟩ gh w ⟨hj,hu,hO,H⟩
 simp only at hj hu hO H ⊢
 have hul:u.length≤1000+j:=by
  rw[hu,List.length_append,List.length_map]
  have:=List.length_take_le j (au_ s.aucs k).bids
  omega
 have hbl2:(au_ s.aucs k).bids.length≤100000:=hbl
 repeat' (first|refine yT ?_|refine yU ?_|fail)
 refine zD rfl (fun h=>?_) (fun h=>?_)
 ·have hlt:j<(au_ s.aucs k).bids.length:=by have:=zzA h;exact Int.ofNat_lt.1 this
  clear h
  have hy:=hbd _ (zz (default:Bid) hlt)
  have hneg:IntKind.i64.wrap (0 - ((au_ s.aucs k).bids.getD j default).amount)=-((au_ s.aucs k).bids.getD j default).amount:=by rw[w64 qO qO];omega
  repeat' (first|refine yT ?_|refine y7 sg H ?_|(refine y10 sg H ?_;intro b w H)|(refine y11 sg H ?_;intro w H)|(refine y40 sg (hsB) ?_ ?_ ?_;(omega);(exact Int.ofNat_lt.2 hlt))|(refine y42 sg (hsB) ((show Mem _ R from fun p hp=>H.mem p (by simp[hp]))) ?_ ?_;(exact hlt))|((with_reducible apply OX.buildA sg H);(iterate 12 exact rfl);intro b w H _)|(have hp:=H.perm zHS;refine zj sg 4 32 (M:=M) hp rfl rfl rfl rfl rfl rfl rfl rfl rfl rfl rfl hO (zAL hp.mem (zz3 _ (zz2 _))) rfl (zAU rfl) (show u.length+1≤maxLen by unfold maxLen;omega) (show(u.length+1)*32≤140737488355328 by omega) ?_;clear hp hO;intro ao co M w hO H)|refine yU ?_|with_reducible apply zB|fail)
  rw[hneg] at hO
  have hO2:Go.Sk.Own M 221 4 ao (u++[bkP ((au_ s.aucs k).bids.getD j default)]).length co ((u++[bkP ((au_ s.aucs k).bids.getD j default)]).flatMap Pst.cells):=by
   rw[List.length_append,List.flatMap_append,List.flatMap_singleton];exact hO
  exact zF (⟨j+1,ao,co,M⟩,u++[bkP ((au_ s.aucs k).bids.getD j default)]) rfl ⟨zf qO,by show Value.slice ao _ co=Value.slice ao _ co;rw[List.length_append];rfl,trivial⟩
   ⟨hlt,by
    show u++_=_
    rw[hu,zUa _ hlt,List.append_assoc],hO2,H.sub ((List.Sublist.refl M).append ((zz7 _ _).trans (zz7 _ _)))⟩ (by show(au_ s.aucs k).bids.length - (j+1)<(au_ s.aucs k).bids.length - j;omega)
 ·obtain rfl:j=(au_ s.aucs k).bids.length:=by
   have:=zzB h
   have h9:¬ (j:Int)<((au_ s.aucs k).bids.length:Int):=this
   omega
  clear h
  rw[List.take_length] at hu
  have hneg:IntKind.i64.wrap (0 - (au_ s.aucs k).qty)=-(au_ s.aucs k).qty:=by rw[w64 qO qO];omega
  replace H:=H.perm List.perm_middle
  repeat' (first|refine yT ?_|refine y7 sg H ?_|((with_reducible apply OX.buildA sg H);(iterate 12 exact rfl);intro b w H _)|(have hp:=H.perm zHS;refine zj sg 4 32 (M:=M) hp rfl rfl rfl rfl rfl rfl rfl rfl rfl rfl rfl hO (zAL hp.mem (zz3 _ (zz2 _))) rfl (zAU rfl) (show u.length+1≤maxLen by unfold maxLen;omega) (show(u.length+1)*32≤140737488355328 by omega) ?_;clear hp hO;intro ao co M w hO H)|refine yU ?_|fail)
  rw[hneg] at hO
  have hPS:u++[⟨(au_ s.aucs k).seller,(au_ s.aucs k).inst,(au_ s.aucs k).qty,-(au_ s.aucs k).qty⟩]=ps++zAg (au_ s.aucs k):=by rw[hu,List.append_assoc];rfl
  have hlen:u.length+1=(ps++zAg (au_ s.aucs k)).length:=by rw[← hPS,List.length_append];rfl
  have O3:Go.Sk.Own M 221 4 ao (ps++zAg (au_ s.aucs k)).length co ((List.range (ps++zAg (au_ s.aucs k)).length).flatMap (qsl (ps++zAg (au_ s.aucs k)))):=by
   rw[show(List.range (ps++zAg (au_ s.aucs k)).length).flatMap (qsl (ps++zAg (au_ s.aucs k)))=(ps++zAg (au_ s.aucs k)).flatMap Pst.cells from zA4 Pst.cells _ default,← hPS,List.length_append,List.flatMap_append,List.flatMap_singleton]
   exact hO
  have H9:=lift2 (A:=Ma) (B:=Mi) (C:=[cb g cs 67]) (E:=R) H
  clear H
  have H:=H9
  clear H9
  rw[hlen]
  have eP:zAz s k ps=if (zm s (ps++zAg (au_ s.aucs k))).2≠0 then zm s (ps++zAg (au_ s.aucs k)) else({ (zm s (ps++zAg (au_ s.aucs k))).1 with aucs:=s.aucs.eraseIdx k },0):=rfl
  rw[eP]
  repeat' (first|refine yT ?_|(refine za rfl rfl (En.fn zFa rfl rfl) (zFm hLt hW (ps++zAg (au_ s.aucs k)) H (hC.mono (fun p hp=>zz6 _ hp)) H.mem (O3.sl (fun p hp=>by simp[hp]) (fun _ _=>rfl) (by rw[← hlen];omega))) ?_;rintro _ _ w ⟨rfl,p',M',rfl,hC'⟩ H2;clear H;have H:=H2;clear H2)|refine yU ?_|fail)
  by_cases h6:(zm s (ps++zAg (au_ s.aucs k))).2≠0
  ·have d8:((zm s (ps++zAg (au_ s.aucs k))).2 != 0)=true:=by simpa using h6
   rw[if_pos h6]
   refine CW.condT (congrArg Value.bool d8) ?_
   repeat' (first|refine yT ?_|refine yU ?_|fail)
   exact zS (M:=_) rfl H ⟨rfl,fun h=>absurd h h6⟩
  have d8:((zm s (ps++zAg (au_ s.aucs k))).2 != 0)=false:=by simpa using h6
  rw[if_neg h6]
  refine CW.condF (congrArg Value.bool d8) ?_
  obtain⟨rs,hrs⟩:=zC8 s (ps++zAg (au_ s.aucs k))
  rw[hrs] at H hC' ⊢
  obtain⟨g',cs',hA',hMu,hcap',hcm',hcl',hE'⟩:=zBr (n:=s.aucs.length) (el:=ael s.aucs p'.ad) hC'.au qO (fun _ _=>rfl)
  rw[hMu] at H
  replace H:=H.perm zDQ
  have hau:=hLt.au
  have hj1:IntKind.i64.wrap ((k:Int)+1)=((k+1:Nat):Int):=by rw[w64 qO qO];omega
  have hdel:=fun(w:World) (G:zC) (H:St w0 (cb g' cs' 67::G) w)=>zPt (cap:=p'.auC) (i:=k) (j:=IntKind.i64.wrap ((k:Int)+1)) H hE' (fun _ _=>rfl) (fun _ _=>zAU rfl) hkl hj1 qO hcap'
  rw[← hA'] at hdel
  repeat' (first|refine yT ?_|refine y7 sg H ?_|(refine y11 sg H ?_;intro w H)|(refine za rfl rfl (En.fn ent214 rfl rfl) (hdel _ _ H) ?_;rintro _ _ w ⟨rfl,cs2,rfl,hl2,hE2⟩ H2;clear H;have H:=H2;clear H2)|refine yU ?_|fail)
  have hlx:s.aucs.length - 1=(s.aucs.eraseIdx k).length:=by rw[List.length_eraseIdx_of_lt hkl]
  have O9:Go.Sk.Own [cb g' cs2 67] 67 9 p'.auA (s.aucs.eraseIdx k).length p'.auC ((List.range (s.aucs.eraseIdx k).length).flatMap (ael (s.aucs.eraseIdx k) (adD p'.ad k))):=by
   rw[hA',← hlx]
   exact Els.own (hE2.congr fun j _=>(zUb s.aucs p'.ad k j).symm) (fun _ _=>rfl) qO hcm' (hl2.trans hcl')
  rw[hlx] at H
  replace H:=H.perm zDQ.symm
  refine zS (M:=mkL bm (mkc { s with rows:=rs,aucs:=s.aucs.eraseIdx k } { p' with ad:=adD p'.ad k } n na nc t) Ma Mi _ _) rfl H ⟨rfl,fun _=>⟨{ p' with ad:=adD p'.ad k },Ma,Mi,_,_,rfl,hC'.ac,hC'.ins,hC'.rw,hC'.od,O9,fun j hj=>?_⟩⟩
  show Bids _ (adD p'.ad k j).1 (adD p'.ad k j).2 ((s.aucs.eraseIdx k).getD j default).bids
  have hj:j<(s.aucs.eraseIdx k).length:=hj
  rw[← hlx] at hj
  rw[zSq]
  unfold adD
  split
  ·exact hC'.bd j (show j<s.aucs.length by omega)
  ·exact hC'.bd (j+1) (show j+1<s.aucs.length by omega)
end
end
section
open Go Go.Sk Go.RowKit
attribute [local irreducible] Go.Calls
structure AuB (s:Sta):Prop where
 h64:R64 s.rows
 fee:0≤s.fee∧s.fee≤1000
 win:∀ j,j<s.aucs.length→0≤(zL (au_ s.aucs j)).1.amount∧(zL (au_ s.aucs j)).1.amount≤1125899906842624
 qty:∀ j,j<s.aucs.length→0≤(au_ s.aucs j).qty∧(au_ s.aucs j).qty≤1125899906842624
 bds:∀ j,j<s.aucs.length→∀ y∈(au_ s.aucs j).bids,0≤y.amount∧y.amount≤1125899906842624
section
variable {F:zC}{bm:Nat}{s:Sta}{p:SPt}{n:List Int}{na:Option Addr}{nc:Nat}{t:ByteArray}{Ma Mi Mu R:zC}
theorem zSr {w0 w:World}(hB:AuB s)(hl:1≤n.length)(hLt:LtS s)(hW:WfR s)(H:St w0 (mkL bm (mkc s p n na nc t) Ma Mi Mu R) w)(hC:Cps s p Ma Mi Mu R)(hF:Mem w0 F)(hN:Ints F na nc n) :
  Calls Tryz.prog 131 [.pointer (some ⟨bm,0,none⟩)].toArray w (zi (zBw bm n na nc t (zCg s n)) w0):=by
 have hpl:=fun w (G:zC) (hG:Mem w G) (hM:Mkt G bm s p n na nc t)=>zGn qO hLt.au w hG hM
 have hlt:=zKU s (nF n 0)
 have eP:zCg s n=if zAV s (nF n 0)<0 then(s,5) else if (zM s (au_ s.aucs (zAV s (nF n 0)).toNat)).2.2=true∨zAA (au_ s.aucs (zAV s (nF n 0)).toNat) s.clock=false then(s,46) else zAz s (zAV s (nF n 0)).toNat []:=rfl
 rw[eP]
 clear eP
 by_cases h0:zAV s (nF n 0)<0
 ·have d0:decide (zAV s (nF n 0)<0)=true:=decide_eq_true h0
  rw[if_pos h0]
  refine enter [.tmp 2] Tryz.func131 rfl Tryz.ntmps131 rfl rfl ?_
  repeat' (first|refine yT ?_|(refine' y30 zD0 ?_ ?_;rotate_left;exact hpl _ _ (H.all hF) (zh hC hLt hN);refine w2 H ?_;clear H;intro w H)|refine yU ?_|(refine y23 ?_ ?_;all_goals(intro h;try (exfalso;first|((cases d0.symm.trans h);done))))|fail)
  exact zS (M:=_) rfl H ⟨rfl,fun h=>absurd h (show(5:Int)≠0 by decide)⟩
 obtain⟨k,hk⟩:∃ k:Nat,zAV s (nF n 0)=k:=⟨(zAV s (nF n 0)).toNat,by omega⟩
 rw[hk] at hpl hlt h0 ⊢
 rw[Int.toNat_natCast,if_neg h0]
 have hkl:k<s.aucs.length:=by omega
 obtain⟨g,cs,hA,rfl,hcap,hcm,hcl,hE⟩:=zBr (n:=s.aucs.length) (el:=ael s.aucs p.ad) hC.au qO (fun _ _=>rfl)
 have hsI:=hE.slb (F:=[cb g cs 67]) (T:=67) (zz2 _)
 rw[← hA] at hsI
 have hfit:=(hE _ hkl).1
 have hwin:=fun w (G:zC) (hG:Mem w G) (hM:Mkt G bm s p n na nc t) (hb:Bids G (p.ad k).1 (p.ad k).2 (au_ s.aucs k).bids)=>zGo (au_ s.aucs k) hB.h64 hB.fee (hB.qty k hkl) (hB.win k hkl) w hG hM hb
 refine enter [.tmp 2] Tryz.func131 rfl Tryz.ntmps131 rfl rfl ?_
 repeat' (first|refine yT ?_|refine y7 sg H ?_|(refine y10 sg H ?_;intro b w H)|(refine y11 sg H ?_;intro w H)|(refine' y30 zD0 ?_ ?_;rotate_left;exact hpl _ _ (H.all hF) (zh hC hLt hN);refine w2 H ?_;clear H;intro w H)|refine x40 sg hsI ?_|(refine y42 sg (hsI) ((show Mem _ [cb g cs 67] from fun p hp=>H.mem p (by cases List.mem_singleton.1 hp;simp))) ?_ ?_;(omega))|(refine' y30 zMH ?_ ?_;rotate_left;exact hwin _ _ (H.all hF) (zh hC hLt hN) (SlA.mono (hC.bd k hkl) qS);refine w2 H ?_;clear H;intro w H)|refine yU ?_|fail)
 have hsI2:=hsI.mono (G:=cb g cs 67::cb bm (mkc s p n na nc t) 141::F) (by intro q hq;cases List.mem_singleton.1 hq;exact zz2 _)
 cases dw:(zM s (au_ s.aucs k)).2.2 with
 | true =>
   rw[if_pos (.inl rfl)]
   repeat' (first|refine yT ?_|(refine CW.regionL mixed 18 (z6 (x:=cb g cs 67) (y:=cb bm (mkc s p n na nc t) 141) H hF (hx:=by simp)) [] ?_ ?_;exact rfl;refine w2 H ?_;clear H;intro w H;have qh:=z6 (x:=cb g cs 67) (y:=cb bm (mkc s p n na nc t) 141) H hF (hx:=by simp);refine lT sg 0 qh ?_;refine lT sg 1 qh ?_;refine l8 2 qh ?_;refine l8 3 qh ?_;refine l8 4 qh ?_;refine l8 5 qh ?_;refine l8 6 qh ?_;refine l8 7 qh ?_;refine l8 8 qh ?_;refine l8 9 qh ?_;refine l8 10 qh ?_;refine l8 11 qh ?_;refine l8 12 qh ?_;refine l8 13 qh ?_;refine l8 14 qh ?_)|((with_reducible apply RL.nil);decide +kernel)|refine l2 15 ?_|refine l2 16 ?_|refine l2 17 ?_|(refine l5 (z6 H hF (hx:=by simp)) ?_)|refine yU ?_|fail)
   exact zS (M:=_) rfl H ⟨rfl,fun h=>absurd h (show(46:Int)≠0 by decide)⟩
 | false =>
   repeat' (first|refine yT ?_|(refine CW.regionL mixed 18 (z6 (x:=cb g cs 67) (y:=cb bm (mkc s p n na nc t) 141) H hF (hx:=by simp)) [] ?_ ?_;exact rfl;refine w2 H ?_;clear H;intro w H;have qh:=z6 (x:=cb g cs 67) (y:=cb bm (mkc s p n na nc t) 141) H hF (hx:=by simp);refine lT sg 0 qh ?_;refine lT sg 1 qh ?_;refine' l7 2 qh ?_ ?_;rotate_left;(exact z4 sg);refine' l7 3 qh ?_ ?_;rotate_left;(exact z4 sg);refine' l7 4 qh ?_ ?_;rotate_left;(exact z4 sg);refine' l7 5 qh ?_ ?_;rotate_left;(exact z4 sg);refine' l7 6 qh ?_ ?_;rotate_left;(exact z3 sg);refine' l7 7 qh ?_ ?_;rotate_left;(exact z4 sg);refine' l7 8 qh ?_ ?_;rotate_left;(exact(fun w2 _=>zG sg hsI rfl rfl rfl rfl rfl rfl rfl (zz1 k) qO qO));refine' l7 9 qh ?_ ?_;rotate_left;(exact(fun w2 hM2=>zAn sg hsI2 hM2 rfl rfl rfl rfl rfl hkl));refine' l7 10 qh ?_ ?_;rotate_left;(exact z4 sg);refine' l7 11 qh ?_ ?_;rotate_left;(exact z4 sg);refine' l7 12 qh ?_ ?_;rotate_left;(exact z4 sg);refine' l7 13 qh ?_ ?_;rotate_left;(exact z4 sg);refine' l7 14 qh ?_ ?_;rotate_left;(exact z3 sg))|((with_reducible apply RL.nil);decide +kernel)|refine l2 15 ?_|refine l2 16 ?_|refine l2 17 ?_|(refine l5 (z6 H hF (hx:=by simp)) ?_)|(refine' y30 zGx ?_ ?_;rotate_left;exact zHj (au_ s.aucs k) s.clock _ H.mem (SlA.mono (hC.bd k hkl) qS);refine w2 H ?_;clear H;intro w H)|refine yU ?_|fail)
   by_cases h3:zAA (au_ s.aucs k) s.clock=false
   ·rw[if_pos (.inr h3)]
    refine CW.condT (congrArg Value.bool (show(!zAA (au_ s.aucs k) s.clock)=true by rw[h3];rfl)) ?_
    repeat' (first|refine yT ?_|refine yU ?_|fail)
    exact zS (M:=_) rfl H ⟨rfl,fun h=>absurd h (show(46:Int)≠0 by decide)⟩
   ·rw[if_neg (fun h=>h.elim (by intro g;cases g) h3)]
    refine CW.condF (congrArg Value.bool (show(!zAA (au_ s.aucs k) s.clock)=false by simpa using h3)) ?_
    replace H:=H.sub (zz7 _ _)
    repeat' (first|refine yT ?_|(refine za rfl rfl (En.fn zQn rfl rfl) (zLp k hkl [] (zzD _) (Mp:=[]) (zTP _ _ _) (hB.bds k hkl) (hB.qty k hkl) hLt hW H hC) ?_;rintro _ _ w ⟨rfl,hR2⟩ H2;clear H;have H:=H2;clear H2)|refine yU ?_|fail)
    exact zS (M:=_) rfl H ⟨rfl,hR2⟩
end
end
end Go.Proofs.YthbflajpdhgfiaaGreatDoor
