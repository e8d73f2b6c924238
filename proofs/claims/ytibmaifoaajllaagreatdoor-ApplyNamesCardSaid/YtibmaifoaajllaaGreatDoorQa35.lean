/- Texts of ours, joined: the steps of the proof, or the claim's theorem. -/
import Derived.Test.YtibmaifoaajllaaGreatDoorQa34
set_option linter.unusedSimpArgs false
set_option linter.unusedVariables false
set_option maxHeartbeats 16000000
namespace Go.Proofs.YtibmaifoaajllaaGreatDoor
open Go Go.Sk Go.RowKit
attribute [local irreducible] Go.Calls
def zIX:List Value:=zCt.cells SPt.n0
structure Cps (s:Sta)(p:SPt)(Ma Mi Mu R:zH):Prop where
 ac:Go.Sk.Own Ma 74 2 p.acA s.accts.length p.acC ((List.range s.accts.length).flatMap (acl s.accts))
 ins:Go.Sk.Own Mi 76 3 p.inA s.insts.length p.inC ((List.range s.insts.length).flatMap (ing s.insts))
 rw:zNf R p.rwA p.rwC s.rows
 od:Ords R p.odA p.odC s.orders
 au:Go.Sk.Own Mu 62 9 p.auA s.aucs.length p.auC ((List.range s.aucs.length).flatMap (ael s.aucs p.ad))
 bd:∀ j,j<s.aucs.length→Bids R (p.ad j).1 (p.ad j).2 (s.aucs.getD j default).bids
structure LtS (s:Sta):Prop where
 ac:s.accts.length≤100000
 ins:s.insts.length≤100000
 rw:s.rows.length≤100000
 od:s.orders.length≤100000
 au:s.aucs.length≤100000
 bd:∀ k,k<s.aucs.length→(s.aucs.getD k default).bids.length≤100000
theorem Cps.sta {s:Sta}{p:SPt}{Ma Mi Mu R:zH}(h:Cps s p Ma Mi Mu R)(hL:LtS s):StaM (Ma++(Mi++(Mu++R))) s p :=
 ⟨h.ac.sl qS (fun _ _=>rfl) (by have:=hL.ac;omega),h.ins.sl qS (fun _ _=>rfl) (by have:=hL.ins;omega),SlA.mono h.rw qS,SlA.mono h.od qS,h.au.sl qS (fun _ _=>rfl) (by have:=hL.au;omega),fun j hj=>SlA.mono (h.bd j hj) qS⟩
structure I2 where
 a1:Option Addr
 c1:Nat
 M1:zH
 a2:Option Addr
 c2:Nat
 M2:zH
def CopyR (s:Sta)(M:zH)(v:Value):Prop:=∃ p Ma Mi Mu R,v=.agg (s.cells p).toArray∧M=Ma++(Mi++(Mu++R))∧Cps s p Ma Mi Mu R
theorem sub2 {A B:Nat × Obj}{M:zH}:M.Sublist (A::B::M):=(zz7 _ _).trans (zz7 _ _)
theorem zSC {A B:Nat × Obj}(M:zH)(x:Nat × Obj):(A::B::(M++[x])).Perm (x::A::B::M):=by
 have:=List.perm_append_comm (l₁:=A::B::M) (l₂:=[x])
 simpa only[List.cons_append,List.nil_append] using this
theorem zPe {A B:Nat × Obj}(x:Nat × Obj)(M1 M2 M3 M4 N:zH):(x::A::B::(M1++M2++M3++M4++N)).Perm (A::B::(M1++(M2++([x]++(M3++M4++N))))):=by
 refine List.Perm.trans (List.Perm.swap A x _) (List.Perm.cons A (List.Perm.trans (List.Perm.swap B x _) (List.Perm.cons B ?_)))
 have h1:(x::(M1++M2++M3++M4++N)).Perm ((M1++M2)++x::(M3++M4++N)):=by
  have:=(List.perm_middle (a:=x) (l₁:=M1++M2) (l₂:=M3++M4++N)).symm
  simpa only[List.append_assoc] using this
 simpa only[List.append_assoc,List.cons_append,List.nil_append] using h1
theorem zPf (M1 M2 M3 M4 M5:zH):(M1++M2++M3++M4++M5).Perm (M1++(M2++(M5++(M3++M4)))):=by
 have:=(List.perm_append_comm (l₁:=M3++M4) (l₂:=M5)).append_left (M1++M2)
 simpa only[List.append_assoc] using this
theorem Els.flat {cs:List Value}{size:Nat}{el:Nat→List Value}:∀ {n:Nat},Els cs size n el→cs.take (n*size)=(List.range n).flatMap el
 | 0,_=>by simp
 | n+1,h=>by
   have ih:=Els.flat (n:=n) fun j hj=>h j (by omega)
   rw[Nat.add_mul,Nat.one_mul,List.take_add,ih,List.range_succ,List.flatMap_append,List.flatMap_singleton,(h n (by omega)).2]
theorem Els.own {cs:List Value}{size n cap g:Nat}{T:TypeId}{el:Nat→List Value}(h:Els cs size n el)(hel:∀ j,j<n→(el j).length=size)(h1:n≤cap)(h2:cap≤maxLen)(h3:cs.length=cap*size):Go.Sk.Own [cb g cs T] T size (some ⟨g,0,none⟩) n cap ((List.range n).flatMap el) :=
 ⟨Go.Sk.flat_len _ hel,.inr ⟨g,cs,rfl,rfl,h1,h2,h3,Els.flat h⟩⟩
theorem zUD {l:List Auc}{ad:Nat→Option Addr × Nat}{k:Nat}{a:Option Addr}{c:Nat}:(fun j=>if j=k then wr (ael l ad k) 8 [.slice a (l.getD k default).bids.length c] else ael l ad j)=ael l (fun j=>if j=k then(a,c) else ad j):=by
 funext j
 by_cases h:j=k
 ·subst h;simp only[if_true];simp only[ael,if_true];rfl
 ·simp only[ael,if_neg h]
theorem Ac.cone (r:Ac):∀ u∈r.cells,u.oneCell'=true:=zAh rfl
theorem Ins.cone (r:Ins):∀ u∈r.cells,u.oneCell'=true:=zAh rfl
theorem zSD (l:List Auc)(ad:Nat→Option Addr × Nat)(j:Nat):∀ u∈ael l ad j,u.oneCell'=true:=zAh rfl
set_option maxRecDepth 20000 in
theorem zSE {F:zH}(s:Sta)(p:SPt)(hL:LtS s)(w0:World)(hF:Mem w0 F)(hs:StaM F s p) :
  Calls Tryz.prog 42 [.agg (s.cells p).toArray].toArray w0 (zn (CopyR s) w0):=by
 obtain⟨l1,l2,l3,l4,l5,l6⟩:=hL
 refine enter [.cell 2 28] Tryz.func42 rfl Tryz.ntmps42 rfl rfl ?_
 have H:=zB w0
 repeat' (first|refine yT ?_|(refine y9 H ?_;intro b w H)|(refine y10 sg H ?_;intro b w H)|refine yU ?_|fail)
 rename_i b1 wx Hx
 refine CW.mid [(5,12)] (fun _:I2=>[]) (fun y w=>Go.Sk.Own y.M1 74 2 y.a1 s.accts.length y.c1 ((List.range s.accts.length).flatMap (acl s.accts))∧Go.Sk.Own y.M2 76 3 y.a2 s.insts.length y.c2 ((List.range s.insts.length).flatMap (ing s.insts)) ∧
  St w0 (cb b zIX 28::cb b1 (s.cells { p with acA:=y.a1,acC:=y.c1,inA:=y.a2,inC:=y.c2 }) 28::(y.M1++y.M2)) w) (fun g=>?_) ?_
 ·repeat' (first|refine yT ?_|refine y7 sg H ?_|(refine y11 sg H ?_;intro w H)|(refine zA5 mixed 10 ?_ ?_;exact rfl;intro w hcl;replace H:=H.ext hcl;clear hcl)|((with_reducible apply zEm);decide +kernel)|(refine' z8 0 ?_ ?_;rotate_left;first|exact z9 sg)|(refine' z8 3 ?_ ?_;rotate_left;first|exact z9 sg)|(refine' z8 6 ?_ ?_;rotate_left;first|exact z9 sg)|(refine' z8 8 ?_ ?_;rotate_left;first|exact z9 sg)|refine z10 1 ?_|refine z10 2 ?_|refine z10 4 ?_|refine z10 5 ?_|refine z10 7 ?_|refine z10 9 ?_|refine z11 1 4 ?_ ?_|refine z11 2 4 ?_ ?_|(refine' y32 ent75 ?_ ?_;rotate_left;exact zMZ _ (H.memF hF) hs.ac (fun j _=>Ac.cone _) (fun j _=>rfl) (by omega);intro v M1 w hR hS;replace H:=H.addR hS;clear hS;(try simp only[List.cons_append,List.nil_append] at H);obtain⟨a1,c1,rfl,O1⟩:=hR)|(refine' y32 ent76 ?_ ?_;rotate_left;exact zMa _ (H.memF hF) hs.ins (fun j _=>Ins.cone _) (fun j _=>rfl) (by omega);intro v M2 w hR hS;replace H:=H.addR hS;clear hS;(try simp only[List.cons_append,List.nil_append] at H);obtain⟨a2,c2,rfl,O2⟩:=hR)|refine yU ?_|fail)
  all_goals exact zK ⟨a1,c1,M1,a2,c2,M2⟩ rfl trivial ⟨O1,O2,H⟩ (Nat.lt_succ_self 0)
 clear H
 rintro⟨a1,c1,M1,a2,c2,M2⟩ g w ⟨O1,O2,H⟩
 simp only at O1 O2 H ⊢
 refine zBW ?_
 refine CW.mid [(13,20)] (fun _:I2=>[]) (fun y w=>Go.Sk.Own y.M1 70 4 y.a1 s.rows.length y.c1 ((List.range s.rows.length).flatMap (rwl s.rows))∧Go.Sk.Own y.M2 43 6 y.a2 s.orders.length y.c2 ((List.range s.orders.length).flatMap (odl s.orders)) ∧
  St w0 (cb b zIX 28::cb b1 (s.cells { p with acA:=a1,acC:=c1,inA:=a2,inC:=c2,rwA:=y.a1,rwC:=y.c1,odA:=y.a2,odC:=y.c2 }) 28::(M1++M2++y.M1++y.M2)) w) (fun g=>?_) ?_
 ·repeat' (first|refine yT ?_|refine y7 sg H ?_|(refine y11 sg H ?_;intro w H)|(refine zA5 mixed 10 ?_ ?_;exact rfl;intro w hcl;replace H:=H.ext hcl;clear hcl)|((with_reducible apply zEm);decide +kernel)|(refine' z8 0 ?_ ?_;rotate_left;first|exact z9 sg)|(refine' z8 3 ?_ ?_;rotate_left;first|exact z9 sg)|(refine' z8 6 ?_ ?_;rotate_left;first|exact z9 sg)|(refine' z8 8 ?_ ?_;rotate_left;first|exact z9 sg)|refine z10 1 ?_|refine z10 2 ?_|refine z10 4 ?_|refine z10 5 ?_|refine z10 7 ?_|refine z10 9 ?_|refine z11 1 4 ?_ ?_|refine z11 2 4 ?_ ?_|(refine' y32 ent77 ?_ ?_;rotate_left;exact zH8 _ (H.memF hF) hs.rw (fun j _=>Row4.cone _) (fun j _=>rfl) (by omega);intro v M3 w hR hS;replace H:=H.addR hS;clear hS;(try simp only[List.cons_append,List.nil_append] at H);obtain⟨a3,c3,rfl,O3⟩:=hR)|(refine' y32 zQN ?_ ?_;rotate_left;exact zFr _ (H.memF hF) hs.od (fun j _=>Odr.cone _) (fun j _=>rfl) (by omega);intro v M4 w hR hS;replace H:=H.addR hS;clear hS;(try simp only[List.cons_append,List.nil_append] at H);obtain⟨a4,c4,rfl,O4⟩:=hR)|refine yU ?_|fail)
  all_goals exact zK ⟨a3,c3,M3,a4,c4,M4⟩ rfl trivial ⟨O3,O4,H⟩ (Nat.lt_succ_self 0)
 clear H
 rintro⟨a3,c3,M3,a4,c4,M4⟩ g w ⟨O3,O4,H⟩
 simp only at O3 O4 H ⊢
 repeat' (first|refine yT ?_|refine y7 sg H ?_|(refine y11 sg H ?_;intro w H)|(refine' y32 zQP ?_ ?_;rotate_left;exact zFj _ (H.memF hF) hs.au.1 (fun j _=>zSD _ _ _) (fun j _=>rfl) (by omega);intro v M5 w hR hS;replace H:=H.addR hS;clear hS;(try simp only[List.cons_append,List.nil_append] at H);obtain⟨a5,c5,rfl,O5⟩:=hR)|refine yU ?_|fail)
 refine zA ?_
 rcases Nat.eq_zero_or_pos s.aucs.length with h0|h0
 ·refine zM [(3,4),(28,41)] (fun _:Unit=>[(28,.int .i64 0)]) (fun _ w=>St w0 (cb b zIX 28::cb b1 (s.cells ⟨a1,c1,a2,c2,a3,c3,a4,c4,a5,c5,p.ad⟩) 28::(M1++M2++M3++M4++M5)) w) (fun _=>0) () ⟨rfl,trivial⟩ H ?_
  clear H
  rintro _ gh w H
  have d1:decide ((0:Int)<(s.aucs.length:Int))=false:=decide_eq_false (by omega)
  repeat' (first|refine yT ?_|refine y7 sg H ?_|(refine y11 sg H ?_;intro w H)|refine yU ?_|(refine y23 ?_ ?_;all_goals(intro h;try (exfalso;first|((rw[d1] at h;cases h);done))))|fail)
  refine zAY (vs:=[_]) ⟨zAf sg rfl H.mem qB rfl rfl,trivial⟩ ((H.sub sub2).perm (zPf M1 M2 M3 M4 M5)) ⟨⟨a1,c1,a2,c2,a3,c3,a4,c4,a5,c5,p.ad⟩,M1,M2,M5,M3++M4,rfl,rfl,?_⟩
  ·exact⟨O1,O2,O3.sl (List.subset_append_left _ _) (fun _ _=>rfl) (by omega),O4.sl (zz8 _ _) (fun _ _=>rfl) (by omega),O5,fun j hj=>absurd hj (by omega)⟩
 ·have O5b:=O5
  obtain⟨g0,cs0,rfl,rfl,hcap,hE⟩:=O5.els h0 (fun j _=>rfl)
  obtain⟨hcm,hcl0⟩:c5≤maxLen∧cs0.length=c5*9:=by
   rcases O5b.2 with ⟨h,_⟩|⟨g',cs',h1,h2,h3,h4,h5,h6⟩
   ·omega
   ·cases h2;exact⟨h4,h5⟩
  replace H:=H.perm (zSC (A:=cb b zIX 28) (B:=cb b1 (s.cells ⟨a1,c1,a2,c2,a3,c3,a4,c4,some ⟨g0,0,none⟩,c5,p.ad⟩) 28) (M1++M2++M3++M4) (cb g0 cs0 62))
  have hFs:Mem w0 F:=hF
  refine zM [(3,4),(28,41)] (fun y:Nat × (Nat→Option Addr × Nat) × List Value × zH=>[(28,.int .i64 (y.1:Int))]) (fun y w=>St w0 (cb g0 y.2.2.1 62::cb b zIX 28::cb b1 (s.cells ⟨a1,c1,a2,c2,a3,c3,a4,c4,some ⟨g0,0,none⟩,c5,p.ad⟩) 28::(M1++M2++M3++M4++y.2.2.2)) w∧y.1≤s.aucs.length∧Els y.2.2.1 9 s.aucs.length (ael s.aucs y.2.1)∧(∀ j,y.1≤j→y.2.1 j=p.ad j)∧y.2.2.1.length=c5*9∧∀ j,j<y.1→Bids y.2.2.2 (y.2.1 j).1 (y.2.1 j).2 (s.aucs.getD j default).bids) (fun y=>s.aucs.length - y.1) (0,p.ad,cs0,[]) ⟨rfl,trivial⟩ ⟨by rw[List.append_nil];exact H,zzD _,hE,fun _ _=>rfl,hcl0,fun j hj=>absurd hj (zzE j)⟩ ?_
  clear H hE
  rintro⟨k,ad,cs1,N⟩ gh w ⟨H,hk,hE1,hsm,hcl1,hB⟩
  simp only at H hk hE1 hsm hcl1 hB ⊢
  by_cases hlt:k<s.aucs.length
  ·have d1:decide ((k:Int)<(s.aucs.length:Int))=true:=decide_eq_true (by omega)
   have hbn:=l6 k hlt
   have hbk:=hs.au.2 k hlt
   rw[← hsm k (Nat.le_refl _)] at hbk
   have hek:=(hE1 k hlt).1
   have hsg:=hE1.slb (F:=[cb g0 cs1 62]) (T:=62) (zz2 _)
   repeat' (first|refine yT ?_|refine yU ?_|fail)
   refine zJ rfl (fun h=>?_) (fun h=>absurd d1 (by rw[h];decide))
   clear h
   repeat' (first|refine yT ?_|(refine y10 sg H ?_;intro b w H)|(refine y11 sg H ?_;intro w H)|(refine y40 sg (hsg) ?_ ?_ ?_;(omega);(omega))|(refine y42 sg (hsg) ((z7 H)) ?_ ?_;(omega))|refine yU ?_|with_reducible apply zA|fail)
   repeat' (first|refine yT ?_|(refine' y32 zQQ ?_ ?_;rotate_left;exact zFi _ (H.memF hF) hbk (fun j _=>zJ1 _ _) (fun j _=>zFC _ _) (by omega);intro v M6 w hR hS;replace H:=H.addR hS;clear hS;(try simp only[List.cons_append,List.nil_append] at H);obtain⟨a6,c6,rfl,O6⟩:=hR)|(refine OX.storeX sg (v:=.slice a6 (s.aucs.getD k default).bids.length c6) (vs:=[.slice a6 (s.aucs.getD k default).bids.length c6]) H rfl rfl rfl rfl rfl rfl rfl (Up.there Up.here) (by simp only[List.length_singleton];omega) (zAh rfl) ?_;intro w H)|(refine zMw mixed 9 (memS (x:=cb b1 (s.cells ⟨a1,c1,a2,c2,a3,c3,a4,c4,some ⟨g0,0,none⟩,c5,p.ad⟩) 28) (y:=cb b (ael s.aucs ad k) 62) H.mem qC qC (H.memF hF)) ?_ ?_;exact rfl;intro w hcl;replace H:=H.ext hcl;clear hcl)|((with_reducible apply RH.nil);exact((memS (x:=cb b1 (s.cells ⟨a1,c1,a2,c2,a3,c3,a4,c4,some ⟨g0,0,none⟩,c5,p.ad⟩) 28) (y:=cb b (ael s.aucs ad k) 62) H.mem qC qC (H.memF hF)).sub qT);decide +kernel)|(refine' z1 0 (z6 H hF) ?_ ?_;rotate_left;first|exact z4 sg|exact(fun w hM=>zG sg rfl rfl hM qC rfl rfl)|exact(fun w hM=>zF sg hsg rfl rfl rfl rfl rfl rfl rfl (by first|with_reducible exact zz1 _|exact zD (by omega) (by omega)|with_reducible exact zI|exact zC _) (by omega) (by omega)))|(refine' z1 1 (z6 H hF) ?_ ?_;rotate_left;first|exact z4 sg|exact(fun w hM=>zG sg rfl rfl hM qC rfl rfl)|exact(fun w hM=>zF sg hsg rfl rfl rfl rfl rfl rfl rfl (by first|with_reducible exact zz1 _|exact zD (by omega) (by omega)|with_reducible exact zI|exact zC _) (by omega) (by omega)))|(refine' z1 2 (z6 H hF) ?_ ?_;rotate_left;first|exact z4 sg|exact(fun w hM=>zG sg rfl rfl hM qC rfl rfl)|exact(fun w hM=>zF sg hsg rfl rfl rfl rfl rfl rfl rfl (by first|with_reducible exact zz1 _|exact zD (by omega) (by omega)|with_reducible exact zI|exact zC _) (by omega) (by omega)))|(refine' z1 3 (z6 H hF) ?_ ?_;rotate_left;first|exact z4 sg|exact(fun w hM=>zG sg rfl rfl hM qC rfl rfl)|exact(fun w hM=>zF sg hsg rfl rfl rfl rfl rfl rfl rfl (by first|with_reducible exact zz1 _|exact zD (by omega) (by omega)|with_reducible exact zI|exact zC _) (by omega) (by omega)))|(refine' z1 4 (z6 H hF) ?_ ?_;rotate_left;first|exact z4 sg|exact(fun w hM=>zG sg rfl rfl hM qC rfl rfl)|exact(fun w hM=>zF sg hsg rfl rfl rfl rfl rfl rfl rfl (by first|with_reducible exact zz1 _|exact zD (by omega) (by omega)|with_reducible exact zI|exact zC _) (by omega) (by omega)))|(refine' z1 6 (z6 H hF) ?_ ?_;rotate_left;first|exact z4 sg|exact(fun w hM=>zG sg rfl rfl hM qC rfl rfl)|exact(fun w hM=>zF sg hsg rfl rfl rfl rfl rfl rfl rfl (by first|with_reducible exact zz1 _|exact zD (by omega) (by omega)|with_reducible exact zI|exact zC _) (by omega) (by omega)))|(refine' z1 7 (z6 H hF) ?_ ?_;rotate_left;first|exact z4 sg|exact(fun w hM=>zG sg rfl rfl hM qC rfl rfl)|exact(fun w hM=>zF sg hsg rfl rfl rfl rfl rfl rfl rfl (by first|with_reducible exact zz1 _|exact zD (by omega) (by omega)|with_reducible exact zI|exact zC _) (by omega) (by omega)))|refine z12 5 (z6 H hF) ?_|refine z12 8 (z6 H hF) ?_|refine yU ?_|fail)
   have hE2:=zF2 (vs:=[.slice a6 (s.aucs.getD k default).bids.length c6]) (f:=8) hE1 hlt (Nat.le_refl 9)
   rw[zUD] at hE2
   refine zK (k+1,(fun j=>if j=k then(a6,c6) else ad j),wr cs1 (k*9+8) [.slice a6 (s.aucs.getD k default).bids.length c6],N++M6) rfl ⟨zZ (by omega),trivial⟩ ⟨by simpa only[Nat.zero_add,List.append_assoc] using H.sub (zz7 _ _),hlt,hE2,fun j hj=>?_,?_,fun j hj=>?_⟩ (by simp only;omega)
   ·simp only
    rw[if_neg (by have:k+1≤j:=hj;omega)]
    exact hsm j (by have:k+1≤j:=hj;omega)
   ·simp only
    rw[zB0 (by simp only[List.length_singleton];omega)];exact hcl1
   by_cases hjk:j=k
   ·subst hjk
    simp only[if_true]
    exact O6.sl (zz8 _ _) (fun _ _=>rfl) (by omega)
   ·simp only[if_neg hjk]
    exact SlA.mono (hB j (by have:j<k+1:=hj;omega)) (List.subset_append_left _ _)
  ·obtain rfl:k=s.aucs.length:=by omega
   have d1:decide ((s.aucs.length:Int)<(s.aucs.length:Int))=false:=decide_eq_false (by omega)
   repeat' (first|refine yT ?_|refine y7 sg H ?_|(refine y11 sg H ?_;intro w H)|refine yU ?_|(refine y23 ?_ ?_;all_goals(intro h;try (exfalso;first|((rw[d1] at h;cases h);done))))|fail)
   refine zAY (vs:=[_]) ⟨zAf sg rfl H.mem qB rfl rfl,trivial⟩ (H.perm (zPe _ M1 M2 M3 M4 N) |>.sub sub2) ⟨⟨a1,c1,a2,c2,a3,c3,a4,c4,some ⟨g0,0,none⟩,c5,ad⟩,M1,M2,[cb g0 cs1 62],M3++M4++N,rfl,rfl,?_⟩
   refine⟨O1,O2,O3.sl qS (fun _ _=>rfl) (by omega),O4.sl qS (fun _ _=>rfl) (by omega),Els.own hE1 (fun _ _=>rfl) hcap hcm hcl1,fun j hj=>SlA.mono (hB j hj) qS⟩
end Go.Proofs.YtibmaifoaajllaaGreatDoor
namespace Go
section
variable {P:Program}{ops:Array Oper}{Q:Exit→Act→World→Prop}{md:Region.Mode}{S:World→Prop}{late:List Nat}
def zCv (P:Program)(md:Region.Mode)(ops:Array Oper)(Q:Exit→Act→World→Prop)(S:World→Prop)(late:List Nat):Nat→Array Bool→Act→World→Prop
 | 0,listed,a,w=>Region.ready md ops listed=[]∧Q .normal a w
 | fuel+1,listed,a,w =>
   (Region.ready md ops listed=[]→Q .normal a w) ∧
   ∀ i∈Region.ready md ops listed,wpOp P ops Q i (fun a' w'=>(late.contains i=false→S w')∧zCv P md ops Q S late fuel (listed.setIfInBounds i true) a' w') a w
theorem zFZ:∀ (fuel:Nat) (listed:Array Bool) (a:Act) (w:World),zCv P md ops Q S late fuel listed a w→wpAny P md ops Q fuel listed a w
 | 0,_,_,_,h=>h
 | fuel+1,_,_,_,h=>⟨h.1,fun i hi=>wpOp_mono (fun a' w' h'=>zFZ fuel _ a' w' h'.2) (h.2 i hi)⟩
def zEZ (md:Region.Mode)(ops:Array Oper)(listed:Array Bool)(i:Nat):Nat→Nat→Bool
 | 0,_=>false
 | f+1,j=>match ops[j]? with
   | some o=>o.after.any fun e=>Region.binds md e&&(e.on==i||(!listed.getD e.on true&&zEZ md ops listed i f e.on))
   | none=>false
theorem zJN {listed:Array Bool}{i k:Nat}{ok:Oper}(hk:k∈Region.ready md ops listed)(hok:ops[k]?=some ok)(hnot:∀ e∈ok.after,Region.binds md e=true→e.on≠i)(f:Nat):zEZ md ops listed i f k=false:=by
 cases f with
 | zero=>rfl
 | succ f =>
   rw[← Bool.not_eq_true]
   intro h
   unfold zEZ at h
   rw[hok] at h
   simp only[Array.any_eq_true,Bool.and_eq_true,Bool.or_eq_true,beq_iff_eq,Bool.not_eq_true'] at h
   obtain⟨q,hq,hb,he⟩:=h
   obtain⟨_,oj,hoj,hall⟩:=mem_ready.1 hk
   rw[hok] at hoj
   cases hoj
   rcases he with he|⟨he,_⟩
   ·exact hnot _ (Array.getElem_mem hq) hb he
   ·have h1:=hall _ (Array.getElem_mem hq) hb
    rcases Nat.lt_or_ge (ok.after[q]).on listed.size with h'|h'
    ·simp[h'] at he h1;rw[he] at h1;cases h1
    ·simp[Array.getElem?_eq_none h'] at h1
theorem zIY {listed:Array Bool}{i k:Nat}{ok:Oper}(hk:k∈Region.ready md ops listed)(hok:ops[k]?=some ok)(hnot:∀ e∈ok.after,Region.binds md e=true→e.on≠i):∀ (f j:Nat),zEZ md ops listed i f j=true→zEZ md ops (listed.setIfInBounds k true) i f j=true
 | 0,_,h=>h
 | f+1,j,h=>by
   unfold zEZ at h ⊢
   cases ho:ops[j]? with
   | none=>rw[ho] at h;cases h
   | some o =>
     rw[ho] at h
     simp only[Array.any_eq_true,Bool.and_eq_true,Bool.or_eq_true,beq_iff_eq,Bool.not_eq_true'] at h ⊢
     obtain⟨q,hq,hb,he⟩:=h
     refine⟨q,hq,hb,he.imp id fun⟨h1,h2⟩=>?_⟩
     by_cases hkq:k=(o.after[q]).on
     ·rw[← hkq,zJN hk hok hnot] at h2;cases h2
     ·exact⟨by rw[getD_set_ne true hkq];exact h1,zIY hk hok hnot f _ h2⟩
def zE3 (md:Region.Mode)(ops:Array Oper)(late:List Nat)(listed:Array Bool)(i:Nat):Bool :=
 late.all fun j=>listed.getD j true||zEZ md ops listed i 14 j
theorem zMx {listed:Array Bool}{i j:Nat}{oj:Oper}(hj:j∈Region.ready md ops listed)(hoj:ops[j]?=some oj)(hnot:∀ e∈oj.after,Region.binds md e=true→e.on≠i)(h:zE3 md ops late listed i=true):zE3 md ops late (listed.setIfInBounds j true) i=true:=by
 unfold zE3 at *
 rw[List.all_eq_true] at *
 intro k hk
 have h1:=h k hk
 rw[Bool.or_eq_true] at *
 refine h1.imp (fun h2=>?_) fun h2=>zIY hj hoj hnot _ _ h2
 by_cases hjk:j=k
 ·subst hjk
  simp only[Array.getD_eq_getD_getElem?,Array.getElem?_setIfInBounds]
  split
  ·split<;>rfl
  ·contradiction
 ·rw[getD_set_ne true hjk];exact h2
theorem zGT {T:World→Prop}{i:Nat}{oi:Oper}{v:Value}(hi:ops[i]?=some oi)(hsel:∀ (j:Nat) (o:Oper) cs b,ops[j]?=some o→o.op≠.select cs b)
  (hQ:∀ c a w,Q (.panic c) (a.put oi.dst v) w→Q (.panic c) a w) (lb:Array Bool→Bool) (hmono:∀ listed j oj,j∈Region.ready md ops listed→ops[j]?=some oj→(∀ e∈oj.after,Region.binds md e=true→e.on≠i)→lb listed=true→lb (listed.setIfInBounds j true)=true)
  (hl:∀ listed j oj,lb listed=true→j∈Region.ready md ops listed→listed.getD j true=false→ops[j]?=some oj→(∀ e∈oj.after,Region.binds md e=true→e.on≠i)→∀ w,(late.contains j=false→S w)→T w) (hTS:∀ w,T w→late.contains i=false→S w) :
  ∀ (fuel:Nat) (listed:Array Bool) (a:Act) (w:World),lb listed=true →
    (∀ j oj,ops[j]?=some oj→j≠i→listed.getD j true=false→(∀ e∈oj.after,Region.binds md e=true→e.on≠i)→oi.apart ops oj=true) →
    i∈Region.ready md ops listed→YieldsIf P ops T oi v a→T w →
    zCv P md ops Q S late fuel (listed.setIfInBounds i true) (a.put oi.dst v) w→zCv P md ops Q S late (fuel+1) listed a w:=by
 intro fuel
 induction fuel with
 | zero =>
   intro listed a w _ _ hr hy hT H
   refine⟨fun h=>(by rw[h] at hr;cases hr),fun j hj=>?_⟩
   by_cases hji:j=i
   ·subst hji;exact hy.wpOp hi hT ⟨hTS _ hT,H⟩
   ·have:=ready_mono hj hji
    rw[H.1] at this
    cases this
 | succ fuel ih =>
   intro listed a w hlb hfree hr hy hT H
   refine⟨fun h=>(by rw[h] at hr;cases hr),fun j hj=>?_⟩
   by_cases hji:j=i
   ·subst hji;exact hy.wpOp hi hT ⟨hTS _ hT,H⟩
   ·have h1:=H.2 j (ready_mono hj hji)
    obtain⟨hjun,oj,hoj,hall⟩:=mem_ready.1 hj
    have hnot:∀ e∈oj.after,Region.binds md e=true→e.on≠i:=fun e he hb heq=>by
     have h1:=hall e he hb
     have h0:=(mem_ready.1 hr).1
     rw[heq] at h1
     rcases Nat.lt_or_ge i listed.size with h'|h'
     ·simp[h'] at h0 h1;rw[h0] at h1;cases h1
     ·simp[Array.getElem?_eq_none h'] at h1
    have h2:=wpOp_putIf hoj (hfree j oj hoj hji hjun hnot) (fun cs b=>hsel i oi cs b hi) (fun cs b=>hsel j oj cs b hoj) hQ hy h1
    have hfree':∀ k ok,ops[k]?=some ok→k≠i→(listed.setIfInBounds j true).getD k true=false →
      (∀ e∈ok.after,Region.binds md e=true→e.on≠i)→oi.apart ops ok=true:=fun k ok hk hki hun hno=>by
     refine hfree k ok hk hki ?_ hno
     by_cases hjk:j=k
     ·subst hjk;exact hjun
     ·rw[getD_set_ne true hjk] at hun;exact hun
    refine wpOp_mono (fun a' w' h3=>⟨h3.2.1,ih (listed.setIfInBounds j true) a' w' (hmono _ _ _ hj hoj hnot hlb) hfree' (ready_mono hr (Ne.symm hji)) h3.1 (hl listed j oj hlb hj hjun hoj hnot w' h3.2.1) ?_⟩) h2
    rw[Array.setIfInBounds_comm _ _ hji]
    exact h3.2.2
theorem zE4 {i:Nat}{oi:Oper}{v:Value}{fuel:Nat}{listed:Array Bool}{a:Act}{w:World}(hi:ops[i]?=some oi)
  (hs:Region.noSelect ops=true) (hf:Region.free md ops listed i=true) (hr:(Region.ready md ops listed).contains i=true) (hl:zE3 md ops late listed i=true)
  (hQ:∀ c a w,Q (.panic c) (a.put oi.dst v) w→Q (.panic c) a w) (hy:YieldsIf P ops S oi v a) (hS:S w)
  (h:zCv P md ops Q S late fuel (listed.setIfInBounds i true) (a.put oi.dst v) w):zCv P md ops Q S late (fuel+1) listed a w:=by
 refine zGT (T:=S) hi (Region.noSelect_spec hs) hQ (fun listed=>zE3 md ops late listed i) (fun _ _ _ hj ho hn h=>zMx hj ho hn h) ?_ (fun _ h _=>h) fuel listed a w hl (Region.free_spec hi hf) (by simpa using hr) hy hS h
 intro listed j oj hlb hj hjun hoj hnot w hw
 refine hw ?_
 rw[← Bool.not_eq_true]
 intro hc
 have h2:=List.all_eq_true.1 hlb j (by simpa using hc)
 rw[hjun,Bool.false_or,zJN hj hoj hnot] at h2
 cases h2
theorem zKO {i:Nat}{oi:Oper}{v:Value}{fuel:Nat}{listed:Array Bool}{a:Act}{w:World}(hi:ops[i]?=some oi)
  (hs:Region.noSelect ops=true) (hf:Region.free md ops listed i=true) (hr:(Region.ready md ops listed).contains i=true)
  (hQ:∀ c a w,Q (.panic c) (a.put oi.dst v) w→Q (.panic c) a w) (hy:YieldsIf P ops (fun _=>True) oi v a) (hc:late.contains i=true)
  (h:zCv P md ops Q S late fuel (listed.setIfInBounds i true) (a.put oi.dst v) w):zCv P md ops Q S late (fuel+1) listed a w :=
 zGT (T:=fun _=>True) hi (Region.noSelect_spec hs) hQ (fun _=>true) (fun _ _ _ _ _ _ h=>h) (fun _ _ _ _ _ _ _ _ _ _=>trivial) (fun w _ hl=>by rw[hc] at hl;cases hl) fuel listed a w rfl (Region.free_spec hi hf) (by simpa using hr) hy trivial h
theorem zFw {rs:List Nat}{fuel:Nat}{listed:Array Bool}{a:Act}{w:World}(hr:Region.ready md ops listed=rs)(hne:rs≠[])
  (h:∀ i∈rs,wpOp P ops Q i (fun a' w'=>(late.contains i=false→S w')∧zCv P md ops Q S late fuel (listed.setIfInBounds i true) a' w') a w):zCv P md ops Q S late (fuel+1) listed a w :=
 ⟨fun h0=>absurd (hr ▸ h0) hne,hr ▸ h⟩
theorem zLY {listed:Array Bool}{a:Act}{w:World}(hr:Region.ready md ops listed=[])(h:Q .normal a w) :
  ∀ fuel,zCv P md ops Q S late fuel listed a w
 | 0=>⟨hr,h⟩
 | _+1=>⟨fun _=>h,by rw[hr];simp⟩
end
end Go
namespace Go.Sk
open Go Go.RowKit
attribute [local semireducible] CW OW OX QW QX Yq RA
def RL (P:Program)(n:Nw)(l:List Oper)(F0:zH)(late:List Nat)(s:Array Bool)(m:Nat)(Q:zAX)(e:Env)(w:World):Prop :=
 ∀ a,Fits n a e→zCv P .any l.toArray (nrm n Q) (fun w=>Mem w F0) late m s a w
section
variable {P:Program}{n:Nw}{id:Nat}{Q:zAX}{e:Env}{w:World}{l:List Oper}{s:Array Bool}{m:Nat}{F0:zH}{late:List Nat}
theorem CW.regionL (hm:P.follows .mixedOrders=true)(N:Nat)(_hM0:Mem w F0)(late:List Nat)(hN:Nat.beq l.length N=true)(h:∀ w',Cl w w'→RL P n l F0 late (Array.replicate N false) N Q e w')(hnd:zC7 l=true:=by exact rfl):CW P n (.region id l.toArray true) Q e w :=
 zA5 hm N hN (fun w' hw a ha=>zFZ _ _ _ _ (h w' hw a ha)) hnd
theorem RL.nil (hr:(Region.ready .any l.toArray s).isEmpty=true)(h:Q .normal e w):RL P n l F0 late s m Q e w :=
 fun a ha=>zLY (by simpa using hr) ⟨rfl,nofun,e,ha,h⟩ m
theorem RL.take {L:List (Nat × Value)}{b0:Env}(i:Nat){o:Oper}{d:Nat}{v:Value}(hM:Mem w F0)(hB:(((Region.noSelect l.toArray&&Region.free .any l.toArray s i)&&(Region.ready .any l.toArray s).contains i)&&zE3 .any l.toArray late s i)=true)
  (ho:l[i]?=some o) (hg:o.guard=none) (hd:o.dst=some d) (hlt:Nat.blt d n.n=true) (hy:∀ w,Mem w F0→Yq P o (ovl L b0) w v)
  {m':Nat} (hm:m'=m+1) (h:RL P n l F0 late (s.setIfInBounds i true) m Q (ovl ((d,v)::L) b0) w):RL P n l F0 late s m' Q (ovl L b0) w:=by
 subst hm
 intro a ha
 simp only[Bool.and_eq_true] at hB
 obtain⟨⟨⟨h1,h2⟩,h3⟩,h4⟩:=hB
 refine zE4 (oi:=o) (v:=v) (by simpa using ho) h1 h2 h3 h4 (fun c a w hq=>absurd hq.1 (by simp)) (.inl ⟨by simp[Region.wanted,hg],fun w' hw'=>?_⟩) hM ?_
 ·rw[ha.eval];exact hy w' hw' w' (Cl.refl w')
 ·rw[hd];exact h _ (ha.put hlt v)
theorem RL.takeG {L:List (Nat × Value)}{b0:Env}(i:Nat){o:Oper}{d:Nat}{v:Value}{j d2:Nat}{want:Bool}(hM:Mem w F0)(hB:(((Region.noSelect l.toArray&&Region.free .any l.toArray s i)&&(Region.ready .any l.toArray s).contains i)&&zE3 .any l.toArray late s i)=true)
  (ho:l[i]?=some o) (hg:o.guard=some (j,want)) (hj:(l.toArray[j]?).bind (·.dst)=some d2) (hv:gd (ovl L b0 d2) want=some true) (hd:o.dst=some d) (hlt:Nat.blt d n.n=true) (hy:∀ w,Mem w F0→Yq P o (ovl L b0) w v)
  {m':Nat} (hm:m'=m+1) (h:RL P n l F0 late (s.setIfInBounds i true) m Q (ovl ((d,v)::L) b0) w):RL P n l F0 late s m' Q (ovl L b0) w:=by
 subst hm
 intro a ha
 simp only[Bool.and_eq_true] at hB
 obtain⟨⟨⟨h1,h2⟩,h3⟩,h4⟩:=hB
 refine zE4 (oi:=o) (v:=v) (by simpa using ho) h1 h2 h3 h4 (fun c a w hq=>absurd hq.1 (by simp)) (.inl ⟨zBz ha hg hj hv,fun w' hw'=>?_⟩) hM ?_
 ·rw[ha.eval];exact hy w' hw' w' (Cl.refl w')
 ·rw[hd];exact h _ (ha.put hlt v)
theorem RL.takeN {L:List (Nat × Value)}{b0:Env}(i:Nat){o:Oper}{d:Nat}{j d2:Nat}{want:Bool}(hM:Mem w F0)(hB:(((Region.noSelect l.toArray&&Region.free .any l.toArray s i)&&(Region.ready .any l.toArray s).contains i)&&zE3 .any l.toArray late s i)=true)
  (ho:l[i]?=some o) (hg:o.guard=some (j,want)) (hj:(l.toArray[j]?).bind (·.dst)=some d2) (hv:gd (ovl L b0 d2) want=some false) (hd:o.dst=some d) (hlt:Nat.blt d n.n=true)
  {m':Nat} (hm:m'=m+1) (h:RL P n l F0 late (s.setIfInBounds i true) m Q (ovl ((d,undef)::L) b0) w):RL P n l F0 late s m' Q (ovl L b0) w:=by
 subst hm
 intro a ha
 simp only[Bool.and_eq_true] at hB
 obtain⟨⟨⟨h1,h2⟩,h3⟩,h4⟩:=hB
 refine zE4 (oi:=o) (v:=undef) (by simpa using ho) h1 h2 h3 h4 (fun c a w hq=>absurd hq.1 (by simp)) (.inr ⟨zBz ha hg hj hv,rfl⟩) hM ?_
 rw[hd];exact h _ (ha.put hlt undef)
theorem RL.takeP {L:List (Nat × Value)}{b0:Env}(i:Nat){o:Oper}{d:Nat}{v:Value}(hB:(((Region.noSelect l.toArray&&Region.free .any l.toArray s i)&&(Region.ready .any l.toArray s).contains i)&&late.contains i)=true)
  (ho:l[i]?=some o) (hg:o.guard=none) (hd:o.dst=some d) (hlt:Nat.blt d n.n=true) (hy:∀ w,Yq P o (ovl L b0) w v)
  {m':Nat} (hm:m'=m+1) (h:RL P n l F0 late (s.setIfInBounds i true) m Q (ovl ((d,v)::L) b0) w):RL P n l F0 late s m' Q (ovl L b0) w:=by
 subst hm
 intro a ha
 simp only[Bool.and_eq_true] at hB
 obtain⟨⟨⟨h1,h2⟩,h3⟩,h4⟩:=hB
 refine zKO (oi:=o) (v:=v) (by simpa using ho) h1 h2 h3 (fun c a w hq=>absurd hq.1 (by simp)) (.inl ⟨by simp[Region.wanted,hg],fun w' _=>?_⟩) h4 ?_
 ·rw[ha.eval];exact hy w' w' (Cl.refl w')
 ·rw[hd];exact h _ (ha.put hlt v)
theorem RL.c1 (i:Nat){o:Oper}{m':Nat}(hm:m'=m+1)(hB:(Region.ready .any l.toArray s==[i])=true)(ho:l[i]?=some o)
  (h:OW P n l.toArray (thn (fun e' w'=>Mem w' F0∧RL P n l F0 late (s.setIfInBounds i true) m Q e' w') (fun _ _ _=>False)) [o] e w):RL P n l F0 late s m' Q e w:=by
 subst hm
 refine fun a ha=>zFw (rs:=[i]) (by simpa using hB) (by simp) (fun j hj=>?_)
 simp only[List.mem_singleton] at hj
 subst hj
 exact zA9 ho (fun a e w hf hk=>⟨fun _=>hk.1,hk.2 a hf⟩) h a ha
theorem RL.cl (i:Nat){o:Oper}{m':Nat}(hm:m'=m+1)(hB:((Region.ready .any l.toArray s==[i])&&late.contains i)=true)(ho:l[i]?=some o)
  (h:OW P n l.toArray (thn (fun e' w'=>RL P n l F0 late (s.setIfInBounds i true) m Q e' w') (fun _ _ _=>False)) [o] e w):RL P n l F0 late s m' Q e w:=by
 subst hm
 rw[Bool.and_eq_true] at hB
 refine fun a ha=>zFw (rs:=[i]) (by simpa using hB.1) (by simp) (fun j hj=>?_)
 simp only[List.mem_singleton] at hj
 subst hj
 exact zA9 ho (fun a e w hf hk=>⟨fun hl=>(by rw[hB.2] at hl;cases hl),hk a hf⟩) h a ha
theorem RL.c2 (i j:Nat){o o':Oper}{m':Nat}(hm:m'=m+1)(hB:(Region.ready .any l.toArray s==[i,j])=true)(ho:l[i]?=some o)(ho':l[j]?=some o')
  (h:OW P n l.toArray (thn (fun e' w'=>Mem w' F0∧RL P n l F0 late (s.setIfInBounds i true) m Q e' w') (fun _ _ _=>False)) [o] e w)
  (h':OW P n l.toArray (thn (fun e' w'=>Mem w' F0∧RL P n l F0 late (s.setIfInBounds j true) m Q e' w') (fun _ _ _=>False)) [o'] e w):RL P n l F0 late s m' Q e w:=by
 subst hm
 refine fun a ha=>zFw (rs:=[i,j]) (by simpa using hB) (by simp) (fun k hk=>?_)
 simp only[List.mem_cons,List.not_mem_nil,or_false] at hk
 rcases hk with rfl|rfl
 ·exact zA9 ho (fun a e w hf hk=>⟨fun _=>hk.1,hk.2 a hf⟩) h a ha
 ·exact zA9 ho' (fun a e w hf hk=>⟨fun _=>hk.1,hk.2 a hf⟩) h' a ha
theorem l1 {L:List (Nat × Value)}{b0:Env}{o:Oper}(i:Nat){d:Nat}{v:Value}(hM:Mem w F0)(hy:∀ w,Mem w F0→Yq P o (ovl L b0) w v)(h:RL P n l F0 late (s.setIfInBounds i true) m Q (ovl ((d,v)::L) b0) w){m':Nat}(hB:(((Region.noSelect l.toArray&&Region.free .any l.toArray s i)&&(Region.ready .any l.toArray s).contains i)&&zE3 .any l.toArray late s i)=true:=by decide +kernel)
  (ho:l[i]?=some o:=by exact rfl) (hg:o.guard=none:=by exact rfl) (hd:o.dst=some d:=by exact rfl) (hlt:Nat.blt d n.n=true:=by exact rfl) (hm:m'=m+1:=by exact rfl):RL P n l F0 late s m' Q (ovl L b0) w:=RL.take i hM hB ho hg hd hlt hy hm h
theorem l6 {L:List (Nat × Value)}{b0:Env}{o:Oper}(i:Nat){d:Nat}{v:Value}(hy:∀ w,Yq P o (ovl L b0) w v)(h:RL P n l F0 late (s.setIfInBounds i true) m Q (ovl ((d,v)::L) b0) w){m':Nat}(hB:(((Region.noSelect l.toArray&&Region.free .any l.toArray s i)&&(Region.ready .any l.toArray s).contains i)&&late.contains i)=true:=by decide +kernel)
  (ho:l[i]?=some o:=by exact rfl) (hg:o.guard=none:=by exact rfl) (hd:o.dst=some d:=by exact rfl) (hlt:Nat.blt d n.n=true:=by exact rfl) (hm:m'=m+1:=by exact rfl):RL P n l F0 late s m' Q (ovl L b0) w:=RL.takeP i hB ho hg hd hlt hy hm h
theorem l7 {L:List (Nat × Value)}{b0:Env}{o:Oper}(i:Nat){d:Nat}{v:Value}{j d2:Nat}{want:Bool}(hM:Mem w F0)(hy:∀ w,Mem w F0→Yq P o (ovl L b0) w v)(h:RL P n l F0 late (s.setIfInBounds i true) m Q (ovl ((d,v)::L) b0) w){m':Nat}(hB:(((Region.noSelect l.toArray&&Region.free .any l.toArray s i)&&(Region.ready .any l.toArray s).contains i)&&zE3 .any l.toArray late s i)=true:=by decide +kernel)
  (ho:l[i]?=some o:=by exact rfl) (hg:o.guard=some (j,want):=by exact rfl) (hj:(l.toArray[j]?).bind (·.dst)=some d2:=by exact rfl) (hv:gd (ovl L b0 d2) want=some true:=by exact rfl) (hd:o.dst=some d:=by exact rfl) (hlt:Nat.blt d n.n=true:=by exact rfl) (hm:m'=m+1:=by exact rfl):RL P n l F0 late s m' Q (ovl L b0) w:=RL.takeG i hM hB ho hg hj hv hd hlt hy hm h
theorem l8 {L:List (Nat × Value)}{b0:Env}{o:Oper}(i:Nat){d:Nat}{j d2:Nat}{want:Bool}(hM:Mem w F0)(h:RL P n l F0 late (s.setIfInBounds i true) m Q (ovl ((d,undef)::L) b0) w){m':Nat}(hB:(((Region.noSelect l.toArray&&Region.free .any l.toArray s i)&&(Region.ready .any l.toArray s).contains i)&&zE3 .any l.toArray late s i)=true:=by decide +kernel)
  (ho:l[i]?=some o:=by exact rfl) (hg:o.guard=some (j,want):=by exact rfl) (hj:(l.toArray[j]?).bind (·.dst)=some d2:=by exact rfl) (hv:gd (ovl L b0 d2) want=some false:=by exact rfl) (hd:o.dst=some d:=by exact rfl) (hlt:Nat.blt d n.n=true:=by exact rfl) (hm:m'=m+1:=by exact rfl):RL P n l F0 late s m' Q (ovl L b0) w:=RL.takeN i hM hB ho hg hj hv hd hlt hm h
theorem l2 {o:Oper}(i:Nat)(h:OW P n l.toArray (thn (fun e' w'=>Mem w' F0∧RL P n l F0 late (s.setIfInBounds i true) m Q e' w') (fun _ _ _=>False)) [o] e w){m':Nat}(hB:(Region.ready .any l.toArray s==[i])=true:=by decide +kernel)(ho:l[i]?=some o:=by exact rfl)(hm:m'=m+1:=by exact rfl):RL P n l F0 late s m' Q e w:=RL.c1 i hm hB ho h
theorem l3 {o:Oper}(i:Nat)(h:OW P n l.toArray (thn (fun e' w'=>RL P n l F0 late (s.setIfInBounds i true) m Q e' w') (fun _ _ _=>False)) [o] e w){m':Nat}(hB:((Region.ready .any l.toArray s==[i])&&late.contains i)=true:=by decide +kernel)(ho:l[i]?=some o:=by exact rfl)(hm:m'=m+1:=by exact rfl):RL P n l F0 late s m' Q e w:=RL.cl i hm hB ho h
theorem l4 {o o':Oper}(i j:Nat)(h:OW P n l.toArray (thn (fun e' w'=>Mem w' F0∧RL P n l F0 late (s.setIfInBounds i true) m Q e' w') (fun _ _ _=>False)) [o] e w)
  (h':OW P n l.toArray (thn (fun e' w'=>Mem w' F0∧RL P n l F0 late (s.setIfInBounds j true) m Q e' w') (fun _ _ _=>False)) [o'] e w) {m':Nat} (hB:(Region.ready .any l.toArray s==[i,j])=true:=by decide +kernel) (ho:l[i]?=some o:=by exact rfl) (ho':l[j]?=some o':=by exact rfl) (hm:m'=m+1:=by exact rfl):RL P n l F0 late s m' Q e w:=RL.c2 i j hm hB ho ho' h h'
theorem l5 (hM:Mem w F0)(h:RL P n l F0 late s m Q e w):Mem w F0∧RL P n l F0 late s m Q e w:=⟨hM,h⟩
end
attribute [irreducible] RL
end Go.Sk
namespace Go.Proofs.YtibmaifoaajllaaGreatDoor
section
open Go Go.Sk Go.RowKit
attribute [local irreducible] Go.Calls
def mkc (s:Sta)(p:SPt)(n:List Int)(na:Option Addr)(nc:Nat)(t:ByteArray):List Value:=s.cells p++[.slice na n.length nc,.string t]
structure Mkt (F:zH)(bm:Nat)(s:Sta)(p:SPt)(n:List Int)(na:Option Addr)(nc:Nat)(t:ByteArray):Prop where
 blk:cb bm (mkc s p n na nc t) 95∈F
 sta:StaM F s p
 num:Ints F na nc n
abbrev mkL (bm:Nat)(cs:List Value)(Ma Mi Mu R:zH):zH:=cb bm cs 95::(Ma++(Mi++(Mu++R)))
theorem zi {s:Sta}{p:SPt}{Ma Mi Mu R L F:zH}{bm:Nat}{n:List Int}{na:Option Addr}{nc:Nat}{t:ByteArray}(hC:Cps s p Ma Mi Mu R)(hL:LtS s)(hN:Ints F na nc n)(hm:cb bm (mkc s p n na nc t) 95∈L:=by repeat (first|exact zz2 _|refine zz5 _ ?_))(hs:(Ma++(Mi++(Mu++R)))⊆L:=by intro p hp;repeat (first|exact hp|apply zz4)):Mkt (L++F) bm s p n na nc t :=
 ⟨zz6 _ hm,(hC.sta hL).mono fun x hx=>zz6 _ (hs hx),SlA.mono hN (zz8 _ _)⟩
theorem zCN (ts:zH){x:Nat × Obj}{A B C D:zH}:(ts++(x::(A++(B++(C++D))))).Perm (x::(A++(B++(C++(D++ts))))):=by
 refine List.perm_append_comm.trans (List.Perm.of_eq ?_)
 simp
section
variable {G:zH}{bm:Nat}{s:Sta}{p:SPt}{n:List Int}{na:Option Addr}{nc:Nat}{t:ByteArray}
theorem zA2 (i:Nat)(hi:i<n.length)(w0:World)(hG:Mem w0 G)(hM:Mkt G bm s p n na nc t) :
  Calls Tryz.prog 136 [.pointer (some ⟨bm,0,none⟩),.int .i64 (i:Int)].toArray w0 (Ret (.int .i64 (nF n i)) w0):=by
 obtain⟨hn2,hc2,b2,off2,cs2,T2,fr2,hs2⟩:=hM.num
 refine enter [.tmp 4] Tryz.func136 rfl Tryz.ntmps136 rfl rfl ?_
 have H:=zB w0
 repeat' (first|refine yT ?_|refine z13 (zG sg rfl rfl (H.memF hG) hM.blk rfl rfl) ?_|(refine y40 sg (hs2) ?_ ?_ ?_;(omega);(omega))|refine z13 (Yq.loadB1 sg hs2 (H.memF hG) rfl rfl rfl rfl hi rfl) ?_|refine yU ?_|fail)
 exact zQ rfl H.cl rfl
theorem zOD {a:Option Addr}{cap:Nat}(l:List Nat)(hl:l.length≤1000)(hi:∀ k,k<l.length→l.getD k 0<n.length){F:zH}(w0:World)(hF:Mem w0 F)(hs0:SlA F 1 a l.length cap fun k=>[Value.int .i64 ((l.getD k 0:Nat):Int)])(hG:Mem w0 G)(hM:Mkt G bm s p n na nc t) :
  Calls Tryz.prog 138 [.pointer (some ⟨bm,0,none⟩),.slice a l.length cap].toArray w0 (Ret (.int .i64 (if (l.all fun i=>zt s (nF n i))=true then 0 else 5)) w0):=by
 obtain⟨hn,hc,b0,off,cs,T,fr,hs⟩:=hs0
 refine enter [.tmp 4] Tryz.func138 rfl Tryz.ntmps138 rfl rfl ?_
 have H:=zB w0
 repeat' (first|refine yT ?_|refine yU ?_|with_reducible apply zA|fail)
 refine zM [(4,4),(6,8),(11,28)] (fun k:Nat=>[(11,.int .i64 (k:Int))]) (fun k w=>k≤l.length∧(∀ j,j<k→zt s (nF n (l.getD j 0))=true)∧St w0 [] w) (fun k=>l.length - k) 0 ⟨rfl,trivial⟩ ⟨zzD _,fun j hj=>absurd hj (zzE _),H⟩ ?_
 clear H
 rintro k gh w ⟨hk,hok,H⟩
 repeat' (first|refine yT ?_|refine yU ?_|fail)
 refine zJ rfl (fun h=>?_) (fun h=>?_)
 ·have hlt:k<l.length:=by have:=zzA h;omega
  clear h
  have hik:=hi k hlt
  cases ho:zt s (nF n (l.getD k 0)) with
  | true =>
    have ho2:(zBG s.accts (nF n (l.getD k 0))).2=true:=ho
    repeat' (first|refine yT ?_|(refine y10 sg H ?_;intro b w H)|(refine y11 sg H ?_;intro w H)|(refine y40 sg (hs) ?_ ?_ ?_;(omega);(omega))|refine z13 (Yq.loadB1 sg hs (H.memF hF) rfl rfl rfl rfl hlt rfl) ?_|(refine CW.regionL mixed 14 (H.memF hG) [] ?_ ?_;exact rfl;intro w hcl;replace H:=H.ext hcl;clear hcl)|((with_reducible apply RL.nil);decide +kernel)|(refine' l1 0 (H.memF hG) ?_ ?_;rotate_left;first|exact z4 sg|exact fun _ hM2=>zG sg rfl rfl hM2 hM.blk rfl rfl)|(refine' l1 1 (H.memF hG) ?_ ?_;rotate_left;first|exact z4 sg|exact fun _ hM2=>zG sg rfl rfl hM2 hM.blk rfl rfl)|(refine' l1 2 (H.memF hG) ?_ ?_;rotate_left;first|exact z4 sg|exact fun _ hM2=>zG sg rfl rfl hM2 hM.blk rfl rfl)|(refine' l1 3 (H.memF hG) ?_ ?_;rotate_left;first|exact z4 sg|exact fun _ hM2=>zG sg rfl rfl hM2 hM.blk rfl rfl)|(refine' l1 4 (H.memF hG) ?_ ?_;rotate_left;first|exact z4 sg|exact fun _ hM2=>zG sg rfl rfl hM2 hM.blk rfl rfl)|(refine' l1 5 (H.memF hG) ?_ ?_;rotate_left;first|exact z4 sg|exact fun _ hM2=>zG sg rfl rfl hM2 hM.blk rfl rfl)|(refine' l1 8 (H.memF hG) ?_ ?_;rotate_left;first|exact z4 sg|exact fun _ hM2=>zG sg rfl rfl hM2 hM.blk rfl rfl)|(refine' l1 9 (H.memF hG) ?_ ?_;rotate_left;first|exact z4 sg|exact fun _ hM2=>zG sg rfl rfl hM2 hM.blk rfl rfl)|(refine' l1 10 (H.memF hG) ?_ ?_;rotate_left;first|exact z4 sg|exact fun _ hM2=>zG sg rfl rfl hM2 hM.blk rfl rfl)|refine l2 6 ?_|refine l2 7 ?_|refine l2 11 ?_|refine l2 12 ?_|refine l2 13 ?_|refine l4 6 11 ?_ ?_|refine l4 7 11 ?_ ?_|(refine l5 (H.memF hG) ?_)|(refine' y30 zAy ?_ ?_;rotate_left;exact zA2 _ hik _ (H.memF hG) hM;intro w hcl;replace H:=H.ext hcl;clear hcl)|(refine' y30 zL9 ?_ ?_;rotate_left;exact zMM s p _ _ (H.memF hG) hM.sta;intro w hcl;replace H:=H.ext hcl;clear hcl)|refine yU ?_|with_reducible apply zA|(refine y23 ?_ ?_;all_goals(intro h;try (exfalso;first|((rw[ho2] at h;cases h);done))))|fail)
    all_goals refine zK (k+1) rfl ⟨zZ (by omega),trivial⟩ ⟨hlt,fun j hj=>?_,H.sub (zz9 _)⟩ (by show l.length - (k+1)<l.length - k;omega)
    all_goals
     rcases(show j<k∨j=k by have:j<k+1:=hj;omega) with g|rfl
     ·exact hok j g
     ·exact ho
  | false =>
    have ho2:(zBG s.accts (nF n (l.getD k 0))).2=false:=ho
    repeat' (first|refine yT ?_|(refine y10 sg H ?_;intro b w H)|(refine y11 sg H ?_;intro w H)|(refine y40 sg (hs) ?_ ?_ ?_;(omega);(omega))|refine z13 (Yq.loadB1 sg hs (H.memF hF) rfl rfl rfl rfl hlt rfl) ?_|(refine CW.regionL mixed 14 (H.memF hG) [] ?_ ?_;exact rfl;intro w hcl;replace H:=H.ext hcl;clear hcl)|((with_reducible apply RL.nil);decide +kernel)|(refine' l1 0 (H.memF hG) ?_ ?_;rotate_left;first|exact z4 sg|exact fun _ hM2=>zG sg rfl rfl hM2 hM.blk rfl rfl)|(refine' l1 1 (H.memF hG) ?_ ?_;rotate_left;first|exact z4 sg|exact fun _ hM2=>zG sg rfl rfl hM2 hM.blk rfl rfl)|(refine' l1 2 (H.memF hG) ?_ ?_;rotate_left;first|exact z4 sg|exact fun _ hM2=>zG sg rfl rfl hM2 hM.blk rfl rfl)|(refine' l1 3 (H.memF hG) ?_ ?_;rotate_left;first|exact z4 sg|exact fun _ hM2=>zG sg rfl rfl hM2 hM.blk rfl rfl)|(refine' l1 4 (H.memF hG) ?_ ?_;rotate_left;first|exact z4 sg|exact fun _ hM2=>zG sg rfl rfl hM2 hM.blk rfl rfl)|(refine' l1 5 (H.memF hG) ?_ ?_;rotate_left;first|exact z4 sg|exact fun _ hM2=>zG sg rfl rfl hM2 hM.blk rfl rfl)|(refine' l1 8 (H.memF hG) ?_ ?_;rotate_left;first|exact z4 sg|exact fun _ hM2=>zG sg rfl rfl hM2 hM.blk rfl rfl)|(refine' l1 9 (H.memF hG) ?_ ?_;rotate_left;first|exact z4 sg|exact fun _ hM2=>zG sg rfl rfl hM2 hM.blk rfl rfl)|(refine' l1 10 (H.memF hG) ?_ ?_;rotate_left;first|exact z4 sg|exact fun _ hM2=>zG sg rfl rfl hM2 hM.blk rfl rfl)|refine l2 6 ?_|refine l2 7 ?_|refine l2 11 ?_|refine l2 12 ?_|refine l2 13 ?_|refine l4 6 11 ?_ ?_|refine l4 7 11 ?_ ?_|(refine l5 (H.memF hG) ?_)|(refine' y30 zAy ?_ ?_;rotate_left;exact zA2 _ hik _ (H.memF hG) hM;intro w hcl;replace H:=H.ext hcl;clear hcl)|(refine' y30 zL9 ?_ ?_;rotate_left;exact zMM s p _ _ (H.memF hG) hM.sta;intro w hcl;replace H:=H.ext hcl;clear hcl)|refine yU ?_|with_reducible apply zA|(refine y23 ?_ ?_;all_goals(intro h;try (exfalso;first|((rw[ho2] at h;cases h);done))))|fail)
    all_goals
     refine zQ rfl H.cl (congrArg (Value.int .i64) ?_)
     rw[if_neg]
     intro h
     have:=List.all_eq_true.1 h _ (zAK 0 hlt)
     rw[ho] at this;cases this
 ·obtain rfl:k=l.length:=by have:=zzB h;omega
  clear h
  repeat' (first|refine yT ?_|refine yU ?_|fail)
  refine zQ rfl H.cl (congrArg (Value.int .i64) ?_)
  rw[if_pos]
  rw[List.all_eq_true]
  intro x hx
  obtain⟨j,hj,rfl⟩:=zBO (d:=0) hx
  exact hok j hj
def zCO (s:Sta)(p:SPt)(x:Int):Option Addr:=if zAq s x=true then p.inA.map (fun a=>a.add ((x - 1).toNat*3)) else none
theorem zKP (i:Nat)(hi:i<n.length)(h1:1≤nF n i∧nF n i≤1000)(w0:World)(hG:Mem w0 G)(hM:Mkt G bm s p n na nc t) :
  Calls Tryz.prog 158 [.pointer (some ⟨bm,0,none⟩),.int .i64 (i:Int)].toArray w0 (Ret (.pointer (zCO s p (nF n i))) w0):=by
 obtain⟨hn2,hc2,b2,off2,cs2,T2,fr2,hs2⟩:=hM.num
 obtain⟨hn3,hc3,b3,off3,cs3,T3,fr3,hs3⟩:=hM.sta.ins
 cases hh:zAq s (nF n i) with
 | false =>
   have hgt:decide (nF n i>(s.insts.length:Int))=true:=decide_eq_true (by
    by_cases g:nF n i≤s.insts.length
    ·rw[zAT.2 ⟨h1.1,g⟩] at hh;cases hh
    ·omega)
   refine enter [.tmp 4] Tryz.func158 rfl Tryz.ntmps158 rfl rfl ?_
   have H:=zB w0
   repeat' (first|refine yT ?_|((with_reducible apply zP);exact rfl;exact rfl;exact zG sg rfl rfl (H.memF hG) hM.blk rfl rfl)|(refine y41 sg (hs2) ?_ ?_ ?_;(omega);(omega))|((with_reducible apply zP);exact rfl;exact rfl;exact Yq.loadB1 sg hs2 (H.memF hG) rfl rfl rfl rfl hi rfl)|refine yU ?_|(with_reducible apply zL;intro w hcl;replace H:=H.ext hcl;clear hcl)|refine y20 mixed ?_|(refine y23 ?_ ?_;all_goals(intro h;try (exfalso;first|((rw[hgt] at h;cases h);done))))|fail)
   exact zQ rfl H.cl (by unfold zCO;rw[hh];rfl)
 | true =>
   have hle:=(zAT.1 hh).2
   have hgt:decide (nF n i>(s.insts.length:Int))=false:=decide_eq_false (by omega)
   have hq:IntKind.i64.wrap (nF n i - 1)=(((nF n i - 1).toNat:Nat):Int):=by rw[w64 (by omega) (by omega)];omega
   refine enter [.tmp 4] Tryz.func158 rfl Tryz.ntmps158 rfl rfl ?_
   have H:=zB w0
   repeat' (first|refine yT ?_|((with_reducible apply zP);exact rfl;exact rfl;exact zG sg rfl rfl (H.memF hG) hM.blk rfl rfl)|(refine y41 sg (hs2) ?_ ?_ ?_;(omega);(omega))|((with_reducible apply zP);exact rfl;exact rfl;exact Yq.loadB1 sg hs2 (H.memF hG) rfl rfl rfl rfl hi rfl)|((with_reducible apply zP);exact rfl;exact rfl;exact zF sg hs3 rfl rfl rfl rfl rfl rfl rfl ((congrArg Int.toNat hq).trans (zz1 _)) (by rw[hq];omega) (by rw[hq];omega))|refine yU ?_|(with_reducible apply zL;intro w hcl;replace H:=H.ext hcl;clear hcl)|refine y20 mixed ?_|(refine y23 ?_ ?_;all_goals(intro h;try (exfalso;first|((rw[hgt] at h;cases h);done))))|fail)
   refine zQ rfl H.cl ?_
   unfold zCO
   rw[if_pos hh,(hs3 (by omega)).1,Option.map_some,zz]
theorem pl_one {F:zH}{b:Nat}{T:TypeId}(i:Nat)(h:cb b [Value.int .i64 (i:Int)] T∈F):SlA F 1 (some ⟨b,0,none⟩) [i].length 1 fun k=>[Value.int .i64 ((([i]:List Nat).getD k 0:Nat):Int)] :=
 ⟨Nat.le_refl 1,(show 1≤140737488355328 by decide),b,0,_,T,(0,0),fun _=>⟨rfl,h,fun j hj=>by
  have:j=0:=by have:j<1:=hj;omega
  subst this
  exact⟨Nat.le_refl 1,rfl⟩⟩⟩
theorem pl_two {F:zH}{b:Nat}{T:TypeId}(i k:Nat)(h:cb b [Value.int .i64 (i:Int),Value.int .i64 (k:Int)] T∈F):SlA F 1 (some ⟨b,0,none⟩) [i,k].length 2 fun j=>[Value.int .i64 ((([i,k]:List Nat).getD j 0:Nat):Int)] :=
 ⟨Nat.le_refl 2,(show 2≤140737488355328 by decide),b,0,_,T,(0,0),fun _=>⟨rfl,h,fun j hj=>by
  rcases(show j=0∨j=1 by have:j<2:=hj;omega) with rfl|rfl
  ·exact⟨(show 1≤2 by decide),rfl⟩
  ·exact⟨(show 2≤2 by decide),rfl⟩⟩⟩
theorem zCp {F:zH}{b:Nat}{T:TypeId}(i:Nat)(hi:i<n.length)(w0:World)(hF:Mem w0 F)(hm:cb b [Value.int .i64 (i:Int)] T∈F)(hG:Mem w0 G)(hM:Mkt G bm s p n na nc t) :
  Calls Tryz.prog 138 [.pointer (some ⟨bm,0,none⟩),.slice (some ⟨b,0,none⟩) 1 1].toArray w0 (Ret (.int .i64 (if zt s (nF n i)=true then 0 else 5)) w0):=by
 have h:=zOD [i] (show 1≤1000 by decide) (fun k hk=>by
  obtain rfl:k=0:=(by have:k<1:=hk;omega)
  exact hi) w0 hF (pl_one i hm) hG hM
 simp only[List.all_cons,List.all_nil,Bool.and_true] at h
 exact h
theorem zSF {F:zH}{b:Nat}{T:TypeId}(i k:Nat)(hi:i<n.length)(hk:k<n.length)(w0:World)(hF:Mem w0 F)(hm:cb b [Value.int .i64 (i:Int),Value.int .i64 (k:Int)] T∈F)(hG:Mem w0 G)(hM:Mkt G bm s p n na nc t) :
  Calls Tryz.prog 138 [.pointer (some ⟨bm,0,none⟩),.slice (some ⟨b,0,none⟩) 2 2].toArray w0 (Ret (.int .i64 (if zt s (nF n i)=true∧zt s (nF n k)=true then 0 else 5)) w0):=by
 have h:=zOD [i,k] (show 2≤1000 by decide) (fun j hj=>by
  rcases(show j=0∨j=1 by have:j<2:=hj;omega) with rfl|rfl
  ·exact hi
  ·exact hk) w0 hF (pl_two i k hm) hG hM
 simp only[List.all_cons,List.all_nil,Bool.and_true,Bool.and_eq_true] at h
 exact h
theorem zGU (h2:1<n.length)(h1:1≤nF n 1∧nF n 1≤1000)(w0:World)(hG:Mem w0 G)(hM:Mkt G bm s p n na nc t) :
  Calls Tryz.prog 144 [.pointer (some ⟨bm,0,none⟩)].toArray w0 (Ret (.int .i64 (if zt s (nF n 0)=true∧zAq s (nF n 1)=true then 0 else 5)) w0):=by
 have hi:0<n.length:=by omega
 cases ho:zt s (nF n 0) with
 | false =>
   have ha:=fun w (b:Nat) (F:zH) (hF:Mem w F) (hm:cb b [Value.int .i64 (0:Int)] 3∈F) (hG:Mem w G)=>zCp (T:=3) 0 hi w hF hm hG hM
   rw[ho] at ha
   refine enter [.tmp 2] Tryz.func144 rfl Tryz.ntmps144 rfl rfl ?_
   have H:=zB w0
   repeat' (first|refine yT ?_|(refine z14 sg H ?_;intro b w H)|(refine' y30 zAz ?_ ?_;rotate_left;exact ha _ _ _ (H.mem) (zz2 _) (H.memF hG);intro w hcl;replace H:=H.ext hcl;clear hcl)|refine yU ?_|fail)
   exact zQ rfl H.cl (by simp)
 | true =>
   have ha:=fun w (b:Nat) (F:zH) (hF:Mem w F) (hm:cb b [Value.int .i64 (0:Int)] 3∈F) (hG:Mem w G)=>zCp (T:=3) 0 hi w hF hm hG hM
   rw[ho] at ha
   have hb:=fun w (hG:Mem w G)=>zKP 1 h2 h1 w hG hM
   cases hh:zAq s (nF n 1) with
   | false =>
     have e:zCO s p (nF n 1)=none:=by unfold zCO;rw[hh];rfl
     rw[e] at hb
     refine enter [.tmp 2] Tryz.func144 rfl Tryz.ntmps144 rfl rfl ?_
     have H:=zB w0
     repeat' (first|refine yT ?_|(refine z14 sg H ?_;intro b w H)|(refine' y30 zAz ?_ ?_;rotate_left;exact ha _ _ _ (H.mem) (zz2 _) (H.memF hG);intro w hcl;replace H:=H.ext hcl;clear hcl)|(refine' y30 zC8 ?_ ?_;rotate_left;exact hb _ (H.memF hG);intro w hcl;replace H:=H.ext hcl;clear hcl)|refine yU ?_|fail)
     exact zQ rfl H.cl (by simp)
   | true =>
     obtain⟨hn3,hc3,b3,off3,cs3,T3,fr3,hs3⟩:=hM.sta.ins
     have hle:=zAT.1 hh
     have e:zCO s p (nF n 1)=some ⟨b3,off3+(nF n 1 - 1).toNat*3,none⟩:=by unfold zCO;rw[if_pos hh,(hs3 (by omega)).1,Option.map_some,zz]
     rw[e] at hb
     refine enter [.tmp 2] Tryz.func144 rfl Tryz.ntmps144 rfl rfl ?_
     have H:=zB w0
     repeat' (first|refine yT ?_|(refine z14 sg H ?_;intro b w H)|(refine' y30 zAz ?_ ?_;rotate_left;exact ha _ _ _ (H.mem) (zz2 _) (H.memF hG);intro w hcl;replace H:=H.ext hcl;clear hcl)|(refine' y30 zC8 ?_ ?_;rotate_left;exact hb _ (H.memF hG);intro w hcl;replace H:=H.ext hcl;clear hcl)|refine yU ?_|fail)
     exact zQ rfl H.cl (by simp)
end
end
section
open Go Go.Sk Go.RowKit
attribute [local irreducible] Go.Calls
theorem Cps.mono {s:Sta}{p:SPt}{Ma Mi Mu R R':zH}(h:Cps s p Ma Mi Mu R)(hs:R⊆R'):Cps s p Ma Mi Mu R' :=
 ⟨h.ac,h.ins,SlA.mono h.rw hs,SlA.mono h.od hs,h.au,fun j hj=>SlA.mono (h.bd j hj) hs⟩
def MkP (bm:Nat)(n:List Int)(na:Option Addr)(nc:Nat)(t:ByteArray)(Ma Mi Mu R:zH)(r:Sta × Int)(M:zH)(v:Value):Prop :=
 v=.int .i64 r.2∧∃ p' M',M=mkL bm (mkc r.1 p' n na nc t) Ma Mi Mu (R++M')∧Cps r.1 p' Ma Mi Mu (R++M')
def zB3 (bm:Nat)(n:List Int)(na:Option Addr)(nc:Nat)(t:ByteArray)(r:Sta × Int)(M:zH)(v:Value):Prop :=
 v=.int .i64 r.2∧(r.2=0→∃ p' Ma Mi Mu R,M=mkL bm (mkc r.1 p' n na nc t) Ma Mi Mu R∧Cps r.1 p' Ma Mi Mu R)
def WfR (s:Sta):Prop:=∀ j,j<s.rows.length→(rw_ s.rows j).wf
theorem zIZ {F:zH}{b:Nat}{T:TypeId}(ps:List Pst)(hl:ps.length≤1000){cs:List Value}(hcs:cs=ps.flatMap Pst.cells)(h:cb b cs T∈F):SlA F 4 (some ⟨b,0,none⟩) ps.length ps.length (qsl ps):=by
 subst hcs
 have e:ps.flatMap Pst.cells=(List.range ps.length).flatMap (qsl ps):=(zA8 Pst.cells ps default).symm
 rw[e] at h
 refine⟨zzC _,by omega,b,0,_,T,(0,0),fun _=>⟨rfl,h,fun j hj=>?_⟩⟩
 have hfl:=Go.Sk.flat_len (el:=qsl ps) (size:=4) ps.length fun j _=>rfl
 have:(j+1)*4≤ps.length*4:=Nat.mul_le_mul_right _ hj
 refine⟨by rw[hfl];omega,?_⟩
 rw[Nat.zero_add]
 exact Go.Sk.flat_at (el:=qsl ps) (size:=4) ps.length (fun j _=>rfl) j hj
section
variable {F:zH}{bm:Nat}{s:Sta}{p:SPt}{n:List Int}{na:Option Addr}{nc:Nat}{t:ByteArray}{Ma Mi Mu R:zH}
theorem zIa {cs:List Value}{ts:zH}{x:Nat × Obj}(h:x∈ts):x∈mkL bm cs Ma Mi Mu (R++ts):=by
 simp[h]
theorem MkP.mkt {r:Sta × Int}{M:zH}{v:Value}(h:MkP bm n na nc t Ma Mi Mu R r M v):zB3 bm n na nc t r M v :=
 let ⟨h1,p',M',h2,h3⟩:=h;⟨h1,fun _=>⟨p',Ma,Mi,Mu,_,h2,h3⟩⟩
theorem MkP.up {ts:zH}{r:Sta × Int}{M:zH}{v:Value}(h:MkP bm n na nc t Ma Mi Mu (R++ts) r M v):MkP bm n na nc t Ma Mi Mu R r M v :=
 let ⟨h1,p',M',h2,h3⟩:=h;⟨h1,p',ts++M',by rw[h2,List.append_assoc],by rw[← List.append_assoc];exact h3⟩
theorem zFx {w0 w:World}{ap:Option Addr}{cp:Nat}(hLt:LtS s)(hW:WfR s)(ps:List Pst){G:zH}(H:St w0 (mkL bm (mkc s p n na nc t) Ma Mi Mu R) w)(hC:Cps s p Ma Mi Mu R)(hG:Mem w G)(hp:SlA G 4 ap ps.length cp (qsl ps)) :
  Calls Tryz.prog 150 [.pointer (some ⟨bm,0,none⟩),.slice ap ps.length cp].toArray w (zn (MkP bm n na nc t Ma Mi Mu R (zj s ps)) w0):=by
 have hpost:=fun w (hM:Mem w (mkL bm (mkc s p n na nc t) Ma Mi Mu R)) (hG:Mem w G)=>c_Post s.rows hLt.rw hW ps (F:=mkL bm (mkc s p n na nc t) Ma Mi Mu R++G) w (hM.app hG) (SlA.mono hC.rw qS) (SlA.mono hp (zz8 _ _))
 refine enter [.tmp 4] Tryz.func150 rfl Tryz.ntmps150 rfl rfl ?_
 by_cases h0:(zAn s.rows ps).2=0
 ·have d0:((zAn s.rows ps).2==0)=true:=by rw[h0];rfl
  have e:zj s ps=({ s with rows:=(zAn s.rows ps).1 },0):=by unfold zj;rw[if_pos h0]
  repeat' (first|refine yT ?_|refine y7 sg H ?_|(refine y11 sg H ?_;intro w H)|(refine' y32 zQf ?_ ?_;rotate_left;exact hpost _ H.mem hG;intro v M w hR hS;replace H:=H.addR hS;clear hS;(try simp only[List.cons_append,List.nil_append] at H);obtain⟨a1,c1,rfl,hsl⟩:=hR)|refine yU ?_|(refine y23 ?_ ?_;all_goals(intro h;try (exfalso;first|((rw[d0] at h;cases h);done))))|fail)
  simp only[List.append_assoc] at H
  refine zU (M:=mkL bm (mkc { s with rows:=(zAn s.rows ps).1 } { p with rwA:=a1,rwC:=c1 } n na nc t) Ma Mi Mu (R++M)) rfl H ⟨by rw[e,h0],{ p with rwA:=a1,rwC:=c1 },M,by rw[e],?_⟩
  rw[e]
  exact⟨hC.ac,hC.ins,SlA.mono hsl (zz8 _ _),SlA.mono hC.od (List.subset_append_left _ _),hC.au,fun j hj=>SlA.mono (hC.bd j hj) (List.subset_append_left _ _)⟩
 ·have d0:((zAn s.rows ps).2==0)=false:=beq_eq_false_iff_ne.2 h0
  have e:zj s ps=(s,(zAn s.rows ps).2):=by unfold zj;rw[if_neg h0]
  repeat' (first|refine yT ?_|refine y7 sg H ?_|(refine' y32 zQf ?_ ?_;rotate_left;exact hpost _ H.mem hG;intro v M w hR hS;replace H:=H.addR hS;clear hS;(try simp only[List.cons_append,List.nil_append] at H);obtain⟨a1,c1,rfl,hsl⟩:=hR)|refine yU ?_|(refine y23 ?_ ?_;all_goals(intro h;try (exfalso;first|((rw[d0] at h;cases h);done))))|fail)
  simp only[List.append_assoc] at H
  refine zU (M:=mkL bm (mkc s p n na nc t) Ma Mi Mu (R++M)) rfl H ⟨by rw[e],p,M,by rw[e],?_⟩
  rw[e]
  exact hC.mono (List.subset_append_left _ _)
theorem zIb {w0 w:World}(hLt:LtS s)(hW:WfR s)(a1 a2 q z:Int)(hz:-4611686018427387904≤z∧z≤4611686018427387904)(H:St w0 (mkL bm (mkc s p n na nc t) Ma Mi Mu R) w)(hC:Cps s p Ma Mi Mu R) :
  Calls Tryz.prog 143 [.pointer (some ⟨bm,0,none⟩),.int .i64 a1,.int .i64 a2,.int .i64 q,.int .i64 z].toArray w (zn (MkP bm n na nc t Ma Mi Mu R (zBu s a1 a2 q z)) w0):=by
 have hneg:IntKind.i64.wrap (0 - z)=-z:=by rw[w64 (by omega) (by omega)];omega
 have e:zBu s a1 a2 q z=zj s [⟨a1,q,IntKind.i64.wrap (0 - z),0⟩,⟨a2,q,z,0⟩]:=by unfold zBu;rw[hneg]
 rw[e]
 refine enter [.tmp 10] Tryz.func143 rfl Tryz.ntmps143 rfl rfl ?_
 repeat' (first|refine yT ?_|((with_reducible apply OX.buildA sg H);exact rfl;exact rfl;exact rfl;exact rfl;exact rfl;exact rfl;exact rfl;exact rfl;exact rfl;exact rfl;exact rfl;exact rfl;intro b w H _)|(replace H:=H.perm (zCN [_]);refine zc rfl rfl (En.fn zFh rfl rfl) (zFx hLt hW [⟨a1,q,IntKind.i64.wrap (0 - z),0⟩,⟨a2,q,z,0⟩] H (hC.mono (List.subset_append_left _ _)) H.mem (zIZ _ (Nat.le_of_ble_eq_true rfl) rfl (zIa (zz2 _)))) ?_;rintro _ _ w ⟨rfl,hR2⟩ H2;clear H;have H:=H2;clear H2)|refine yU ?_|fail)
 exact zU (M:=_) rfl H (MkP.up ⟨rfl,hR2⟩)
theorem c_holds {w0 w:World}(hLt:LtS s)(hW:WfR s)(a1 q z:Int)(hz:-4611686018427387904≤z∧z≤4611686018427387904)(H:St w0 (mkL bm (mkc s p n na nc t) Ma Mi Mu R) w)(hC:Cps s p Ma Mi Mu R) :
  Calls Tryz.prog 146 [.pointer (some ⟨bm,0,none⟩),.int .i64 a1,.int .i64 q,.int .i64 z].toArray w (zn (MkP bm n na nc t Ma Mi Mu R (zAO s a1 q z)) w0):=by
 have hneg:IntKind.i64.wrap (0 - z)=-z:=by rw[w64 (by omega) (by omega)];omega
 have e:zAO s a1 q z=zj s [⟨a1,q,IntKind.i64.wrap (0 - z),z⟩]:=by unfold zAO;rw[hneg]
 rw[e]
 refine enter [.tmp 8] Tryz.func146 rfl Tryz.ntmps146 rfl rfl ?_
 repeat' (first|refine yT ?_|((with_reducible apply OX.buildA sg H);exact rfl;exact rfl;exact rfl;exact rfl;exact rfl;exact rfl;exact rfl;exact rfl;exact rfl;exact rfl;exact rfl;exact rfl;intro b w H _)|(replace H:=H.perm (zCN [_]);refine zc rfl rfl (En.fn zFh rfl rfl) (zFx hLt hW [⟨a1,q,IntKind.i64.wrap (0 - z),z⟩] H (hC.mono (List.subset_append_left _ _)) H.mem (zIZ _ (Nat.le_of_ble_eq_true rfl) rfl (zIa (zz2 _)))) ?_;rintro _ _ w ⟨rfl,hR2⟩ H2;clear H;have H:=H2;clear H2)|refine yU ?_|fail)
 exact zU (M:=_) rfl H (MkP.up ⟨rfl,hR2⟩)
theorem zLZ {w0 w:World}(hLt:LtS s)(hW:WfR s)(hl:2≤n.length)(hz:0≤nF n 1∧nF n 1≤1125899906842624)(H:St w0 (mkL bm (mkc s p n na nc t) Ma Mi Mu R) w)(hC:Cps s p Ma Mi Mu R)(hF:Mem w0 F)(hN:Ints F na nc n) :
  Calls Tryz.prog 99 [.pointer (some ⟨bm,0,none⟩)].toArray w (zn (zB3 bm n na nc t (if zt s (nF n 0) then zBu s (0) (nF n 0) 0 (nF n 1) else(s,5))) w0):=by
 obtain⟨hn2,hc2,b2,off2,cs2,T2,fr2,hs2⟩:=id hN
 have ha:=fun w (b:Nat) (X:zH) (hX:Mem w X) (hm:cb b [Value.int .i64 (0:Int)] 3∈X) (G:zH) (hG:Mem w G) (hM:Mkt G bm s p n na nc t)=>zCp (T:=3) 0 (by omega) w hX hm hG hM
 cases ho:zt s (nF n 0) with
 | false =>
   rw[ho] at ha
   refine enter [.tmp 2] Tryz.func99 rfl Tryz.ntmps99 rfl rfl ?_
   repeat' (first|refine yT ?_|(refine z14 sg H ?_;intro b w H)|(refine' y30 zAz ?_ ?_;rotate_left;exact ha _ _ _ H.mem (zz2 _) _ (H.all hF) (zi hC hLt hN);intro w hcl;replace H:=H.ext hcl;clear hcl)|refine yU ?_|fail)
   exact zU (M:=_) rfl H ⟨rfl,fun h=>absurd h (show(5:Int)≠0 by decide)⟩
 | true =>
   rw[ho] at ha
   refine enter [.tmp 2] Tryz.func99 rfl Tryz.ntmps99 rfl rfl ?_
   repeat' (first|refine yT ?_|refine y8 sg H ?_|refine y12 ?_|(refine z14 sg H ?_;intro b w H)|(refine' y30 zAz ?_ ?_;rotate_left;exact ha _ _ _ H.mem (zz2 _) _ (H.all hF) (zi hC hLt hN);intro w hcl;replace H:=H.ext hcl;clear hcl)|(refine CW.regionR mixed ?_;intro w hcl;replace H:=H.ext hcl;clear hcl;(with_reducible apply RW.quiet 9);exact rfl;decide +kernel;simp only[List.append_eq,List.cons_append,List.nil_append,List.take_succ_cons,List.take_zero,List.drop_zero])|(refine' y31 zAy ?_ ?_;rotate_left;exact(fun _ hcl=>zA2 0 (by omega) _ ((H.ext hcl).all hF) (zi hC hLt hN)))|(refine y41 sg (hs2) ?_ ?_ ?_;(omega);(omega))|((with_reducible apply zP);exact rfl;exact rfl;exact Yq.loadB1 sg hs2 (H.memF hF) rfl rfl rfl rfl (show 1<n.length by omega) rfl)|(replace H:=H.perm (zCN [_]);refine zc rfl rfl (En.fn zHq rfl rfl) (zIb hLt hW (0) (nF n 0) 0 (nF n 1) (by omega) H (hC.mono (List.subset_append_left _ _))) ?_;rintro _ _ w hR2 H2;clear H;have H:=H2;clear H2;obtain⟨rfl,hR2⟩:=hR2)|refine yU ?_|(with_reducible apply zL;intro w hcl;replace H:=H.ext hcl;clear hcl)|fail)
   obtain⟨p2,M2,rfl,hC2⟩:=hR2
   exact zU (M:=_) rfl H ⟨rfl,fun _=>⟨p2,Ma,Mi,Mu,_,rfl,hC2⟩⟩
theorem zLa {w0 w:World}(hLt:LtS s)(hW:WfR s)(hl:2≤n.length)(hz:0≤nF n 1∧nF n 1≤1125899906842624)(H:St w0 (mkL bm (mkc s p n na nc t) Ma Mi Mu R) w)(hC:Cps s p Ma Mi Mu R)(hF:Mem w0 F)(hN:Ints F na nc n) :
  Calls Tryz.prog 100 [.pointer (some ⟨bm,0,none⟩)].toArray w (zn (zB3 bm n na nc t (if zt s (nF n 0) then zBu s (nF n 0) (0) 0 (nF n 1) else(s,5))) w0):=by
 obtain⟨hn2,hc2,b2,off2,cs2,T2,fr2,hs2⟩:=id hN
 have ha:=fun w (b:Nat) (X:zH) (hX:Mem w X) (hm:cb b [Value.int .i64 (0:Int)] 3∈X) (G:zH) (hG:Mem w G) (hM:Mkt G bm s p n na nc t)=>zCp (T:=3) 0 (by omega) w hX hm hG hM
 cases ho:zt s (nF n 0) with
 | false =>
   rw[ho] at ha
   refine enter [.tmp 2] Tryz.func100 rfl Tryz.ntmps100 rfl rfl ?_
   repeat' (first|refine yT ?_|(refine z14 sg H ?_;intro b w H)|(refine' y30 zAz ?_ ?_;rotate_left;exact ha _ _ _ H.mem (zz2 _) _ (H.all hF) (zi hC hLt hN);intro w hcl;replace H:=H.ext hcl;clear hcl)|refine yU ?_|fail)
   exact zU (M:=_) rfl H ⟨rfl,fun h=>absurd h (show(5:Int)≠0 by decide)⟩
 | true =>
   rw[ho] at ha
   refine enter [.tmp 2] Tryz.func100 rfl Tryz.ntmps100 rfl rfl ?_
   repeat' (first|refine yT ?_|refine y8 sg H ?_|refine y12 ?_|(refine z14 sg H ?_;intro b w H)|(refine' y30 zAz ?_ ?_;rotate_left;exact ha _ _ _ H.mem (zz2 _) _ (H.all hF) (zi hC hLt hN);intro w hcl;replace H:=H.ext hcl;clear hcl)|(refine CW.regionR mixed ?_;intro w hcl;replace H:=H.ext hcl;clear hcl;(with_reducible apply RW.quiet 9);exact rfl;decide +kernel;simp only[List.append_eq,List.cons_append,List.nil_append,List.take_succ_cons,List.take_zero,List.drop_zero])|(refine' y31 zAy ?_ ?_;rotate_left;exact(fun _ hcl=>zA2 0 (by omega) _ ((H.ext hcl).all hF) (zi hC hLt hN)))|(refine y41 sg (hs2) ?_ ?_ ?_;(omega);(omega))|((with_reducible apply zP);exact rfl;exact rfl;exact Yq.loadB1 sg hs2 (H.memF hF) rfl rfl rfl rfl (show 1<n.length by omega) rfl)|(replace H:=H.perm (zCN [_]);refine zc rfl rfl (En.fn zHq rfl rfl) (zIb hLt hW (nF n 0) (0) 0 (nF n 1) (by omega) H (hC.mono (List.subset_append_left _ _))) ?_;rintro _ _ w hR2 H2;clear H;have H:=H2;clear H2;obtain⟨rfl,hR2⟩:=hR2)|refine yU ?_|(with_reducible apply zL;intro w hcl;replace H:=H.ext hcl;clear hcl)|fail)
   obtain⟨p2,M2,rfl,hC2⟩:=hR2
   exact zU (M:=_) rfl H ⟨rfl,fun _=>⟨p2,Ma,Mi,Mu,_,rfl,hC2⟩⟩
end
end
end Go.Proofs.YtibmaifoaajllaaGreatDoor
