/- Texts of ours, joined: the steps of the proof, or the claim's theorem. -/
import Derived.Test.YthbflajpdhgfiaaGreatDoorQd32
set_option linter.all false
set_option maxHeartbeats 16000000
namespace Go.Proofs.YthbflajpdhgfiaaGreatDoor
open Go Go.Sk Go.RowKit
attribute [local irreducible] Go.Calls
def ExW (F:zC)(bw:Nat)(x:WS)(M:zC):Prop:=∃ p a cap k,cb bw (wkc x.s p a x.l.length cap k) 86∈M∧StaM (M++F) x.s p∧Good x.s∧x.l.length≤40
theorem ExW.cons {F:zC}{bw:Nat}{x:WS}{y:Nat × Obj}{M:zC}(h:ExW F bw x M):ExW F bw x (y::M):=by
 obtain⟨p,a,cap,k,h1,h2,h3⟩:=h
 exact⟨p,a,cap,k,zz4 _ h1,h2.mono (fun z hz=>zz4 _ hz),h3⟩
def PreE (nx:WS→Option Evt)(x:WS)(v:Value)(N:zC):Prop:=∃ e q,nx x=some e∧v=.agg (e.cells q).toArray∧EvtM N e q∧zGZ e
def nxE (nx:WS→Option Evt)(x:WS):WS:=match nx x with|some e=>x.go e|none=>x
def ExT (F:zC)(bw c1 c2:Nat)(id:Int)(x:WS)(M:zC):Prop:=ExW F bw x M∧cb c1 [.pointer (some ⟨bw,0,none⟩)] 84∈M∧cb c2 [.int .i64 id] 2∈M
theorem w8s {n:Int}(h:1≤n∧n≤2):IntKind.u8.wrap (3 - n)=3 - n:=by
 show(3 - n) % 256=3 - n
 omega
def zS9 (W:List (Nat × Nat))(e0:Env):List (Nat × Value)→Prop
 | []=>True
 | (d,v)::t=>(rg W d=true∨e0 d=v)∧zS9 W e0 t
theorem zGs {W:List (Nat × Nat)}{e0 b0:Env}:∀ {L:List (Nat × Value)},(∀ i,rg W i=false→b0 i=e0 i)→zS9 W e0 L→∀ i,rg W i=false→ovl L b0 i=e0 i
 | [],h,_,i,hi=>h i hi
 | (d,v)::t,h,hk,i,hi=>by
   rw[zBW]
   by_cases hd:i=d
   ·rw[if_pos hd]
    subst hd
    rcases hk.1 with g|g
    ·rw[g] at hi;cases hi
    ·exact g.symm
   ·rw[if_neg hd];exact zGs h hk.2 i hi
theorem zQH {F:zC}{w0:World}(hF:Mem w0 F)(hP:PriM F)(id:Int)(bw c1 c2:Nat)(x0:WS) :
  zL4 Tryz.prog w0 95 [.pointer (some ⟨c1,0,none⟩),.pointer (some ⟨c2,0,none⟩)] (ExT F bw c1 c2 id) (PreE (trN id)) (nxE (trN id)) (fun x=>trN id x=none) x0:=by
 intro l K Kd hEx hY M G' w hK H
 refine enter [] Tryz.func95 rfl Tryz.ntmps95 rfl rfl ?_
 repeat' (first|with_reducible apply zB|fail)
 refine zI [(4,66)] (fun _:WS × zC=>[]) (fun x w=>K x.1 x.2∧St w0 (x.2++G') w) (fun x=>41 - x.1.l.length) (x0,M) trivial ⟨hK,H⟩ ?_
 clear H hK
 rintro⟨x,M⟩ gh w ⟨hK,H⟩
 simp only at hK H ⊢
 obtain⟨⟨p,a,cap,k,hbw,hst,gx,hlen⟩,hc1,hc2⟩:=hEx x M hK
 obtain⟨o,is,hfo⟩:∃ o is,zW x.s.orders id=(o,is):=⟨_,_,rfl⟩
 have H0:=H
 have hF1:=H.all hF
 have hbw1:cb bw (wkc x.s p a x.l.length cap k) 86∈(M++G')++F:=zz6 _ (zz6 _ hbw)
 have hc11:cb c1 [.pointer (some ⟨bw,0,none⟩)] 84∈(M++G')++F:=zz6 _ (zz6 _ hc1)
 have hc21:cb c2 [.int .i64 id] 2∈(M++G')++F:=zz6 _ (zz6 _ hc2)
 have hst1:StaM ((M++G')++F) x.s p:=hst.mono (fun z hz=>(List.mem_append.1 hz).elim (fun h=>zz6 _ (zz6 _ h)) (zz3 _))
 have hP1:PriM ((M++G')++F):=hP.mono (zz8 _ _)
 clear H
 obtain⟨w1,rfl⟩:∃ w1,w1=w:=⟨w,rfl⟩
 have H:=zA w1
 generalize hF1d:(M++G')++F=F1 at hF1 hbw1 hc11 hc21 hst1 hP1
 have hfnd:=fun w (hG:Mem w F1)=>zFj x.s.orders id w hG hst1.od
 rw[hfo] at hfnd
 repeat' (first|refine yU ?_|with_reducible apply zB|fail)
 refine CW.cutT (fun en1 w=>∃ bo en',en1=ovl [(0,.func (.yield l) #[] #[]),(1,.pointer (some ⟨c1,0,none⟩)),(2,.pointer (some ⟨c2,0,none⟩)),(4,.pointer (some ⟨bo,0,none⟩)),(5,.bool is)] en'∧(∀ i,rg [(4,66)] i=false→en' i=ovl [] (ini [.func (.yield l) #[] #[],.pointer (some ⟨c1,0,none⟩),.pointer (some ⟨c2,0,none⟩)]) i)∧St w1 [cb bo o.cells 55] w) ?_ ?_
 ·repeat' (first|refine yT ?_|(refine y10 sg H ?_;intro b w H)|(refine y11 sg H ?_;intro w H)|(refine CW.regionL mixed 13 (H.memF hF1) [] ?_ ?_;exact rfl;refine w2 H ?_;clear H;intro w H;have qh:=H.memF hF1;refine' l1 0 qh ?_ ?_;rotate_left;(exact(fun w2 hM2=>zH sg rfl rfl hM2 hc11 rfl rfl));refine lT sg 1 qh ?_;refine lT sg 2 qh ?_;refine lT sg 3 qh ?_;refine' l1 4 qh ?_ ?_;rotate_left;(exact(fun w2 hM2=>zH sg rfl rfl hM2 hbw1 rfl rfl));refine' l1 5 qh ?_ ?_;rotate_left;(exact(fun w2 hM2=>zH sg rfl rfl hM2 hc21 rfl rfl)))|((with_reducible apply RL.nil);decide +kernel)|(refine lT sg 7 (H.memF hF1) ?_)|(refine lT sg 8 (H.memF hF1) ?_)|(refine lT sg 9 (H.memF hF1) ?_)|(refine lT sg 12 (H.memF hF1) ?_)|refine l2 6 ?_|refine l2 10 ?_|refine l2 11 ?_|refine l4 6 10 ?_ ?_|(refine l5 (H.memF hF1) ?_)|(refine' y30 zFv ?_ ?_;rotate_left;exact hfnd _ (H.memF hF1);refine w2 H ?_;clear H;intro w H)|refine yU ?_|fail)
  all_goals exact⟨b,_,zAE rfl (zAE rfl (zA0 rfl rfl rfl)),zE7 rfl,H⟩
 clear H
 rintro _ w ⟨bo,en',rfl,hEB,H⟩
 cases is with
 | false =>
   have hn:trN id x=none:=by unfold trN zE5;simp[hfo]
   repeat' (first|refine yT ?_|refine yU ?_|fail)
   exact zq (vs:=[]) trivial ((H0.addR H).sub (List.sublist_append_left _ _)) (.inl ⟨x,M,hn,hK,rfl⟩)
 | true =>
 obtain⟨hord,hom,_⟩:=zCh (l:=x.s.orders) (id:=id) (by rw[hfo])
 rw[hfo] at hom
 have hmo:=(zAO.1 hord).2.1 o hom
 have hsd:1≤o.side∧o.side≤2:=by have:=hmo.2.2.2.1;omega
 have hw8:=w8s hsd
 obtain⟨u,uis,hfu⟩:∃ u uis,zA9 x.s.orders o.inst (3 - o.side)=(u,uis):=⟨_,_,rfl⟩
 have hfst:=fun w (hG:Mem w F1)=>zOP x.s.orders o.inst (3 - o.side) w hG hP1 hst1.od
 rw[hfu,← hw8] at hfst
 have hbw2:=zz4 (cb bo o.cells 55) hbw1
 have hc12:=zz4 (cb bo o.cells 55) hc11
 repeat' (first|refine yT ?_|refine yU ?_|fail)
 refine CW.cutT (fun en1 w=>∃ bu en',en1=ovl [(0,.func (.yield l) #[] #[]),(1,.pointer (some ⟨c1,0,none⟩)),(2,.pointer (some ⟨c2,0,none⟩)),(4,.pointer (some ⟨bo,0,none⟩)),(5,.bool uis),(6,.pointer (some ⟨bu,0,none⟩))] en'∧(∀ i,rg [(4,66)] i=false→en' i=ovl [] (ini [.func (.yield l) #[] #[],.pointer (some ⟨c1,0,none⟩),.pointer (some ⟨c2,0,none⟩)]) i)∧St w1 [cb bu u.cells 55,cb bo o.cells 55] w) ?_ ?_
 ·repeat' (first|refine yT ?_|(refine y10 sg H ?_;intro b w H)|(refine y11 sg H ?_;intro w H)|(refine CW.regionL mixed 17 (z6s (x:=cb bo o.cells 55) H hF1) [] ?_ ?_;exact rfl;refine w2 H ?_;clear H;intro w H;have qh:=z6s (x:=cb bo o.cells 55) H hF1;refine' l1 0 qh ?_ ?_;rotate_left;(exact(fun w2 hM2=>zH sg rfl rfl hM2 hc12 rfl rfl));refine lT sg 1 qh ?_;refine lT sg 2 qh ?_;refine lT sg 3 qh ?_;refine' l1 4 qh ?_ ?_;rotate_left;(exact(fun w2 hM2=>zH sg rfl rfl hM2 hbw2 rfl rfl));refine lT sg 5 qh ?_;refine' l1 6 qh ?_ ?_;rotate_left;(exact z3 sg);refine lT sg 7 qh ?_;refine' l1 8 qh ?_ ?_;rotate_left;(exact z3 sg);refine lT sg 9 qh ?_)|((with_reducible apply RL.nil);decide +kernel)|(refine lT sg 11 (z6s H hF1) ?_)|(refine lT sg 12 (z6s H hF1) ?_)|(refine lT sg 13 (z6s H hF1) ?_)|(refine lT sg 16 (z6s H hF1) ?_)|refine l2 10 ?_|refine l2 14 ?_|refine l2 15 ?_|refine l4 10 14 ?_ ?_|(refine l5 (z6s H hF1) ?_)|(refine' y30 ent96 ?_ ?_;rotate_left;exact hfst _ (H.memF hF1);refine w2 H ?_;clear H;intro w H)|refine yU ?_|fail)
  all_goals exact⟨b,_,zAE rfl (zAE rfl (zAE rfl (zA0 rfl rfl rfl))),zGs hEB (by repeat (first|exact trivial|refine⟨.inl rfl,?_⟩|refine⟨.inr rfl,?_⟩)),H⟩
 clear H hEB
 rintro _ w ⟨bu,en',rfl,hEB,H⟩
 cases uis with
 | false =>
   have hn:trN id x=none:=by unfold trN zE5;simp[hfo,hfu]
   repeat' (first|refine yT ?_|refine yU ?_|fail)
   exact zq (vs:=[]) trivial ((H0.addR H).sub (List.sublist_append_left _ _)) (.inl ⟨x,M,hn,hK,rfl⟩)
 | true =>
 have hcr:=fun w (hG:Mem w F1)=>zGl o u w hG hP1
 cases hx:zn o u with
 | false =>
   have hn:trN id x=none:=by unfold trN zE5;simp[hfo,hfu,hx]
   rw[hx] at hcr
   repeat' (first|refine yT ?_|refine y7 sg H ?_|(refine' y30 zHe ?_ ?_;rotate_left;exact hcr _ (H.memF hF1);refine w2 H ?_;clear H;intro w H)|refine yU ?_|fail)
   exact zq (vs:=[]) trivial ((H0.addR H).sub (List.sublist_append_left _ _)) (.inl ⟨x,M,hn,hK,rfl⟩)
 | true =>
 rw[hx] at hcr
 repeat' (first|refine yT ?_|refine y7 sg H ?_|(refine' y30 zHe ?_ ?_;rotate_left;exact hcr _ (H.memF hF1);refine w2 H ?_;clear H;intro w H)|refine yU ?_|fail)
 obtain⟨_,hmu,_,_,_⟩:=zBe hx
 have hmin:(if u.left<o.left then u.left else o.left)=min o.left u.left:=by split<;>omega
 rw[hmin]
 have hn:trN id x=some (evF 13 [id,u.id,u.price,min o.left u.left,(zBa (u.price*min o.left u.left) x.s.fee).1]):=by unfold trN zE5;simp[hfo,hfu,hx]
 have hql:1≤min o.left u.left∧min o.left u.left≤1048576:=by have:=hmo.2.2.2.2.2;have:=hmu.2.2.2.2.2;omega
 generalize min o.left u.left=qq at hn hql ⊢
 have hpr:=hmu.2.2.2.2.1
 have hmul:=zFe hpr.1 hpr.2 hql.1 hql.2
 have hww:IntKind.i64.wrap (u.price*qq)=u.price*qq:=w64 qO qO
 have hfee:=fun w (hG:Mem w F1)=>c_aFee (zFo gx) (fun _=>(zAP.1 gx.nums).2.1) (IntKind.i64.wrap (u.price*qq)) (by rw[hww];omega) w hG hst1
 rw[if_pos (zBB.2 gx)] at hfee
 have hbw3:=zz4 (cb bu u.cells 55) hbw2
 have hc13:=zz4 (cb bu u.cells 55) hc12
 have hc23:=zz4 (cb bu u.cells 55) (zz4 (cb bo o.cells 55) hc21)
 repeat' (first|refine yT ?_|(refine CW.regionYL mixed 18 (z6 (x:=cb bu u.cells 55) (y:=cb bo o.cells 55) H hF1) [] ?_;refine w2 H ?_;clear H;intro w H;refine lT sg 0 (z6 H hF1) ?_;refine' l1 1 (z6 H hF1) ?_ ?_;rotate_left;(exact(fun w2 hM2=>zH sg rfl rfl hM2 hc23 rfl rfl));refine lT sg 2 (z6 H hF1) ?_;refine' l1 3 (z6 H hF1) ?_ ?_;rotate_left;(exact z3 sg);refine lT sg 4 (z6 H hF1) ?_;refine' l1 5 (z6 H hF1) ?_ ?_;rotate_left;(exact z3 sg);refine lT sg 6 (z6 H hF1) ?_;refine' l1 7 (z6 H hF1) ?_ ?_;rotate_left;(exact(fun w2 hM2=>zH sg rfl rfl hM2 hc13 rfl rfl));refine lT sg 8 (z6 H hF1) ?_;refine lT sg 9 (z6 H hF1) ?_;refine' l1 10 (z6 H hF1) ?_ ?_;rotate_left;(exact(fun w2 hM2=>zH sg rfl rfl hM2 hbw3 rfl rfl));refine lT sg 11 (z6 H hF1) ?_;refine' l1 12 (z6 H hF1) ?_ ?_;rotate_left;(exact z3 sg);refine lT sg 13 (z6 H hF1) ?_;refine lT sg 14 (z6 H hF1) ?_)|((with_reducible apply RL.nil);decide +kernel)|refine l2 15 ?_|refine l2 16 ?_|refine l2 17 ?_|(refine l5 (z6 H hF1) ?_)|(refine' y30 ent97 ?_ ?_;rotate_left;exact hfee _ (H.memF hF1);refine w2 H ?_;clear H;intro w H)|(refine z14 sg H ?_;intro b w H)|refine yU ?_|fail)
 rw[hww] at H
 obtain⟨fe,hfe⟩:∃ fe,(zBa (u.price*qq) x.s.fee).1=fe:=⟨_,rfl⟩
 rw[hfe] at H hn
 have HP:St w0 (M++([cb b [.int .i64 id,.int .i64 u.id,.int .i64 u.price,.int .i64 qq,.int .i64 fe] 2]++(G'++[cb bu u.cells 55,cb bo o.cells 55]))) w:=(H0.addR H).perm (by
  rw[List.append_assoc]
  exact(List.perm_middle (l₁:=G')).append_left M)
 have hy:=hY x (.agg ((evF 13 [id,u.id,u.price,qq,fe]).cells ⟨some ⟨b,0,none⟩,5,none,0⟩).toArray) M _ (G'++[cb bu u.cells 55,cb bo o.cells 55]) w hK ⟨evF 13 [id,u.id,u.price,qq,fe],_,hn,rfl,zCi 13 [id,u.id,u.price,qq,fe] (show(5:Nat)≤1000 by decide) (zz2 _),zS7 13 _ (by decide)⟩ HP
 have hnx:nxE (trN id) x=x.go (evF 13 [id,u.id,u.price,qq,fe]):=by unfold nxE;rw[hn]
 rw[hnx] at hy
 refine OY.yield hy ?_ (hw:=OY.go rfl)
 clear H HP hy
 rintro v w hv
 refine OY.all ?_
 rcases hv with ⟨rfl,M',hK',H⟩|⟨rfl,M',hKd,H⟩
 ·have hl2:(x.go (evF 13 [id,u.id,u.price,qq,fe])).l.length≤40:=by
   obtain⟨⟨_,_,_,_,_,_,_,h⟩,_⟩:=hEx _ _ hK'
   exact h
  repeat' (first|refine yT ?_|refine yU ?_|fail)
  exact⟨(x.go (evF 13 [id,u.id,u.price,qq,fe]),M'),zGs hEB (by repeat (first|exact trivial|refine⟨.inl rfl,?_⟩|refine⟨.inr rfl,?_⟩)),trivial,⟨hK',H.sub (List.Sublist.append_left (List.sublist_append_left _ _) _)⟩,by
   have:(x.go (evF 13 [id,u.id,u.price,qq,fe])).l.length=x.l.length+1:=by show(x.l++[_]).length=_;simp
   show 41 - (x.go (evF 13 [id,u.id,u.price,qq,fe])).l.length<41 - x.l.length
   omega⟩
 ·repeat' (first|refine yT ?_|refine yU ?_|fail)
  exact zq (vs:=[]) trivial (H.sub (List.Sublist.append_left (List.sublist_append_left _ _) _)) (.inr ⟨M',hKd,rfl⟩)
theorem zTA {l:List Auc}{id:Int}(h:(zAy l id).2=true):∃ j,j<l.length∧(zAy l id).1=au_ l j:=by
 have hb:=zHN l id
 unfold zAy at h ⊢
 by_cases h0:zHC l id<0
 ·rw[if_pos h0] at h;cases h
 ·rw[if_neg h0]
  exact⟨_,by omega,rfl⟩
theorem zTB {s:Sta}{id:Int}(h:AuB s)(hg:(zAy s.aucs id).2=true):(0≤s.fee∧s.fee≤1000)∧(0≤(zAy s.aucs id).1.qty∧(zAy s.aucs id).1.qty≤1125899906842624)∧0≤(zL (zAy s.aucs id).1).1.amount∧(zL (zAy s.aucs id).1).1.amount≤1125899906842624:=by
 obtain⟨j,hj,e⟩:=zTA hg
 rw[e]
 exact⟨h.fee,h.qty j hj,h.win j hj⟩
theorem zUl {F:zC}{s:Sta}{p:SPt}(g:Good s)(id:Int)(w0:World)(hF:Mem w0 F)(hs:StaM F s p) :
  Calls Tryz.prog 99 [.agg (s.cells p).toArray,.int .i64 id].toArray w0 (Ret (.tuple #[.int .i64 (zAq s id).1.acct,.int .i64 (zAq s id).1.amount,.int .i64 (zAq s id).2.1,.bool (zAq s id).2.2]) w0) :=
 zP3 (zFo g) id (zLs g) (fun j hj=>by have:=(zCK ((zp.1 g.aucs).2.1 _ (zk hj))).2.2.2.2.1;exact Nat.le_trans this (by decide)) (fun g1 _=>zTB (zOd g) g1) w0 hF hs
def ExS (F:zC)(bw c1:Nat)(x:WS)(M:zC):Prop:=ExW F bw x M∧cb c1 [.pointer (some ⟨bw,0,none⟩)] 84∈M
theorem zQI {y z:Nat × Obj}{M G:zC}:((M++G)++[y,z]).Perm (M++([z]++(G++[y]))):=by
 have h:=List.perm_append_comm (l₁:=G++[y]) (l₂:=[z])
 have h2:=h.append_left M
 simpa [List.append_assoc] using h2
theorem zQJ {y z t:Nat × Obj}{M G:zC}:((M++G)++[y,z,t]).Perm (M++([y]++(G++[z,t]))):=by
 have h:=List.perm_append_comm (l₁:=G) (l₂:=[y])
 have h2:=(h.append_right [z,t]).append_left M
 simpa [List.append_assoc] using h2
theorem zTC {F:zC}{w0:World}(hF:Mem w0 F)(bw c1:Nat)(x0:WS)(hx0:x0.ids=(zEO x0.s.aucs x0.s.clock).map (·.id)) :
  zL4 Tryz.prog w0 98 [.pointer (some ⟨c1,0,none⟩)] (ExS F bw c1) (PreE saN) (nxE saN) (fun x=>saN x=none) x0:=by
 intro l K Kd hEx hY M G' w hK H
 obtain⟨⟨p,a,cap,k,hbw,hst,gx,hlen⟩,hc1⟩:=hEx x0 M hK
 refine enter [] Tryz.func98 rfl Tryz.ntmps98 rfl rfl ?_
 have H0:=H
 have hF1:=H.all hF
 have hbw1:cb bw (wkc x0.s p a x0.l.length cap k) 86∈(M++G')++F:=zz6 _ (zz6 _ hbw)
 have hc11:cb c1 [.pointer (some ⟨bw,0,none⟩)] 84∈(M++G')++F:=zz6 _ (zz6 _ hc1)
 have hst1:StaM ((M++G')++F) x0.s p:=hst.mono (fun z hz=>(List.mem_append.1 hz).elim (fun h=>zz6 _ (zz6 _ h)) (zz3 _))
 clear H
 obtain⟨w1,rfl⟩:∃ w1,w1=w:=⟨w,rfl⟩
 have H:=zA w1
 generalize hF1d:(M++G')++F=F1 at hF1 hbw1 hc11 hst1
 have hrow:=fun w (hG:Mem w F1)=>zKS x0.s.aucs p.ad x0.s.clock w hG hst1.au
 repeat' (first|refine yT ?_|(refine CW.regionL mixed 13 (H.memF hF1) [] ?_ ?_;exact rfl;refine w2 H ?_;clear H;intro w H;have qh:=H.memF hF1;refine' l1 0 qh ?_ ?_;rotate_left;(exact(fun w2 hM2=>zH sg rfl rfl hM2 hc11 rfl rfl));refine lT sg 1 qh ?_;refine lT sg 2 qh ?_;refine lT sg 3 qh ?_;refine' l1 4 qh ?_ ?_;rotate_left;(exact(fun w2 hM2=>zH sg rfl rfl hM2 hbw1 rfl rfl));refine' l1 5 qh ?_ ?_;rotate_left;(exact(fun w2 hM2=>zH sg rfl rfl hM2 hc11 rfl rfl));refine lT sg 6 qh ?_;refine lT sg 7 qh ?_;refine lT sg 8 qh ?_;refine' l1 9 qh ?_ ?_;rotate_left;(exact(fun w2 hM2=>zH sg rfl rfl hM2 hbw1 rfl rfl));refine lT sg 12 qh ?_)|((with_reducible apply RL.nil);decide +kernel)|refine l2 10 ?_|refine l2 11 ?_|(refine l5 (H.memF hF1) ?_)|(refine' y32 zNf ?_ ?_;rotate_left;exact hrow _ (H.memF hF1);intro v Mr w hR hS;replace H:=H.addR hS;clear hS;(try simp only[List.cons_append,List.nil_append] at H);obtain⟨r,ar,cr,hr,rfl,hO⟩:=hR)|refine yU ?_|with_reducible apply zB|fail)
 obtain rfl:=hr.uniq (zEP x0.s.aucs x0.s.clock)
 have hF0:=hF
 rw[← hx0] at hO
 have hlr:((zEO x0.s.aucs x0.s.clock)).length=x0.ids.length:=by rw[hx0,List.length_map]
 have hl32:x0.ids.length≤1000:=by
  rw[hx0,List.length_map]
  have h32:=(zp.1 gx.aucs).1
  rcases zEP x0.s.aucs x0.s.clock with ⟨_,_,h3⟩|⟨_,h3⟩
  ·have:=h3.length_eq
   have:=List.length_filter_le (fun x=>zAA x x0.s.clock) x0.s.aucs
   omega
  ·rw[h3];exact zzD _
 rw[hlr]
 have hin:=zIX x0.ids hO (fun _ h=>h) rfl hl32
 obtain⟨hn5,hc5,b5,off5,cs5,T5,fr5,hs5⟩:=hin
 have HG:=H0.addR H
 rw[List.append_assoc] at HG
 obtain⟨ids,hids⟩:∃ ids,x0.ids=ids:=⟨_,rfl⟩
 rw[hids] at hs5 hl32 ⊢
 clear H H0 hF1 hbw1 hc11 hst1 hrow hF1d hbw hc1 hst hlen hO hn5 hc5
 refine zI [(4,9),(22,52)] (fun y:Nat × WS × zC=>[(22,.int .i64 (y.1:Int))]) (fun y w=>y.1≤ids.length∧y.2.1.ids=ids.drop y.1∧K y.2.1 y.2.2∧St w0 (y.2.2++(G'++Mr)) w) (fun y=>ids.length - y.1) (0,x0,M) ⟨rfl,trivial⟩ ⟨zzD _,hids,hK,HG⟩ ?_
 clear HG hK
 rintro⟨k,x,M⟩ gh w ⟨hk,hxi,hK,H⟩
 simp only at hk hxi hK H ⊢
 by_cases hlt:k<ids.length
 rotate_left
 ·obtain rfl:k=ids.length:=by omega
  have d5:decide ((ids.length:Int)<(ids.length:Int))=false:=decide_eq_false qO
  have hn:saN x=none:=by unfold saN;rw[hxi,List.drop_length];rfl
  repeat' (first|refine yT ?_|refine yU ?_|(refine y23 ?_ ?_;all_goals(intro h;try (exfalso;first|((cases d5.symm.trans h);done))))|fail)
  exact zBn (vs:=[]) trivial (H.sub (List.Sublist.append_left (List.sublist_append_left _ _) _)) (.inl ⟨x,M,hn,hK,rfl⟩)
 have d5:decide ((k:Int)<(ids.length:Int))=true:=decide_eq_true qO
 obtain⟨⟨p,a,cap,kk,hbw,hst,gx,hlen⟩,hc1⟩:=hEx x M hK
 obtain⟨id,hid⟩:∃ id,ids.getD k 0=id:=⟨_,rfl⟩
 have hcons:x.ids=id::ids.drop (k+1):=by
  rw[hxi,List.drop_eq_getElem_cons hlt,← hid]
  simp[List.getElem?_eq_getElem hlt]
 subst hid
 have hsn:saN x=some (zB5 x.s (ids.getD k 0)):=by unfold saN;rw[hcons];rfl
 have hF1:=H.all hF0
 have hbw1:cb bw (wkc x.s p a x.l.length cap kk) 86∈(M++(G'++Mr))++F:=zz6 _ (zz6 _ hbw)
 have hc11:cb c1 [.pointer (some ⟨bw,0,none⟩)] 84∈(M++(G'++Mr))++F:=zz6 _ (zz6 _ hc1)
 have hst1:StaM ((M++(G'++Mr))++F) x.s p:=hst.mono (fun z hz=>(List.mem_append.1 hz).elim (fun h=>zz6 _ (zz6 _ h)) (zz3 _))
 have hs6:=hs5.mono (show Mr⊆(M++(G'++Mr))++F from fun z hz=>zz6 _ (zz3 _ (zz3 _ hz)))
 have H0:=H
 clear H
 obtain⟨w1,rfl⟩:∃ w1,w1=w:=⟨w,rfl⟩
 have H:=zA w1
 generalize hF1d:(M++(G'++Mr))++F=F1 at hF1 hbw1 hc11 hst1 hs6
 have hwin:=fun w (hG:Mem w F1)=>zUl gx (ids.getD k 0) w hG hst1
 unfold zB5 at hsn
 cases hwn:(zAq x.s (ids.getD k 0)).2.2 with
 | false =>
   rw[hwn,if_neg (by decide)] at hsn
   have hsa:=hsn
   have hnx:nxE saN x=x.go (evF 19 [ids.getD k 0]):=by unfold nxE;rw[hsa]
   rw[hwn] at hwin
   repeat' (first|refine yT ?_|refine y7 sg H ?_|(refine y10 sg H ?_;intro b w H)|(refine y11 sg H ?_;intro w H)|refine x40 sg hs6 ?_|refine z13 (Yq.loadB1 sg hs6 (H.memF hF1) rfl rfl rfl rfl hlt rfl) ?_|(refine z14 sg H ?_;intro b w H)|refine z13 (zH sg rfl rfl (H.memF hF1) hc11 rfl rfl) ?_|refine z13 (zH sg rfl rfl (H.memF hF1) hbw1 rfl rfl) ?_|(refine' y30 ent99 ?_ ?_;rotate_left;exact hwin _ (H.memF hF1);refine w2 H ?_;clear H;intro w H)|(refine CW.regionY (id:=7) ?_)|(refine OY.preN 2 4 ?_;simp only[List.take_succ_cons,List.take_zero,List.drop_succ_cons,List.drop_zero])|refine yU ?_|with_reducible apply zB|(refine y23 ?_ ?_;all_goals(intro h;try (exfalso;first|((cases d5.symm.trans h);done))))|fail)
   have HP:=(H0.addR H).perm zQI
   have hy:=hY x (.agg ((evF 19 [ids.getD k 0]).cells ⟨some ⟨_,0,none⟩,1,none,0⟩).toArray) M _ _ w hK ⟨evF 19 [ids.getD k 0],_,hsa,rfl,zCi 19 [ids.getD k 0] (show(1:Nat)≤1000 by decide) (zz2 _),zS7 19 _ (by decide)⟩ HP
   rw[hnx] at hy
   refine OY.yield hy ?_ (hw:=OY.go rfl)
   clear H HP hy
   rintro v w hv
   refine OY.all ?_
   rcases hv with ⟨rfl,M',hK',H⟩|⟨rfl,M',hKd,H⟩
   ·repeat' (first|refine yT ?_|refine yU ?_|fail)
    exact zF (k+1,x.go (evF 19 [ids.getD k 0]),M') rfl ⟨zf qO,trivial⟩ ⟨hlt,by show x.ids.tail=_;rw[hcons];rfl,hK',H.sub (List.Sublist.append_left (List.sublist_append_left _ _) _)⟩ (by show ids.length - (k+1)<ids.length - k;omega)
   ·repeat' (first|refine yT ?_|refine yU ?_|fail)
    exact zq (vs:=[]) trivial (H.sub (List.Sublist.append_left ((List.sublist_append_left G' Mr).trans (List.sublist_append_left _ _)) _)) (.inr ⟨M',hKd,rfl⟩)
 | true =>
   rw[hwn,if_pos rfl] at hsn
   have hsa:=hsn
   have hnx:nxE saN x=x.go (evF 18 [ids.getD k 0,(zAq x.s (ids.getD k 0)).1.acct,(zAq x.s (ids.getD k 0)).1.amount,(zAq x.s (ids.getD k 0)).2.1]):=by unfold nxE;rw[hsa]
   rw[hwn] at hwin
   repeat' (first|refine yT ?_|refine y7 sg H ?_|(refine y10 sg H ?_;intro b w H)|(refine y11 sg H ?_;intro w H)|refine x40 sg hs6 ?_|refine z13 (Yq.loadB1 sg hs6 (H.memF hF1) rfl rfl rfl rfl hlt rfl) ?_|(refine z14 sg H ?_;intro b w H)|refine z13 (zH sg rfl rfl (H.memF hF1) hc11 rfl rfl) ?_|refine z13 (zH sg rfl rfl (H.memF hF1) hbw1 rfl rfl) ?_|(refine' y30 ent99 ?_ ?_;rotate_left;exact hwin _ (H.memF hF1);refine w2 H ?_;clear H;intro w H)|(refine CW.regionY (id:=7) ?_)|(refine OY.preN 2 4 ?_;simp only[List.take_succ_cons,List.take_zero,List.drop_succ_cons,List.drop_zero])|refine yU ?_|with_reducible apply zB|(refine y23 ?_ ?_;all_goals(intro h;try (exfalso;first|((cases d5.symm.trans h);done))))|fail)
   have HP:=(H0.addR H).perm zQJ
   have hy:=hY x (.agg ((evF 18 [ids.getD k 0,(zAq x.s (ids.getD k 0)).1.acct,(zAq x.s (ids.getD k 0)).1.amount,(zAq x.s (ids.getD k 0)).2.1]).cells ⟨some ⟨_,0,none⟩,4,none,0⟩).toArray) M _ _ w hK ⟨evF 18 [ids.getD k 0,(zAq x.s (ids.getD k 0)).1.acct,(zAq x.s (ids.getD k 0)).1.amount,(zAq x.s (ids.getD k 0)).2.1],_,hsa,rfl,zCi 18 [ids.getD k 0,(zAq x.s (ids.getD k 0)).1.acct,(zAq x.s (ids.getD k 0)).1.amount,(zAq x.s (ids.getD k 0)).2.1] (show(4:Nat)≤1000 by decide) (zz2 _),zS7 18 _ (by decide)⟩ HP
   rw[hnx] at hy
   refine OY.yield hy ?_ (hw:=OY.go rfl)
   clear H HP hy
   rintro v w hv
   refine OY.all ?_
   rcases hv with ⟨rfl,M',hK',H⟩|⟨rfl,M',hKd,H⟩
   ·repeat' (first|refine yT ?_|refine yU ?_|fail)
    exact zF (k+1,x.go (evF 18 [ids.getD k 0,(zAq x.s (ids.getD k 0)).1.acct,(zAq x.s (ids.getD k 0)).1.amount,(zAq x.s (ids.getD k 0)).2.1]),M') rfl ⟨zf qO,trivial⟩ ⟨hlt,by show x.ids.tail=_;rw[hcons];rfl,hK',H.sub (List.Sublist.append_left (List.sublist_append_left _ _) _)⟩ (by show ids.length - (k+1)<ids.length - k;omega)
   ·repeat' (first|refine yT ?_|refine yU ?_|fail)
    exact zq (vs:=[]) trivial (H.sub (List.Sublist.append_left ((List.sublist_append_left G' Mr).trans (List.sublist_append_left _ _)) _)) (.inr ⟨M',hKd,rfl⟩)
def ExV (c1:Nat)(_:WS)(M:zC):Prop:=cb c1 [.slice none 0 0] 51∈M
theorem zUm {w0:World}(c1:Nat)(x0:WS) :
  zL4 Tryz.prog w0 100 [.pointer (some ⟨c1,0,none⟩)] (ExV c1) (PreE fun _=>none) (nxE fun _=>none) (fun _=>True) x0:=by
 intro l K Kd hEx hY M G' w hK H
 have hc1:=hEx x0 M hK
 refine enter [] Tryz.func100 rfl Tryz.ntmps100 rfl rfl ?_
 repeat' (first|refine yT ?_|refine z13 (zH sg rfl rfl (H.mem) (zz6 _ hc1) rfl rfl) ?_|refine yU ?_|with_reducible apply zB|fail)
 refine zI [(4,4),(7,15)] (fun _:Nat=>[(7,.int .i64 0)]) (fun _ w=>St w0 (M++G') w) (fun k=>k) 0 ⟨rfl,trivial⟩ H ?_
 clear H
 rintro k gh w H
 repeat' (first|refine yT ?_|refine yU ?_|fail)
 exact zBn (vs:=[]) trivial H (.inl ⟨x0,M,trivial,hK,rfl⟩)
theorem CM.named {P:Program}{nw:Nw}{c:Code}{Q:List Deferred→zAQ}{e:Env}{w:World}(R:Env→World→Prop)(h:R e w)(k:∀ e w,R e w→CM P nw c Q e w):CM P nw c Q e w:=k e w h
theorem zTD {bw:Nat}{id:Int}(w0:World):Calls Tryz.prog 65 [.pointer (some ⟨bw,0,none⟩),.int .i64 id].toArray w0 (zi (fun M v=>∃ c1 c2,M=[cb c2 [.int .i64 id] 2,cb c1 [.pointer (some ⟨bw,0,none⟩)] 84]∧v=.func (.func 95) #[] #[.pointer (some ⟨c1,0,none⟩),.pointer (some ⟨c2,0,none⟩)]) w0):=by
 refine enter [.tmp 4] Tryz.func65 rfl Tryz.ntmps65 rfl rfl ?_
 have H:=zA w0
 repeat' (first|refine yT ?_|(refine y9 H ?_;intro b w H)|refine yU ?_|fail)
 exact zS (M:=_) rfl H ⟨_,_,rfl,rfl⟩
theorem zUn {bw:Nat}(w0:World):Calls Tryz.prog 66 [.pointer (some ⟨bw,0,none⟩)].toArray w0 (zi (fun M v=>∃ c1,M=[cb c1 [.pointer (some ⟨bw,0,none⟩)] 84]∧v=.func (.func 98) #[] #[.pointer (some ⟨c1,0,none⟩)]) w0):=by
 refine enter [.tmp 2] Tryz.func66 rfl Tryz.ntmps66 rfl rfl ?_
 have H:=zA w0
 repeat' (first|refine yT ?_|(refine y9 H ?_;intro b w H)|refine yU ?_|fail)
 exact zS (M:=_) rfl H ⟨_,rfl,rfl⟩
theorem zTE (w0:World):Calls Tryz.prog 67 [.slice none 0 0].toArray w0 (zi (fun M v=>∃ c1,M=[cb c1 [.slice none 0 0] 51]∧v=.func (.func 100) #[] #[.pointer (some ⟨c1,0,none⟩)]) w0):=by
 refine enter [.tmp 2] Tryz.func67 rfl Tryz.ntmps67 rfl rfl ?_
 have H:=zA w0
 repeat' (first|refine yT ?_|(refine y9 H ?_;intro b w H)|refine yU ?_|fail)
 exact zS (M:=_) rfl H ⟨_,rfl,rfl⟩
def zE6 (f:Evt):WS→Option Evt:=if f.kind=11 then trN (nF f.nums 0) else if f.kind=20 then saN else fun _=>none
def zGt (f:Evt)(t:Sta):List Int:=if f.kind=20 then(zEO t.aucs t.clock).map (·.id) else[]
theorem zUo (s:Sta)(c:Cmd)(h1:(zc s c).2=0)(h2:(zN s (zc s c).1).2=0):zBC s c=zFn (zE6 (zc s c).1) (decide ((zc s c).1.kind=11)) (if (zc s c).1.kind=11 then 40 else(zGt (zc s c).1 (zN s (zc s c).1).1).length+1) ⟨zGt (zc s c).1 (zN s (zc s c).1).1,(zN s (zc s c).1).1,[(zc s c).1]⟩:=by
 unfold zBC zE6 zGt
 simp only
 rw[if_neg (by rw[h1];exact fun h=>h rfl),if_neg (by rw[h2];exact fun h=>h rfl)]
 by_cases h3:(zc s c).1.kind=11
 ·rw[if_pos h3,if_pos h3,if_pos h3,if_neg qO,decide_eq_true h3]
 ·rw[if_neg h3,if_neg h3,if_neg h3]
  by_cases h4:(zc s c).1.kind=20
  ·rw[if_pos h4,if_pos h4,if_pos h4,decide_eq_false h3,List.length_map]
  ·rw[if_neg h4,if_neg h4,if_neg h4];rfl
theorem permJ {X A G S R:zC}:(X++(A++(G++(S++R)))).Perm (S++(X++(A++(R++G)))):=by
 have h1:(G++(S++R)).Perm (S++(R++G)):=by
  have:=List.perm_append_comm (l₁:=G) (l₂:=S++R)
  rwa [List.append_assoc] at this
 exact(((h1.append_left A).trans (List.perm_append_comm_assoc A S (R++G))).append_left X).trans (List.perm_append_comm_assoc X S (A++(R++G)))
theorem permK {S X Z:zC}:(S++(X++Z)).Perm (X++(Z++S)):=by
 have:=List.perm_append_comm (l₁:=S) (l₂:=X++Z)
 rwa [List.append_assoc] at this
def BehR (bw:Nat)(e:Evt)(M:zC)(v:Value):Prop :=
 (e.kind=11∧∃ c1 c2,M=[cb c2 [.int .i64 (nF e.nums 0)] 2,cb c1 [.pointer (some ⟨bw,0,none⟩)] 84]∧v=.func (.func 95) #[] #[.pointer (some ⟨c1,0,none⟩),.pointer (some ⟨c2,0,none⟩)]) ∨
 (e.kind=20∧∃ c1,M=[cb c1 [.pointer (some ⟨bw,0,none⟩)] 84]∧v=.func (.func 98) #[] #[.pointer (some ⟨c1,0,none⟩)]) ∨
 (e.kind≠11∧e.kind≠20∧∃ c1,M=[cb c1 [.slice none 0 0] 51]∧v=.func (.func 100) #[] #[.pointer (some ⟨c1,0,none⟩)])
theorem zTF {F:zC}{bw:Nat}(e:Evt)(q:EPt)(w0:World)(hF:Mem w0 F)(hE:EvtM F e q)(h1:e.kind=11→0<e.nums.length) :
  Calls Tryz.prog 35 [.pointer (some ⟨bw,0,none⟩),.agg (e.cells q).toArray].toArray w0 (zi (BehR bw e) w0):=by
 obtain⟨⟨hn1,hc1,k1,off1,cs1,T1,fr1,hs1⟩,_⟩:=hE
 by_cases k11:e.kind=11
 ·have d1:(e.kind==11)=true:=by simpa using k11
  have hl:=h1 k11
  refine enter [.tmp 4] Tryz.func35 rfl Tryz.ntmps35 rfl rfl ?_
  have H:=zA w0
  repeat' (first|refine yT ?_|refine y7 sg H ?_|(refine y9 H ?_;intro b w H)|refine x40 sg hs1 ?_|refine z13 (Yq.loadB1 sg hs1 (H.memF hF) rfl rfl rfl rfl hl rfl) ?_|(refine' y32 ent65 ?_ ?_;rotate_left;exact zTD _;intro v M w hR hS;replace H:=H.addR hS;clear hS;(try simp only[List.cons_append,List.nil_append] at H);obtain⟨c1,c2,rfl,rfl⟩:=hR)|refine yU ?_|with_reducible apply zB|(refine y23 ?_ ?_;all_goals(intro h;try (exfalso;first|((cases d1.symm.trans h);done))))|fail)
  exact zS (M:=[_,_]) rfl (H.sub (zz7 _ _)) (.inl ⟨k11,c1,c2,rfl,rfl⟩)
 have d1:(e.kind==11)=false:=by simpa using k11
 by_cases k20:e.kind=20
 ·have d2:(e.kind==20)=true:=by simpa using k20
  refine enter [.tmp 4] Tryz.func35 rfl Tryz.ntmps35 rfl rfl ?_
  have H:=zA w0
  repeat' (first|refine yT ?_|refine y7 sg H ?_|(refine y9 H ?_;intro b w H)|(refine' y32 ent66 ?_ ?_;rotate_left;exact zUn _;intro v M w hR hS;replace H:=H.addR hS;clear hS;(try simp only[List.cons_append,List.nil_append] at H);obtain⟨c1,rfl,rfl⟩:=hR)|refine yU ?_|with_reducible apply zB|(refine y23 ?_ ?_;all_goals(intro h;try (exfalso;first|((cases d1.symm.trans h);done)|((cases d2.symm.trans h);done))))|fail)
  exact zS (M:=[_]) rfl (H.sub (zz7 _ _)) (.inr (.inl ⟨k20,c1,rfl,rfl⟩))
 have d2:(e.kind==20)=false:=by simpa using k20
 refine enter [.tmp 4] Tryz.func35 rfl Tryz.ntmps35 rfl rfl ?_
 have H:=zA w0
 repeat' (first|refine yT ?_|refine y7 sg H ?_|(refine y9 H ?_;intro b w H)|(refine' y32 ent67 ?_ ?_;rotate_left;exact zTE _;intro v M w hR hS;replace H:=H.addR hS;clear hS;(try simp only[List.cons_append,List.nil_append] at H);obtain⟨c1,rfl,rfl⟩:=hR)|refine yU ?_|with_reducible apply zB|(refine y23 ?_ ?_;all_goals(intro h;try (exfalso;first|((cases d1.symm.trans h);done)|((cases d2.symm.trans h);done))))|fail)
 exact zS (M:=[_]) rfl (H.sub (zz7 _ _)) (.inr (.inr ⟨k11,k20,c1,rfl,rfl⟩))
structure BehOk (F:zC)(w0:World)(bw:Nat)(f:Evt)(x0:WS)(gf:FuncId)(lb:List Value)(M:zC)(Ex:WS→zC→Prop):Prop where
 ent:Ent Tryz.prog gf
 it:zL4 Tryz.prog w0 gf lb Ex (PreE (zE6 f)) (nxE (zE6 f)) (fun x=>zE6 f x=none) x0
 ex:∀ x M',ExW F bw x M'→M⊆M'→Ex x M'
 mono:∀ x y M',Ex x M'→Ex x (y::M')
theorem zUp {F M:zC}{w0:World}{bw:Nat}{f:Evt}{x0:WS}{v:Value}(hF:Mem w0 F)(hP:PriM F)(hx:x0.ids=zGt f x0.s)(h:BehR bw f M v):∃ gf lb Ex,v=.func (.func gf) #[] lb.toArray∧BehOk F w0 bw f x0 gf lb M Ex:=by
 rcases h with ⟨k,c1,c2,rfl,rfl⟩|⟨k,c1,rfl,rfl⟩|⟨k,k2,c1,rfl,rfl⟩
 ·have e:zE6 f=trN (nF f.nums 0):=by unfold zE6;rw[if_pos k]
  refine⟨_,[_,_],ExT F bw c1 c2 (nF f.nums 0),rfl,ent95,?_,fun x M' h1 h2=>⟨h1,h2 (zz5 _ (zz2 _)),h2 (zz2 _)⟩,fun x y M' h=>⟨h.1.cons,zz4 _ h.2.1,zz4 _ h.2.2⟩⟩
  rw[e]
  exact zQH hF hP _ bw c1 c2 x0
 ·have e:zE6 f=saN:=by unfold zE6;rw[if_neg qO,if_pos k]
  refine⟨_,[_],ExS F bw c1,rfl,ent98,?_,fun x M' h1 h2=>⟨h1,h2 (zz2 _)⟩,fun x y M' h=>⟨h.1.cons,zz4 _ h.2⟩⟩
  rw[e]
  unfold zGt at hx
  rw[if_pos k] at hx
  exact zTC hF bw c1 x0 hx
 ·have e:zE6 f=fun _=>none:=by unfold zE6;rw[if_neg k,if_neg k2]
  refine⟨_,[_],ExV c1,rfl,ent100,?_,fun x M' h1 h2=>h2 (zz2 _),fun x y M' h=>zz4 _ h⟩
  rw[e]
  intro l K Kd hEx hY M G' w hK H
  exact(zUm c1 x0 l K Kd hEx hY M G' w hK H).mono fun e w' ⟨v,N',h1,h2,h3⟩=>⟨v,N',h1,h2.imp (fun⟨s,M2,_,k⟩=>⟨s,M2,rfl,k⟩) id,h3⟩
theorem zL7 {s:Sta}{c:Cmd}{f:Evt}(hc:zDr c)(h:zc s c=(f,0)):Good s∧zGZ f∧(f.kind=11→0<f.nums.length):=by
 rcases zCa s c with ⟨g,_⟩|⟨_,g1,g2,g3,g4,g5,g6⟩
 ·rw[h] at g;exact absurd rfl g
 rw[h] at g3 g4 g5 g6
 have hk:=zEy g2
 have key:∀ j∈List.range 20,0≤(zLa.getD j (0,[])).1∧(zLa.getD j (0,[])).1≤23∧((zLa.getD j (0,[])).1=11→0<(zLa.getD j (0,[])).2.length):=by decide
 have:=key (c.kind - 1).toNat (List.mem_range.2 qO)
 refine⟨g1,⟨by simp only at g3;omega,by simp only at g4;unfold zAr at g4;omega,fun t ht=>?_⟩,fun h11=>?_⟩
 ·simp only at g6
  rw[g6] at ht
  split at ht
  ·cases ht
  ·rw[List.mem_singleton.1 ht];exact hc.2
 ·simp only at g4 g5
  rw[g5,List.length_map]
  unfold zAr at g4 ⊢
  exact this.2.2 (g4 ▸ h11)
def Fuel (cap:Bool)(n:Nat)(x:WS):Prop:=(cap=true→n+x.l.length=41∧x.l.length≤32∧x.ids=[])∧(cap=false→n=x.ids.length+1∧x.l.length+x.ids.length≤40)
structure JW (F:zC)(nx:WS→Option Evt)(cap:Bool)(res:List Evt × Int)(cl:zC)(b4 b5 b6 b8 bw:Nat)(f:Evt)(qf:EPt)(n:Nat)(p:SPt)(a:Option Addr)(cp:Nat)(q:Nat→EPt)(O N:zC)(x:WS)(M:zC):Prop where
 mem:M=cb b8 [.pointer (some ⟨bw,0,none⟩)] 84::cb b6 (f.cells qf) 33::cb b5 [.int .i64 0] 38::cb b4 [.slice none 0 0] 51::cb bw (wkc x.s p a x.l.length cp 0) 86::(O++N)
 own:Go.Sk.Own O 33 4 a x.l.length cp (evX x.l q)
 sta:StaM (N++F) x.s p
 evs:∀ j,j<x.l.length→EvtM N (ev_ x.l j) (q j)
 good:Good x.s
 cls:cl⊆N
 fuel:Fuel cap n x
 res:zFn nx cap n x=res
def JX (F:zC)(nx:WS→Option Evt)(cap:Bool)(res:List Evt × Int)(cl:zC)(b4 b5 b6 b8 bw:Nat)(f:Evt)(qf:EPt)(x:WS)(M:zC):Prop:=∃ n p a cp q O N,JW F nx cap res cl b4 b5 b6 b8 bw f qf n p a cp q O N x M
def JD (res:List Evt × Int)(b4 b5:Nat)(M:zC):Prop:=∃ e x y R,res=([],e)∧M=x::y::cb b5 [.int .i64 e] 38::cb b4 [.slice none 0 0] 51::R
def CmdR (r:List Evt × Int)(M:zC)(v:Value):Prop:=∃ a cap q,v=.tuple #[.slice a r.1.length cap,.int .i64 r.2]∧EvsM M a cap r.1 q
theorem zNS (e:Int):CmdR ([],e) [] (.tuple #[.slice none 0 0,.int .i64 e]):=⟨none,0,fun _=>zIW,rfl,⟨zzD _,zzD _,0,0,[],0,(0,0),fun h=>absurd h (Nat.lt_irrefl 0)⟩,fun j hj=>absurd hj (zzE _)⟩
theorem zFO {F:zC}{s:Sta}{p:SPt}{c:Cmd}{na:Option Addr}{nc:Nat}(hW:StaW s)(hc:zDr c)(w0:World)(hF:Mem w0 F)(hP:PriM F)(hK:KinM F)(hC:ComM F)(hs:StaM F s p)(hN:Ints F na nc c.nums) :
  Calls Tryz.prog 16 [.agg (s.cells p).toArray,.agg (c.cells na nc).toArray].toArray w0 (zi (CmdR (zBC s c)) w0):=by
 have hfst:=fun w (hG:Mem w F)=>zL6 hW hc w hG hC hs hN
 obtain⟨f,k,hf⟩:∃ f k,zc s c=(f,k):=⟨_,_,rfl⟩
 rw[hf] at hfst
 refine zRK [.cell 4 51,.cell 5 38] Tryz.func16 rfl Tryz.ntmps16 rfl rfl ?_
 have H:=zA w0
 refine CM.seq ?_
 repeat' (first|refine yT ?_|(refine y9 H ?_;intro b w H)|(refine y10 sg H ?_;intro b w H)|refine yU ?_|fail)
 refine CM.seq ?_
 repeat' (first|refine yT ?_|refine y7 sg H ?_|(refine y10 sg H ?_;intro b w H)|(refine y11 sg H ?_;intro w H)|(refine' y32 zKs ?_ ?_;rotate_left;exact hfst _ (H.memF hF);intro v M w hR hS;replace H:=H.addR hS;clear hS;(try simp only[List.cons_append,List.nil_append] at H);obtain⟨qf,rfl,hE⟩:=hR)|refine yU ?_|fail)
 refine CM.named (fun en1 w=>∃ bs bc b4 b5 b6 en',en1=ovl [(2,.pointer (some ⟨bs,0,none⟩)),(3,.pointer (some ⟨bc,0,none⟩)),(4,.pointer (some ⟨b4,0,none⟩)),(5,.pointer (some ⟨b5,0,none⟩)),(6,.pointer (some ⟨b6,0,none⟩)),(7,.int .i64 k)] en'∧St w0 (cb b6 (f.cells qf) 33::cb b5 [.int .i64 0] 38::cb b4 [.slice none 0 0] 51::cb bc (c.cells na nc) 28::cb bs (s.cells p) 48::M) w) ⟨_,_,_,_,_,_,zAE rfl (zAE rfl (zAE rfl (zA0 rfl rfl rfl))),H⟩ ?_
 clear H
 rintro _ w ⟨bs,bc,b4,b5,b6,en',rfl,H⟩
 by_cases hk:k=0
 rotate_left
 ·have dk:(k != 0)=true:=by simpa using hk
  have eP:zBC s c=([],k):=by unfold zBC;rw[hf,if_pos hk]
  rw[eP]
  refine CM.seq ?_
  repeat' (first|refine yT ?_|(refine y11 sg H ?_;intro w H)|refine yU ?_|(refine y23 ?_ ?_;all_goals(intro h;try (exfalso;first|((cases dk.symm.trans h);done))))|fail)
  exact⟨[_,_],⟨zy sg rfl H.mem qB rfl rfl,zy sg rfl H.mem qB rfl rfl,trivial⟩,_,[],rfl,zNS k,H.sub (zz9 _)⟩
 subst hk
 refine CM.seq ?_
 repeat' (first|refine yT ?_|refine yU ?_|fail)
 refine CM.seq ?_
 repeat' (first|refine yT ?_|refine y7 sg H ?_|(refine y9 H ?_;intro b w H)|(refine y10 sg H ?_;intro b w H)|(refine y11 sg H ?_;intro w H)|refine yU ?_|fail)
 obtain⟨gS,hEt,h11⟩:=zL7 hc hf
 refine CM.named (fun en1 w=>∃ b8 bw en',en1=ovl [(4,.pointer (some ⟨b4,0,none⟩)),(5,.pointer (some ⟨b5,0,none⟩)),(6,.pointer (some ⟨b6,0,none⟩)),(8,.pointer (some ⟨b8,0,none⟩))] en'∧St w0 (cb b8 [.pointer (some ⟨bw,0,none⟩)] 84::cb bw (wkc s p none 0 0 0) 86::cb b6 (f.cells qf) 33::cb b5 [.int .i64 0] 38::cb b4 [.slice none 0 0] 51::(cb bc (c.cells na nc) 28::cb bs (s.cells p) 48::M)) w) ⟨_,_,_,zAE rfl (zA0 rfl rfl rfl),H⟩ ?_
 clear H
 rintro _ w ⟨b8,bw,en',rfl,H⟩
 obtain⟨N0,hN0⟩:∃ N0,cb bc (c.cells na nc) 28::cb bs (s.cells p) 48::M=N0:=⟨_,rfl⟩
 have hMN:M⊆N0:=by rw[← hN0];exact fun x hx=>zz4 _ (zz4 _ hx)
 rw[hN0] at H
 have hE0:=hE.mono hMN
 have cdo:=fun w (H:St w0 (cb b8 [.pointer (some ⟨bw,0,none⟩)] 84::cb bw (wkc s p none 0 0 0) 86::cb b6 (f.cells qf) 33::cb b5 [.int .i64 0] 38::cb b4 [.slice none 0 0] 51::N0) w)=>c_do (s:=s) (l:=[]) (p:=p) (a:=none) (cap:=0) (q:=fun _=>zIW) (O:=[]) (N:=cb b8 [.pointer (some ⟨bw,0,none⟩)] 84::cb b6 (f.cells qf) 33::cb b5 [.int .i64 0] 38::cb b4 [.slice none 0 0] 51::N0) f qf (H.perm (List.Perm.swap _ _ _)) hF hP hK (zTP _ _ _) (hs.mono (zz8 _ _)) gS hEt (hE0.mono (fun x hx=>zz4 _ (zz4 _ (zz4 _ (zz4 _ hx))))) (by decide)
 by_cases he:(zN s f).2=0
 rotate_left
 ·have eP:zBC s c=([],(zN s f).2):=by unfold zBC;rw[hf];simp only[ne_eq,not_true_eq_false,if_false];rw[if_pos he]
  rw[eP]
  refine CM.seq ?_
  repeat' (first|refine yT ?_|refine y7 sg H ?_|(refine y11 sg H ?_;intro w H)|(refine za rfl rfl (En.fn zNg rfl rfl) (cdo _ H) ?_;rintro v M2 w hR H2;clear H;obtain⟨_,rfl,rfl⟩:=hR.resolve_left (fun h=>he h.1);have H:=H2;clear H2;simp only[List.nil_append] at H)|(refine CW.regionL mixed 6 (z6 (x:=cb b8 [.pointer (some ⟨bw,0,none⟩)] 84) (y:=cb bw (wkc s p none 0 0 (zN s f).2) 86) H hF) [] ?_ ?_;exact rfl;refine w2 H ?_;clear H;intro w H;have qh:=z6 (x:=cb b8 [.pointer (some ⟨bw,0,none⟩)] 84) (y:=cb bw (wkc s p none 0 0 (zN s f).2) 86) H hF;refine' l1 0 qh ?_ ?_;rotate_left;(exact z3 sg);refine lT sg 1 qh ?_;refine lT sg 2 qh ?_;refine' l1 3 qh ?_ ?_;rotate_left;(exact z3 sg))|((with_reducible apply RL.nil);decide +kernel)|refine l2 4 ?_|refine l2 5 ?_|(refine l5 (z6 H hF) ?_)|refine yU ?_|fail)
  exact⟨[_,_],⟨zy sg rfl H.mem qB rfl rfl,zy sg rfl H.mem qB rfl rfl,trivial⟩,_,[],rfl,zNS _,H.sub (zz9 _)⟩
 obtain⟨t,ht⟩:∃ t,(zN s f).1=t:=⟨_,rfl⟩
 refine CM.seq ?_
 repeat' (first|refine yT ?_|refine y7 sg H ?_|(refine za rfl rfl (En.fn zNg rfl rfl) (cdo _ H) ?_;rintro v M2 w hR H2;clear H;obtain⟨_,rfl,p',a',cp',O',R,rfl,hO,hT,gT⟩:=hR.resolve_right (fun h=>h.1 he);have H:=H2;clear H2)|refine yU ?_|fail)
 rw[ht] at H hT gT
 replace H:=H.perm (List.perm_append_comm_assoc (cb bw (wkc t p' a' 1 cp' 0) 86::O') [_,_,_,_] (N0++R))
 simp only[List.cons_append,List.nil_append] at H
 refine CM.seqM ?_
 refine CM.seq ?_
 repeat' (first|refine yT ?_|refine y7 sg H ?_|(refine' y32 ent35 ?_ ?_;rotate_left;exact zTF f qf _ (H.mem.sub (show N0⊆_ from fun x hx=>by simp[hx])) hE0 h11;intro v Mc w hR hS;replace H:=H.addR hS;clear hS;(try simp only[List.cons_append,List.nil_append] at H);have hB:=hR)|refine yU ?_|fail)
 refine CM.block ?_
 obtain⟨gf,lb,Ex,rfl,hBe⟩:=zUp (x0:=⟨zGt f t,t,[f]⟩) hF hP rfl hB
 have hres:zFn (zE6 f) (decide (f.kind=11)) (if f.kind=11 then 40 else(zGt f t).length+1) ⟨zGt f t,t,[f]⟩=zBC s c:=by
  rw[zUo s c (by rw[hf]) (by rw[hf];exact he),hf]
  simp only
  rw[ht]
 obtain⟨res,hr⟩:∃ res,zBC s c=res:=⟨_,rfl⟩
 rw[hr] at hres ⊢
 have hlen32:(zGt f t).length≤32:=by
  unfold zGt
  split
  ·rw[List.length_map]
   rcases zEP t.aucs t.clock with ⟨_,_,h3⟩|⟨_,h3⟩
   ·have:=h3.length_eq
    have:=List.length_filter_le (fun x=>zAA x t.clock) t.aucs
    have:=(zp.1 gT.aucs).1
    omega
   ·rw[h3];exact zzD _
  ·exact zzD _
 have J0:JX F (zE6 f) (decide (f.kind=11)) res Mc b4 b5 b6 b8 bw f qf ⟨zGt f t,t,[f]⟩ (cb b8 [.pointer (some ⟨bw,0,none⟩)] 84::cb b6 (f.cells qf) 33::cb b5 [.int .i64 0] 38::cb b4 [.slice none 0 0] 51::cb bw (wkc t p' a' 1 cp' 0) 86::(O'++((N0++R)++Mc))):=by
  refine⟨_,p',a',cp',_,O',(N0++R)++Mc,rfl,hO,hT.mono (fun x hx=>by simp[hx]),fun j hj=>?_,gT,zz8 _ _,⟨fun hc=>?_,fun hc=>?_⟩,hres⟩
  ·obtain rfl:j=0:=by have:j<1:=hj;omega
   exact hE0.mono (fun x hx=>by simp[hx])
  ·have h:=zzA hc
   rw[if_pos h]
   exact⟨rfl,show(1:Nat)≤32 by decide,by unfold zGt;rw[if_neg qO]⟩
  ·have h:=zzB hc
   rw[if_neg h]
   exact⟨rfl,show 1+(zGt f t).length≤40 by omega⟩
 refine CM.rangeFunc1 (G:=[]) (JX F (zE6 f) (decide (f.kind=11)) res Mc b4 b5 b6 b8 bw f qf) (JD res b4 b5) rfl rfl hBe.ent rfl hBe.it (by rw[List.append_nil];rw[List.append_assoc] at H;exact H) J0 ?_ hBe.mono ?_ ?_ ?_
 ·rintro x M ⟨n,p,a,cp,q,O,N,J⟩
  refine hBe.ex x M ⟨p,a,cp,0,?_,J.sta.mono (fun z hz=>?_),J.good,?_⟩ (J.cls.trans ?_)
  ·rw[J.mem];simp
  ·rw[J.mem]
   rcases List.mem_append.1 hz with h|h<;>simp[h]
  ·by_cases h:f.kind=11
   ·have:=(J.fuel.1 (decide_eq_true h)).2.1;omega
   ·have:=(J.fuel.2 (decide_eq_false h)).2;omega
  ·rw[J.mem];intro z hz;simp[hz]
 ·rintro l x v M N' G' w ⟨n,p,a,cp,q,O,N,J⟩ ⟨e,qe,hn,rfl,hEe,hEte⟩ H
  rw[J.mem] at H
  simp only[List.cons_append,List.append_assoc] at H
  repeat' (first|refine yT ?_|(refine y10 sg H ?_;intro b w H)|(refine y11 sg H ?_;intro w H)|refine yU ?_|fail)
  refine⟨cb _ (e.cells qe) 33::cb b8 [.pointer (some ⟨bw,0,none⟩)] 84::cb b6 (f.cells qf) 33::cb b5 [.int .i64 0] 38::cb b4 [.slice none 0 0] 51::cb bw (wkc x.s p a x.l.length cp 0) 86::(O++(N++N')),by simp only[List.cons_append,List.append_assoc];exact H,fun G2 w H=>?_⟩
  simp only[List.cons_append,List.append_assoc] at H
  obtain⟨n,rfl⟩:∃ n',n=n'+1:=by
   refine⟨n - 1,?_⟩
   by_cases h:f.kind=11
   ·have:=J.fuel.1 (decide_eq_true h);omega
   ·have:=(J.fuel.2 (decide_eq_false h)).1;omega
  have hj:=J.res
  unfold zFn at hj
  rw[hn] at hj
  simp only at hj
  by_cases hcap:f.kind=11∧31<x.l.length
  ·rw[if_pos ⟨decide_eq_true hcap.1,hcap.2⟩] at hj
   have d1:(f.kind==11)=true:=by simpa using hcap.1
   have d2:decide ((x.l.length:Int)>31)=true:=decide_eq_true qO
   repeat' (first|refine yT ?_|refine y7 sg H ?_|(refine y11 sg H ?_;intro w H)|refine yU ?_|((first|refine y17 ?_ ?_|refine y23 ?_ ?_);all_goals(intro h;try (exfalso;first|((cases d1.symm.trans h);done)|((cases d2.symm.trans h);done))))|with_reducible apply zB|fail)
   exact⟨cb b8 [.pointer (some ⟨bw,0,none⟩)] 84::cb b6 (f.cells qf) 33::cb b5 [.int .i64 40] 38::cb b4 [.slice none 0 0] 51::cb bw (wkc x.s p a x.l.length cp 0) 86::(O++(N++N')),⟨40,_,_,_,hj.symm,rfl⟩,by have H2:=H.sub (zz7 _ _);simpa only[List.cons_append,List.append_assoc] using H2⟩
  rw[if_neg (fun h=>hcap ⟨of_decide_eq_true h.1,h.2⟩)] at hj
  with_reducible apply zB
  with_reducible apply zDu
  refine CW.cutT (fun en1 w=>∃ en',en1=ovl [(4,.pointer (some ⟨b4,0,none⟩)),(5,.pointer (some ⟨b5,0,none⟩)),(8,.pointer (some ⟨b8,0,none⟩)),(9,.pointer (some ⟨b,0,none⟩))] en'∧St w0 (cb b (e.cells qe) 33::cb b8 [.pointer (some ⟨bw,0,none⟩)] 84::cb b6 (f.cells qf) 33::cb b5 [.int .i64 0] 38::cb b4 [.slice none 0 0] 51::cb bw (wkc x.s p a x.l.length cp 0) 86::(O++(N++(N'++G2)))) w) ?_ ?_
  ·by_cases k11:f.kind=11
   ·have d1:(f.kind==11)=true:=by simpa using k11
    have d2:decide ((x.l.length:Int)>31)=false:=decide_eq_false (by have:=fun h=>hcap ⟨k11,h⟩;omega)
    repeat' (first|refine yT ?_|refine y7 sg H ?_|refine yU ?_|((first|refine y17 ?_ ?_|refine y23 ?_ ?_);all_goals(intro h;try (exfalso;first|((cases d1.symm.trans h);done)|((cases d2.symm.trans h);done))))|fail)
    exact⟨_,zAE rfl (zA0 rfl rfl rfl),H⟩
   ·have d1:(f.kind==11)=false:=by simpa using k11
    repeat' (first|refine yT ?_|refine y7 sg H ?_|refine yU ?_|(refine y17 ?_ ?_;all_goals(intro h;try (exfalso;first|((cases d1.symm.trans h);done))))|fail)
    exact⟨_,zAE rfl (zA0 rfl rfl rfl),H⟩
  clear H
  rintro _ w ⟨en',rfl,H⟩
  have hl100:x.l.length<100:=by
   by_cases h:f.kind=11
   ·have:=(J.fuel.1 (decide_eq_true h)).2.1;omega
   ·have:=(J.fuel.2 (decide_eq_false h)).2;omega
  have cdo2:=fun w (H:St w0 (cb b (e.cells qe) 33::cb b8 [.pointer (some ⟨bw,0,none⟩)] 84::cb b6 (f.cells qf) 33::cb b5 [.int .i64 0] 38::cb b4 [.slice none 0 0] 51::cb bw (wkc x.s p a x.l.length cp 0) 86::(O++(N++(N'++G2)))) w)=>c_do (N:=(N++(N'++G2))++[cb b (e.cells qe) 33,cb b8 [.pointer (some ⟨bw,0,none⟩)] 84,cb b6 (f.cells qf) 33,cb b5 [.int .i64 0] 38,cb b4 [.slice none 0 0] 51]) e qe (H.perm (permK (S:=[_,_,_,_,_]) (X:=cb bw (wkc x.s p a x.l.length cp 0) 86::O) (Z:=N++(N'++G2)))) hF hP hK J.own (J.sta.mono (fun z hz=>(List.mem_append.1 hz).elim (fun h=>zz6 _ (zz6 _ (zz6 _ h))) (zz3 _))) J.good hEte (hEe.mono (fun z hz=>zz6 _ (zz3 _ (zz6 _ hz)))) hl100
  by_cases he2:(zN x.s e).2=0
  ·rw[if_neg (fun h=>h he2)] at hj
   repeat' (first|refine yT ?_|refine y7 sg H ?_|(refine za rfl rfl (En.fn zNg rfl rfl) (cdo2 _ H) ?_;rintro v M2 w hR H2;clear H;obtain⟨_,rfl,p2,a2,cp2,O2,R2,rfl,hO2,hT2,gT2⟩:=hR.resolve_right (fun h=>h.1 he2);have H:=H2;clear H2)|refine yU ?_|fail)
   obtain⟨t2,ht2⟩:∃ t2,(zN x.s e).1=t2:=⟨_,rfl⟩
   rw[ht2] at H hT2 gT2
   have H3:St w0 ([cb b (e.cells qe) 33,cb b8 [.pointer (some ⟨bw,0,none⟩)] 84,cb b6 (f.cells qf) 33,cb b5 [.int .i64 0] 38,cb b4 [.slice none 0 0] 51]++((cb bw (wkc t2 p2 a2 (x.l++[e]).length cp2 0) 86::O2)++((N++N')++(R2++G2)))) w:=(show St w0 ((cb bw (wkc t2 p2 a2 (x.l++[e]).length cp2 0) 86::O2)++((N++N')++(G2++([cb b (e.cells qe) 33,cb b8 [.pointer (some ⟨bw,0,none⟩)] 84,cb b6 (f.cells qf) 33,cb b5 [.int .i64 0] 38,cb b4 [.slice none 0 0] 51]++R2)))) w by simpa only[List.append_assoc,List.cons_append,List.nil_append] using H).perm permJ
   have hnx:nxE (zE6 f) x=x.go e:=by unfold nxE;rw[hn]
   have hll:(x.l++[e]).length=x.l.length+1:=by simp
   rw[hnx]
   refine⟨cb b8 [.pointer (some ⟨bw,0,none⟩)] 84::cb b6 (f.cells qf) 33::cb b5 [.int .i64 0] 38::cb b4 [.slice none 0 0] 51::cb bw (wkc t2 p2 a2 (x.l++[e]).length cp2 0) 86::(O2++((N++N')++R2)),⟨n,p2,a2,cp2,_,O2,(N++N')++R2,by unfold WS.go;rw[ht2],hO2,?_,fun j hjl=>?_,?_,J.cls.trans (fun z hz=>by simp[hz]),⟨fun hc=>?_,fun hc=>?_⟩,hj⟩,?_⟩
   ·show StaM _ (zN x.s e).1 p2
    rw[ht2];exact hT2.mono (fun z hz=>by simp[hz])
   ·have hjl:j<(x.l++[e]).length:=hjl
    show EvtM _ (ev_ (x.l++[e]) j) (zJM x.l.length q qe j)
    rw[hll] at hjl
    unfold zJM
    by_cases h:j<x.l.length
    ·rw[zOo h,if_pos h];exact(J.evs j h).mono (fun z hz=>by simp[hz])
    ·obtain rfl:j=x.l.length:=by omega
     rw[zOp,if_neg h];exact hEe.mono (fun z hz=>by simp[hz])
   ·show Good (zN x.s e).1
    rw[ht2];exact gT2
   ·have h:=J.fuel.1 hc
    have h31:¬ 31<x.l.length:=fun g=>hcap ⟨zzA hc,g⟩
    exact⟨by show n+(x.l++[e]).length=41;rw[hll];omega,by show(x.l++[e]).length≤32;rw[hll];omega,by show x.ids.tail=[];rw[h.2.2];rfl⟩
   ·have h:=J.fuel.2 hc
    have hne:0<x.ids.length:=by
     unfold zE6 at hn
     rw[if_neg (of_decide_eq_false hc)] at hn
     split at hn
     ·unfold saN at hn
      cases hx:x.ids with
      | nil=>rw[hx] at hn;cases hn
      | cons _ _=>simp
     ·cases hn
    have htl:x.ids.tail.length=x.ids.length - 1:=List.length_tail
    exact⟨by show n=x.ids.tail.length+1;omega,by show(x.l++[e]).length+x.ids.tail.length≤40;rw[hll];omega⟩
   ·have H4:=H3.sub (zz7 _ _)
    simpa only[List.cons_append,List.append_assoc,List.nil_append,List.append_eq] using H4
  ·rw[if_pos he2] at hj
   repeat' (first|refine yT ?_|refine y7 sg H ?_|(refine y11 sg H ?_;intro w H)|(refine za rfl rfl (En.fn zNg rfl rfl) (cdo2 _ H) ?_;rintro v M2 w hR H2;clear H;obtain⟨_,rfl,rfl⟩:=hR.resolve_left (fun h=>he2 h.1);have H:=H2.perm (permK (S:=[_,_,_,_,_]) (X:=_::O) (Z:=N++(N'++G2))).symm;clear H2;simp only[List.cons_append,List.nil_append] at H)|(refine CW.regionL mixed 6 (z6 (x:=cb b8 [.pointer (some ⟨bw,0,none⟩)] 84) (y:=cb bw (wkc x.s p a x.l.length cp (zN x.s e).2) 86) H hF) [] ?_ ?_;exact rfl;refine w2 H ?_;clear H;intro w H;have qh:=z6 (x:=cb b8 [.pointer (some ⟨bw,0,none⟩)] 84) (y:=cb bw (wkc x.s p a x.l.length cp (zN x.s e).2) 86) H hF;refine' l1 0 qh ?_ ?_;rotate_left;(exact z3 sg);refine lT sg 1 qh ?_;refine lT sg 2 qh ?_;refine' l1 3 qh ?_ ?_;rotate_left;(exact z3 sg))|((with_reducible apply RL.nil);decide +kernel)|refine l2 4 ?_|refine l2 5 ?_|(refine l5 (z6 H hF) ?_)|refine yU ?_|fail)
   exact⟨cb b8 [.pointer (some ⟨bw,0,none⟩)] 84::cb b6 (f.cells qf) 33::cb b5 [.int .i64 (zN x.s e).2] 38::cb b4 [.slice none 0 0] 51::cb bw (wkc x.s p a x.l.length cp (zN x.s e).2) 86::(O++(N++N')),⟨_,_,_,_,hj.symm,rfl⟩,by have H2:=H.sub (zz7 _ _);simpa only[List.cons_append,List.append_assoc] using H2⟩
 ·rintro D lo x M w hfin ⟨n,p,a,cp,q,O,N,J⟩ H
  rw[J.mem] at H
  simp only[List.cons_append,List.append_nil] at H
  have hfin:zE6 f x=none:=hfin
  have hl40:x.l.length≤40:=by
   by_cases h:f.kind=11
   ·have:=(J.fuel.1 (decide_eq_true h)).2.1;omega
   ·have:=(J.fuel.2 (decide_eq_false h)).2;omega
  have hrx:res=(x.l,0):=by
   have hj:=J.res
   cases n with
   | zero =>
     by_cases h:f.kind=11
     ·have:=J.fuel.1 (decide_eq_true h);omega
     ·have:=(J.fuel.2 (decide_eq_false h)).1;omega
   | succ n =>
     unfold zFn at hj
     rw[hfin] at hj
     exact hj.symm
  rw[hrx]
  refine zQO (zQN (CM.of ?_))
  repeat' (first|refine yT ?_|refine y7 sg H ?_|(refine y11 sg H ?_;intro w H)|refine yU ?_|fail)
  exact zJs H (Up.there Up.here) (fun w' H'=>⟨[_,_],⟨zy sg rfl H'.mem qB rfl rfl,zy sg rfl H'.mem qB rfl rfl,trivial⟩,_,O++N,rfl,⟨a,cp,q,rfl,J.own.sl (List.subset_append_left _ _) (fun _ _=>rfl) qO,fun j hj=>(J.evs j hj).mono (zz8 _ _)⟩,H'.sub (List.Sublist.cons _ (List.Sublist.cons _ (List.Sublist.cons _ (List.Sublist.cons _ (List.Sublist.cons _ (List.Sublist.cons _ (List.Sublist.cons _ (List.Sublist.refl _)))))))) ⟩)
 ·rintro D lo M w ⟨e,x,y,R,rfl,rfl⟩ H
  simp only[List.cons_append,List.append_nil] at H
  show zK1 _ _ _ _ _ _
  exact zJs H (Up.there Up.here) (fun w' H'=>⟨[_,_],⟨zy sg rfl H'.mem qB rfl rfl,zy sg rfl H'.mem qB rfl rfl,trivial⟩,_,[],rfl,zNS e,H'.sub (zz9 _)⟩)
theorem zUq {e:Evt}(hv:e.v=3)(hm:zCE e=true):zGZ e:=by
 have ev:=zN9 hv hm
 refine⟨by omega,by have:=ev.kind;omega,fun t ht=>?_⟩
 unfold zCE at hm
 split at hm
 ·cases hm
 ·rename_i l tx _
  simp only[Bool.and_eq_true] at hm
  have h2:=hm.2
  cases tx with
  | false =>
    simp only[Bool.false_eq_true,if_false,beq_iff_eq] at h2
    rw[List.eq_nil_of_length_eq_zero h2] at ht;cases ht
  | true =>
    simp only[if_true,Bool.and_eq_true,beq_iff_eq] at h2
    obtain⟨t0,h3⟩:=List.length_eq_one_iff.1 h2.1
    rw[h3] at h2 ht
    rw[List.mem_singleton.1 ht]
    have h4:=h2.2
    simp only[List.getD_cons_zero] at h4
    unfold zAI at h4
    simp only[Bool.and_eq_true,decide_eq_true_eq] at h4
    have:=h4.1.2
    omega
theorem zKY {s:Sta}{c:Cmd}{l:List Evt}(h:zBC s c=(l,0)):Good s∧Good (zDi s l).1∧∀ e∈l,zGZ e:=by
 obtain⟨f,t,y,h⟩:=zKW h
 exact⟨h.good,by rw[(h.all).1];exact(h.all).2.1,fun e he=>zUq ((h.all).2.2.2.2 e he).1 ((h.all).2.2.2.2 e he).2⟩
theorem zTG {l:List Cmd}{k:Nat}(hk:k<l.length)(s:Sta)(e:Int):zDs s e (l.drop k)=if (zBC s (cm_ l k)).2≠0 then zDs s (zBC s (cm_ l k)).2 (l.drop (k+1)) else if (zDi s (zBC s (cm_ l k)).1).2.2≠0 then(s,(zDi s (zBC s (cm_ l k)).1).2.2) else zDs (zDi s (zBC s (cm_ l k)).1).1 0 (l.drop (k+1)):=by
 have e1:cm_ l k=l[k]:=by unfold cm_;rw[List.getD_eq_getElem?_getD,List.getElem?_eq_getElem hk];rfl
 rw[List.drop_eq_getElem_cons hk,e1]
 rfl
theorem cm_mem {l:List Cmd}{k:Nat}(hk:k<l.length):cm_ l k∈l:=by
 unfold cm_;rw[List.getD_eq_getElem?_getD,List.getElem?_eq_getElem hk];exact List.getElem_mem hk
def RunR (r:Sta × Int)(M:zC)(v:Value):Prop:=∃ p,v=.tuple #[.agg (r.1.cells p).toArray,.int .i64 r.2]∧StaM M r.1 p∧Good r.1
structure RI where
 k:Nat
 s:Sta
 p:SPt
 e:Int
 N:zC
theorem c_run {F:zC}{a:Option Addr}{cap:Nat}(l:List Cmd)(q:Nat→CPt)(hT:∀ c∈l,zDr c)(w0:World)(hF:Mem w0 F)(hP:PriM F)(hK:KinM F)(hC:ComM F)(hl:CmsM F a cap l q) :
  Calls Tryz.prog 15 [.slice a l.length cap].toArray w0 (zi (RunR (zDs zBJ 0 l)) w0):=by
 obtain⟨⟨hn1,hc1,k1,off1,cs1,T1,fr1,hs1⟩,hi⟩:=hl
 refine enter [.cell 2 48,.tmp 3] Tryz.func15 rfl Tryz.ntmps15 rfl rfl ?_
 have H:=zA w0
 repeat' (first|refine yT ?_|(refine y10 sg H ?_;intro b w H)|(refine y11 sg H ?_;intro w H)|(refine' y30 ent17 ?_ ?_;rotate_left;exact zRf _;refine w2 H ?_;clear H;intro w H)|refine yU ?_|with_reducible apply zB|fail)
 refine CW.named (fun en1 w=>∃ b2 b4 en',en1=ovl [(0,.slice a l.length cap),(2,.pointer (some ⟨b2,0,none⟩)),(3,.int .i64 0),(4,.pointer (some ⟨b4,0,none⟩)),(5,.int .i64 0),(6,.int .i64 0)] en'∧St w0 [cb b4 (zBJ.cells SPt.n0) 48,cb b2 (zCz.cells SPt.n0) 48] w) ⟨_,_,_,zAE rfl (zAE rfl (zAE rfl (zA0 rfl rfl rfl))),H⟩ ?_
 clear H
 rintro _ w ⟨b2,b4,en',rfl,H⟩
 refine zI [(3,3),(5,10),(12,40)] (fun x:RI=>[(5,.int .i64 x.e),(6,.int .i64 (x.k:Int))]) (fun x w=>x.k≤l.length∧zDs zBJ 0 l=zDs x.s x.e (l.drop x.k)∧StaM x.N x.s x.p∧Good x.s∧St w0 (cb b4 (x.s.cells x.p) 48::cb b2 (zCz.cells SPt.n0) 48::x.N) w) (fun x=>l.length - x.k) ⟨0,zBJ,SPt.n0,0,[]⟩ ⟨rfl,rfl,trivial⟩ ⟨zzD _,rfl,⟨SlA.nil,SlA.nil,SlA.nil,SlA.nil,SlA.nil,fun j hj=>absurd hj (zzE _)⟩,good_e,H⟩ ?_
 clear H
 rintro⟨k,s,p,e,N⟩ gh w ⟨hk,hrun,hst,gs,H⟩
 simp only at hk hrun hst gs H ⊢
 by_cases hlt:k<l.length
 rotate_left
 ·obtain rfl:k=l.length:=by omega
  have d5:decide ((l.length:Int)<(l.length:Int))=false:=decide_eq_false qO
  rw[List.drop_length] at hrun
  have hr:zDs zBJ 0 l=(s,e):=hrun
  rw[hr]
  repeat' (first|refine yT ?_|refine y7 sg H ?_|(refine y11 sg H ?_;intro w H)|refine yU ?_|(refine y23 ?_ ?_;all_goals(intro h;try (exfalso;first|((cases d5.symm.trans h);done))))|fail)
  exact zq (vs:=[_,_]) (M:=N) ⟨zy sg rfl H.mem qB rfl rfl,zb rfl,trivial⟩ (H.sub (List.Sublist.cons _ (List.Sublist.cons _ (List.Sublist.refl _)))) ⟨p,rfl,hst,gs⟩
 have d5:decide ((k:Int)<(l.length:Int))=true:=decide_eq_true qO
 rw[zTG hlt] at hrun
 have hcT:zDr (cm_ l k):=hT _ (cm_mem hlt)
 have hNc:Ints F (q k).1 (q k).2 (cm_ l k).nums:=hi k hlt
 have hs1F:=hs1.mono (show F⊆cb b4 (s.cells p) 48::F from fun x hx=>zz4 _ hx)
 obtain⟨es,ce,hcmd⟩:∃ es ce,zBC s (cm_ l k)=(es,ce):=⟨_,_,rfl⟩
 have hcom:=fun w (G:zC) (hG:Mem w (G++F)) (hs:N⊆G)=>zFO (s:=s) (p:=p) (c:=cm_ l k) (na:=(q k).1) (nc:=(q k).2) (zFo gs) hcT w hG (hP.mono (zz8 _ _)) (hK.mono (zz8 _ _)) (hC.mono (zz8 _ _)) (hst.mono fun x hx=>zz6 _ (hs hx)) (SlA.mono hNc (zz8 _ _))
 rw[hcmd] at hcom
 rw[hcmd] at hrun
 simp only at hrun
 repeat' (first|refine yT ?_|refine yU ?_|fail)
 refine CW.condT (congrArg Value.bool d5) ?_
 repeat' (first|refine yT ?_|(refine CW.regionL mixed 11 (z6s (x:=cb b4 (s.cells p) 48) H hF) [] ?_ ?_;exact rfl;refine w2 H ?_;clear H;intro w H;have qh:=z6s (x:=cb b4 (s.cells p) 48) H hF;refine' l1 0 qh ?_ ?_;rotate_left;(exact z3 sg);refine lT sg 1 qh ?_;refine lT sg 2 qh ?_;refine' l1 3 qh ?_ ?_;rotate_left;(exact(zQ sg hs1));refine' l1 4 qh ?_ ?_;rotate_left;(exact(fun w2 hM2=>zAn sg hs1F hM2 rfl rfl rfl rfl rfl qO)))|((with_reducible apply RL.nil);decide +kernel)|(refine lT sg 6 (z6s H hF) ?_)|(refine lT sg 7 (z6s H hF) ?_)|(refine lT sg 8 (z6s H hF) ?_)|(refine lT sg 9 (z6s H hF) ?_)|(refine lT sg 10 (z6s H hF) ?_)|refine l2 5 ?_|(refine l5 (z6s H hF) ?_)|(refine' y32 zFu ?_ ?_;rotate_left;exact hcom _ _ (H.all hF) (fun x hx=>by simp[hx]);intro v M2 w hR hS;replace H:=H.addR hS;clear hS;(try simp only[List.cons_append,List.nil_append] at H);obtain⟨ae,cape,qe,rfl,hE⟩:=hR)|refine yU ?_|with_reducible apply zB|fail)
 by_cases h7:ce=0
 rotate_left
 ·have d7:(ce != 0)=true:=by simpa using h7
  rw[if_pos h7] at hrun
  refine CW.condT (congrArg Value.bool d7) ?_
  repeat' (first|refine yT ?_|refine yU ?_|fail)
  refine zF ⟨k+1,s,p,ce,N++M2⟩ rfl ⟨rfl,zf qO,trivial⟩ ⟨hlt,hrun,hst.mono (List.subset_append_left _ _),gs,H⟩ (by show l.length - (k+1)<l.length - k;omega)
 have d7:(ce != 0)=false:=by simpa using h7
 rw[if_neg (fun h=>h h7)] at hrun
 subst h7
 obtain⟨_,gt,hev⟩:=zKY hcmd
 have hall:=fun w (G:zC) (hG:Mem w (G++F)) (hs:N⊆G) (h2:M2⊆G)=>zNM (s:=s) (p:=p) (zFo gs) es qe hev w hG (hP.mono (zz8 _ _)) (hK.mono (zz8 _ _)) (hst.mono fun x hx=>zz6 _ (hs hx)) (hE.mono fun x hx=>zz6 _ (h2 hx))
 obtain⟨t,n,e2,hal⟩:∃ t n e2,zDi s es=(t,n,e2):=⟨_,_,_,rfl⟩
 rw[hal] at hall hrun gt
 simp only at hrun
 refine CW.condF (congrArg Value.bool d7) ?_
 repeat' (first|refine yT ?_|refine y7 sg H ?_|(refine y10 sg H ?_;intro b w H)|(refine y11 sg H ?_;intro w H)|(refine' y32 zQX ?_ ?_;rotate_left;exact hall _ _ (H.all hF) (fun x hx=>by simp[hx]) (fun x hx=>by simp[hx]);intro v M3 w hR hS;replace H:=H.addR hS;clear hS;(try simp only[List.cons_append,List.nil_append] at H);obtain⟨p3,Ma,Mi,Mu,R,rfl,rfl,hC3⟩:=hR)|refine yU ?_|fail)
 by_cases h8:e2=0
 rotate_left
 ·have d8:(e2 != 0)=true:=by simpa using h8
  rw[if_pos h8] at hrun
  refine CW.condT (congrArg Value.bool d8) ?_
  rw[hrun]
  repeat' (first|refine yT ?_|refine y7 sg H ?_|(refine y11 sg H ?_;intro w H)|refine yU ?_|fail)
  exact zq (vs:=[_,_]) (M:=N) ⟨zy sg rfl H.mem qB rfl rfl,zb rfl,trivial⟩ (H.sub (List.Sublist.cons _ (List.Sublist.cons _ (List.Sublist.cons _ ((List.sublist_append_left _ _).trans (List.sublist_append_left _ _)))))) ⟨p,rfl,hst,gs⟩
 have d8:(e2 != 0)=false:=by simpa using h8
 rw[if_neg (fun h=>h h8)] at hrun
 refine CW.condF (congrArg Value.bool d8) ?_
 repeat' (first|refine yT ?_|refine y7 sg H ?_|(refine y11 sg H ?_;intro w H)|refine yU ?_|fail)
 refine zF ⟨k+1,t,p3,0,(N++M2)++(Ma++(Mi++(Mu++R)))⟩ rfl ⟨rfl,zf qO,trivial⟩ ⟨hlt,hrun,(hC3.sta (zDR gt)).mono (zz8 _ _),gt,?_⟩ (by show l.length - (k+1)<l.length - k;omega)
 exact H.sub (zz7 _ _)
theorem zGu {F:zC}{a a2 na:Option Addr}{cap cap2 nc:Nat}(l:List Cmd)(q:Nat→CPt)(hT:∀ c∈l,zDr c)(c:Cmd)(hc:zDr c)(want:List Evt)(q2:Nat→EPt){r:Bool}(hr:((zBC (zDs zBJ 0 l).1 c).2==0&&zHH (zBC (zDs zBJ 0 l).1 c).1 want)=r)(w0:World)(hF:Mem w0 F)(hP:PriM F)(hK:KinM F)(hC:ComM F)(hl:CmsM F a cap l q)(hN:Ints F na nc c.nums)(hw:EvsM F a2 cap2 want q2) :
  Calls Tryz.prog 13 [.slice a l.length cap,.agg (c.cells na nc).toArray,.slice a2 want.length cap2].toArray w0 (Ret (.bool r) w0):=by
 subst hr
 have hrun:=fun w (h1:Mem w F)=>c_run l q hT w h1 hP hK hC hl
 obtain⟨s,k,hs⟩:∃ s k,zDs zBJ 0 l=(s,k):=⟨_,_,rfl⟩
 rw[hs] at hrun ⊢
 obtain⟨es,e,he⟩:∃ es e,zBC s c=(es,e):=⟨_,_,rfl⟩
 have hcom:=fun w (G:zC) (p:SPt) (gs:Good s) (hG:Mem w (G++F)) (hs:StaM (G++F) s p)=>zFO (s:=s) (p:=p) (c:=c) (na:=na) (nc:=nc) (zFo gs) hc w hG (hP.mono (zz8 _ _)) (hK.mono (zz8 _ _)) (hC.mono (zz8 _ _)) hs (SlA.mono hN (zz8 _ _))
 rw[he] at hcom
 simp only[he]
 have hsm:=fun w (G:zC) (ae:Option Addr) (ce:Nat) (qe:Nat→EPt) (hG:Mem w (G++F)) (hE:EvsM (G++F) ae ce es qe)=>c_same es want qe q2 w hG hE (hw.mono (zz8 _ _))
 refine enter [.tmp 6] Tryz.func13 rfl Tryz.ntmps13 rfl rfl ?_
 have H:=zA w0
 cases d1:e==0 with
 | true =>
   repeat' (first|refine yT ?_|refine y7 sg H ?_|(refine y9 H ?_;intro b w H)|(refine y10 sg H ?_;intro b w H)|(refine y11 sg H ?_;intro w H)|(refine' y32 ent15 ?_ ?_;rotate_left;exact hrun _ (H.memF hF);intro v M w hR hS;replace H:=H.addR hS;clear hS;(try simp only[List.cons_append,List.nil_append] at H);obtain⟨p,rfl,hst,gs⟩:=hR)|(refine' y32 zFu ?_ ?_;rotate_left;exact hcom _ _ _ gs (H.all hF) (hst.mono fun x hx=>by simp[hx]);intro v M2 w hR hS;replace H:=H.addR hS;clear hS;(try simp only[List.cons_append,List.nil_append] at H);obtain⟨ae,cape,qe,rfl,hE⟩:=hR)|(refine' y30 ent33 ?_ ?_;rotate_left;exact hsm _ _ _ _ _ (H.all hF) (hE.mono fun x hx=>by simp[hx]);refine w2 H ?_;clear H;intro w H)|refine yU ?_|(refine y17 ?_ ?_;all_goals(intro h;try (exfalso;first|((cases d1.symm.trans h);done))))|fail)
   exact zP rfl H.cl rfl
 | false =>
   repeat' (first|refine yT ?_|refine y7 sg H ?_|(refine y9 H ?_;intro b w H)|(refine y10 sg H ?_;intro b w H)|(refine y11 sg H ?_;intro w H)|(refine' y32 ent15 ?_ ?_;rotate_left;exact hrun _ (H.memF hF);intro v M w hR hS;replace H:=H.addR hS;clear hS;(try simp only[List.cons_append,List.nil_append] at H);obtain⟨p,rfl,hst,gs⟩:=hR)|(refine' y32 zFu ?_ ?_;rotate_left;exact hcom _ _ _ gs (H.all hF) (hst.mono fun x hx=>by simp[hx]);intro v M2 w hR hS;replace H:=H.addR hS;clear hS;(try simp only[List.cons_append,List.nil_append] at H);obtain⟨ae,cape,qe,rfl,hE⟩:=hR)|refine yU ?_|(refine y17 ?_ ?_;all_goals(intro h;try (exfalso;first|((cases d1.symm.trans h);done))))|fail)
   exact zP rfl H.cl rfl
def zOq:List Value→List EPt
 | _::_::.slice a _ c::.slice b _ d::r=>⟨a,c,b,d⟩::zOq r
 | _=>[]
theorem zKZ {F:zC}{b:Nat}{T:TypeId}{cs:List Value}(l:List Evt)(h:cb b cs T∈F)(hE:EvL F l (zOq cs))(hx:cs=(l.zip (zOq cs)).flatMap (fun x=>x.1.cells x.2):=by rfl)(hc:cs.length=l.length*4:=by rfl)(hl:l.length≤1000:=by decide):EvsM F (some ⟨b,0,none⟩) l.length l (ept_ (zOq cs)):=by
 have o:=Go.Sk.Own.mk (g:=b) (cs:=cs) (E:=T) (size:=4) (zzC l.length) (by unfold maxLen;omega) hc
 rw[List.take_of_length_le (Nat.le_of_eq hc)] at o
 have hx2:=hx.trans (zIY hE)
 rw[hx2] at o
 exact⟨o.sl (fun p hp=>by rw[List.mem_singleton.1 hp,← hx2];exact h) (fun _ _=>rfl) qO,zNR hE⟩
theorem zIZ (k:Int)(n:List Int)(hk:0≤k∧k≤255):zDr (cmF k n):=⟨hk,by show ByteArray.empty.size≤_;decide⟩
theorem zOr:∀ c∈zGk,zDr c:=by
 intro c hc
 have:∀ c∈zGk,(decide (0≤c.kind)&&decide (c.kind≤255)&&decide (c.text.size≤140737488355328))=true:=by decide +kernel
 have h:=this c hc
 simp only[Bool.and_eq_true,decide_eq_true_eq] at h
 exact h
theorem app_T {l m:List Cmd}(h1:∀ c∈l,zDr c)(h2:∀ c∈m,zDr c):∀ c∈l++m,zDr c:=fun c hc=>(List.mem_append.1 hc).elim (h1 c) (h2 c)
theorem wkL_T:∀ c∈wkL,zDr c:=app_T zOr fun c hc=>by rw[List.mem_singleton.1 hc];exact zIZ _ _ (by decide)
theorem wkM_T:∀ c∈wkM,zDr c:=app_T zOr fun c hc=>by
 rcases List.mem_cons.1 hc with rfl|hc
 ·exact zIZ _ _ (by decide)
 rcases List.mem_cons.1 hc with rfl|hc
 ·exact zIZ _ _ (by decide)
 rw[List.mem_singleton.1 hc];exact zIZ _ _ (by decide)
theorem wk_3:(((zBC (zDs zBJ 0 wkL).1 (cmF 11 [2,1,1,12,5])).2==0&&zHH (zBC (zDs zBJ 0 wkL).1 (cmF 11 [2,1,1,12,5])).1 [evF 11 [2,2,1,1,12,5],evF 13 [2,1,11,3,0]])=true∧((zBC (zDs zBJ 0 wkM).1 (cmF 14 [3,2,60])).2==0&&zHH (zBC (zDs zBJ 0 wkM).1 (cmF 14 [3,2,60])).1 [evF 15 [2,3,60]])=true)∧((zBC (zDs zBJ 0 wkM).1 (cmF 17 [20])).2==0&&zHH (zBC (zDs zBJ 0 wkM).1 (cmF 17 [20])).1 [evF 20 [20],evF 19 [1],evF 18 [2,2,50,0]])=true:=by
 have h:=wk_b
 unfold wkB at h
 rw[Bool.and_eq_true,Bool.and_eq_true] at h
 exact h
theorem subX {M X L F:zC}(h1:M⊆L)(h2:X⊆L):M++(X++F)⊆L++F:=fun x hx=>(List.mem_append.1 hx).elim (fun h=>zz6 _ (h1 h)) fun h=>(List.mem_append.1 h).elim (fun h=>zz6 _ (h2 h)) (zz3 _)
theorem zOs {F:zC}(w0:World)(hF:Mem w0 F)(hP:PriM F)(hK:KinM F)(hC:ComM F):Calls Tryz.prog 7 [].toArray w0 (Ret (.bool true) w0):=by
 obtain⟨⟨e1,e2⟩,e3⟩:=wk_3
 refine enter [.tmp 0] Tryz.func7 rfl Tryz.ntmps7 rfl rfl ?_
 have H:=zA w0
 repeat' (first|refine yT ?_|((with_reducible apply OX.buildA sg H);(iterate 12 exact rfl);intro b w H _)|(refine z14 sg H ?_;intro b w H)|(refine' y30 ent10 ?_ ?_;rotate_left;exact zIF _;refine w2 H ?_;clear H;intro w H)|(refine' y30 ent12 ?_ ?_;rotate_left;exact zSD _;refine w2 H ?_;clear H;intro w H)|(refine' y32 ent9 ?_ ?_;rotate_left;exact zUH _;intro v M w hR hS;replace H:=H.addR hS;clear hS;(try simp only[List.cons_append,List.nil_append] at H);obtain⟨a0,q0,rfl,hb⟩:=hR)|(refine' y32 ent8 ?_ ?_;rotate_left;exact zSF _ (H.all hF) (hb.mono fun x hx=>by simp[hx]) (zKH [cmF 11 [1,1,2,11,3]] (zz2 _) ⟨zAl [1,1,2,11,3] (by decide) qC,trivial⟩) (by decide) (by decide);intro v M1 w hR hS;replace H:=H.addR hS;clear hS;(try simp only[List.cons_append,List.nil_append] at H);obtain⟨a1,c1,rfl,hl⟩:=hR)|(refine' y32 ent8 ?_ ?_;rotate_left;exact zSF _ (H.all hF) (hb.mono fun x hx=>by simp[hx]) (zKH [cmF 13 [1,1,5,10,2,15],cmF 13 [1,1,5,10,2,18],cmF 14 [2,2,50]] (zz2 _) ⟨zAl [1,1,5,10,2,15] (by decide) qC,zAl [1,1,5,10,2,18] (by decide) qC,zAl [2,2,50] (by decide) qC,trivial⟩) (by decide) (by decide);intro v M2 w hR hS;replace H:=H.addR hS;clear hS;(try simp only[List.cons_append,List.nil_append] at H);obtain⟨a2,c2,rfl,hm⟩:=hR)|(refine' y30 zQW ?_ ?_;rotate_left;exact zGu wkL _ wkL_T (cmF 11 [2,1,1,12,5]) (zIZ _ _ (by decide)) [evF 11 [2,2,1,1,12,5],evF 13 [2,1,11,3,0]] _ e1 _ (H.all hF) (hP.mono (zz8 _ _)) (hK.mono (zz8 _ _)) (hC.mono (zz8 _ _)) (hl.mono (subX (fun x hx=>by simp[hx]) (by intro x hx;simp only[List.mem_cons,List.mem_append] at hx;rcases hx with hx|hx|hx<;>simp[hx]))) (zAl [2,1,1,12,5] (by decide) qC) (zKZ [evF 11 [2,2,1,1,12,5],evF 13 [2,1,11,3,0]] (zz2 _) ⟨zCi 11 [2,2,1,1,12,5] (by decide) qC,zCi 13 [2,1,11,3,0] (by decide) qC,trivial⟩);refine w2 H ?_;clear H;intro w H)|(refine' y30 zQW ?_ ?_;rotate_left;exact zGu wkM _ wkM_T (cmF 14 [3,2,60]) (zIZ _ _ (by decide)) [evF 15 [2,3,60]] _ e2 _ (H.all hF) (hP.mono (zz8 _ _)) (hK.mono (zz8 _ _)) (hC.mono (zz8 _ _)) (hm.mono (subX (fun x hx=>by simp[hx]) (by intro x hx;simp only[List.mem_cons,List.mem_append] at hx;rcases hx with hx|hx|hx|hx|hx|hx|((hx|hx)|hx)<;>simp[hx]))) (zAl [3,2,60] (by decide) qC) (zKZ [evF 15 [2,3,60]] (zz2 _) ⟨zCi 15 [2,3,60] (by decide) qC,trivial⟩);refine w2 H ?_;clear H;intro w H)|(refine' y30 zQW ?_ ?_;rotate_left;exact zGu wkM _ wkM_T (cmF 17 [20]) (zIZ _ _ (by decide)) [evF 20 [20],evF 19 [1],evF 18 [2,2,50,0]] _ e3 _ (H.all hF) (hP.mono (zz8 _ _)) (hK.mono (zz8 _ _)) (hC.mono (zz8 _ _)) (hm.mono (subX (fun x hx=>by simp[hx]) (by intro x hx;simp only[List.mem_cons,List.mem_append] at hx;rcases hx with hx|hx|hx|hx|hx|hx|((hx|hx)|hx)<;>simp[hx]))) (zAl [20] (by decide) qC) (zKZ [evF 20 [20],evF 19 [1],evF 18 [2,2,50,0]] (zz2 _) ⟨zCi 20 [20] (by decide) qC,zCi 19 [1] (by decide) qC,zCi 18 [2,2,50,0] (by decide) qC,trivial⟩);refine w2 H ?_;clear H;intro w H)|refine yU ?_|fail)
 exact zP rfl H.cl rfl
end Go.Proofs.YthbflajpdhgfiaaGreatDoor
