/- Texts of ours, joined: the steps of the proof, or the claim's theorem. -/
import Derived.LaidMore
import Derived.OpenShut
import Derived.ProofKit
import Derived.Stop.Joined
import Derived.Test.YtibmaifoaajllaaGreatDoorChecked
import Derived.Test.YtibmaifoaajllaaGreatDoorRows
import Derived.Test.YtibmaifoaajllaaGreatDoorQa46
set_option linter.unusedSimpArgs false
set_option linter.unusedVariables false
set_option maxHeartbeats 16000000
namespace Go.Proofs.YtibmaifoaajllaaGreatDoor
section
open Go Go.Sk Go.RowKit
attribute [local irreducible] Go.Calls
def EvL (F:zH):List Evt→List EPt→Prop
 | [],[]=>True
 | e::l,q::qs=>EvtM F e q∧EvL F l qs
 | _,_=>False
def ept_ (qs:List EPt)(j:Nat):EPt:=qs.getD j ⟨none,0,none,0⟩
theorem zSl {F:zH}:∀ {l:List Evt} {qs:List EPt},EvL F l qs→∀ j,j<l.length→EvtM F (ev_ l j) (ept_ qs j)
 | [],[],_,j,hj=>absurd hj (zzE j)
 | e::l,q::qs,h,0,_=>h.1
 | e::l,q::qs,h,j+1,hj=>by
   have:=zSl h.2 j (by simpa using hj)
   exact this
 | [],_::_,h,_,_=>h.elim
 | _::_,[],h,_,_=>h.elim
theorem zLl {F:zH}:∀ {l:List Evt} {qs:List EPt},EvL F l qs→(l.zip qs).flatMap (fun x=>x.1.cells x.2)=(List.range l.length).flatMap fun j=>(ev_ l j).cells (ept_ qs j)
 | [],[],_=>rfl
 | e::l,q::qs,h=>by
   rw[List.zip_cons_cons,List.flatMap_cons,zLl h.2,List.length_cons,List.range_succ_eq_map,List.flatMap_cons,List.flatMap_map]
   rfl
 | [],_::_,h=>h.elim
 | _::_,[],h=>h.elim
theorem EvsM.of {F M:zH}{a:Option Addr}{n cap:Nat}{T:TypeId}{xs:List Value}(l:List Evt)(qs:List EPt)(h:Go.Sk.Own M T 4 a n cap xs)(hM:M⊆F)(hE:EvL F l qs)(hn:n=l.length:=by rfl)(hx:xs=(l.zip qs).flatMap (fun x=>x.1.cells x.2):=by rfl)(hl:l.length≤1000:=by decide):EvsM F a cap l (ept_ qs):=by
 subst hn
 rw[hx,zLl hE] at h
 exact⟨h.sl hM (fun _ _=>rfl) (by omega),zSl hE⟩
theorem zOY (k:Int)(n:List Int)(hk:0≤k∧k≤255):zFq (evF k n):=⟨⟨(show(0:Int)≤3 by decide),(show(3:Int)≤255 by decide)⟩,hk,fun t ht=>nomatch ht⟩
theorem evt_N (k:Int)(t:ByteArray)(n:List Int)(hk:0≤k∧k≤255)(ht:t.size≤1000):zFq (evN k t n):=⟨⟨(show(0:Int)≤3 by decide),(show(3:Int)≤255 by decide)⟩,hk,fun x hx=>by
 rw[List.mem_singleton.1 hx];omega⟩
theorem zG4 {s:Sta}(h:Good s):StaW s:=by
 have h1:=zCo h
 have h2:=zEz h
 have hn:∀ {l:List ByteArray},zBZ l=true→∀ x∈l,x.size≤140737488355328:=fun g x hx=>by
  have h:=(zGv _).1 g |>.1 x hx
  unfold zAR at h
  simp only[Bool.and_eq_true,decide_eq_true_eq] at h
  have:=h.1.2
  omega
 refine⟨by omega,fun k hk=>?_,by omega,fun k hk=>?_,zOO h⟩
 ·exact hn (zB8.1 h.accts).2 _ (List.mem_map.2 ⟨_,zAK _ hk,rfl⟩)
 ·exact hn (zB9.1 h.insts).2.2 _ (List.mem_map.2 ⟨_,zAK _ hk,rfl⟩)
theorem good_e:Good zH5:=zAl.1 (by decide +kernel)
theorem lt_z:LtS zCt:=⟨zzD _,zzD _,zzD _,zzD _,zzD _,fun k hk=>absurd hk (zzE _)⟩
theorem AllR.sta {s:Sta}{k e:Int}{M:zH}{v:Value}(h:AllR (s,k,e) M v)(hL:LtS s):∃ p,v=.tuple #[.agg (s.cells p).toArray,.int .i64 k,.int .i64 e]∧StaM M s p:=by
 obtain⟨p,Ma,Mi,Mu,R,rfl,rfl,hC⟩:=h
 exact⟨p,rfl,hC.sta hL⟩
theorem StC.sta {s:Sta}{e:Int}{M:zH}{v:Value}(h:StC (s,e) M v)(hL:LtS s):∃ p,v=.tuple #[.agg (s.cells p).toArray,.int .i64 e]∧StaM M s p:=by
 obtain⟨p,Ma,Mi,Mu,R,rfl,rfl,hC⟩:=h
 exact⟨p,rfl,hC.sta hL⟩
theorem StC.any {s:Sta}{e:Int}{M:zH}{v:Value}(h:StC (s,e) M v):∃ p,v=.tuple #[.agg (s.cells p).toArray,.int .i64 e]:=by
 obtain⟨p,Ma,Mi,Mu,R,rfl,rfl,hC⟩:=h
 exact⟨p,rfl⟩
theorem zLm {F L N:zH}{s:Sta}{p:SPt}{bn len:Nat}{r:Sta × Int}(gs:Good s)(hs:StaM N s p)(k:Int)(n:List Int)(hr:zk s (evF k n)=r)(hk:0≤k∧k≤255)(hn:n.length≤1000)(hP:PriM F)(hK:KinM F)(w:World)(hG:Mem w (L++(N++F)))(hm:cb bn (n.map (Value.int .i64)) 2∈L)(hl:len=n.length:=by rfl) :
  Calls Tryz.prog 13 [.agg (s.cells p).toArray,.agg #[.int .u8 3,.int .u8 k,.slice (some ⟨bn,0,none⟩) len len,.slice none 0 0]].toArray w (zn (StC r) w):=by
 subst hr
 subst hl
 exact zDS (zG4 gs) (evF k n) ⟨some ⟨bn,0,none⟩,n.length,none,0⟩ (zOY k n hk) w hG (hP.mono fun x hx=>zz3 _ (zz3 _ hx)) (hK.mono fun x hx=>zz3 _ (zz3 _ hx)) (hs.mono fun x hx=>zz3 _ (zz6 _ hx)) (zEV k n hn (zz6 _ hm))
theorem zFO {F:zH}(w0:World)(hF:Mem w0 F)(hP:PriM F)(hK:KinM F):Calls Tryz.prog 12 [].toArray w0 (Ret (.bool true) w0):=by
 obtain⟨s,t,A⟩:=aw_f
 obtain⟨gs,gt⟩:=A.good
 have hall:=fun w (G:zH) (a:Option Addr) (cap:Nat) (q:Nat→EPt) (hG:Mem w (G++F)) (hM:EvsM (G++F) a cap awL q)=>zKV (s:=zH5) (p:=SPt.n0) (a:=a) (cap:=cap) (zG4 good_e) awL q (fun e he=>by
  unfold awL zRN at he
  simp only[List.mem_append,List.mem_cons,List.not_mem_nil,or_false] at he
  rcases he with (rfl|rfl|rfl|rfl|rfl)|(rfl|rfl)<;>first|exact zOY _ _ (by decide)|exact evt_N _ _ _ (by decide) (by decide)) w hG (hP.mono (zz8 _ _)) (hK.mono (zz8 _ _)) ⟨SlA.nil,SlA.nil,SlA.nil,SlA.nil,SlA.nil,fun j hj=>absurd hj (zzE _)⟩ hM
 rw[A.all] at hall
 refine enter [.tmp 0] Tryz.func12 rfl Tryz.ntmps12 rfl rfl ?_
 have H:=zB w0
 repeat' (first|refine yT ?_|refine y7 sg H ?_|refine y8 sg H ?_|(refine y9 H ?_;intro b w H)|(refine y10 sg H ?_;intro b w H)|(refine y11 sg H ?_;intro w H)|refine y12 ?_|((with_reducible apply OX.buildA sg H);exact rfl;exact rfl;exact rfl;exact rfl;exact rfl;exact rfl;exact rfl;exact rfl;exact rfl;exact rfl;exact rfl;exact rfl;intro b w H _)|(refine z14 sg H ?_;intro b w H)|(refine' y30 ent34 ?_ ?_;rotate_left;exact zK5 _;intro w hcl;replace H:=H.ext hcl;clear hcl)|(refine' y31 ent34 ?_ ?_;rotate_left;exact(fun _ hcl=>zK5 _))|(refine' y32 ent23 ?_ ?_;rotate_left;exact zUN _;intro v M w hR hS;replace H:=H.addR hS;clear hS;(try simp only[List.cons_append,List.nil_append] at H);obtain⟨b0,b1,b2,b3,b4,b5,t1,t2,t3,rfl,rfl⟩:=hR)|(refine' y30 zBJ ?_ ?_;rotate_left;exact zAA _;intro w hcl;replace H:=H.ext hcl;clear hcl)|(refine' y31 zBJ ?_ ?_;rotate_left;exact(fun _ hcl=>zAA _))|refine yU ?_|(refine y17 ?_ ?_;all_goals intro h)|(refine y18 ?_ ?_;all_goals intro h)|(with_reducible apply zL;intro w hcl;replace H:=H.ext hcl;clear hcl)|with_reducible apply zA|fail)
 rename_i n1 _ _ _ n2 _ _ _ _
 have hp:=H.perm (List.perm_middle (l₁:=[_,_,_]))
 simp only[List.cons_append,List.nil_append] at hp
 refine zo sg 4 56 (M:=[_]) hp rfl rfl rfl rfl rfl rfl rfl rfl rfl rfl rfl ⟨rfl,.inr ⟨_,_,rfl,rfl,zzC _,(show 5≤maxLen by unfold maxLen;decide),rfl,rfl⟩⟩ (zAM hp.mem (zz5 _ (zz2 _))) rfl (zAh rfl) (show 5+2≤maxLen by unfold maxLen;decide) (show(5+2)*56≤140737488355328 by decide) ?_
 clear hp H
 intro a2 c2 M2 w O2 H
 obtain⟨G,H2,e_b1,e_b2,e_b3,e_b4,e_b5,e_n1,e_n2,x_t1,x_t2,x_t3⟩:∃ G:zH,St w0 (M2++G) w∧cb b1 [.int .i64 1] 2∈G∧cb b2 [.int .i64 1,.int .i64 100] 2∈G∧cb b3 [.int .i64 2] 2∈G∧cb b4 [.int .i64 1,.int .i64 1,.int .i64 5] 2∈G∧cb b5 [.int .i64 2,.int .i64 1000] 2∈G∧cb n1 [.int .i64 1,.int .i64 1,.int .i64 1,.int .i64 2,.int .i64 100,.int .i64 5] 2∈G∧cb n2 [.int .i64 2,.int .i64 2,.int .i64 1,.int .i64 1,.int .i64 200,.int .i64 3] 2∈G∧cb t1 [.string ⟨#[97]⟩] 9∈G∧cb t2 [.string ⟨#[120]⟩] 9∈G∧cb t3 [.string ⟨#[98]⟩] 9∈G:=⟨_,H,qC,qC,qC,qC,qC,qC,qC,qC,qC,qC⟩
 clear H
 have H:=H2
 clear H2
 have hE2:EvsM (M2++G) a2 c2 awL _:=EvsM.of awL [⟨some ⟨b1,0,none⟩,1,some ⟨t1,0,none⟩,1⟩,⟨some ⟨b2,0,none⟩,2,some ⟨t2,0,none⟩,1⟩,⟨some ⟨b3,0,none⟩,1,some ⟨t3,0,none⟩,1⟩,⟨some ⟨b4,0,none⟩,3,none,0⟩,⟨some ⟨b5,0,none⟩,2,none,0⟩,⟨some ⟨n1,0,none⟩,6,none,0⟩,⟨some ⟨n2,0,none⟩,6,none,0⟩] O2 (List.subset_append_left _ _) ⟨zKI 1 _ [1] (by decide) (zz3 _ e_b1) (zz3 _ x_t1),zKI 3 _ [1,100] (by decide) (zz3 _ e_b2) (zz3 _ x_t2),zKI 1 _ [2] (by decide) (zz3 _ e_b3) (zz3 _ x_t3),zEV 8 [1,1,5] (by decide) (zz3 _ e_b4),zEV 6 [2,1000] (by decide) (zz3 _ e_b5),zEV 11 [1,1,1,2,100,5] (by decide) (zz3 _ e_n1),zEV 11 [2,2,1,1,200,3] (by decide) (zz3 _ e_n2),trivial⟩
 clear e_b1 e_b2 e_b3 e_b4 e_b5 e_n1 e_n2 x_t1 x_t2 x_t3 O2
 generalize M2++G=N0 at *
 repeat' (first|refine yT ?_|refine y7 sg H ?_|refine y8 sg H ?_|(refine y9 H ?_;intro b w H)|(refine y10 sg H ?_;intro b w H)|(refine y11 sg H ?_;intro w H)|refine y12 ?_|(refine' y32 zNW ?_ ?_;rotate_left;exact hall _ N0 _ _ _ (H.all hF) (hE2.mono (List.subset_append_left _ _));intro v M w hR hS;replace H:=H.addR hS;clear hS;(try simp only[List.cons_append,List.nil_append] at H);obtain⟨p1,rfl,hs1⟩:=AllR.sta hR (zDf gs))|refine yU ?_|(refine y17 ?_ ?_;all_goals intro h)|(refine y18 ?_ ?_;all_goals intro h)|(with_reducible apply zL;intro w hcl;replace H:=H.ext hcl;clear hcl)|with_reducible apply zA|fail)
 have d1:((lgR s.rows 2 0).held != 600)=false:=by rw[A.held];rfl
 repeat' (first|refine yT ?_|refine y7 sg H ?_|refine y8 sg H ?_|(refine y9 H ?_;intro b w H)|(refine y10 sg H ?_;intro b w H)|(refine y11 sg H ?_;intro w H)|refine y12 ?_|(refine' y30 zDs ?_ ?_;rotate_left;exact zEv s.rows 2 0 _ H.mem (SlA.mono hs1.rw qS);intro w hcl;replace H:=H.ext hcl;clear hcl)|(refine' y31 zDs ?_ ?_;rotate_left;exact(fun _ hcl=>zEv s.rows 2 0 _ (H.ext hcl).mem (SlA.mono hs1.rw qS)))|refine yU ?_|(refine y17 ?_ ?_;all_goals(intro h;try (exfalso;first|((exact absurd h (by decide));done)|((cases d1.symm.trans h);done))))|(refine y18 ?_ ?_;all_goals(intro h;try (exfalso;first|((exact absurd h (by decide));done)|((cases d1.symm.trans h);done))))|(with_reducible apply zL;intro w hcl;replace H:=H.ext hcl;clear hcl)|with_reducible apply zA|(refine y23 ?_ ?_;all_goals(intro h;try (exfalso;first|((exact absurd h (by decide));done)|((cases d1.symm.trans h);done))))|fail)
 have H9:St w0 (cb b (s.cells p1) 28::(N0++M)) w:=H
 obtain⟨N,hN,hbs,hss⟩:∃ N:zH,St w0 N w∧cb b (s.cells p1) 28∈N∧StaM N s p1:=⟨_,H9,zz2 _,hs1.mono qS⟩
 clear H H9 hs1 hE2 hR d1
 have H:=hN
 clear hN
 obtain⟨x5,h5⟩:∃ x,zk s (evF 13 [2,1,200,3,0])=(x,46):=⟨_,Prod.ext rfl A.no1⟩
 obtain⟨x6,h6⟩:∃ x,zk t (evF 2 [1])=(x,47):=⟨_,Prod.ext rfl A.no2⟩
 obtain⟨x7,h7⟩:∃ x,zk t (evF 23 [1,50])=(x,46):=⟨_,Prod.ext rfl A.no3⟩
 obtain⟨x8,h8⟩:∃ x,zk t (evF 20 [0])=(x,4):=⟨_,Prod.ext rfl A.no4⟩
 have H0:=H
 have hF1:=H.all hF
 clear H
 obtain⟨w1,rfl⟩:∃ w1,w1=w:=⟨w,rfl⟩
 have H:=zB w1
 (try with_reducible apply zBW)
 refine CW.cutT (fun en w=>∃ bx px N' en',en=ovl [(1,.pointer (some ⟨b,0,none⟩)),(4,.pointer (some ⟨bx,0,none⟩)),(5,.int .i64 0)] en'∧St w0 N' w∧cb bx (t.cells px) 28∈N'∧N⊆N'∧StaM N' t px) ?_ ?_
 ·repeat' (first|refine yT ?_|refine y7 sg H ?_|refine y8 sg H ?_|(refine y9 H ?_;intro b w H)|(refine y10 sg H ?_;intro b w H)|(refine y11 sg H ?_;intro w H)|refine y12 ?_|((with_reducible apply OX.buildA sg H);exact rfl;exact rfl;exact rfl;exact rfl;exact rfl;exact rfl;exact rfl;exact rfl;exact rfl;exact rfl;exact rfl;exact rfl;intro b w H _)|(refine z14 sg H ?_;intro b w H)|(refine CW.regionL mixed 10 (H.memF hF1) [] ?_ ?_;exact rfl;intro w hcl;replace H:=H.ext hcl;clear hcl;refine' l1 0 (H.memF hF1) ?_ ?_;rotate_left;(first|exact z4 sg|exact(fun w2 hM2=>zG sg rfl rfl hM2 (zz6 _ hbs) rfl rfl)))|((with_reducible apply RL.nil);decide +kernel)|(refine' l1 4 (H.memF hF1) ?_ ?_;rotate_left;(first|exact z4 sg|exact(fun w2 hM2=>zG sg rfl rfl hM2 (zz6 _ hbs) rfl rfl)))|(refine' l1 5 (H.memF hF1) ?_ ?_;rotate_left;(first|exact z4 sg|exact(fun w2 hM2=>zG sg rfl rfl hM2 (zz6 _ hbs) rfl rfl)))|(refine' l1 6 (H.memF hF1) ?_ ?_;rotate_left;(first|exact z4 sg|exact(fun w2 hM2=>zG sg rfl rfl hM2 (zz6 _ hbs) rfl rfl)))|(refine' l1 9 (H.memF hF1) ?_ ?_;rotate_left;(first|exact z4 sg|exact(fun w2 hM2=>zG sg rfl rfl hM2 (zz6 _ hbs) rfl rfl)))|refine l2 1 ?_|refine l2 2 ?_|refine l2 3 ?_|refine l2 7 ?_|refine l2 8 ?_|refine l4 1 7 ?_ ?_|refine l4 2 7 ?_ ?_|refine l4 3 7 ?_ ?_|(refine l5 (H.memF hF1) ?_)|(refine' y30 zBJ ?_ ?_;rotate_left;exact zAA _;intro w hcl;replace H:=H.ext hcl;clear hcl)|(refine' y31 zBJ ?_ ?_;rotate_left;exact(fun _ hcl=>zAA _))|(refine' y32 zBr ?_ ?_;rotate_left;exact zLm gs hss 13 [2,1,100,3,0] A.trd (by decide) (by decide) hP hK _ (H.all hF1) qC;intro v M w hR hS;replace H:=H.addR hS;clear hS;(try simp only[List.cons_append,List.nil_append] at H);obtain⟨px,rfl,hx⟩:=StC.sta hR (zDf gt))|refine yU ?_|(refine y17 ?_ ?_;all_goals intro h)|(refine y18 ?_ ?_;all_goals intro h)|(with_reducible apply zL;intro w hcl;replace H:=H.ext hcl;clear hcl)|with_reducible apply zA|fail)
  all_goals exact⟨_,px,_,_,zAZ rfl rfl rfl,H0.addR H,zz3 _ qC,by intro q hq;simp[hq],hx.mono qS⟩
 clear H H0 hF1
 rintro _ w ⟨bt,pt,N',_,rfl,H,hbt,hsub,hst⟩
 replace hbs:=hsub hbs
 replace hss:=hss.mono hsub
 clear hsub
 obtain⟨N,rfl⟩:∃ N,N=N':=⟨N',rfl⟩
 have H0:=H
 have hF1:=H.all hF
 clear H
 obtain⟨w1,rfl⟩:∃ w1,w1=w:=⟨w,rfl⟩
 have H:=zB w1
 (try with_reducible apply zBW)
 refine CW.cutT (fun en w=>∃ N' en',en=ovl [(4,.pointer (some ⟨bt,0,none⟩)),(5,.int .i64 0),(7,.int .i64 46)] en'∧St w0 N' w∧N⊆N') ?_ ?_
 ·repeat' (first|refine yT ?_|refine y7 sg H ?_|refine y8 sg H ?_|(refine y9 H ?_;intro b w H)|(refine y10 sg H ?_;intro b w H)|(refine y11 sg H ?_;intro w H)|refine y12 ?_|((with_reducible apply OX.buildA sg H);exact rfl;exact rfl;exact rfl;exact rfl;exact rfl;exact rfl;exact rfl;exact rfl;exact rfl;exact rfl;exact rfl;exact rfl;intro b w H _)|(refine z14 sg H ?_;intro b w H)|(refine CW.regionL mixed 10 (H.memF hF1) [] ?_ ?_;exact rfl;intro w hcl;replace H:=H.ext hcl;clear hcl;refine' l1 0 (H.memF hF1) ?_ ?_;rotate_left;(first|exact z4 sg|exact(fun w2 hM2=>zG sg rfl rfl hM2 (zz6 _ hbs) rfl rfl)))|((with_reducible apply RL.nil);decide +kernel)|(refine' l1 4 (H.memF hF1) ?_ ?_;rotate_left;(first|exact z4 sg|exact(fun w2 hM2=>zG sg rfl rfl hM2 (zz6 _ hbs) rfl rfl)))|(refine' l1 5 (H.memF hF1) ?_ ?_;rotate_left;(first|exact z4 sg|exact(fun w2 hM2=>zG sg rfl rfl hM2 (zz6 _ hbs) rfl rfl)))|(refine' l1 6 (H.memF hF1) ?_ ?_;rotate_left;(first|exact z4 sg|exact(fun w2 hM2=>zG sg rfl rfl hM2 (zz6 _ hbs) rfl rfl)))|(refine' l1 9 (H.memF hF1) ?_ ?_;rotate_left;(first|exact z4 sg|exact(fun w2 hM2=>zG sg rfl rfl hM2 (zz6 _ hbs) rfl rfl)))|refine l2 1 ?_|refine l2 2 ?_|refine l2 3 ?_|refine l2 7 ?_|refine l2 8 ?_|refine l4 1 7 ?_ ?_|refine l4 2 7 ?_ ?_|refine l4 3 7 ?_ ?_|(refine l5 (H.memF hF1) ?_)|(refine' y30 zBJ ?_ ?_;rotate_left;exact zAA _;intro w hcl;replace H:=H.ext hcl;clear hcl)|(refine' y31 zBJ ?_ ?_;rotate_left;exact(fun _ hcl=>zAA _))|(refine' y32 zBr ?_ ?_;rotate_left;exact zLm gs hss 13 [2,1,200,3,0] h5 (by decide) (by decide) hP hK _ (H.all hF1) qC;intro v M w hR hS;replace H:=H.addR hS;clear hS;(try simp only[List.cons_append,List.nil_append] at H);obtain⟨px,rfl⟩:=StC.any hR)|refine yU ?_|(refine y17 ?_ ?_;all_goals intro h)|(refine y18 ?_ ?_;all_goals intro h)|(with_reducible apply zL;intro w hcl;replace H:=H.ext hcl;clear hcl)|with_reducible apply zA|fail)
  all_goals exact⟨_,_,zAZ rfl rfl rfl,H0.addR H,by intro q hq;simp[hq]⟩
 clear H H0 hF1
 rintro _ w ⟨N',_,rfl,H,hsub⟩
 replace hbt:=hsub hbt
 replace hst:=hst.mono hsub
 clear hsub
 obtain⟨N,rfl⟩:∃ N,N=N':=⟨N',rfl⟩
 have H0:=H
 have hF1:=H.all hF
 clear H
 obtain⟨w1,rfl⟩:∃ w1,w1=w:=⟨w,rfl⟩
 have H:=zB w1
 (try with_reducible apply zBW)
 refine CW.cutT (fun en w=>∃ N' en',en=ovl [(4,.pointer (some ⟨bt,0,none⟩)),(5,.int .i64 0),(7,.int .i64 46),(9,.int .i64 47)] en'∧St w0 N' w∧N⊆N') ?_ ?_
 ·repeat' (first|refine yT ?_|refine y7 sg H ?_|refine y8 sg H ?_|(refine y9 H ?_;intro b w H)|(refine y10 sg H ?_;intro b w H)|(refine y11 sg H ?_;intro w H)|refine y12 ?_|((with_reducible apply OX.buildA sg H);exact rfl;exact rfl;exact rfl;exact rfl;exact rfl;exact rfl;exact rfl;exact rfl;exact rfl;exact rfl;exact rfl;exact rfl;intro b w H _)|(refine z14 sg H ?_;intro b w H)|(refine CW.regionL mixed 10 (H.memF hF1) [] ?_ ?_;exact rfl;intro w hcl;replace H:=H.ext hcl;clear hcl;refine' l1 0 (H.memF hF1) ?_ ?_;rotate_left;(first|exact z4 sg|exact(fun w2 hM2=>zG sg rfl rfl hM2 (zz6 _ hbt) rfl rfl)))|((with_reducible apply RL.nil);decide +kernel)|(refine' l1 4 (H.memF hF1) ?_ ?_;rotate_left;(first|exact z4 sg|exact(fun w2 hM2=>zG sg rfl rfl hM2 (zz6 _ hbt) rfl rfl)))|(refine' l1 5 (H.memF hF1) ?_ ?_;rotate_left;(first|exact z4 sg|exact(fun w2 hM2=>zG sg rfl rfl hM2 (zz6 _ hbt) rfl rfl)))|(refine' l1 6 (H.memF hF1) ?_ ?_;rotate_left;(first|exact z4 sg|exact(fun w2 hM2=>zG sg rfl rfl hM2 (zz6 _ hbt) rfl rfl)))|(refine' l1 9 (H.memF hF1) ?_ ?_;rotate_left;(first|exact z4 sg|exact(fun w2 hM2=>zG sg rfl rfl hM2 (zz6 _ hbt) rfl rfl)))|refine l2 1 ?_|refine l2 2 ?_|refine l2 3 ?_|refine l2 7 ?_|refine l2 8 ?_|refine l4 1 7 ?_ ?_|refine l4 2 7 ?_ ?_|refine l4 3 7 ?_ ?_|(refine l5 (H.memF hF1) ?_)|(refine' y30 zBJ ?_ ?_;rotate_left;exact zAA _;intro w hcl;replace H:=H.ext hcl;clear hcl)|(refine' y31 zBJ ?_ ?_;rotate_left;exact(fun _ hcl=>zAA _))|(refine' y32 zBr ?_ ?_;rotate_left;exact zLm gt hst 2 [1] h6 (by decide) (by decide) hP hK _ (H.all hF1) qC;intro v M w hR hS;replace H:=H.addR hS;clear hS;(try simp only[List.cons_append,List.nil_append] at H);obtain⟨px,rfl⟩:=StC.any hR)|refine yU ?_|(refine y17 ?_ ?_;all_goals intro h)|(refine y18 ?_ ?_;all_goals intro h)|(with_reducible apply zL;intro w hcl;replace H:=H.ext hcl;clear hcl)|with_reducible apply zA|fail)
  all_goals exact⟨_,_,za rfl (zAZ rfl rfl rfl),H0.addR H,by intro q hq;simp[hq]⟩
 clear H H0 hF1
 rintro _ w ⟨N',_,rfl,H,hsub⟩
 replace hbt:=hsub hbt
 replace hst:=hst.mono hsub
 clear hsub
 obtain⟨N,rfl⟩:∃ N,N=N':=⟨N',rfl⟩
 have H0:=H
 have hF1:=H.all hF
 clear H
 obtain⟨w1,rfl⟩:∃ w1,w1=w:=⟨w,rfl⟩
 have H:=zB w1
 (try with_reducible apply zBW)
 refine CW.cutT (fun en w=>∃ N' en',en=ovl [(4,.pointer (some ⟨bt,0,none⟩)),(5,.int .i64 0),(7,.int .i64 46),(9,.int .i64 47),(11,.int .i64 46)] en'∧St w0 N' w∧N⊆N') ?_ ?_
 ·repeat' (first|refine yT ?_|refine y7 sg H ?_|refine y8 sg H ?_|(refine y9 H ?_;intro b w H)|(refine y10 sg H ?_;intro b w H)|(refine y11 sg H ?_;intro w H)|refine y12 ?_|((with_reducible apply OX.buildA sg H);exact rfl;exact rfl;exact rfl;exact rfl;exact rfl;exact rfl;exact rfl;exact rfl;exact rfl;exact rfl;exact rfl;exact rfl;intro b w H _)|(refine z14 sg H ?_;intro b w H)|(refine CW.regionL mixed 10 (H.memF hF1) [] ?_ ?_;exact rfl;intro w hcl;replace H:=H.ext hcl;clear hcl;refine' l1 0 (H.memF hF1) ?_ ?_;rotate_left;(first|exact z4 sg|exact(fun w2 hM2=>zG sg rfl rfl hM2 (zz6 _ hbt) rfl rfl)))|((with_reducible apply RL.nil);decide +kernel)|(refine' l1 4 (H.memF hF1) ?_ ?_;rotate_left;(first|exact z4 sg|exact(fun w2 hM2=>zG sg rfl rfl hM2 (zz6 _ hbt) rfl rfl)))|(refine' l1 5 (H.memF hF1) ?_ ?_;rotate_left;(first|exact z4 sg|exact(fun w2 hM2=>zG sg rfl rfl hM2 (zz6 _ hbt) rfl rfl)))|(refine' l1 6 (H.memF hF1) ?_ ?_;rotate_left;(first|exact z4 sg|exact(fun w2 hM2=>zG sg rfl rfl hM2 (zz6 _ hbt) rfl rfl)))|(refine' l1 9 (H.memF hF1) ?_ ?_;rotate_left;(first|exact z4 sg|exact(fun w2 hM2=>zG sg rfl rfl hM2 (zz6 _ hbt) rfl rfl)))|refine l2 1 ?_|refine l2 2 ?_|refine l2 3 ?_|refine l2 7 ?_|refine l2 8 ?_|refine l4 1 7 ?_ ?_|refine l4 2 7 ?_ ?_|refine l4 3 7 ?_ ?_|(refine l5 (H.memF hF1) ?_)|(refine' y30 zBJ ?_ ?_;rotate_left;exact zAA _;intro w hcl;replace H:=H.ext hcl;clear hcl)|(refine' y31 zBJ ?_ ?_;rotate_left;exact(fun _ hcl=>zAA _))|(refine' y32 zBr ?_ ?_;rotate_left;exact zLm gt hst 23 [1,50] h7 (by decide) (by decide) hP hK _ (H.all hF1) qC;intro v M w hR hS;replace H:=H.addR hS;clear hS;(try simp only[List.cons_append,List.nil_append] at H);obtain⟨px,rfl⟩:=StC.any hR)|refine yU ?_|(refine y17 ?_ ?_;all_goals intro h)|(refine y18 ?_ ?_;all_goals intro h)|(with_reducible apply zL;intro w hcl;replace H:=H.ext hcl;clear hcl)|with_reducible apply zA|fail)
  all_goals exact⟨_,_,za rfl (za rfl (zAZ rfl rfl rfl)),H0.addR H,by intro q hq;simp[hq]⟩
 clear H H0 hF1
 rintro _ w ⟨N',_,rfl,H,hsub⟩
 replace hbt:=hsub hbt
 replace hst:=hst.mono hsub
 clear hsub
 obtain⟨N,rfl⟩:∃ N,N=N':=⟨N',rfl⟩
 have H0:=H
 have hF1:=H.all hF
 clear H
 obtain⟨w1,rfl⟩:∃ w1,w1=w:=⟨w,rfl⟩
 have H:=zB w1
 (try with_reducible apply zBW)
 refine CW.cutT (fun en w=>∃ N' en',en=ovl [(4,.pointer (some ⟨bt,0,none⟩)),(5,.int .i64 0),(7,.int .i64 46),(9,.int .i64 47),(11,.int .i64 46),(13,.int .i64 4)] en'∧St w0 N' w∧N⊆N') ?_ ?_
 ·repeat' (first|refine yT ?_|refine y7 sg H ?_|refine y8 sg H ?_|(refine y9 H ?_;intro b w H)|(refine y10 sg H ?_;intro b w H)|(refine y11 sg H ?_;intro w H)|refine y12 ?_|((with_reducible apply OX.buildA sg H);exact rfl;exact rfl;exact rfl;exact rfl;exact rfl;exact rfl;exact rfl;exact rfl;exact rfl;exact rfl;exact rfl;exact rfl;intro b w H _)|(refine z14 sg H ?_;intro b w H)|(refine CW.regionL mixed 10 (H.memF hF1) [] ?_ ?_;exact rfl;intro w hcl;replace H:=H.ext hcl;clear hcl;refine' l1 0 (H.memF hF1) ?_ ?_;rotate_left;(first|exact z4 sg|exact(fun w2 hM2=>zG sg rfl rfl hM2 (zz6 _ hbt) rfl rfl)))|((with_reducible apply RL.nil);decide +kernel)|(refine' l1 4 (H.memF hF1) ?_ ?_;rotate_left;(first|exact z4 sg|exact(fun w2 hM2=>zG sg rfl rfl hM2 (zz6 _ hbt) rfl rfl)))|(refine' l1 5 (H.memF hF1) ?_ ?_;rotate_left;(first|exact z4 sg|exact(fun w2 hM2=>zG sg rfl rfl hM2 (zz6 _ hbt) rfl rfl)))|(refine' l1 6 (H.memF hF1) ?_ ?_;rotate_left;(first|exact z4 sg|exact(fun w2 hM2=>zG sg rfl rfl hM2 (zz6 _ hbt) rfl rfl)))|(refine' l1 9 (H.memF hF1) ?_ ?_;rotate_left;(first|exact z4 sg|exact(fun w2 hM2=>zG sg rfl rfl hM2 (zz6 _ hbt) rfl rfl)))|refine l2 1 ?_|refine l2 2 ?_|refine l2 3 ?_|refine l2 7 ?_|refine l2 8 ?_|refine l4 1 7 ?_ ?_|refine l4 2 7 ?_ ?_|refine l4 3 7 ?_ ?_|(refine l5 (H.memF hF1) ?_)|(refine' y30 zBJ ?_ ?_;rotate_left;exact zAA _;intro w hcl;replace H:=H.ext hcl;clear hcl)|(refine' y31 zBJ ?_ ?_;rotate_left;exact(fun _ hcl=>zAA _))|(refine' y32 zBr ?_ ?_;rotate_left;exact zLm gt hst 20 [0] h8 (by decide) (by decide) hP hK _ (H.all hF1) qC;intro v M w hR hS;replace H:=H.addR hS;clear hS;(try simp only[List.cons_append,List.nil_append] at H);obtain⟨px,rfl⟩:=StC.any hR)|refine yU ?_|(refine y17 ?_ ?_;all_goals intro h)|(refine y18 ?_ ?_;all_goals intro h)|(with_reducible apply zL;intro w hcl;replace H:=H.ext hcl;clear hcl)|with_reducible apply zA|fail)
  all_goals exact⟨_,_,za rfl (za rfl (za rfl (zAZ rfl rfl rfl))),H0.addR H,by intro q hq;simp[hq]⟩
 clear H H0 hF1
 rintro _ w ⟨N',_,rfl,H,hsub⟩
 replace hbt:=hsub hbt
 replace hst:=hst.mono hsub
 clear hsub
 obtain⟨N,rfl⟩:∃ N,N=N':=⟨N',rfl⟩
 have g1:=fun w (hG:Mem w N)=>zEv t.rows 1 0 w hG hst.rw
 have g2:=fun w (hG:Mem w N)=>zEv t.rows 1 1 w hG hst.rw
 have g3:=fun w (hG:Mem w N)=>zEv t.rows 2 0 w hG hst.rw
 have g4:=fun w (hG:Mem w N)=>zEv t.rows 2 1 w hG hst.rw
 rw[A.r1] at g1
 rw[A.r2] at g2
 rw[A.r3] at g3
 rw[A.r4] at g4
 have gf:=fun w (hG:Mem w N)=>zM7 (zG4 gt) (fun _=>(zx.1 gt.nums).2.1) 100 (by decide) w hG hst
 rw[if_pos (zAl.2 gt),A.fee] at gf
 have d2:((t.orders.length:Int)==1)=true:=by rw[A.ol];rfl
 have d3:((od_ t.orders 0).id==1)=true:=by rw[A.oi];rfl
 have hol:=A.ol
 obtain⟨hno,hco,bo,offo,cso,To,fro,hso⟩:=hst.od
 repeat' (first|refine yT ?_|refine y7 sg H ?_|refine y8 sg H ?_|(refine y9 H ?_;intro b w H)|(refine y10 sg H ?_;intro b w H)|(refine y11 sg H ?_;intro w H)|refine y12 ?_|refine z13 (zG sg rfl rfl H.mem hbt rfl rfl) ?_|((with_reducible apply zP);exact rfl;exact rfl;exact zG sg rfl rfl H.mem hbt rfl rfl)|(refine y40 sg (hso) ?_ ?_ ?_;(omega);(omega))|(refine y41 sg (hso) ?_ ?_ ?_;(omega);(omega))|refine z13 (Yq.loadB1 sg hso H.mem rfl rfl rfl rfl (show 0<t.orders.length by omega) rfl) ?_|((with_reducible apply zP);exact rfl;exact rfl;exact Yq.loadB1 sg hso H.mem rfl rfl rfl rfl (show 0<t.orders.length by omega) rfl)|(refine y44 sg (hso) (H.mem) ?_ ?_;(omega))|(refine y45 sg (hso) (H.mem) ?_ ?_;(omega))|(refine zf rfl rfl (Yq.eqlS sg (cs:=[.int .i64 _,.int .i64 _,.int .i64 _,.int .i64 _]) (ds:=[.int .i64 _,.int .i64 _,.int .i64 _,.int .i64 _]) zSj zSk rfl rfl rfl rfl rfl rfl rfl) ?_)|(refine' y30 zDs ?_ ?_;rotate_left;exact g1 _ H.mem;intro w hcl;replace H:=H.ext hcl;clear hcl)|(refine' y31 zDs ?_ ?_;rotate_left;exact(fun _ hcl=>g1 _ (H.ext hcl).mem))|(refine' y30 zDs ?_ ?_;rotate_left;exact g2 _ H.mem;intro w hcl;replace H:=H.ext hcl;clear hcl)|(refine' y31 zDs ?_ ?_;rotate_left;exact(fun _ hcl=>g2 _ (H.ext hcl).mem))|(refine' y30 zDs ?_ ?_;rotate_left;exact g3 _ H.mem;intro w hcl;replace H:=H.ext hcl;clear hcl)|(refine' y31 zDs ?_ ?_;rotate_left;exact(fun _ hcl=>g3 _ (H.ext hcl).mem))|(refine' y30 zDs ?_ ?_;rotate_left;exact g4 _ H.mem;intro w hcl;replace H:=H.ext hcl;clear hcl)|(refine' y31 zDs ?_ ?_;rotate_left;exact(fun _ hcl=>g4 _ (H.ext hcl).mem))|(refine' y30 zIu ?_ ?_;rotate_left;exact gf _ H.mem;intro w hcl;replace H:=H.ext hcl;clear hcl)|(refine' y31 zIu ?_ ?_;rotate_left;exact(fun _ hcl=>gf _ (H.ext hcl).mem))|refine yU ?_|(refine y17 ?_ ?_;all_goals(intro h;try (exfalso;first|((exact absurd h (by decide));done)|((cases d2.symm.trans h);done)|((cases d3.symm.trans h);done))))|(refine y18 ?_ ?_;all_goals(intro h;try (exfalso;first|((exact absurd h (by decide));done)|((cases d2.symm.trans h);done)|((cases d3.symm.trans h);done))))|(with_reducible apply zL;intro w hcl;replace H:=H.ext hcl;clear hcl)|refine y20 mixed ?_|with_reducible apply zA|(refine y23 ?_ ?_;all_goals(intro h;try (exfalso;first|((exact absurd h (by decide));done)|((cases d2.symm.trans h);done)|((cases d3.symm.trans h);done))))|fail)
 exact zQ rfl H.cl rfl
end
section
open Go Go.Sk Go.RowKit Go.ChangeShapes Go.WideShapes
abbrev zA4:List (String × DataW Unit):=[("souk/book.prices",Rows.laid_souk_book_prices),("souk/schema.kinds",Rows.laid_souk_schema_kinds)]
theorem zGZ {P:Program}{W:World}{n:String}{g:Nat}{cs:Array Value}(hg:P.globalNamed n=some g)(hv:W.var? P n=some cs):∃ T fr,(g,Obj.cells cs T fr)∈zEh W:=by
 simp only[World.var?,hg,Option.bind_some] at hv
 split at hv
 ·rename_i cs' T fr e
  cases hv
  exact⟨T,fr,zHn e⟩
 ·cases hv
section
variable {H:Type}{enc:TypeId × Value→H}{P:Program}{w:World}{base:Nat}{sp:Nat→Bool}{held:Bool}
theorem zHg {fuel:Nat}{t:TypeId}{cs:List Value}{x:DataW H × List MemPlace}{l:List UInt8}(ht:P.underlying t=some .string)(h:DataW.trod enc P w base sp held fuel t cs=some x)(hx:x.1=.lit (.string l)):cs=[.string ⟨l.toArray⟩]:=by
 obtain⟨s,rfl,rfl,_⟩:=DataW.trod_string ht h
 simp only[DataW.lit.injEq,Lit.string.injEq] at hx
 subst hx
 rfl
theorem zSm {fuel:Nat}{t:TypeId}{cs:List Value}{x:DataW H × List MemPlace}{b:Bool}(ht:P.underlying t=some .bool)(h:DataW.trod enc P w base sp held fuel t cs=some x)(hx:x.1=.lit (.bool b)):cs=[.bool b]:=by
 obtain⟨s,rfl,rfl⟩:=DataW.trod_bool ht h
 simp only[DataW.lit.injEq,Lit.bool.injEq] at hx
 subst hx
 rfl
theorem zUP {fuel:Nat}{t:TypeId}{ps rs:Array TypeId}{vd:Bool}{cs:List Value}{x:DataW H × List MemPlace}(ht:P.underlying t=some (.func ps rs vd))(h:DataW.trod enc P w base sp held fuel t cs=some x)(hx:x.1=.nil):cs=[.nilFunc]:=by
 cases fuel with
 | zero=>simp[DataW.trod] at h
 | succ m =>
   unfold DataW.trod at h
   rw[ht] at h
   split at h<;>simp_all
   obtain⟨_,rfl⟩:=h
   simp at hx
end
def kDat (r:KRow):DataW Unit:=.agg [.lit (.string (r.name.map UInt8.ofNat)),.agg [.lit (.string (r.f1.map UInt8.ofNat)),.lit (.string (r.f2.map UInt8.ofNat)),.lit (.string (r.f3.map UInt8.ofNat))],.lit (.bool r.text)]
theorem zPr:(Rows.laid_souk_schema_kinds:DataW Unit)=.agg ((List.range 23).map fun i=>kDat (zH7 i)):=by kernel_rfl
set_option maxRecDepth 20000 in
theorem zPs {w:World}{held:Bool}{fuel:Nat}{cs:List Value}{x:DataW Unit × List MemPlace}(r:KRow)(h:DataW.trod (fun _=>()) Tryz.prog w 0 (fun _=>true) held fuel 149 cs=some x)(hx:x.1=kDat r):cs=r.cells:=by
 obtain⟨xs,n,rfl,rfl,hl,hn,hel⟩:=DataW.trod_struct (sg.desc rfl rfl) h
 have hc:Tryz.prog.cellsOf 149=5:=sg.ncells rfl rfl
 have hs:Tryz.prog.cellsOf 9=1:=sg.ncells rfl rfl
 have ha:Tryz.prog.cellsOf 147=3:=sg.ncells rfl rfl
 have hb:Tryz.prog.cellsOf 4=1:=sg.ncells rfl rfl
 rw[hc] at hl
 match cs,hl with
 | [c0,c1,c2,c3,c4],_ =>
 match xs,hn with
 | [x0,x1,x2],_ =>
 have h0:=hel 0 _ rfl
 have h1:=hel 1 _ rfl
 have h2:=hel 2 _ rfl
 simp only[kDat,List.map_cons,List.map_nil,DataW.agg.injEq,List.cons.injEq,and_true] at hx
 obtain⟨e0,e1,e2⟩:=hx
 have k0:=zHg (sg.desc rfl rfl) h0 e0
 have k2:=zSm (sg.desc rfl rfl) h2 e2
 obtain⟨ys,n',_,rfl,_,hn',hel'⟩:=DataW.trod_array (sg.desc rfl rfl) h1
 match ys,hn' with
 | [y0,y1,y2],_ =>
 simp only[List.map_cons,List.map_nil,DataW.agg.injEq,List.cons.injEq,and_true] at e1
 obtain⟨f0,f1,f2⟩:=e1
 have l0:=zHg (sg.desc rfl rfl) (hel' 0 (by decide)) f0
 have l1:=zHg (sg.desc rfl rfl) (hel' 1 (by decide)) f1
 have l2:=zHg (sg.desc rfl rfl) (hel' 2 (by decide)) f2
 simp[hs,ha,hb] at k0 k2 l0 l1 l2
 subst k0 k2 l0 l1 l2
 rfl
theorem gKin:Tryz.prog.globalNamed "souk/schema.kinds"=some 3:=by kernel_rfl
theorem gPri:Tryz.prog.globalNamed "souk/book.prices"=some 0:=by kernel_rfl
theorem tKin:(Tryz.prog.globals[3]?).map (·.type)=some 174:=by kernel_rfl
theorem tPri:(Tryz.prog.globals[0]?).map (·.type)=some 85:=by kernel_rfl
set_option maxRecDepth 20000 in
theorem zG5 {W:World}(h:laidMetH Tryz.prog zA4 W):KinM (zEh W):=by
 have hm:laidMet Tryz.prog [("souk/schema.kinds",Rows.laid_souk_schema_kinds)] W:=by
  have e1:(zA4.filter fun x=>x.2.handleName?.isSome)=[("souk/book.prices",Rows.laid_souk_book_prices)]:=by kernel_rfl
  have e2:(zA4.filter fun x=>x.2.handleName?.isNone)=[("souk/schema.kinds",Rows.laid_souk_schema_kinds)]:=by kernel_rfl
  unfold laidMetH at h
  rw[e1,e2] at h
  exact h.1
 obtain⟨ps,⟨g,t,cs,f,p,q,hg,ht,hv,hd,_,_⟩,_⟩:=hm
 obtain rfl:=Option.some.inj (gKin.symm.trans hg)
 obtain rfl:=Option.some.inj (tKin.symm.trans ht)
 obtain⟨T,fr,hb⟩:=zGZ gKin hv
 obtain⟨xs,m,rfl,hx,hl,hn,hel⟩:=DataW.trod_array (sg.desc rfl rfl) hd
 have hc:Tryz.prog.cellsOf 149=5:=sg.ncells rfl rfl
 have hC:Tryz.prog.cellsOf 174=115:=sg.ncells rfl rfl
 rw[hC] at hl
 rw[zPr] at hx
 simp only[Prod.mk.injEq,DataW.agg.injEq] at hx
 refine⟨cs.toList,T,fr,fun _=>⟨rfl,hb,fun j hj=>⟨by rw[hl];omega,?_⟩⟩⟩
 have h1:=hel j hj
 rw[hc] at h1
 rw[Nat.zero_add]
 have hjx:j<xs.length:=by omega
 rw[List.getElem?_eq_getElem hjx] at h1
 refine zPs (zH7 j) h1 ?_
 have:=congrArg (fun l:List (DataW Unit)=>l[j]?) hx.1
 simp only[List.getElem?_map,List.getElem?_range hj,List.getElem?_eq_getElem hjx,Option.map_some,Option.some.injEq] at this
 exact this.symm
set_option maxRecDepth 20000 in
theorem zG6 {W:World}(h:laidMetH Tryz.prog zA4 W):PriM (zEh W):=by
 obtain⟨g,t,cs,f,p,hg,ht,hv,hd⟩:=h.funcs (n:="souk/book.prices") (List.mem_cons_self ..)
 obtain rfl:=Option.some.inj (gPri.symm.trans hg)
 obtain rfl:=Option.some.inj (tPri.symm.trans ht)
 obtain⟨T,fr,hb⟩:=zGZ gPri hv
 have hd':DataW.trod (funcToken Tryz.prog) Tryz.prog W 0 (fun _=>true) true f 85 cs.toList=some (.agg [.nil,.held [115,111,117,107,47,98,111,111,107,46,112,114,105,99,101,115,36,49],.held [115,111,117,107,47,98,111,111,107,46,112,114,105,99,101,115,36,50]],p):=hd
 obtain⟨xs,m,rfl,hx,hl,hn,hel⟩:=DataW.trod_array (sg.desc rfl rfl) hd'
 have hc:Tryz.prog.cellsOf 84=1:=sg.ncells rfl rfl
 have hC:Tryz.prog.cellsOf 85=3:=sg.ncells rfl rfl
 rw[hC] at hl
 match xs,hn with
 | [x0,x1,x2],_ =>
 simp only[Prod.mk.injEq,List.map_cons,List.map_nil,DataW.agg.injEq,List.cons.injEq,and_true] at hx
 obtain⟨⟨e0,e1,e2⟩,_⟩:=hx
 obtain⟨csl⟩:=cs
 match csl,hl with
 | [c0,c1,c2],_ =>
 have h0:=hel 0 (by decide)
 have h1:=hel 1 (by decide)
 have h2:=hel 2 (by decide)
 rw[hc] at h0 h1 h2
 have k0:=zUP (sg.desc rfl rfl) h0 e0.symm
 obtain⟨y1,z1⟩:=x1
 obtain⟨y2,z2⟩:=x2
 subst e1 e2
 have k1:c1=_:=func_of_trod (f0:=287) (v:=c1) (sg.desc rfl rfl) (by kernel_rfl) h1
 have k2:c2=_:=func_of_trod (f0:=288) (v:=c2) (sg.desc rfl rfl) (by kernel_rfl) h2
 simp at k0
 subst k0 k1 k2
 refine⟨_,T,fr,fun _=>⟨rfl,hb,fun j hj=>?_⟩⟩
 match j,hj with
 | 0,_=>exact⟨by simp,rfl⟩
 | 1,_=>exact⟨by simp,rfl⟩
 | 2,_=>exact⟨by simp,rfl⟩
end
section
open Go Go.Sk Go.RowKit Go.ChangeShapes Go.WideShapes
section
variable {H:Type}{enc:TypeId × Value→H}{P:Program}{w:World}{base:Nat}{spare:Nat→Bool}{held:Bool}{t0 t1 t2 t3 t4:TypeId}{args:Array Value}{ds:List (DataW H)}{ps:List MemPlace}
theorem zDg (h:DataW.TrodAll enc P w base spare held [t0,t1] args.toList ds ps) :
  ∃ v0 v1 d0 d1 p0 p1,args=#[v0,v1]∧ds=[d0,d1]∧ps=p0++p1∧DataW.Trod enc P w base spare held t0 v0 d0 p0∧DataW.Trod enc P w base spare held t1 v1 d1 p1:=by
 obtain⟨v0,_,d0,_,p0,_,e,rfl,rfl,h0,h⟩:=trodAll_cons h
 obtain⟨v1,_,d1,_,p1,_,rfl,rfl,rfl,h1,h⟩:=trodAll_cons h
 obtain⟨rfl,rfl,rfl⟩:=trodAll_nil h
 exact⟨v0,v1,d0,d1,p0,p1,by cases args;simp_all,rfl,by simp,h0,h1⟩
end
set_option maxRecDepth 100000 in
theorem zD2 (os:Os)(args:Array Value):laidMetH Tryz.prog zA4 ((World.doorLaid Tryz.prog 600 os).forCall (fun _ _=>0) ⟨#[],args,[]⟩).memory :=
 laidMetH_of_parts3 (fuel:=8) (laidMet_of_run' 8 (by kernel_rfl) (by kernel_rfl)) (by kernel_rfl) (by kernel_rfl)
end
section
open Go Go.Sk Go.RowKit
attribute [local irreducible] Go.Calls
theorem zFP {s:Sta}(h:Smal s)(hr:∀ j,j<s.rows.length→(rw_ s.rows j).wf):StaW s:=by
 have:=h.n
 exact⟨by omega,fun k hk=>by have:=h.acN k hk;omega,by omega,fun k hk=>by have:=h.insN k hk;omega,hr⟩
theorem EvsM.pre {F:zH}{a:Option Addr}{cap:Nat}{l:List Evt}{q:Nat→EPt}(h:EvsM F a cap l q){k:Nat}(hk:k≤l.length):EvsM F a cap (l.take k) q:=by
 obtain⟨⟨hn,hc,b,off,cs,T,fr,hs⟩,hev⟩:=h
 have hl:(l.take k).length=k:=by rw[List.length_take];omega
 have he:∀ j,j<k→ev_ (l.take k) j=ev_ l j:=fun j hj=>by
  unfold ev_;rw[List.getD_eq_getElem?_getD,List.getD_eq_getElem?_getD,List.getElem?_take_of_lt hj]
 refine⟨⟨by omega,by omega,b,off,cs,T,fr,fun h0=>?_⟩,fun j hj=>?_⟩
 ·obtain⟨h1,h2,h3⟩:=hs (by omega)
  refine⟨h1,h2,fun j hj=>?_⟩
  show _∧_=(ev_ (l.take k) j).cells (q j)
  rw[he j (by omega)]
  exact h3 j (by omega)
 ·rw[he j (by omega)];exact hev j (by omega)
end
end Go.Proofs.YtibmaifoaajllaaGreatDoor
