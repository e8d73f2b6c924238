/- Steps of the proof. -/
import Derived.Test.YtejhijhnlogikaaGreatDoorMe26
set_option linter.all false
set_option maxHeartbeats 16000000
namespace Go.Proofs.YtejhijhnlogikaaGreatDoor
open Go Go.Sk Go.RowKit Go.Proofs.Tryz
attribute [local irreducible] Go.Calls
def EvL (F:zA):List Evt->List EPt->Prop
 | [],[]=>True
 | e::l,q::qs=>EvtM F e q/\EvL F l qs
 | _,_=>False
def ept_ (qs:List EPt)(j:Nat):EPt:=qs.getD j ⟨none,0,none,0⟩
theorem zVa {F:zA}:∀ {l:List Evt} {qs:List EPt},EvL F l qs->∀ j,j<l.length->EvtM F (ev_ l j) (ept_ qs j)
 | [],[],_,j,hj=>absurd hj (zzE j)
 | e::l,q::qs,h,0,_=>h.1
 | e::l,q::qs,h,j+1,hj=>by
   have:=zVa h.2 j (by simpa using hj)
   exact this
 | [],_::_,h,_,_=>h.elim
 | _::_,[],h,_,_=>h.elim
theorem zNo {F:zA}:∀ {l:List Evt} {qs:List EPt},EvL F l qs->(l.zip qs).flatMap (fun x=>x.1.cells x.2)=(List.range l.length).flatMap fun j=>(ev_ l j).cells (ept_ qs j)
 | [],[],_=>rfl
 | e::l,q::qs,h=>by
   rw[List.zip_cons_cons,List.flatMap_cons,zNo h.2,List.length_cons,List.range_succ_eq_map,List.flatMap_cons,List.flatMap_map]
   rfl
 | [],_::_,h=>h.elim
 | _::_,[],h=>h.elim
theorem EvsM.of {F M:zA}{a:OA}{n cap:Nat}{T:TypeId}{xs:List Value}(l:List Evt)(qs:List EPt)(h:Go.Sk.Own M T 4 a n cap xs)(hM:M⊆F)(hE:EvL F l qs)(hn:n=l.length:=by rfl)(hx:xs=(l.zip qs).flatMap (fun x=>x.1.cells x.2):=by rfl)(hl:l.length<=1000:=by decide):EvsM F a cap l (ept_ qs):=by subst hn;rw[hx,zNo hE] at h;exact⟨h.sl hM (fun _ _=>rfl) qO,zVa hE⟩
theorem zVb (k:Int)(n:List Int)(hk:0<=k/\k<=255):zAr (evF k n):=⟨⟨(show(0:Int)<=3 by decide),(show(3:Int)<=255 by decide)⟩,hk,fun t ht=>nomatch ht⟩
theorem zFn {s:Sta}(h:Good s):StaW s:=by{
have h1:=zNL h;have h2:=zNM h;have hn:∀ {l:List ByteArray},zBo l=true->∀ x∈l,x.size<=140737488355328:=fun g x hx=>by have h:=(zHp _).1 g |>.1 x hx;unfold zAE at h;simp only[yy3,decide_eq_true_eq] at h;have:=h.1.2;omega
refine⟨by omega,fun k hk=>?_,by omega,fun k hk=>?_,zQn h⟩
.exact hn (zCJ.1 h.accts).2 _ (List.mem_map.2 ⟨_,zAP _ hk,rfl⟩)
.exact hn (zCK.1 h.insts).2.2 _ (List.mem_map.2 ⟨_,zAP _ hk,rfl⟩)}
theorem zJx:Good zB4:=zAl.1 (by decide +kernel)
theorem lt_z:LtS zBg:=⟨zzD _,zzD _,zzD _,zzD _,zzD _,fun k hk=>absurd hk (zzE _)⟩
theorem AllR.sta {s:Sta}{k e:Int}{M:zA}{v:Value}(h:AllR (s,k,e) M v)(hL:LtS s):∃ p,v=.tuple #[.agg (s.cells p).toArray,.int .i64 k,.int .i64 e]/\StaM M s p:=by obtain⟨p,Ma,Mi,Mu,R,rfl,rfl,hC⟩:=h;exact⟨p,rfl,hC.sta hL⟩
theorem StC.sta {s:Sta}{e:Int}{M:zA}{v:Value}(h:StC (s,e) M v)(hL:LtS s):∃ p,v=.tuple #[.agg (s.cells p).toArray,.int .i64 e]/\StaM M s p:=by obtain⟨p,Ma,Mi,Mu,R,rfl,rfl,hC⟩:=h;exact⟨p,rfl,hC.sta hL⟩
theorem StC.any {s:Sta}{e:Int}{M:zA}{v:Value}(h:StC (s,e) M v):∃ p,v=.tuple #[.agg (s.cells p).toArray,.int .i64 e]:=by obtain⟨p,Ma,Mi,Mu,R,rfl,rfl,hC⟩:=h;exact⟨p,rfl⟩
theorem zSP {s:Sta}{e:Evt}(h:(zM s e).2≠0):(zM s e).1=zBg:=by{
unfold zM zAG at h ⊢;split
.rename_i h1;rw[if_pos h1] at h;split
 .rename_i h2;rw[if_pos h2] at h;split
  .rename_i h3;rw[if_pos h3] at h;exact absurd h3 h
  .rfl
 .rfl
.rfl}
def wkc (s:Sta)(p:SPt)(a:OA)(n cap:Nat)(e:Int):List Value:=s.cells p++[.slice a n cap,.int .i64 e]
def evX (l:List Evt)(q:Nat->EPt):List Value:=(List.range l.length).flatMap fun j=>(ev_ l j).cells (q j)
def zHL (n:Nat)(q:Nat->EPt)(x:EPt):Nat->EPt:=fun j=>if j<n then q j else x
theorem zHM {l:List Evt}{e:Evt}{j:Nat}(hj:j<l.length):ev_ (l++[e]) j=ev_ l j:=by unfold ev_;rw[yy2,yy2,yyl hj]
theorem zHN {l:List Evt}{e:Evt}:ev_ (l++[e]) l.length=e:=by unfold ev_;rw[yy2,yym (Nat.le_refl _)];simp
theorem zHO (l:List Evt)(q:Nat->EPt)(e:Evt)(x:EPt):evX l q++e.cells x=evX (l++[e]) (zHL l.length q x):=by{
unfold evX;rw[yy4,yyo,yys,yy9,yya,zHN]
congr 1
.refine zKl ?_;intro j hj;have hj:=List.mem_range.1 hj;rw[zHM hj];unfold zHL;rw[if_pos hj]
.unfold zHL;rw[if_neg (yyz _)]}
def DoR (bw:Nat)(s:Sta)(l:List Evt)(p:SPt)(a:OA)(cap:Nat)(q:Nat->EPt)(e:Evt)(x:EPt)(O N:zA)(M:zA)(v:Value):Prop :=
 ((zM s e).2=0/\v=.bool true/\∃ p' a' cap' O' R,M=cb bw (wkc (zM s e).1 p' a' (l++[e]).length cap' 0) 125::(O'++(N++R))/\Go.Sk.Own O' 61 4 a' (l++[e]).length cap' (evX (l++[e]) (zHL l.length q x))/\StaM R (zM s e).1 p'/\Good (zM s e).1) \/
 ((zM s e).2≠0/\v=.bool false/\M=cb bw (wkc s p a l.length cap (zM s e).2) 125::(O++N))
theorem c_do {F:zA}{s:Sta}{l:List Evt}{p:SPt}{a:OA}{cap bw:Nat}{q:Nat->EPt}{O N:zA}{k0:Int}{w0 w:World}(e:Evt)(x:EPt)(H:St w0 (cb bw (wkc s p a l.length cap k0) 125::(O++N)) w)(hF:Mem w0 F)(hP:PriM F)(hK:KinM F)(hown:Go.Sk.Own O 61 4 a l.length cap (evX l q))(hsta:StaM (N++F) s p)(hg:Good s)(hE:zAr e)(hM:EvtM N e x)(hl:l.length<100) :
  Calls prog 78 [(pt bw),.agg (e.cells x).toArray].toArray w (zZ (DoR bw s l p a cap q e x O N) w0):=by{
have hev:=fun w (G:zA) (hG:Mem w (G++F)) (hs:N⊆G)=>zVR (s:=s) (p:=p) (zFn hg) e x hE w hG (hP.mono (zz8 _ _)) (hK.mono (zz8 _ _)) (hsta.mono fun z hz=>(List.mem_append.1 hz).elim (fun h=>zz6 _ (hs h)) (zz3 _)) (hM.mono fun z hz=>zz6 _ (hs hz));have hmay:=fun t (h:zM s e=(t,0))=>zEJ h;have hlt:LtS (zM s e).1:=by
 by_cases h:(zM s e).2=0
 .exact zBJ (hmay _ (Prod.ext rfl h)).2
 .rw[zSP h];exact lt_z
unfold DoR;obtain⟨t,k,hr⟩:∃ t k,zM s e=(t,k):=⟨_,_,rfl⟩;rw[hr] at hev hlt ⊢;simp only at hlt ⊢;refine eN func78 ntmps78 ?_;(repeat' first|refine yX ?_|(refine yB ?_;intro b w H)|fail);refine CW.cutT (fun en1 w=>∃ be bt p' M en',en1=ovl [(0,(pt bw)),(3,(pt be)),(5,(pt bt)),(6,.int .i64 k)] en'/\StaM M t p'/\St w0 (cb bt (t.cells p') 40::cb be (e.cells x) 61::cb bw (wkc s p a l.length cap k0) 125::(O++(N++M))) w) ?_ ?_
·(repeat' first|refine yX ?_|(refine yB ?_;intro b w H)|(refine y11 sg H ?_;intro w H)|(refine CW.regionL mixed 12 (z6 (x:=cb bw (wkc s p a l.length cap k0) 125) (y:=cb _ (e.cells x) 61) H hF) [] ?_ ?_;exact rfl;refine wQ H ?_;clear H;intro w H;have qh:=z6 (x:=cb bw (wkc s p a l.length cap k0) 125) (y:=cb _ (e.cells x) 61) H hF;refine lT sg 0 qh ?_;refine lT sg 1 qh ?_;refine lT sg 2 qh ?_;refine' l1 3 qh ?_ ?_;rotate_left;(exact z3 sg);refine' l1 4 qh ?_ ?_;rotate_left;(exact z3 sg))|refine lN ?_|(refine lT sg 6 (z6 H hF) ?_)|(refine lT sg 7 (z6 H hF) ?_)|(refine lT sg 8 (z6 H hF) ?_)|(refine lT sg 11 (z6 H hF) ?_)|refine l2 5 ?_|refine l2 9 ?_|refine l2 10 ?_|refine l4 5 9 ?_ ?_|(refine l5 (z6 H hF) ?_)|(refine f0 ent115 ?_;refine⟨_,hev _ _ (H.all hF) (by intro z hz;simp[hz]),?_⟩;clear H;intro v M w hR H;(try simp only[zca,zcb] at H);obtain⟨px,rfl,hx⟩:=StC.sta hR hlt)|fail);all_goals exact⟨_,b,px,M,_,zz rfl (zA2 rfl rfl rfl),hx,by have H2:=H;rw[yyh] at H2;exact H2⟩
clear H;rintro _ w ⟨be,bt,p',M,en',rfl,hT,H⟩;by_cases hk:k=0;rotate_left
.have dk:(k != 0)=true:=by simpa using hk
 (repeat' first|refine yX ?_|(refine y11 sg H ?_;intro w H)|fail);refine CW.condT (congrArg Value.bool dk) ?_;(repeat' first|refine yX ?_|fail);exact zL (M:=cb bw (wkc s p a l.length cap k) 125::(O++N)) rfl (H.sub (yy6 _ (yy6 _ (yy5 _ (List.Sublist.append_left (yyt N M) O))))) (.inr ⟨hk,rfl,rfl⟩)
subst hk;have g2:=(hmay t hr).2;have hlen:l.length+1=(l++[e]).length:=by simp
(repeat' first|refine yX ?_|(refine y11 sg H ?_;intro w H)|(refine CW.regionL mixed 16 (z63 (x:=cb bt (t.cells p') 40) (y:=cb be (e.cells x) 61) (z:=cb bw (wkc s p a l.length cap 0) 125) H hF) [1,10,11,12,13,14,15] ?_ ?_;exact rfl;refine wQ H ?_;clear H;intro w H;have qh:=z63 (x:=cb bt (t.cells p') 40) (y:=cb be (e.cells x) 61) (z:=cb bw (wkc s p a l.length cap 0) 125) H hF;refine' l6 1 ?_ ?_;rotate_left;(exact z9 sg);refine lT sg 0 qh ?_;refine' l1 2 qh ?_ ?_;rotate_left;(exact z3 sg);refine lT sg 3 qh ?_;refine lT sg 4 qh ?_;refine lT sg 5 qh ?_;refine' l1 6 qh ?_ ?_;rotate_left;(exact z3 sg);refine' l1 7 qh ?_ ?_;rotate_left;(exact z3 sg))|refine lN ?_|(refine' l6 10 ?_ ?_;rotate_left;(exact z9 sg))|(refine' l6 11 ?_ ?_;rotate_left;(exact z9 sg))|(refine' l6 13 ?_ ?_;rotate_left;(exact z9 sg))|(refine' l6 14 ?_ ?_;rotate_left;(exact z9 sg))|refine l3 12 ?_|refine l3 15 ?_|refine l2 8 ?_|refine l2 9 ?_|(refine l5 (z63 (x:=cb bt (t.cells p') 40) (y:=cb be (e.cells x) 61) (z:=cb bw (wkc s p a l.length cap 0) 125) H hF) ?_)|(refine zBA sg H ?_;intro b w H _)|(have hp:=H.perm (yyf [_,_,_,_] O (N++M));refine zY sg 4 56 (M:=O) hp rfl rfl rfl rfl rfl rfl rfl rfl rfl rfl rfl hown (zh hp.mem (zz3 _ (zz2 _))) rfl (zx rfl) (by unfold maxLen;omega) qO ?_;clear hp H;intro a1 c1 O1 w hO1 H;replace H:=H.perm (yyf O1 [_,_,_,_] (N++M)))|fail);rw[show[Value.int .u8 e.v,.int .u8 e.kind,.slice x.na e.nums.length x.nc,.slice x.ta e.texts.length x.tc]=e.cells x from rfl,zHO,hlen] at hO1;rw[hlen] at H;refine zL (M:=cb bw (wkc t p' a1 (l++[e]).length c1 0) 125::(O1++(N++M))) rfl (H.sub (yy6 _ (yy6 _ (yy6 _ (yy7 _))))) (.inl ⟨rfl,rfl,p',a1,c1,O1,M,rfl,hO1,hT,g2⟩)}
end Go.Proofs.YtejhijhnlogikaaGreatDoor
namespace Go.Sk
open Go Go.RowKit
section
attribute [local semireducible] CW OW OX QW QX RW RA RL
variable {P:Program}{n:Nw}{Q:zAM}{e:Env}{w:World}{l:List Oper}{F0:zA}
theorem CW.regionYL {id:Nat}(hm:P.follows .mixedOrders=true)(k:Nat)(_hM0:Mem w F0)(late:List Nat)(h:∀ w',Cl w w'->RL P n (l.take k) F0 late (Array.replicate k false) k (fun _ e' w'=>OY P n l.toArray Q (l.drop k) e' w') e w')
  (hB:((zDw l.toArray 0 k&&zLA l.toArray k)&&((List.range l.toArray.size).all fun j=>decide (j<k)||(zDw l.toArray j j&&zDw l.toArray j (j+1))))=true:=by decide +kernel) (hnd:zCq l=true:=by exact rfl):CW P n (.region id l.toArray true) Q e w:=by{
intro a ha;refine wpIn_region_draw fun t=>?_;simp only[Region.schedule,hm,Bool.true_or,if_true];simp only[yy3] at hB;obtain⟨⟨hB1,hB2⟩,hB3⟩:=hB;have hN:=zGl hB1;have hhd:∀ i,i<k->(l.take k).toArray[i]?=l.toArray[i]?:=fun i hi=>by simp[hi]
have hsz:(l.take k).toArray.size=k:=by simp only[List.size_toArray] at hN ⊢;simp;omega
have he:∀ s,Array.replicate s false=zBC s 0:=fun s=>by
 apply Array.ext
 .simp[zBC]
 .intro i _ _;simp[zBC]
obtain⟨t',ht'⟩:=zMU hB1 hsz hhd k t k (l.toArray.size - k) _ _ (zKK 0 k) (zzC _) (HInv.start (zzD _) hB1);rw[show k+(l.toArray.size - k)=l.toArray.size by omega] at ht';show wpOpsIn _ _ _ _ _ (Region.linearise.go .any l.toArray l.toArray.size t (Array.replicate l.toArray.size false) []) _ _;rw[he,ht',zQ0 (l.toArray.size - k) k t' (by omega) hB3];refine zIn (by simpa using hnd) _ _ _ _ ?_;have h0:=zD2 _ _ _ _ (h { w with drawn:=w.drawn+1 } ((Bel.refl _ _).drew) a ha);have h1:=wpAny_sound _ t _ a _ h0;rw[he] at h1;refine zGS hhd hB2 _ _ _ (fun i hi=>by have:=go_lt _ _ _ i hi;omega) ?_;refine zCN (fun h=>by obtain⟨_,_,h,_⟩:=h;cases h) ?_ _ _ _ h1;intro x a w hq;obtain⟨rfl,h0,e',hf,hq⟩:=hq;have h2:=hq a hf;have hl:(l.drop k).length=l.toArray.size - k:=by simp
show wpOpsIn _ _ _ _ _ _ _ _;rw[<- hl,wpOpsIn_eq_wpListIn (l.drop k) k (fun j=>by simp[yyr])];exact h2}
end
end Go.Sk
namespace Go.Proofs.YtejhijhnlogikaaGreatDoor
open Go Go.Sk Go.RowKit Go.Proofs.Tryz
attribute [local irreducible] Go.Calls
def ExW (F:zA)(bw:Nat)(x:WS)(M:zA):Prop:=∃ p a cap k,cb bw (wkc x.s p a x.l.length cap k) 125∈M/\StaM (M++F) x.s p/\Good x.s/\x.l.length<=40
theorem ExW.cons {F:zA}{bw:Nat}{x:WS}{y:Nat × Obj}{M:zA}(h:ExW F bw x M):ExW F bw x (y::M):=by obtain⟨p,a,cap,k,h1,h2,h3⟩:=h;exact⟨p,a,cap,k,zz4 _ h1,h2.mono (fun z hz=>zz4 _ hz),h3⟩
def PreE (nx:WS->Option Evt)(x:WS)(v:Value)(N:zA):Prop:=∃ e q,nx x=some e/\v=.agg (e.cells q).toArray/\EvtM N e q/\zAr e
def nxE (nx:WS->Option Evt)(x:WS):WS:=match nx x with|some e=>x.go e|none=>x
def ExT (F:zA)(bw c1 c2:Nat)(id:Int)(x:WS)(M:zA):Prop:=ExW F bw x M/\cb c1 [(pt bw)] 123∈M/\cb c2 [.int .i64 id] 2∈M
theorem w8s {n:Int}(h:1<=n/\n<=2):IntKind.u8.wrap (3 - n)=3 - n:=by show(3 - n) % 256=3 - n;omega
def zVc (W:List (Nat × Nat))(e0:Env):List (Nat × Value)->Prop
 | []=>True
 | (d,v)::t=>(rg W d=true\/e0 d=v)/\zVc W e0 t
theorem zHy {W:List (Nat × Nat)}{e0 b0:Env}:∀ {L:List (Nat × Value)},(∀ i,rg W i=false->b0 i=e0 i)->zVc W e0 L->∀ i,rg W i=false->ovl L b0 i=e0 i
 | [],h,_,i,hi=>h i hi
 | (d,v)::t,h,hk,i,hi=>by
   rw[zBk]
   by_cases hd:i=d
   .rw[if_pos hd]
    subst hd
    rcases hk.1 with g|g
    .rw[g] at hi;cases hi
    .exact g.symm
   .rw[if_neg hd];exact zHy h hk.2 i hi
theorem zSQ {F:zA}{w0:World}(hF:Mem w0 F)(hP:PriM F)(id:Int)(bw c1 c2:Nat)(x0:WS) :
  zNm prog w0 147 [(pt c1),(pt c2)] (ExT F bw c1 c2 id) (PreE (trN id)) (nxE (trN id)) (fun x=>trN id x=none) x0:=by{
intro l K Kd hEx hY M G' w hK H;refine eN func147 ntmps147 ?_;(repeat' first|refine yX ?_|fail);refine zD [(4,66)] (fun _:WS × zA=>[]) (fun x w=>K x.1 x.2/\St w0 (x.2++G') w) (fun x=>41 - x.1.l.length) (x0,M) trivial ⟨hK,H⟩ ?_;clear H hK;rintro⟨x,M⟩ gh w ⟨hK,H⟩;simp only at hK H ⊢;obtain⟨⟨p,a,cap,k,hbw,hst,gx,hlen⟩,hc1,hc2⟩:=hEx x M hK;obtain⟨o,is,hfo⟩:∃ o is,zO x.s.orders id=(o,is):=⟨_,_,rfl⟩;have H0:=H;have hF1:=H.all hF;have hbw1:cb bw (wkc x.s p a x.l.length cap k) 125∈(M++G')++F:=zz6 _ (zz6 _ hbw);have hc11:cb c1 [(pt bw)] 123∈(M++G')++F:=zz6 _ (zz6 _ hc1);have hc21:cb c2 [.int .i64 id] 2∈(M++G')++F:=zz6 _ (zz6 _ hc2);have hst1:StaM ((M++G')++F) x.s p:=hst.mono (fun z hz=>(List.mem_append.1 hz).elim (fun h=>zz6 _ (zz6 _ h)) (zz3 _));have hP1:PriM ((M++G')++F):=hP.mono (zz8 _ _);clear H;obtain⟨w1,rfl⟩:∃ w1,w1=w:=⟨w,rfl⟩;have H:=zBm w1;generalize hF1d:(M++G')++F=F1 at hF1 hbw1 hc11 hc21 hst1 hP1;have hfnd:=fun w (hG:Mem w F1)=>zGc x.s.orders id w hG hst1.od;rw[hfo] at hfnd;(repeat' first|refine yX ?_|fail);refine CW.cutT (fun en1 w=>∃ bo en',en1=ovl [(0,.func (.yield l) #[] #[]),(1,(pt c1)),(2,(pt c2)),(4,(pt bo)),(5,.bool is)] en'/\(∀ i,rg [(4,66)] i=false->en' i=ovl [] (ini [.func (.yield l) #[] #[],(pt c1),(pt c2)]) i)/\St w1 [cb bo o.cells 45] w) ?_ ?_
·(repeat' first|refine yX ?_|(refine yB ?_;intro b w H)|(refine y11 sg H ?_;intro w H)|(refine CW.regionL mixed 13 (H.memF hF1) [] ?_ ?_;exact rfl;refine wQ H ?_;clear H;intro w H;have qh:=H.memF hF1;refine' l1 0 qh ?_ ?_;rotate_left;(exact(fun w2 hM2=>zF sg rfl rfl hM2 hc11 rfl rfl));refine lT sg 1 qh ?_;refine lT sg 2 qh ?_;refine lT sg 3 qh ?_;refine' l1 4 qh ?_ ?_;rotate_left;(exact(fun w2 hM2=>zF sg rfl rfl hM2 hbw1 rfl rfl));refine' l1 5 qh ?_ ?_;rotate_left;(exact(fun w2 hM2=>zF sg rfl rfl hM2 hc21 rfl rfl)))|refine lN ?_|(refine lT sg 7 (H.memF hF1) ?_)|(refine lT sg 8 (H.memF hF1) ?_)|(refine lT sg 9 (H.memF hF1) ?_)|(refine lT sg 12 (H.memF hF1) ?_)|refine l2 6 ?_|refine l2 10 ?_|refine l2 11 ?_|refine l4 6 10 ?_ ?_|(refine l5 (H.memF hF1) ?_)|(refine c0 zEV ?_;refine⟨_,hfnd _ (H.memF hF1),?_⟩;clear H;intro w H)|fail);all_goals exact⟨b,_,zz rfl (zz rfl (zA2 rfl rfl rfl)),zFv rfl,H⟩
clear H;rintro _ w ⟨bo,en',rfl,hEB,H⟩;cases is with
| false =>
  have hn:trN id x=none:=by unfold trN zE0;simp[hfo]
  (repeat' first|refine yW ?_|fail);exact zc (vs:=[]) trivial ((H0.addR H).sub (yyt _ _)) (.inl ⟨x,M,hn,hK,rfl⟩)
| true =>
obtain⟨hord,hom,_⟩:=zC5 (l:=x.s.orders) (id:=id) (by rw[hfo]);rw[hfo] at hom;have hmo:=(zAK.1 hord).2.1 o hom;have hsd:1<=o.side/\o.side<=2:=by have:=hmo.2.2.2.1;omega
have hw8:=w8s hsd;obtain⟨u,uis,hfu⟩:∃ u uis,zBM x.s.orders o.inst (3 - o.side)=(u,uis):=⟨_,_,rfl⟩;have hfst:=fun w (hG:Mem w F1)=>zQa x.s.orders o.inst (3 - o.side) w hG hP1 hst1.od;rw[hfu,<- hw8] at hfst;have hbw2:=zz4 (cb bo o.cells 45) hbw1;have hc12:=zz4 (cb bo o.cells 45) hc11;(repeat' first|refine yX ?_|fail);refine CW.cutT (fun en1 w=>∃ bu en',en1=ovl [(0,.func (.yield l) #[] #[]),(1,(pt c1)),(2,(pt c2)),(4,(pt bo)),(5,.bool uis),(6,(pt bu))] en'/\(∀ i,rg [(4,66)] i=false->en' i=ovl [] (ini [.func (.yield l) #[] #[],(pt c1),(pt c2)]) i)/\St w1 [cb bu u.cells 45,cb bo o.cells 45] w) ?_ ?_
·(repeat' first|refine yX ?_|(refine yB ?_;intro b w H)|(refine y11 sg H ?_;intro w H)|(refine CW.regionL mixed 17 (z6s (x:=cb bo o.cells 45) H hF1) [] ?_ ?_;exact rfl;refine wQ H ?_;clear H;intro w H;have qh:=z6s (x:=cb bo o.cells 45) H hF1;refine' l1 0 qh ?_ ?_;rotate_left;(exact(fun w2 hM2=>zF sg rfl rfl hM2 hc12 rfl rfl));refine lT sg 1 qh ?_;refine lT sg 2 qh ?_;refine lT sg 3 qh ?_;refine' l1 4 qh ?_ ?_;rotate_left;(exact(fun w2 hM2=>zF sg rfl rfl hM2 hbw2 rfl rfl));refine lT sg 5 qh ?_;refine' l1 6 qh ?_ ?_;rotate_left;(exact z3 sg);refine lT sg 7 qh ?_;refine' l1 8 qh ?_ ?_;rotate_left;(exact z3 sg);refine lT sg 9 qh ?_)|refine lN ?_|(refine lT sg 11 (z6s H hF1) ?_)|(refine lT sg 12 (z6s H hF1) ?_)|(refine lT sg 13 (z6s H hF1) ?_)|(refine lT sg 16 (z6s H hF1) ?_)|refine l2 10 ?_|refine l2 14 ?_|refine l2 15 ?_|refine l4 10 14 ?_ ?_|(refine l5 (z6s H hF1) ?_)|(refine c0 ent16 ?_;refine⟨_,hfst _ (H.memF hF1),?_⟩;clear H;intro w H)|fail);all_goals exact⟨b,_,zz rfl (zz rfl (zz rfl (zA2 rfl rfl rfl))),zHy hEB (by repeat (first|exact trivial|refine⟨.inl rfl,?_⟩|refine⟨.inr rfl,?_⟩)),H⟩
clear H hEB;rintro _ w ⟨bu,en',rfl,hEB,H⟩;cases uis with
| false =>
  have hn:trN id x=none:=by unfold trN zE0;simp[hfo,hfu]
  (repeat' first|refine yW ?_|fail);exact zc (vs:=[]) trivial ((H0.addR H).sub (yyt _ _)) (.inl ⟨x,M,hn,hK,rfl⟩)
| true =>
have hcr:=fun w (hG:Mem w F1)=>zKp o u w hG hP1;cases hx:zw o u with
| false =>
  have hn:trN id x=none:=by unfold trN zE0;simp[hfo,hfu,hx]
  rw[hx] at hcr;(repeat' first|refine yW ?_|(refine c0 zS2 ?_;refine⟨_,hcr _ (H.memF hF1),?_⟩;clear H;intro w H)|fail);exact zc (vs:=[]) trivial ((H0.addR H).sub (yyt _ _)) (.inl ⟨x,M,hn,hK,rfl⟩)
| true =>
rw[hx] at hcr;(repeat' first|refine yX ?_|(refine c0 zS2 ?_;refine⟨_,hcr _ (H.memF hF1),?_⟩;clear H;intro w H)|fail);obtain⟨_,hmu,_,_,_⟩:=zBs hx;have hmin:(if u.left<o.left then u.left else o.left)=min o.left u.left:=by split<;>omega
rw[hmin];have hn:trN id x=some (evF 13 [id,u.id,u.price,min o.left u.left,(zBq (u.price*min o.left u.left) x.s.fee).1]):=by unfold trN zE0;simp[hfo,hfu,hx]
have hql:1<=min o.left u.left/\min o.left u.left<=1048576:=by have:=hmo.2.2.2.2.2;have:=hmu.2.2.2.2.2;omega
generalize min o.left u.left=qq at hn hql ⊢;have hpr:=hmu.2.2.2.2.1;have hmul:=zGX hpr.1 hpr.2 hql.1 hql.2;have hww:IntKind.i64.wrap (u.price*qq)=u.price*qq:=w64 qO qO;have hfee:=fun w (hG:Mem w F1)=>c_aFee (zFn gx) (fun _=>(zAL.1 gx.nums).2.1) (IntKind.i64.wrap (u.price*qq)) (by rw[hww];omega) w hG hst1;rw[if_pos (zAl.2 gx)] at hfee;have hbw3:=zz4 (cb bu u.cells 45) hbw2;have hc13:=zz4 (cb bu u.cells 45) hc12;have hc23:=zz4 (cb bu u.cells 45) (zz4 (cb bo o.cells 45) hc21);(repeat' first|refine yS ?_|(refine CW.regionYL mixed 18 (z6 (x:=cb bu u.cells 45) (y:=cb bo o.cells 45) H hF1) [] ?_;refine wQ H ?_;clear H;intro w H;refine lT sg 0 (z6 H hF1) ?_;refine' l1 1 (z6 H hF1) ?_ ?_;rotate_left;(exact(fun w2 hM2=>zF sg rfl rfl hM2 hc23 rfl rfl));refine lT sg 2 (z6 H hF1) ?_;refine' l1 3 (z6 H hF1) ?_ ?_;rotate_left;(exact z3 sg);refine lT sg 4 (z6 H hF1) ?_;refine' l1 5 (z6 H hF1) ?_ ?_;rotate_left;(exact z3 sg);refine lT sg 6 (z6 H hF1) ?_;refine' l1 7 (z6 H hF1) ?_ ?_;rotate_left;(exact(fun w2 hM2=>zF sg rfl rfl hM2 hc13 rfl rfl));refine lT sg 8 (z6 H hF1) ?_;refine lT sg 9 (z6 H hF1) ?_;refine' l1 10 (z6 H hF1) ?_ ?_;rotate_left;(exact(fun w2 hM2=>zF sg rfl rfl hM2 hbw3 rfl rfl));refine lT sg 11 (z6 H hF1) ?_;refine' l1 12 (z6 H hF1) ?_ ?_;rotate_left;(exact z3 sg);refine lT sg 13 (z6 H hF1) ?_;refine lT sg 14 (z6 H hF1) ?_)|refine lN ?_|refine l2 15 ?_|refine l2 16 ?_|refine l2 17 ?_|(refine l5 (z6 H hF1) ?_)|(refine c0 ent148 ?_;refine⟨_,hfee _ (H.memF hF1),?_⟩;clear H;intro w H)|(refine yB ?_;intro b w H)|refine yU ?_|fail);rw[hww] at H;obtain⟨fe,hfe⟩:∃ fe,(zBq (u.price*qq) x.s.fee).1=fe:=⟨_,rfl⟩;rw[hfe] at H hn
have HP:St w0 (M++([cb b [.int .i64 id,.int .i64 u.id,.int .i64 u.price,.int .i64 qq,.int .i64 fe] 2]++(G'++[cb bu u.cells 45,cb bo o.cells 45]))) w:=(H0.addR H).perm (by
 rw[yyh]
 exact(List.perm_middle (l₁:=G')).append_left M)
have hy:=hY x (.agg ((evF 13 [id,u.id,u.price,qq,fe]).cells ⟨some ⟨b,0,none⟩,5,none,0⟩).toArray) M _ (G'++[cb bu u.cells 45,cb bo o.cells 45]) w hK ⟨evF 13 [id,u.id,u.price,qq,fe],_,hn,rfl,zL2 13 [id,u.id,u.price,qq,fe] (show(5:Nat)<=1000 by decide) (zz2 _),zVb 13 _ (by decide)⟩ HP;have hnx:nxE (trN id) x=x.go (evF 13 [id,u.id,u.price,qq,fe]):=by unfold nxE;rw[hn]
rw[hnx] at hy;refine OY.yield hy ?_ (hw:=OY.go rfl);clear H HP hy;rintro v w hv;refine OY.all ?_;rcases hv with ⟨rfl,M',hK',H⟩|⟨rfl,M',hKd,H⟩
.have hl2:(x.go (evF 13 [id,u.id,u.price,qq,fe])).l.length<=40:=by obtain⟨⟨_,_,_,_,_,_,_,h⟩,_⟩:=hEx _ _ hK';exact h
 (repeat' first|refine yX ?_|fail)
 exact⟨(x.go (evF 13 [id,u.id,u.price,qq,fe]),M'),zHy hEB (by repeat (first|exact trivial|refine⟨.inl rfl,?_⟩|refine⟨.inr rfl,?_⟩)),trivial,⟨hK',H.sub (List.Sublist.append_left (yyt _ _) _)⟩,by
  have:(x.go (evF 13 [id,u.id,u.price,qq,fe])).l.length=x.l.length+1:=by show(x.l++[_]).length=_;simp
  show 41 - (x.go (evF 13 [id,u.id,u.price,qq,fe])).l.length<41 - x.l.length
  omega⟩
·(repeat' first|refine yX ?_|fail);exact zc (vs:=[]) trivial (H.sub (List.Sublist.append_left (yyt _ _) _)) (.inr ⟨M',hKd,rfl⟩)}
theorem zVd {l:List Auc}{id:Int}(h:(zBS l id).2=true):∃ j,j<l.length/\(zBS l id).1=au_ l j:=by{
have hb:=zIc l id;unfold zBS at h ⊢;by_cases h0:zKA l id<0
.rw[if_pos h0] at h;cases h
.rw[if_neg h0];exact⟨_,by omega,rfl⟩}
theorem zVe {s:Sta}{id:Int}(h:AuB s)(hg:(zBS s.aucs id).2=true):(0<=s.fee/\s.fee<=1000)/\(0<=(zBS s.aucs id).1.qty/\(zBS s.aucs id).1.qty<=1125899906842624)/\0<=(zH (zBS s.aucs id).1).1.amount/\(zH (zBS s.aucs id).1).1.amount<=1125899906842624:=by obtain⟨j,hj,e⟩:=zVd hg;rw[e];exact⟨h.fee,h.qty j hj,h.win j hj⟩
theorem zXU {F:zA}{s:Sta}{p:SPt}(g:Good s)(id:Int)(w0:World)(hF:Mem w0 F)(hs:StaM F s p) :
  Cr 150 [.agg (s.cells p).toArray,.int .i64 id] (.tuple #[.int .i64 (zAy s id).1.acct,.int .i64 (zAy s id).1.amount,.int .i64 (zAy s id).2.1,.bool (zAy s id).2.2]) w0 :=
 zSI (zFn g) id (zJn g) (fun j hj=>by have:=(zCk ((zs.1 g.aucs).2.1 _ (zi hj))).2.2.2.2.1;exact Nat.le_trans this (by decide)) (fun g1 _=>zVe (zQo g) g1) w0 hF hs
def ExS (F:zA)(bw c1:Nat)(x:WS)(M:zA):Prop:=ExW F bw x M/\cb c1 [(pt bw)] 123∈M
theorem zSR {y z:Nat × Obj}{M G:zA}:((M++G)++[y,z]).Perm (M++([z]++(G++[y]))):=by have h:=yyg (l₁:=G++[y]) (l₂:=[z]);have h2:=h.append_left M;simpa [yyh] using h2
theorem zSS {y z t:Nat × Obj}{M G:zA}:((M++G)++[y,z,t]).Perm (M++([y]++(G++[z,t]))):=by have h:=yyg (l₁:=G) (l₂:=[y]);have h2:=(h.append_right [z,t]).append_left M;simpa [yyh] using h2
theorem zVf {F:zA}{w0:World}(hF:Mem w0 F)(bw c1:Nat)(x0:WS)(hx0:x0.ids=(zFH x0.s.aucs x0.s.clock).map (·.id)) :
  zNm prog w0 149 [(pt c1)] (ExS F bw c1) (PreE saN) (nxE saN) (fun x=>saN x=none) x0:=by{
intro l K Kd hEx hY M G' w hK H;obtain⟨⟨p,a,cap,k,hbw,hst,gx,hlen⟩,hc1⟩:=hEx x0 M hK;refine eN func149 ntmps149 ?_;have H0:=H;have hF1:=H.all hF;have hbw1:cb bw (wkc x0.s p a x0.l.length cap k) 125∈(M++G')++F:=zz6 _ (zz6 _ hbw);have hc11:cb c1 [(pt bw)] 123∈(M++G')++F:=zz6 _ (zz6 _ hc1);have hst1:StaM ((M++G')++F) x0.s p:=hst.mono (fun z hz=>(List.mem_append.1 hz).elim (fun h=>zz6 _ (zz6 _ h)) (zz3 _));clear H;obtain⟨w1,rfl⟩:∃ w1,w1=w:=⟨w,rfl⟩;have H:=zBm w1;generalize hF1d:(M++G')++F=F1 at hF1 hbw1 hc11 hst1;have hrow:=fun w (hG:Mem w F1)=>zPL x0.s.aucs p.ad x0.s.clock w hG hst1.au;(repeat' first|refine yX ?_|(refine CW.regionL mixed 13 (H.memF hF1) [] ?_ ?_;exact rfl;refine wQ H ?_;clear H;intro w H;have qh:=H.memF hF1;refine' l1 0 qh ?_ ?_;rotate_left;(exact(fun w2 hM2=>zF sg rfl rfl hM2 hc11 rfl rfl));refine lT sg 1 qh ?_;refine lT sg 2 qh ?_;refine lT sg 3 qh ?_;refine' l1 4 qh ?_ ?_;rotate_left;(exact(fun w2 hM2=>zF sg rfl rfl hM2 hbw1 rfl rfl));refine' l1 5 qh ?_ ?_;rotate_left;(exact(fun w2 hM2=>zF sg rfl rfl hM2 hc11 rfl rfl));refine lT sg 6 qh ?_;refine lT sg 7 qh ?_;refine lT sg 8 qh ?_;refine' l1 9 qh ?_ ?_;rotate_left;(exact(fun w2 hM2=>zF sg rfl rfl hM2 hbw1 rfl rfl));refine lT sg 12 qh ?_)|refine lN ?_|refine l2 10 ?_|refine l2 11 ?_|(refine l5 (H.memF hF1) ?_)|(refine f0 zS1 ?_;refine⟨_,hrow _ (H.memF hF1),?_⟩;clear H;intro v Mr w hR H;(try simp only[zca,zcb] at H);obtain⟨r,ar,cr,hr,rfl,hO⟩:=hR)|fail);obtain rfl:=hr.uniq (zGA x0.s.aucs x0.s.clock);have hF0:=hF;rw[<- hx0] at hO;have hlr:((zFH x0.s.aucs x0.s.clock)).length=x0.ids.length:=by rw[hx0,yyp]
have hl32:x0.ids.length<=1000:=by
 rw[hx0,yyp];have h32:=(zs.1 gx.aucs).1;rcases zGA x0.s.aucs x0.s.clock with ⟨_,_,h3⟩|⟨_,h3⟩
 .have:=h3.length_eq;have:=List.length_filter_le (fun x=>zAW x x0.s.clock) x0.s.aucs;omega
 .rw[h3];exact zzD _
rw[hlr];have hin:=zFm x0.ids hO (fun _ h=>h) rfl hl32;obtain⟨hn5,hc5,b5,off5,cs5,T5,fr5,hs5⟩:=hin;have HG:=H0.addR H;rw[yyh] at HG;obtain⟨ids,hids⟩:∃ ids,x0.ids=ids:=⟨_,rfl⟩;rw[hids] at hs5 hl32 ⊢;clear H H0 hF1 hbw1 hc11 hst1 hrow hF1d hbw hc1 hst hlen hO hn5 hc5;refine zD [(4,9),(22,52)] (fun y:Nat × WS × zA=>[(22,.int .i64 (y.1:Int))]) (fun y w=>y.1<=ids.length/\y.2.1.ids=ids.drop y.1/\K y.2.1 y.2.2/\St w0 (y.2.2++(G'++Mr)) w) (fun y=>ids.length - y.1) (0,x0,M) ⟨rfl,trivial⟩ ⟨zzD _,hids,hK,HG⟩ ?_;clear HG hK;rintro⟨k,x,M⟩ gh w ⟨hk,hxi,hK,H⟩;simp only at hk hxi hK H ⊢;by_cases hlt:k<ids.length;rotate_left
.obtain rfl:k=ids.length:=by omega
 have d5:decide ((ids.length:Int)<(ids.length:Int))=false:=yyc qO;have hn:saN x=none:=by unfold saN;rw[hxi,List.drop_length];rfl
 (repeat' first|refine yW ?_|fail);exact zB2 (vs:=[]) trivial (H.sub (List.Sublist.append_left (yyt _ _) _)) (.inl ⟨x,M,hn,hK,rfl⟩)
have d5:decide ((k:Int)<(ids.length:Int))=true:=yyb qO;obtain⟨⟨p,a,cap,kk,hbw,hst,gx,hlen⟩,hc1⟩:=hEx x M hK;obtain⟨id,hid⟩:∃ id,ids.getD k 0=id:=⟨_,rfl⟩;have hcons:x.ids=id::ids.drop (k+1):=by rw[hxi,List.drop_eq_getElem_cons hlt,<- hid];simp[yy1 hlt]
subst hid;have hsn:saN x=some (zCa x.s (ids.getD k 0)):=by unfold saN;rw[hcons];rfl
have hF1:=H.all hF0;have hbw1:cb bw (wkc x.s p a x.l.length cap kk) 125∈(M++(G'++Mr))++F:=zz6 _ (zz6 _ hbw);have hc11:cb c1 [(pt bw)] 123∈(M++(G'++Mr))++F:=zz6 _ (zz6 _ hc1);have hst1:StaM ((M++(G'++Mr))++F) x.s p:=hst.mono (fun z hz=>(List.mem_append.1 hz).elim (fun h=>zz6 _ (zz6 _ h)) (zz3 _));have hs6:=hs5.mono (show Mr⊆(M++(G'++Mr))++F from fun z hz=>zz6 _ (zz3 _ (zz3 _ hz)));have H0:=H;clear H;obtain⟨w1,rfl⟩:∃ w1,w1=w:=⟨w,rfl⟩;have H:=zBm w1;generalize hF1d:(M++(G'++Mr))++F=F1 at hF1 hbw1 hc11 hst1 hs6;have hwin:=fun w (hG:Mem w F1)=>zXU gx (ids.getD k 0) w hG hst1;unfold zCa at hsn;cases hwn:(zAy x.s (ids.getD k 0)).2.2 with
| false =>
  rw[hwn,if_neg (by decide)] at hsn;have hsa:=hsn;have hnx:nxE saN x=x.go (evF 19 [ids.getD k 0]):=by unfold nxE;rw[hsa]
  rw[hwn] at hwin;(repeat' first|refine yS ?_|(refine yB ?_;intro b w H)|(refine y11 sg H ?_;intro w H)|refine x40 sg hs6 ?_|refine z13 (zLB sg hs6 (H.memF hF1) hlt) ?_|refine z13 (zF sg rfl rfl (H.memF hF1) hc11 rfl rfl) ?_|refine z13 (zF sg rfl rfl (H.memF hF1) hbw1 rfl rfl) ?_|(refine c0 zTF ?_;refine⟨_,hwin _ (H.memF hF1),?_⟩;clear H;intro w H)|(refine CW.regionY (id:=7) ?_)|(refine OY.preN 2 4 ?_;simp only[List.take_succ_cons,List.take_zero,List.drop_succ_cons,List.drop_zero])|refine yFe ?_|refine yFf ?_|refine yU ?_|with_reducible apply zAT|fail);have HP:=(H0.addR H).perm zSR;have hy:=hY x (.agg ((evF 19 [ids.getD k 0]).cells ⟨some ⟨_,0,none⟩,1,none,0⟩).toArray) M _ _ w hK ⟨evF 19 [ids.getD k 0],_,hsa,rfl,zL2 19 [ids.getD k 0] (show(1:Nat)<=1000 by decide) (zz2 _),zVb 19 _ (by decide)⟩ HP;rw[hnx] at hy;refine OY.yield hy ?_ (hw:=OY.go rfl);clear H HP hy;rintro v w hv;refine OY.all ?_;rcases hv with ⟨rfl,M',hK',H⟩|⟨rfl,M',hKd,H⟩
  ·(repeat' first|refine yX ?_|fail);exact zC (k+1,x.go (evF 19 [ids.getD k 0]),M') rfl ⟨zU qO,trivial⟩ ⟨hlt,by show x.ids.tail=_;rw[hcons];rfl,hK',H.sub (List.Sublist.append_left (yyt _ _) _)⟩ (by show ids.length - (k+1)<ids.length - k;omega)
  ·(repeat' first|refine yX ?_|fail);exact zc (vs:=[]) trivial (H.sub (List.Sublist.append_left ((yyt G' Mr).trans (yyt _ _)) _)) (.inr ⟨M',hKd,rfl⟩)
| true =>
  rw[hwn,if_pos rfl] at hsn;have hsa:=hsn;have hnx:nxE saN x=x.go (evF 18 [ids.getD k 0,(zAy x.s (ids.getD k 0)).1.acct,(zAy x.s (ids.getD k 0)).1.amount,(zAy x.s (ids.getD k 0)).2.1]):=by unfold nxE;rw[hsa]
  rw[hwn] at hwin;(repeat' first|refine yS ?_|(refine yB ?_;intro b w H)|(refine y11 sg H ?_;intro w H)|refine x40 sg hs6 ?_|refine z13 (zLB sg hs6 (H.memF hF1) hlt) ?_|refine z13 (zF sg rfl rfl (H.memF hF1) hc11 rfl rfl) ?_|refine z13 (zF sg rfl rfl (H.memF hF1) hbw1 rfl rfl) ?_|(refine c0 zTF ?_;refine⟨_,hwin _ (H.memF hF1),?_⟩;clear H;intro w H)|(refine CW.regionY (id:=7) ?_)|(refine OY.preN 2 4 ?_;simp only[List.take_succ_cons,List.take_zero,List.drop_succ_cons,List.drop_zero])|refine yFf ?_|refine yU ?_|with_reducible apply zAT|fail);have HP:=(H0.addR H).perm zSS;have hy:=hY x (.agg ((evF 18 [ids.getD k 0,(zAy x.s (ids.getD k 0)).1.acct,(zAy x.s (ids.getD k 0)).1.amount,(zAy x.s (ids.getD k 0)).2.1]).cells ⟨some ⟨_,0,none⟩,4,none,0⟩).toArray) M _ _ w hK ⟨evF 18 [ids.getD k 0,(zAy x.s (ids.getD k 0)).1.acct,(zAy x.s (ids.getD k 0)).1.amount,(zAy x.s (ids.getD k 0)).2.1],_,hsa,rfl,zL2 18 [ids.getD k 0,(zAy x.s (ids.getD k 0)).1.acct,(zAy x.s (ids.getD k 0)).1.amount,(zAy x.s (ids.getD k 0)).2.1] (show(4:Nat)<=1000 by decide) (zz2 _),zVb 18 _ (by decide)⟩ HP;rw[hnx] at hy;refine OY.yield hy ?_ (hw:=OY.go rfl);clear H HP hy;rintro v w hv;refine OY.all ?_;rcases hv with ⟨rfl,M',hK',H⟩|⟨rfl,M',hKd,H⟩
  ·(repeat' first|refine yX ?_|fail);exact zC (k+1,x.go (evF 18 [ids.getD k 0,(zAy x.s (ids.getD k 0)).1.acct,(zAy x.s (ids.getD k 0)).1.amount,(zAy x.s (ids.getD k 0)).2.1]),M') rfl ⟨zU qO,trivial⟩ ⟨hlt,by show x.ids.tail=_;rw[hcons];rfl,hK',H.sub (List.Sublist.append_left (yyt _ _) _)⟩ (by show ids.length - (k+1)<ids.length - k;omega)
  ·(repeat' first|refine yX ?_|fail);exact zc (vs:=[]) trivial (H.sub (List.Sublist.append_left ((yyt G' Mr).trans (yyt _ _)) _)) (.inr ⟨M',hKd,rfl⟩)}
def ExV (c1:Nat)(_:WS)(M:zA):Prop:=cb c1 [.slice none 0 0] 30∈M
theorem zXV {w0:World}(c1:Nat)(x0:WS) :
  zNm prog w0 151 [(pt c1)] (ExV c1) (PreE fun _=>none) (nxE fun _=>none) (fun _=>True) x0:=by intro l K Kd hEx hY M G' w hK H;have hc1:=hEx x0 M hK;refine eN func151 ntmps151 ?_;(repeat' first|refine yX ?_|refine z13 (zF sg rfl rfl (H.mem) (zz6 _ hc1) rfl rfl) ?_|fail);refine zD [(4,4),(7,15)] (fun _:Nat=>[(7,.int .i64 0)]) (fun _ w=>St w0 (M++G') w) (fun k=>k) 0 ⟨rfl,trivial⟩ H ?_;clear H;rintro k gh w H;(repeat' first|refine yX ?_|fail);exact zB2 (vs:=[]) trivial H (.inl ⟨x0,M,trivial,hK,rfl⟩)
theorem zHz {s:Sta}(h:Good s){i:Nat}(hi:i<s.aucs.length):zAI s (au_ s.aucs i).id=i:=by{
have hp:=(zs.1 h.aucs).2.2;rw[List.pairwise_iff_getElem] at hp;have e:∀ k (hk:k<s.aucs.length),au_ s.aucs k=s.aucs[k]:=fun k hk=>by simp[au_,yy2,yy1 hk]
unfold zAI;rcases zX (fun j=>(au_ s.aucs j).id==(au_ s.aucs i).id) s.aucs.length with ⟨k,hk,_,hp',hx⟩|⟨hn,_⟩
.rw[hx];have h1:(au_ s.aucs k).id=(au_ s.aucs i).id:=by simpa using hp'
 rw[e k hk,e i hi] at h1;rcases Nat.lt_trichotomy k i with g|g|g
 .have:=hp k i hk hi g;omega
 .rw[g]
 .have:=hp i k hi hk g;omega
.have:=hn i hi;simp at this}
theorem zST {i a p z:Int}:zk (evF 18 [i,a,p,z])=true↔(1<=i/\i<=1099511627776)/\(1<=a/\a<=64)/\(1<=p/\p<=1125899906842624)/\0<=z/\z<=1125899906842624:=by have e:zk (evF 18 [i,a,p,z])=((true&&(List.range 4).all fun k=>zBp 3 (([99,97,109,122]:List Nat).getD k 0) (([i,a,p,z]:List Int).getD k 0))&&true):=rfl;rw[e,show List.range 4=[0,1,2,3] from rfl];simp only[List.all_cons,List.all_nil,Bool.true_and,Bool.and_true];have e1:zBp 3 (([99,97,109,122]:List Nat).getD 0 0) (([i,a,p,z]:List Int).getD 0 0)=(decide (1<=i)&&decide (i<=1099511627776)):=rfl;have e2:zBp 3 (([99,97,109,122]:List Nat).getD 1 0) (([i,a,p,z]:List Int).getD 1 0)=(decide (1<=a)&&decide (a<=64)):=rfl;have e3:zBp 3 (([99,97,109,122]:List Nat).getD 2 0) (([i,a,p,z]:List Int).getD 2 0)=(decide (1<=p)&&decide (p<=1125899906842624)):=rfl;have e4:zBp 3 (([99,97,109,122]:List Nat).getD 3 0) (([i,a,p,z]:List Int).getD 3 0)=(decide (0<=z)&&decide (z<=1125899906842624)):=rfl;rw[e1,e2,e3,e4];simp only[yy3,decide_eq_true_eq]
theorem zNp {i:Int}:zk (evF 19 [i])=true↔(1<=i/\i<=1099511627776):=by have e:zk (evF 19 [i])=((true&&(List.range 1).all fun k=>zBp 3 (([99]:List Nat).getD k 0) (([i]:List Int).getD k 0))&&true):=rfl;rw[e,show List.range 1=[0] from rfl];simp only[List.all_cons,List.all_nil,Bool.true_and,Bool.and_true];have e1:zBp 3 (([99]:List Nat).getD 0 0) (([i]:List Int).getD 0 0)=(decide (1<=i)&&decide (i<=1099511627776)):=rfl;rw[e1];simp only[yy3,decide_eq_true_eq]
theorem zNq {s:Sta}(h:Good s)(k:Int)(n:List Int):(zM s (evF k n)).2=if zk (evF k n)=true then(zB6 s k n ByteArray.empty).2 else 4:=by{
unfold zM zAG;rw[if_pos (zAl.2 h)];by_cases hm:zk (evF k n)=true
.rw[if_pos hm,if_pos ⟨rfl,hm⟩];show(if (zB6 s k n ByteArray.empty).2=0 then zB6 s k n ByteArray.empty else(zBg,(zB6 s k n ByteArray.empty).2)).2=_;split<;>rfl
.rw[if_neg hm,if_neg (fun g=>hm g.2)]}
theorem zSU (s:Sta)(n:List Int)(t:ByteArray):zB6 s 18 n t=zGM s n:=rfl
theorem zNr (s:Sta)(n:List Int)(t:ByteArray):zB6 s 19 n t=zCn s n:=rfl
theorem zQ2 {s:Sta}(h:Good s){i:Nat}(hi:i<s.aucs.length)(a p z:Int):zGM s [(au_ s.aucs i).id,a,p,z]=if zAW (au_ s.aucs i) s.clock=true/\(zI s (au_ s.aucs i)).2.2=true/\(zI s (au_ s.aucs i)).1.acct=a/\(zI s (au_ s.aucs i)).1.amount=p/\(zI s (au_ s.aucs i)).2.1=z then zAz s i (zEA (au_ s.aucs i) (zI s (au_ s.aucs i)).1 (zI s (au_ s.aucs i)).2.1) else(s,46):=by have e:=zHz h hi;unfold zGM;simp only[nF,List.getD_cons_zero,List.getD_cons_succ,e,Int.toNat_natCast];rw[if_neg qO]
theorem zKx {s:Sta}(h:Good s){i:Nat}(hi:i<s.aucs.length):zCn s [(au_ s.aucs i).id]=if (zI s (au_ s.aucs i)).2.2=true\/zAW (au_ s.aucs i) s.clock=false then(s,46) else zAz s i []:=by have e:=zHz h hi;unfold zCn;simp only[nF,List.getD_cons_zero,e,Int.toNat_natCast];rw[if_neg qO]
theorem id_bd {s:Sta}(h:Good s){i:Nat}(hi:i<s.aucs.length):1<=(au_ s.aucs i).id/\(au_ s.aucs i).id<=1099511627776:=zOq ((zs.1 h.aucs).2.1 _ (zi hi))
theorem won_bd {s:Sta}(h:Good s){i:Nat}(hi:i<s.aucs.length)(hw:(zI s (au_ s.aucs i)).2.2=true):((1<=(zI s (au_ s.aucs i)).1.acct/\(zI s (au_ s.aucs i)).1.acct<=64)/\(1<=(zI s (au_ s.aucs i)).1.amount/\(zI s (au_ s.aucs i)).1.amount<=1125899906842624)/\0<=(zI s (au_ s.aucs i)).2.1/\(zI s (au_ s.aucs i)).2.1<=1125899906842624) /\
  (zI s (au_ s.aucs i)).2.1=(zBq (zI s (au_ s.aucs i)).1.amount s.fee).1/\(au_ s.aucs i).reserve<=(zI s (au_ s.aucs i)).1.amount:=by have hm:zAS (au_ s.aucs i)=true:=(zs.1 h.aucs).2.1 _ (zi hi);have hn:=zAL.1 h.nums;obtain⟨w1,w2,w3,w4,w5⟩:=zEI hw;obtain⟨m,m1,m2,_,_,m5,m6,_⟩:=zF2 hm w1;have hb:=zi (l:=(au_ s.aucs i).bids) m1;obtain⟨b1,b2,b3,b4,b5,b6⟩:=zCk hm;have hb6:=b6 _ hb;have f1:=zQm (q:=(zH (au_ s.aucs i)).1.amount) qO hn.2.1;rw[w2,w3,m2];exact⟨⟨hb6.1,⟨by omega,by omega⟩,by omega,by omega⟩,rfl,m5⟩
theorem zSV {s:Sta}(h:Good s){i:Nat}(hi:i<s.aucs.length)(a p z:Int):((zM s (evF 18 [(au_ s.aucs i).id,a,p,z])).2=0)↔(zAW (au_ s.aucs i) s.clock=true/\(zI s (au_ s.aucs i)).2.2=true/\(zI s (au_ s.aucs i)).1.acct=a/\(zI s (au_ s.aucs i)).1.amount=p/\(zI s (au_ s.aucs i)).2.1=z):=by{
rw[zNq h,zSU,zQ2 h hi];constructor
.intro g;by_cases hm:zk (evF 18 [(au_ s.aucs i).id,a,p,z])=true
 .rw[if_pos hm] at g;by_cases hc:zAW (au_ s.aucs i) s.clock=true/\(zI s (au_ s.aucs i)).2.2=true/\(zI s (au_ s.aucs i)).1.acct=a/\(zI s (au_ s.aucs i)).1.amount=p/\(zI s (au_ s.aucs i)).2.1=z
  .exact hc
  .rw[if_neg hc] at g;exact absurd g (show(46:Int)≠0 by decide)
 .rw[if_neg hm] at g;exact absurd g (by decide)
.intro hc;obtain⟨⟨c1,c2,c3⟩,_,_⟩:=won_bd h hi hc.2.1;rw[if_pos hc,if_pos (zST.2 ⟨id_bd h hi,by rw[<- hc.2.2.1];exact c1,by rw[<- hc.2.2.2.1];exact c2,by rw[<- hc.2.2.2.2];exact c3⟩)];exact zXQ h hi hc.2.1}
theorem zNs {s:Sta}(h:Good s){i:Nat}(hi:i<s.aucs.length):(zM s (evF 19 [(au_ s.aucs i).id])).2=if (zI s (au_ s.aucs i)).2.2=true\/zAW (au_ s.aucs i) s.clock=false then 46 else 0:=by{
rw[zNq h,zNr,zKx h hi,if_pos (zNp.2 (id_bd h hi))];split
.rfl
.exact zSJ h hi}
theorem zSW {s:Sta}(h:Good s){i:Nat}(hi:i<s.aucs.length):zBS s.aucs (au_ s.aucs i).id=(au_ s.aucs i,true):=by have e:zKA s.aucs (au_ s.aucs i).id=i:=zHz h hi;unfold zBS;rw[e,if_neg qO,Int.toNat_natCast]
end Go.Proofs.YtejhijhnlogikaaGreatDoor
