/- Steps of the proof. -/
import Derived.Test.YtejhijhnlogikaaGreatDoorMe28
set_option linter.all false
set_option maxHeartbeats 16000000
namespace Go.Proofs.YtejhijhnlogikaaGreatDoor
open Go Go.Sk Go.RowKit Go.Proofs.Tryz
attribute [local irreducible] Go.Calls
def DoX (bo bc:Nat)(cc:List Value)(N:zA)(m:Mrk)(c:Cmd)(t:Sta)(q:SPt)(e:Int)(N':zA):Prop :=
 e=(zCb m.s c).2/\((e≠0/\N'=cb bo [.slice none 0 0] 30::cb bc cc 29::N) \/
   (e=0/\t=(zCs m.s (zCb m.s c).1).1/\∃ a cap r Y,N'=cb bo [.slice a (zCb m.s c).1.length cap] 30::cb bc cc 29::(N++Y)/\EvsM Y a cap (zCb m.s c).1 r/\StaM Y t q))
theorem c_mDo1 {F N:zA}{m:Mrk}{p:SPt}{bm bo bc:Nat}{c:Cmd}{na:OA}{nc:Nat}{w0:World}(hF:Mem w0 F)(hP:PriM F)(hK:KinM F)(hC:ComM F)(hg:Good m.s)(hs:StaM (N++F) m.s p)(hc:zGG c)(hN:Ints (N++F) na nc c.nums)(w:World)
  (H:St w0 (cb bm (mrk m p) 74::cb bo [.slice none 0 0] 30::cb bc (c.cells na nc) 29::N) w) :
  Calls prog 37 ([Value.agg (m.s.cells p).toArray]++[(pt bc),(pt bo)]).toArray w (zZ (ActR bm m p (DoX bo bc (c.cells na nc) N m c)) w0):=by{
have hsub:∀ {G:zA},N⊆G->N++F⊆G++F:=fun h z hz=>(List.mem_append.1 hz).elim (fun g=>zz6 _ (h g)) (zz3 _);have hcom:=fun w (G:zA) (hG:Mem w (G++F)) (h:N⊆G)=>zSY (s:=m.s) (p:=p) (c:=c) (na:=na) (nc:=nc) (zFn hg) hc w hG (hP.mono (zz8 _ _)) (hK.mono (zz8 _ _)) (hC.mono (zz8 _ _)) (hs.mono (hsub h)) (SlA.mono hN (hsub h));unfold DoX;obtain⟨es,k,hcmd⟩:∃ es k,zCb m.s c=(es,k):=⟨_,_,rfl⟩;rw[hcmd] at hcom ⊢;simp only;refine eN func37 ntmps37 ?_;by_cases hk:k=0;rotate_left
.have d1:(k != 0)=true:=by simpa using hk
 (repeat' first|refine yW ?_|(refine yB ?_;intro b w H)|(refine y11 sg H ?_;intro w H)|(refine f0 ent38 ?_;refine⟨_,hcom _ _ (H.all hF) (by intro z hz;simp[hz]),?_⟩;clear H;intro v M w hR H;(try simp only[zca,zcb] at H);obtain⟨ae,ce,qe,rfl,hE⟩:=hR)|fail);exact zc (vs:=[_,_]) (M:=_::_::_::N) ⟨zg sg rfl H.mem (zz2 _) rfl rfl,zP rfl,trivial⟩ (H.sub (yy6 _ (yy6 _ (yy5 _ (yy5 _ (yy5 _ (yyt _ _))))))) ⟨zBg,SPt.n0,k,_,rfl,rfl,rfl,.inl ⟨hk,rfl⟩⟩
subst hk;obtain⟨_,gt,hev⟩:=zXc hcmd;obtain⟨u,hu⟩:=zPf hcmd;have hal:=hu.all;have hall:=fun w (G:zA) (ae:OA) (cape:Nat) (qe:Nat->EPt) (M:zA) (hE:EvsM M ae cape es qe) (hG:Mem w (G++F)) (h2:M⊆G) (h:N⊆G)=>zVS (s:=m.s) (p:=p) (zFn hg) es qe hev w hG (hP.mono (zz8 _ _)) (hK.mono (zz8 _ _)) (hs.mono (hsub h)) (hE.mono fun x hx=>zz6 _ (h2 hx));rw[hal] at hall gt ⊢;simp only at gt ⊢;(repeat' first|refine yW ?_|(refine yB ?_;intro b w H)|(refine y11 sg H ?_;intro w H)|(refine f0 ent38 ?_;refine⟨_,hcom _ _ (H.all hF) (by intro z hz;simp[hz]),?_⟩;clear H;intro v M2 w hR H;(try simp only[zca,zcb] at H);obtain⟨ae,ce,qe,rfl,hE⟩:=hR)|(refine f0 ent39 ?_;refine⟨_,hall _ _ _ _ _ _ hE (H.all hF) (by intro z hz;simp[hz]) (by intro z hz;simp[hz]),?_⟩;clear H;intro v M3 w hR H;(try simp only[zca,zcb] at H);obtain⟨p3,rfl,hs3⟩:=hR.sta (zBJ gt))|fail);rw[yyh] at H;exact zc (vs:=[_,_]) (M:=_::_::_::(N++(M2++M3))) ⟨zg sg rfl H.mem (zz2 _) rfl rfl,zP rfl,trivial⟩ (H.sub (yy6 _ (yy6 _ (yy7 _)))) ⟨u,p3,0,_,rfl,rfl,rfl,.inr ⟨rfl,rfl,ae,ce,qe,M2++M3,rfl,hE.mono (yyi _ _),hs3.mono (zz8 _ _)⟩⟩}
def MDoG (G:zA)(bm:Nat)(N:zA)(r:Mrk × List Evt × Int)(M:zA)(v:Value):Prop:=∃ p a cap q Y,M=cb bm (mrk r.1 p) 74::(N++Y)/\v=.tuple #[.slice a r.2.1.length cap,.int .i64 r.2.2]/\EvsM Y a cap r.2.1 q/\StaM (Y++G) r.1.s p
def MDoR (F:zA)(bm:Nat)(N:zA)(r:Mrk × List Evt × Int)(M:zA)(v:Value):Prop:=∃ p a cap q Y,M=cb bm (mrk r.1 p) 74::(N++Y)/\v=.tuple #[.slice a r.2.1.length cap,.int .i64 r.2.2]/\EvsM Y a cap r.2.1 q/\StaM ((N++Y)++F) r.1.s p
theorem sub_yn {Y N F:zA}:Y++(N++F)⊆(N++Y)++F:=fun z hz=>by simp only[List.mem_append] at hz ⊢;rcases hz with h|h|h<;>simp[h]
theorem zQ4 {F:zA}{cap:Nat}{q:Nat->EPt}(h:cap=0:=by rfl):EvsM F none cap [] q:=by subst h;exact⟨⟨zzD _,zzD _,0,0,[],0,(0,0),fun h=>absurd h (yyz 0)⟩,fun j hj=>absurd hj (zzE _)⟩
theorem zJ1 {F N G:zA}{m:Mrk}{p:SPt}{bm:Nat}{c:Cmd}{na:OA}{nc:Nat}{w0 w:World}(H:St w0 (cb bm (mrk m p) 74::N) w)(hF:Mem w0 F)(hP:PriM F)(hK:KinM F)(hC:ComM F)(hok:MkOk m)(hG:G⊆N++F)(hs:StaM G m.s p)(hc:zGG c)(hN:Ints (N++F) na nc c.nums) :
  Calls prog 12 [(pt bm),.agg (c.cells na nc).toArray].toArray w (zZ (MDoG G bm N (mDo m c)) w0):=by{
have hs0:StaM ([]++G) m.s p:=hs;replace hs:=hs.mono hG;unfold mDo;by_cases hn:1048576<=m.n
.rw[if_pos hn];refine eN func12 ntmps12 ?_;(repeat' first|refine yW ?_|(refine yB ?_;intro b w H)|(refine c0 zIA ?_;refine⟨_,zJv hn _ (H.all hF) ⟨p,by simp,hs.mono (fun z hz=>(List.mem_append.1 hz).elim (fun g=>zz6 _ (by simp[g])) (zz3 _))⟩,?_⟩;clear H;intro w H)|fail);exact zBH (M:=_::(N++[])) rfl rfl (by rw[List.append_nil];exact H.sub (yy6 _ (yy6 _ (yy7 _)))) ⟨p,none,0,fun _=>zEN,[],rfl,rfl,zQ4,hs0⟩
rw[if_neg hn];have hcc:=fun(bo bc:Nat) w (h1:St w0 (cb bm (mrk m p) 74::cb bo [.slice none 0 0] 30::cb bc (c.cells na nc) 29::N) w)=>zKw h1 ⟨hok.n.1,by omega⟩ ent37 (c_mDo1 hF hP hK hC hok.good hs hc hN);unfold ChgR DoX at hcc;obtain⟨es,k,hcmd⟩:∃ es k,zCb m.s c=(es,k):=⟨_,_,rfl⟩;rw[hcmd] at hcc ⊢;simp only at hcc ⊢;by_cases hk:k=0;rotate_left
.have d1:(k != 0)=true:=by simpa using hk
 rw[if_pos hk];refine eN func12 ntmps12 ?_;(repeat' first|refine yW ?_|(refine yB ?_;intro b w H)|(have hp:=H.perm (List.perm_middle (l₁:=[_,_]));simp only[zca,zcb] at hp;(refine' y33 zIA ?_ ?_;rotate_left 2;exact hcc _ _ _ hp;rintro v M w ⟨t,q,e,N',rfl,⟨rfl,hX⟩,rfl⟩ H2;clear H hp;obtain⟨_,rfl⟩:=hX.resolve_right (fun h=>hk h.1);rw[if_neg hk] at H2;have H:=H2;clear H2))|fail);exact zBH (M:=_::(N++[])) rfl rfl (by rw[List.append_nil];exact H.sub (yy5 _ (yy6 _ (yy6 _ (yy7 _))))) ⟨p,none,0,fun _=>zEN,[],rfl,rfl,zQ4,hs0⟩
subst hk;rw[if_neg (fun h=>h rfl)];refine eN func12 ntmps12 ?_;(repeat' first|refine yW ?_|(refine yB ?_;intro b w H)|(have hp:=H.perm (List.perm_middle (l₁:=[_,_]));simp only[zca,zcb] at hp;(refine' y33 zIA ?_ ?_;rotate_left 2;exact hcc _ _ _ hp;rintro v M w ⟨t,q,e,N',rfl,⟨rfl,hX⟩,rfl⟩ H2;clear H hp;obtain⟨_,rfl,a1,c1,q1,Y,rfl,hE,hS⟩:=hX.resolve_left (fun h=>h.1 rfl);rw[if_pos rfl] at H2;have H:=H2;clear H2))|fail);exact zBH (M:=_::(N++Y)) rfl rfl (H.sub (yy5 _ (yy6 _ (yy6 _ (yy7 _))))) ⟨q,a1,c1,q1,Y,rfl,rfl,hE,hS.mono (yyi _ _)⟩}
theorem zKz {F N:zA}{m:Mrk}{p:SPt}{bm:Nat}{c:Cmd}{na:OA}{nc:Nat}{w0 w:World}(H:St w0 (cb bm (mrk m p) 74::N) w)(hF:Mem w0 F)(hP:PriM F)(hK:KinM F)(hC:ComM F)(hok:MkOk m)(hs:StaM (N++F) m.s p)(hc:zGG c)(hN:Ints (N++F) na nc c.nums) :
  Calls prog 12 [(pt bm),.agg (c.cells na nc).toArray].toArray w (zZ (MDoR F bm N (mDo m c)) w0) :=
 (zJ1 H hF hP hK hC hok (fun _ h=>h) hs hc hN).mono fun _ _ ⟨v,M,h1,⟨p,a,cap,q,Y,h2,h3,h4,h5⟩,h6⟩=>⟨v,M,h1,⟨p,a,cap,q,Y,h2,h3,h4,h5.mono sub_yn⟩,h6⟩
theorem zNw {F:zA}{m:Mrk}{bm:Nat}{c:Cmd}{na:OA}{nc:Nat}(w0:World)(hF:Mem w0 F)(hP:PriM F)(hK:KinM F)(hC:ComM F)(hok:MkOk m)(hm:MkM F bm m)(hc:zGG c)(hN:Ints F na nc c.nums) :
  Cf 24 [(pt bm),.agg (c.cells na nc).toArray] (CmdR (mDo m c).2) w0:=by have hcp:=fun w (hG:Mem w F)=>zHK (zBJ hok.good) w hG hm;obtain⟨⟨m',es,k⟩,hr⟩:∃ r,mDo m c=r:=⟨_,rfl⟩;have hdo:=fun{w:World} {b1 b2:Nat} {p2:SPt} {N:zA} (hs2:StaM N m.s p2) (H:St w0 (cb b1 (c.cells na nc) 29::cb b2 (mrk m p2) 74::N) w)=>zKz (c:=c) (na:=na) (nc:=nc) (H.perm (List.Perm.swap _ _ _)) hF hP hK hC hok (hs2.mono (fun z hz=>zz6 _ (zz4 _ hz))) hc (SlA.mono hN (zz8 _ _));unfold MDoR at hdo;rw[hr] at hdo ⊢;simp only at hdo ⊢;refine eS func24 ntmps24 fun H=>?_;(repeat' first|refine yX ?_|(refine yB ?_;intro b w H)|(refine CW.regionL mixed 8 (z6s (x:=cb _ (c.cells na nc) 29) H hF) [] ?_ ?_;exact rfl;refine wQ H ?_;clear H;intro w H;refine lT sg 0 (z6s H hF) ?_;refine' l1 2 (z6s H hF) ?_ ?_;rotate_left;(exact z3 sg))|refine lN ?_|(refine lT sg 4 (z6s H hF) ?_)|(refine lT sg 5 (z6s H hF) ?_)|(refine lT sg 6 (z6s H hF) ?_)|(refine lT sg 7 (z6s H hF) ?_)|refine l2 1 ?_|refine l2 3 ?_|(refine l5 (z6s H hF) ?_)|(refine f0 zH9 ?_;refine⟨_,hcp _ (H.memF hF),?_⟩;clear H;intro v M w hR H;(try simp only[zca,zcb] at H);obtain⟨b2,p2,N2,rfl,rfl,hs2⟩:=hR)|(refine' y33 zDj ?_ ?_;rotate_left 2;exact hdo hs2 H;rintro v M w ⟨p',a,cap,q,Y,rfl,rfl,hE,hS⟩ H2;clear H;have H:=H2;clear H2;simp only[zca] at H)|fail);exact zBH (M:=Y) rfl rfl (H.sub (yy6 _ (yy6 _ (yyx _ _)))) ⟨a,cap,q,rfl,hE⟩
theorem zXd {v:Int}{c:Nat}{n:Int}(hv:v=1\/v=2)(h:zBp v c n=true):zBp (v+1) c ((zAu v c).2+(zAu v c).1*n)=true:=by{
unfold zBp zDO zKd at h ⊢;unfold zAu;rcases hv with rfl|rfl
all_goals
 by_cases h97:c=97
 .subst h97;simp at h ⊢;omega
 by_cases h105:c=105
 .subst h105;simp at h ⊢;omega
 by_cases h111:c=111
 .subst h111;simp at h ⊢;omega
 by_cases h99:c=99
 .subst h99;simp at h ⊢;omega
 by_cases h113:c=113
 .subst h113;simp at h ⊢;omega
 by_cases h109:c=109
 .subst h109;simp at h ⊢;omega
 by_cases h122:c=122
 .subst h122;simp at h ⊢;omega
 by_cases h112:c=112
 .subst h112;simp at h ⊢;omega
 by_cases h107:c=107
 .subst h107;simp at h ⊢;omega
 by_cases h98:c=98
 .subst h98;simp at h ⊢;omega
 by_cases h116:c=116
 .subst h116;simp at h ⊢;omega
 by_cases h115:c=115
 .subst h115;simp at h ⊢;omega
 simp[h97,h105,h111,h99,h113,h109,h122,h112,h107,h98,h116,h115] at h}
theorem zDA (v:Int)(old:List Nat):∀ (l:List Nat) (k:Nat),(zAY v old l k).length=l.length
 | [],_=>rfl
 | c::l,k=>by
   unfold zAY
   split<;>rw[List.length_cons,List.length_cons,zDA v old l]
theorem zFq (v:Int)(old:List Nat):∀ (l:List Nat) (k i:Nat),k<=old.length->i<l.length->(zAY v old l k).getD i default=zDd (l.getD i 0)\/∃ j,j<old.length/\old.getD j 0=l.getD i 0/\(zAY v old l k).getD i default=⟨(j:Int),(zAu v (l.getD i 0)).1,(zAu v (l.getD i 0)).2⟩
 | [],_,_,_,hi=>absurd hi (zzE _)
 | c::l,k,0,hk,_=>by
   unfold zAY
   split
   .exact .inl rfl
   .rename_i h
    have h1:k≠old.length:=fun e=>h (.inl e)
    have h2:old.getD k 0=c:=Decidable.of_not_not fun e=>h (.inr e)
    exact .inr ⟨k,by omega,h2,rfl⟩
 | c::l,k,i+1,hk,hi=>by
   unfold zAY
   have hi:i<l.length:=by simpa using hi
   split
   .exact zFq v old l k i hk hi
   .rename_i h
    have h1:k≠old.length:=fun e=>h (.inl e)
    exact zFq v old l (k+1) i qO hi
def freB:Bool:=[(1:Int),2].all fun v=>(List.range 24).all fun(k:Nat)=>match zAg v k with
 | none=>true
 | some (old,tx)=>decide (32 ∉ (zBT (v+1) k).1)&&(zBT (v+1) k).2==tx&&(List.range (zBT (v+1) k).1.length).all fun i=>decide (0<=((zAY v old (zBT (v+1) k).1 0).getD i default).frm)||zBp (v+1) ((zBT (v+1) k).1.getD i 0) ((zAY v old (zBT (v+1) k).1 0).getD i default).plus
theorem fre_b:freB=true:=by decide +kernel
theorem fre_f {v k:Int}{old:List Nat}{tx:Bool}(hv:v=1\/v=2)(h:zAg v k=some (old,tx)):32 ∉ (zBT (v+1) k).1/\(zBT (v+1) k).2=tx/\∀ i,i<(zBT (v+1) k).1.length->0<=((zAY v old (zBT (v+1) k).1 0).getD i default).frm\/zBp (v+1) ((zBT (v+1) k).1.getD i 0) ((zAY v old (zBT (v+1) k).1 0).getD i default).plus=true:=by{
have hk:1<=k/\k<=23:=by
 by_cases g:1<=k/\k<=23
 .exact g
 .unfold zAg zBT at h;rw[if_neg g] at h;simp at h
have hb:=fre_b;unfold freB at hb;have h1:=List.all_eq_true.1 hb v (by rcases hv with rfl|rfl<;>simp);have h2:=List.all_eq_true.1 h1 k.toNat (List.mem_range.2 qO);rw[show((k.toNat:Nat):Int)=k by omega] at h2;simp only[h,yy3,decide_eq_true_eq,beq_iff_eq,yye,yy8,Bool.or_eq_true] at h2;exact⟨h2.1.1,h2.1.2,h2.2⟩}
theorem zJ2 {e:Evt}(h:zk e=true)(hv:e.v=1\/e.v=2):(upF e).2=0/\(upF e).1.v=e.v+1/\zk (upF e).1=true:=by{
unfold upF;rw[if_neg (by rw[h];decide)];unfold zk at h;cases hf:zAg e.v e.kind with
| none=>rw[hf] at h;cases h
| some z =>
  obtain⟨old,tx⟩:=z;rw[hf] at h;simp only[yy3] at h;obtain⟨h1,h2⟩:=h;obtain⟨t1,t2,t3⟩:=fre_f hv hf;have hr:zBG e.v e.kind=some (zAY e.v old (zBT (e.v+1) e.kind).1 0):=by unfold zBG;rw[hf];simp only;rw[if_neg qO]
  rw[hr];refine⟨rfl,rfl,?_⟩;have hf2:zAg (e.v+1) e.kind=some ((zBT (e.v+1) e.kind).1,tx):=by unfold zAg;rw[if_pos ⟨by omega,by omega,t1⟩,<- t2]
  unfold zk;simp only[hf2,yy3];refine⟨?_,h2⟩;unfold zBU at h1 ⊢;simp only[yy3,beq_iff_eq,yye,yy8] at h1 ⊢;refine⟨by rw[yyp,zDA],fun i hi=>?_⟩;have e1:((zAY e.v old (zBT (e.v+1) e.kind).1 0).map (upN e.nums)).getD i 0=upN e.nums ((zAY e.v old (zBT (e.v+1) e.kind).1 0).getD i default):=by rw[yy2,yy2,List.getElem?_map,yy1 (by rw[zDA];exact hi)];rfl
  rw[e1];rcases zFq e.v old (zBT (e.v+1) e.kind).1 0 i (zzD _) hi with g|⟨j,g1,g2,g3⟩
  .rcases t3 i hi with g4|g4
   .rw[g] at g4;exact absurd g4 (by unfold zDd;simp)
   .have:upN e.nums ((zAY e.v old (zBT (e.v+1) e.kind).1 0).getD i default)=((zAY e.v old (zBT (e.v+1) e.kind).1 0).getD i default).plus:=by rw[g];unfold upN zDd;rfl
    rw[this];exact g4
  .rw[g3];have:upN e.nums ⟨(j:Int),(zAu e.v ((zBT (e.v+1) e.kind).1.getD i 0)).1,(zAu e.v ((zBT (e.v+1) e.kind).1.getD i 0)).2⟩=(zAu e.v ((zBT (e.v+1) e.kind).1.getD i 0)).2+(zAu e.v ((zBT (e.v+1) e.kind).1.getD i 0)).1*e.nums.getD j 0:=by unfold upN;simp only;rw[if_pos qO,Int.toNat_natCast]
   rw[this,<- g2];exact zXd hv (h1.2 j g1)}
def Rul.cells (r:Rul):List Value:=[.int .i64 r.frm,.int .i64 r.times,.int .i64 r.plus]
theorem rule_a {v:Int}{c:Nat}(h:v=1)(hc:(c:Int)=112\/(c:Int)=107\/(c:Int)=109\/(c:Int)=98):zAu v c=(100,0):=by unfold zAu;rw[if_pos ⟨h,by omega⟩]
theorem rule_b {v:Int}{c:Nat}(h:v=2)(hc:(c:Int)=116):zAu v c=(10,0):=by unfold zAu;rw[if_neg qO,if_pos ⟨h,by omega⟩]
theorem rule_c {v:Int}{c:Nat}(h:v=2)(hc:(c:Int)=115):zAu v c=(1,1):=by unfold zAu;rw[if_neg qO,if_neg qO,if_pos ⟨h,by omega⟩]
theorem rule_d {v:Int}{c:Nat}(h1:¬ (v=1/\((c:Int)=112\/(c:Int)=107\/(c:Int)=109\/(c:Int)=98)))(h2:¬ (v=2/\(c:Int)=116))(h3:¬ (v=2/\(c:Int)=115)):zAu v c=(1,0):=by unfold zAu;rw[if_neg qO,if_neg qO,if_neg qO]
theorem zXe (v:Int)(c:Nat)(w0:World):Cr 142 [.int .u8 v,.int .u8 (c:Int)] (.agg (Rul.cells ⟨0,(zAu v c).1,(zAu v c).2⟩).toArray) w0:=by{
refine eS func142 ntmps142 fun H=>?_;(repeat' first|refine yW ?_|(refine yB ?_;intro b w H)|(refine y11 sg H ?_;intro w H)|(refine y17 ?_ ?_;all_goals intro h)|(refine y23 ?_ ?_;all_goals intro h)|fail)
all_goals
 refine zAv (vs:=[_]) ⟨zg sg rfl H.mem qB rfl rfl,trivial⟩ H.cl ?_;simp only[beq_iff_eq,yyq,ne_eq] at *
 first
  | rw[rule_a (by assumption) qO];rfl
  | rw[rule_b qO qO];rfl
  | rw[rule_c qO qO];rfl
  | rw[rule_d qO qO qO];rfl}
theorem zNx (c:Nat)(w0:World):Cr 141 [.int .u8 (c:Int)] (.agg (zDd c).cells.toArray) w0:=by{
unfold zDd;by_cases hc:c=122
.have d1:((c:Int)==122)=true:=by rw[hc];rfl
 rw[if_pos hc];refine eS func141 ntmps141 fun H=>?_;(repeat' first|refine yW ?_|(refine yB ?_;intro b w H)|(refine y11 sg H ?_;intro w H)|fail);exact zAv (vs:=[_]) ⟨zg sg rfl H.mem qB rfl rfl,trivial⟩ H.cl rfl
.have d1:((c:Int)==122)=false:=beq_eq_false_iff_ne.2 qO;rw[if_neg hc];refine eS func141 ntmps141 fun H=>?_;(repeat' first|refine yW ?_|(refine yB ?_;intro b w H)|(refine y11 sg H ?_;intro w H)|fail);exact zAv (vs:=[_]) ⟨zg sg rfl H.mem qB rfl rfl,trivial⟩ H.cl rfl}
theorem ToldR.no {r:KRow}{v:Int}{M:zA}{z:Value}(h:ToldR r v M z)(hn:¬ (1<=v/\v<=3/\32 ∉ zAn r v)):z=.tuple #[.slice none 0 0,.bool false,.bool false]:=by unfold ToldR at h;rw[if_neg hn] at h;exact h.2
theorem ToldR.yes {r:KRow}{v:Int}{M:zA}{z:Value}(h:ToldR r v M z)(hc:1<=v/\v<=3/\32 ∉ zAn r v)(hl:(zAn r v).length<=100):∃ a cap,z=.tuple #[.slice a (zAn r v).length cap,.bool r.text,.bool true]/\SlA M 1 a (zAn r v).length cap fun j=>[Value.int .u8 ((zAn r v).getD j 0:Nat)]:=by{
rcases h.cases hl with ⟨_,h⟩|⟨hn,_⟩
.exact h
.exact absurd hc hn}
def zPh (l:List Rul):List Value:=l.flatMap Rul.cells
def RulR (r:Option (List Rul))(M:zA)(z:Value):Prop :=
 match r with
 | none=>z=.tuple #[.slice none 0 0,.bool false]
 | some l=>l.length<=100/\∃ a cap,z=.tuple #[.slice a l.length cap,.bool true]/\Go.Sk.Own M 164 3 a l.length cap (zPh l)
structure RuI where
 k:Nat
 j:Nat
 a:OA
 cap:Nat
 M:zA
 o:List Rul
theorem zH2 (o:List Rul)(r:Rul):zPh o++r.cells=zPh (o++[r]):=by unfold zPh;rw[yy9,yya]
theorem zSe {l:List Nat}{k:Nat}(h:k<l.length):l.drop k=l.getD k 0::l.drop (k+1):=by rw[List.drop_eq_getElem_cons h,yy2,yy1 h];rfl
theorem zNy {F:zA}(v kind:Int)(hk:0<=kind/\kind<=255)(w0:World)(hF:Mem w0 F)(hK:KinM F) :
  Cf 106 [.int .u8 v,.int .u8 kind] (RulR (zBG v kind)) w0:=by{
have hfl:=fun v w (hG:Mem w F)=>zMv v kind hk w hG hK;have hfe:=zEB v kind;by_cases hc:1<=v/\v<=3/\32 ∉ zAn (zAs kind) v;rotate_left
.rw[if_neg hc] at hfe;have e0:zBG v kind=none:=by unfold zBG;rw[hfe]
 rw[e0];refine eS func106 ntmps106 fun H=>?_;(repeat' first|refine yW ?_|(refine f0 zMe ?_;refine⟨_,hfl v _ (H.memF hF),?_⟩;clear H;intro z M w hR H;(try simp only[zca,zcb] at H);obtain rfl:=hR.no hc)|fail);exact zBH (M:=[]) rfl rfl (H.sub (zz9 _)) rfl
rw[if_pos hc] at hfe;by_cases h3:3<=v
.have d1:decide (v >= 3)=true:=yyb h3;have e0:zBG v kind=none:=by unfold zBG;rw[hfe];simp only;rw[if_pos h3]
 rw[e0];refine eS func106 ntmps106 fun H=>?_;(repeat' first|refine yW ?_|(refine f0 zMe ?_;refine⟨_,hfl v _ (H.memF hF),?_⟩;clear H;intro z M w hR H;(try simp only[zca,zcb] at H);obtain⟨a0,cx,rfl,hO0⟩:=hR.yes hc (zEn _ _))|fail);exact zBH (M:=[]) rfl rfl (H.sub (zz9 _)) rfl
have d1:decide (v >= 3)=false:=yyc h3;have hv12:v=1\/v=2:=by omega
obtain⟨t1,t2,_⟩:=fre_f hv12 hfe;have hfe2:zAg (v+1) kind=some (zBT (v+1) kind):=by unfold zAg;rw[if_pos ⟨by omega,by omega,t1⟩]
rw[zEB] at hfe2;have hc2:1<=v+1/\v+1<=3/\32 ∉ zAn (zAs kind) (v+1):=by
 by_cases g:1<=v+1/\v+1<=3/\32 ∉ zAn (zAs kind) (v+1)
 .exact g
 .rw[if_neg g] at hfe2;cases hfe2
rw[if_pos hc2] at hfe2;have hL:(zBT (v+1) kind).1=zAn (zAs kind) (v+1):=(congrArg (·.1) (Option.some.inj hfe2)).symm;have e0:zBG v kind=some (zAY v (zAn (zAs kind) v) (zAn (zAs kind) (v+1)) 0):=by unfold zBG;rw[hfe];simp only;rw[if_neg h3,hL]
rw[e0];have hl1:=zEn kind v;have hl2:=zEn kind (v+1);have hlr:=zDA v (zAn (zAs kind) v) (zAn (zAs kind) (v+1)) 0;have ew:IntKind.u8.wrap (v+1)=v+1:=by rcases hv12 with rfl|rfl<;>rfl
clear hfe hfe2 hL t1 t2 e0;refine eS func106 ntmps106 fun H=>?_;(repeat' first|refine yX ?_|(refine f0 zMe ?_;refine⟨_,hfl v _ (H.memF hF),?_⟩;clear H;intro z M1 w hR H;(try simp only[zca,zcb] at H);obtain⟨a0,cx,rfl,hO0⟩:=hR.yes hc (zEn _ _))|fail);refine CW.condF (congrArg Value.bool d1) ?_;(repeat' first|refine yX ?_|(refine f0 zMe ?_;refine⟨_,(by rw[ew];exact hfl (v+1) _ (H.memF hF)),?_⟩;clear H;intro z M2 w hR H;(try simp only[zca,zcb] at H);obtain⟨a2,c2,rfl,hO2⟩:=hR.yes hc2 (zEn _ _))|fail);generalize hold:zAn (zAs kind) v=old at *;generalize hnew:zAn (zAs kind) (v+1)=L at *;have hF1:=H.mem;replace hO0:=SlA.mono hO0 (show M1⊆M1++M2 from yyi _ _);replace hO2:=SlA.mono hO2 (show M2⊆M1++M2 from zz8 _ _);obtain⟨hn0,hc0,b0,off0,cs0,T0,fr0,hs0⟩:=hO0;obtain⟨hn2,hcc2,b2,off2,cs2,T2,fr2,hs2⟩:=hO2;have H0:=H;clear H;obtain⟨w1,rfl⟩:∃ w1,w1=w:=⟨w,rfl⟩;have H:=zBm w1;refine zD [(12,13),(15,16),(40,72)] (fun x:RuI=>[(12,.slice x.a x.k x.cap),(13,.int .i64 (x.j:Int)),(40,.int .i64 (x.k:Int))]) (fun x w=>x.k<=L.length/\x.j<=old.length/\x.o.length=x.k/\zAY v old L 0=x.o++zAY v old (L.drop x.k) x.j/\Go.Sk.Own x.M 164 3 x.a x.k x.cap (zPh x.o)/\St w1 x.M w) (fun x=>L.length - x.k) ⟨0,0,none,0,[],[]⟩ ⟨rfl,rfl,rfl,trivial⟩ ⟨zzD _,zzD _,rfl,rfl,zWD _ _ _,H⟩ ?_;clear H;rintro⟨k,j,ao,co,M,o⟩ gh w ⟨hkL,hj,ho,hr,hO,H⟩;simp only at hkL hj ho hr hO H ⊢;by_cases hlt:k<L.length;rotate_left
.obtain rfl:k=L.length:=by omega
 have d5:decide ((L.length:Int)<(L.length:Int))=false:=yyc qO;(repeat' first|refine yW ?_|fail);have hro:zAY v old L 0=o:=by rw[hr,List.drop_length,zAY,List.append_nil]
 rw[hro];refine zBH (M:=M) rfl rfl ((H0.addR H).sub (yyx _ _)) ⟨by omega,ao,co,by rw[ho],?_⟩;rw[ho];exact hO
have d5:decide ((k:Int)<(L.length:Int))=true:=yyb qO;rw[zSe hlt] at hr;have happ:k<=100:=by omega
by_cases hfr:j=old.length\/old.getD j 0≠L.getD k 0
.rw[zAY,if_pos hfr] at hr;have hr2:zAY v old L 0=(o++[zDd (L.getD k 0)])++zAY v old (L.drop (k+1)) j:=by rw[hr,yyh];rfl
 clear hr;by_cases he:j=old.length
 .have d6:((j:Int)==(old.length:Int))=true:=by rw[he];simp
  (repeat' first|refine yW ?_|refine x40 sg hs2 ?_|refine z13 (zLB sg hs2 (H.memF hF1) hlt) ?_|(refine c0 zTE ?_;refine⟨_,zNx (L.getD k 0) _,?_⟩;clear H;intro w H)|(refine zBA sg H ?_;intro b w H _)|(have hp:=H.perm (yyg (l₁:=[_]) (l₂:=M));refine zY sg 3 24 (M:=M) hp rfl rfl rfl rfl rfl rfl rfl rfl rfl rfl rfl hO (zh hp.mem (zz3 _ (zz2 _))) rfl (zx rfl) (by unfold maxLen;omega) qO ?_;clear hp hO;intro a1 c1 M3 w hO H;replace H:=H.perm (yyg (l₁:=M3) (l₂:=[_])))|fail);exact zC ⟨k+1,j,a1,c1,M3,o++[zDd (L.getD k 0)]⟩ rfl ⟨rfl,rfl,zU qO,trivial⟩ ⟨hlt,hj,by rw[yy4,ho];rfl,hr2,by rw[<- zH2];exact hO,H.sub (zz7 _ _)⟩ (by show L.length - (k+1)<L.length - k;omega)
 .have d6:((j:Int)==(old.length:Int))=false:=beq_eq_false_iff_ne.2 qO;have hjl:j<old.length:=by{omega};have d7:(((old.getD j 0:Nat):Int) != ((L.getD k 0:Nat):Int))=true:=by have:=hfr.resolve_left he;simp only[bne_iff_ne,ne_eq];omega
  (repeat' first|refine yW ?_|refine x40 sg hs2 ?_|refine z13 (zLB sg hs2 (H.memF hF1) hlt) ?_|refine x40 sg hs0 ?_|refine z13 (zLB sg hs0 (H.memF hF1) hjl) ?_|(refine c0 zTE ?_;refine⟨_,zNx (L.getD k 0) _,?_⟩;clear H;intro w H)|(refine zBA sg H ?_;intro b w H _)|(have hp:=H.perm (yyg (l₁:=[_]) (l₂:=M));refine zY sg 3 24 (M:=M) hp rfl rfl rfl rfl rfl rfl rfl rfl rfl rfl rfl hO (zh hp.mem (zz3 _ (zz2 _))) rfl (zx rfl) (by unfold maxLen;omega) qO ?_;clear hp hO;intro a1 c1 M3 w hO H;replace H:=H.perm (yyg (l₁:=M3) (l₂:=[_])))|fail);exact zC ⟨k+1,j,a1,c1,M3,o++[zDd (L.getD k 0)]⟩ rfl ⟨rfl,rfl,zU qO,trivial⟩ ⟨hlt,hj,by rw[yy4,ho];rfl,hr2,by rw[<- zH2];exact hO,H.sub (zz7 _ _)⟩ (by show L.length - (k+1)<L.length - k;omega)
.rw[zAY,if_neg hfr] at hr;have hr2:zAY v old L 0=(o++[⟨(j:Int),(zAu v (L.getD k 0)).1,(zAu v (L.getD k 0)).2⟩])++zAY v old (L.drop (k+1)) (j+1):=by rw[hr,yyh];rfl
 clear hr;have hjl:j<old.length:=by have:¬ j=old.length:=fun e=>hfr (.inl e);omega
 have hje:old.getD j 0=L.getD k 0:=Decidable.of_not_not fun e=>hfr (.inr e);have d6:((j:Int)==(old.length:Int))=false:=beq_eq_false_iff_ne.2 qO;have d7:(((old.getD j 0:Nat):Int) != ((L.getD k 0:Nat):Int))=false:=by rw[hje];simp
 (repeat' first|refine yW ?_|(refine yB ?_;intro b w H)|(refine y11 sg H ?_;intro w H)|refine x40 sg hs2 ?_|refine z13 (zLB sg hs2 (H.memF hF1) hlt) ?_|refine x40 sg hs0 ?_|refine z13 (zLB sg hs0 (H.memF hF1) hjl) ?_|(refine c0 ent142 ?_;refine⟨_,zXe v (L.getD k 0) _,?_⟩;clear H;intro w H)|(refine zBA sg H ?_;intro b w H _)|(have hp:=H.perm (yyg (l₁:=[_,_]) (l₂:=M));refine zY sg 3 24 (M:=M) hp rfl rfl rfl rfl rfl rfl rfl rfl rfl rfl rfl hO (zh hp.mem (zz3 _ (zz2 _))) rfl (zx rfl) (by unfold maxLen;omega) qO ?_;clear hp hO;intro a1 c1 M3 w hO H;replace H:=H.perm (yyg (l₁:=M3) (l₂:=[_,_])))|fail);exact zC ⟨k+1,j+1,a1,c1,M3,o++[⟨(j:Int),(zAu v (L.getD k 0)).1,(zAu v (L.getD k 0)).2⟩]⟩ rfl ⟨rfl,zU qO,zU qO,trivial⟩ ⟨hlt,hjl,by rw[yy4,ho];rfl,hr2,by rw[<- zH2];exact hO,H.sub ((zz7 _ _).trans (zz7 _ _))⟩ (by show L.length - (k+1)<L.length - k;omega)}
theorem zXf {v:Int}{c:Nat}{n:Int}(h:zBp v c n=true):0<=n/\n<=1125899906842624:=by{
unfold zBp zDO zKd at h;by_cases hv:1<=v/\v<=3;rotate_left
.rw[if_neg hv] at h;cases h
rw[if_pos hv] at h;by_cases h97:c=97
.subst h97;simp at h;omega
by_cases h105:c=105
.subst h105;simp at h;omega
by_cases h111:c=111
.subst h111;simp at h;omega
by_cases h99:c=99
.subst h99;simp at h;omega
by_cases h113:c=113
.subst h113;simp at h;omega
by_cases h109:c=109
.subst h109;simp at h;split at h<;>omega
by_cases h122:c=122
.subst h122;simp at h;split at h<;>omega
by_cases h112:c=112
.subst h112;simp at h;split at h<;>omega
by_cases h107:c=107
.subst h107;simp at h;split at h<;>omega
by_cases h98:c=98
.subst h98;simp at h;split at h<;>omega
by_cases h116:c=116
.subst h116;simp at h;split at h<;>omega
by_cases h115:c=115
.subst h115;by_cases g:v<3<;>simp[g] at h<;>omega
simp[h97,h105,h111,h99,h113,h109,h122,h112,h107,h98,h116,h115] at h}
structure RulOk (e:Evt)(r:Rul):Prop where
 plus:0<=r.plus/\r.plus<=100
 times:0<=r.times/\r.times<=100
 frm:r.frm<0\/(0<=r.frm/\r.frm.toNat<e.nums.length/\0<=e.nums.getD r.frm.toNat 0/\e.nums.getD r.frm.toNat 0<=1125899906842624)
theorem zDf {e:Evt}(h:zk e=true):∃ old tx,zAg e.v e.kind=some (old,tx)/\e.nums.length=old.length/\(∀ j,j<old.length->0<=e.nums.getD j 0/\e.nums.getD j 0<=1125899906842624)/\e.texts.length<=1:=by{
unfold zk at h;cases hf:zAg e.v e.kind with
| none=>rw[hf] at h;cases h
| some z =>
  obtain⟨old,tx⟩:=z;rw[hf] at h;simp only[yy3] at h;obtain⟨h1,h2⟩:=h;unfold zBU at h1;simp only[yy3,beq_iff_eq,yye,yy8] at h1;refine⟨old,tx,rfl,h1.1.symm,fun j hj=>zXf (h1.2 j hj),?_⟩;split at h2
  .simp only[yy3,beq_iff_eq] at h2;omega
  .simp only[beq_iff_eq] at h2;omega}
theorem zNz (v:Int)(c:Nat):(0<=(zAu v c).1/\(zAu v c).1<=100)/\0<=(zAu v c).2/\(zAu v c).2<=100:=by{
unfold zAu;split
.decide
.split
 .decide
 .split<;>decide}
theorem zVp {e:Evt}{l:List Rul}(h:zk e=true)(hr:zBG e.v e.kind=some l):∀ i,i<l.length->RulOk e (l.getD i default):=by{
obtain⟨old,tx,hf,hn,hb,_⟩:=zDf h;unfold zBG at hr;rw[hf] at hr;simp only at hr;split at hr
.cases hr
obtain rfl:=Option.some.inj hr;intro i hi;rw[zDA] at hi;rcases zFq e.v old (zBT (e.v+1) e.kind).1 0 i (zzD _) hi with g|⟨j,g1,g2,g3⟩
.rw[g];refine⟨?_,⟨Int.le_refl _,show(0:Int)<=100 by decide⟩,.inl (show(-1:Int)<0 by decide)⟩;unfold zDd;simp only;split<;>decide
.rw[g3];have:=zNz e.v ((zBT (e.v+1) e.kind).1.getD i 0);refine⟨this.2,this.1,.inr ⟨by simp only;omega,?_⟩⟩;simp only[Int.toNat_natCast];exact⟨by omega,hb j g1⟩}
structure UI where
 k:Nat
 a:OA
 cap:Nat
 M:zA
theorem zXg (n:List Int)(l:List Rul){k:Nat}(hk:k<l.length):(l.take k).map (fun r=>Value.int .i64 (upN n r))++[.int .i64 (upN n (l.getD k default))]=(l.take (k+1)).map (fun r=>Value.int .i64 (upN n r)):=by rw[yyj hk,List.map_append];simp[yy1 hk]
theorem zN0 (l:List Rul):zPh l=(List.range l.length).flatMap fun j=>(l.getD j default).cells:=by{
unfold zPh;have:∀ k,k<=l.length->(l.take k).flatMap Rul.cells=(List.range k).flatMap fun j=>(l.getD j default).cells:=by
 intro k;induction k with
 | zero=>intro _;rfl
 | succ k ih =>
   intro hk;rw[yys,yy9,yya,<- ih qO,yyj qO,yy9];simp[yy1 (show k<l.length by omega)]
rw[<- this _ (Nat.le_refl _),List.take_length]}
theorem zE3 (k:Int):zJw (⟨0,0,[],[]⟩,k) [] (.tuple #[.agg (Evt.cells ⟨0,0,[],[]⟩ zEN).toArray,.int .i64 k]):=⟨zEN,rfl,SlA.nil,SlA.nil⟩
theorem zML {x:Int}(h0:0<=x)(h1:x<=255):IntKind.u8.wrap x=x:=by obtain⟨m,rfl⟩:∃ m:Nat,x=(m:Int):=⟨x.toNat,by omega⟩;exact w8n qO
theorem c_uUp {F:zA}(e:Evt)(q:EPt)(he:zAr e)(w0:World)(hF:Mem w0 F)(hK:KinM F)(hE:EvtM F e q) :
  Cf 70 [.agg (e.cells q).toArray] (zJw (upF e)) w0:=by{
have hmay:=fun w (hG:Mem w F)=>zEo e q he w hG hK hE;have hru:=fun w (hG:Mem w F)=>zNy e.v e.kind he.2.1 w hG hK;unfold upF;cases hm:zk e with
| false =>
  rw[hm] at hmay;rw[if_pos rfl];refine eS func70 ntmps70 fun H=>?_;(repeat' first|refine yW ?_|(refine yB ?_;intro b w H)|(refine y11 sg H ?_;intro w H)|(refine c0 zD7 ?_;refine⟨_,hmay _ (H.memF hF),?_⟩;clear H;intro w H)|fail);exact zc (vs:=[_,_]) (M:=[]) ⟨zg sg rfl H.mem (zz2 _) rfl rfl,zP rfl,trivial⟩ (H.sub (zz9 _)) (zE3 4)
| true =>
rw[hm] at hmay;rw[if_neg (by decide)];cases hrl:zBG e.v e.kind with
| none =>
  rw[hrl] at hru;refine eS func70 ntmps70 fun H=>?_;(repeat' first|refine yW ?_|(refine yB ?_;intro b w H)|(refine y11 sg H ?_;intro w H)|(refine c0 zD7 ?_;refine⟨_,hmay _ (H.memF hF),?_⟩;clear H;intro w H)|(refine f0 zLD ?_;refine⟨_,hru _ (H.memF hF),?_⟩;clear H;intro z M w hR H;(try simp only[zca,zcb] at H);obtain rfl:z=_:=hR)|fail);exact zc (vs:=[_,_]) (M:=[]) ⟨zg sg rfl H.mem (zz2 _) rfl rfl,zP rfl,trivial⟩ (H.sub (zz9 _)) (zE3 43)
| some l =>
rw[hrl] at hru;have hok:=zVp hm hrl;obtain⟨old,tx,hfe,hnl,_,htl⟩:=zDf hm;have hv3:1<=e.v/\e.v<3:=by
 unfold zBG at hrl;unfold zAg at hfe;split at hfe
 .rename_i g;unfold zAg at hrl;rw[if_pos g] at hrl;simp only at hrl;split at hrl
  .cases hrl
  .omega
 .cases hfe
have ew:IntKind.u8.wrap (e.v+1)=e.v+1:=zML qO qO;have hclo:=fun w (hG:Mem w F)=>zGw (a:=q.ta) (n:=e.texts.length) (cap:=q.tc) (fun j=>e.texts.getD j ByteArray.empty) w hG hE.texts qO;clear hnl hfe hrl;refine eS func70 ntmps70 fun H=>?_;(repeat' first|refine yX ?_|(refine yB ?_;intro b w H)|(refine c0 zD7 ?_;refine⟨_,hmay _ (H.memF hF),?_⟩;clear H;intro w H)|(refine f0 zLD ?_;refine⟨_,hru _ (H.memF hF),?_⟩;clear H;intro z M1 w hR H;(try simp only[zca,zcb] at H);obtain⟨hl100,a1,c1,rfl,hO1⟩:=hR)|fail);refine CW.cutT (fun en1 w=>∃ b1 b2 b6 ta tc M2 en',en1=ovl [(1,(pt b1)),(2,(pt b2)),(4,.slice a1 l.length c1),(6,(pt b6))] en'/\SlA M2 1 ta e.texts.length tc (fun j=>[Value.string (e.texts.getD j ByteArray.empty)])/\St w0 (cb b6 [.int .u8 (e.v+1),.int .u8 e.kind,.slice none 0 0,.slice ta e.texts.length tc] 61::cb b2 [.int .u8 0,.int .u8 0,.slice none 0 0,.slice none 0 0] 61::cb b1 (e.cells q) 61::(M1++M2)) w) ?_ ?_
·(repeat' first|refine yX ?_|(refine yB ?_;intro b w H)|(refine y11 sg H ?_;intro w H)|(refine CW.regionL mixed 11 (z6s (x:=cb _ (e.cells q) 61) H hF) [] ?_ ?_;exact rfl;refine wQ H ?_;clear H;intro w H;have qh:=z6s (x:=cb _ (e.cells q) 61) H hF;refine lT sg 0 qh ?_;refine' l1 1 qh ?_ ?_;rotate_left;(exact z3 sg);refine lT sg 2 qh ?_;refine lT sg 3 qh ?_;refine' l1 4 qh ?_ ?_;rotate_left;(exact z3 sg);refine lT sg 5 qh ?_;refine' l1 6 qh ?_ ?_;rotate_left;(exact z3 sg))|refine lN ?_|(refine lT sg 8 (z6s H hF) ?_)|refine l2 7 ?_|refine l2 9 ?_|refine l2 10 ?_|refine l4 7 9 ?_ ?_|(refine l5 (z6s H hF) ?_)|(refine f0 zLC ?_;refine⟨_,hclo _ (H.memF hF),?_⟩;clear H;intro v M2 w hR H;(try simp only[zca,zcb] at H);obtain⟨ta,tc,rfl,hO2⟩:=hR)|fail)
 all_goals
  rw[ew] at H;exact⟨_,_,_,ta,tc,M2,_,zz rfl (zA2 rfl rfl rfl),hO2.sl (fun _ h=>h) (fun _ _=>rfl) qO,H⟩
clear H;rintro _ w ⟨b1,b2,b6,ta,tc,M2,en',rfl,hT2,H⟩;rw[zN0] at hO1;have hsl:=hO1.sl (F:=M1) (fun _ h=>h) (fun _ _=>rfl) qO;obtain⟨hn1,hc1,bl,offl,csl,Tl,frl,hsl⟩:=hsl;obtain⟨⟨hnn,hcn,bn,offn,csn,Tn,frn,hsn⟩,_⟩:=hE;(repeat' first|refine yX ?_|fail);refine zD [(8,9),(36,62)] (fun x:UI=>[(36,.int .i64 (x.k:Int))]) (fun x w=>x.k<=l.length/\Go.Sk.Own x.M 2 1 x.a x.k x.cap ((l.take x.k).map (fun r=>Value.int .i64 (upN e.nums r)))/\St w0 (cb b6 [.int .u8 (e.v+1),.int .u8 e.kind,.slice x.a x.k x.cap,.slice ta e.texts.length tc] 61::cb b2 [.int .u8 0,.int .u8 0,.slice none 0 0,.slice none 0 0] 61::cb b1 (e.cells q) 61::(x.M++(M1++M2))) w) (fun x=>l.length - x.k) ⟨0,none,0,[]⟩ ⟨rfl,trivial⟩ ⟨zzD _,zWD _ _ _,H⟩ ?_;clear H;rintro⟨k,ao,co,M⟩ gh w ⟨hk,hO,H⟩;simp only at hk hO H ⊢;by_cases hlt:k<l.length;rotate_left
.obtain rfl:k=l.length:=by omega
 have d5:decide ((l.length:Int)<(l.length:Int))=false:=yyc qO;(repeat' first|refine yW ?_|(refine y11 sg H ?_;intro w H)|fail);rw[List.take_length,show l.map (fun r=>Value.int .i64 (upN e.nums r))=(l.map (upN e.nums)).map (Value.int .i64) by rw[List.map_map];rfl] at hO;refine zc (vs:=[_,_]) (M:=M++(M1++M2)) ⟨zg sg rfl H.mem (zz5 _ (zz2 _)) rfl rfl,zP rfl,trivial⟩ (H.sub (yy6 _ (yy6 _ (yy6 _ (yy7 _))))) ⟨⟨ao,co,ta,tc⟩,?_,?_,?_⟩
 .simp only[Evt.cells,yyp];rfl
 .exact zFm _ hO (yyi _ _) (by simp) (by simp;omega)
 .exact SlA.mono hT2 (fun z hz=>zz3 _ (zz3 _ hz))
have d5:decide ((k:Int)<(l.length:Int))=true:=yyb qO;obtain⟨⟨hp0,hp1⟩,⟨ht0,ht1⟩,hfr⟩:=hok k hlt;have hsnoc:=zXg e.nums l hlt;by_cases hf0:(l.getD k default).frm<0
.have d6:decide ((l.getD k default).frm >= 0)=false:=yyc qO;have eup:upN e.nums (l.getD k default)=(l.getD k default).plus:=by unfold upN;rw[if_neg qO]
 rw[eup] at hsnoc;(repeat' first|refine yW ?_|(refine yB ?_;intro b w H)|(refine y11 sg H ?_;intro w H)|refine x40 sg hsl ?_|(refine y42 sg (hsl) ((H.mem.sub (by intro z hz;simp[hz]))) ?_ ?_;(omega))|(have hp:=H.perm (yyf [_,_,_,_,_] M (M1++M2));refine zY sg 1 8 (M:=M) hp rfl rfl rfl rfl rfl rfl rfl rfl rfl rfl rfl hO (zh hp.mem (zz3 _ (zz2 _))) rfl (zx rfl) (by unfold maxLen;omega) qO ?_;clear hp hO;intro ao2 co2 M3 w hO H;replace H:=H.perm (yyf M3 [_,_,_,_,_] (M1++M2)))|fail);exact zC ⟨k+1,ao2,co2,M3⟩ rfl ⟨zU qO,trivial⟩ ⟨hlt,by rw[<- hsnoc];exact hO,H.sub (yy6 _ (yy6 _ (yy7 _)))⟩ (by show l.length - (k+1)<l.length - k;omega)
.have d6:decide ((l.getD k default).frm >= 0)=true:=yyb qO;obtain⟨hr0,hrn,hb0,hb1⟩:=hfr.resolve_left hf0;have eup:upN e.nums (l.getD k default)=(l.getD k default).plus+(l.getD k default).times*e.nums.getD (l.getD k default).frm.toNat 0:=by unfold upN;rw[if_pos hr0]
 have hm1:0<=(l.getD k default).times*e.nums.getD (l.getD k default).frm.toNat 0:=Int.mul_nonneg ht0 hb0;have hm2:(l.getD k default).times*e.nums.getD (l.getD k default).frm.toNat 0<=100*1125899906842624:=Int.mul_le_mul ht1 hb1 hb0 (by decide);have ew1:IntKind.i64.wrap ((l.getD k default).times*e.nums.getD (l.getD k default).frm.toNat 0)=(l.getD k default).times*e.nums.getD (l.getD k default).frm.toNat 0:=w64 qO qO;have ew2:IntKind.i64.wrap ((l.getD k default).plus+IntKind.i64.wrap ((l.getD k default).times*e.nums.getD (l.getD k default).frm.toNat 0))=(l.getD k default).plus+(l.getD k default).times*e.nums.getD (l.getD k default).frm.toNat 0:=by rw[ew1];exact w64 qO qO
 rw[eup] at hsnoc;(repeat' first|refine yW ?_|(refine yB ?_;intro b w H)|(refine y11 sg H ?_;intro w H)|refine x40 sg hsl ?_|(refine y42 sg (hsl) ((H.mem.sub (by intro z hz;simp[hz]))) ?_ ?_;(omega))|refine x41 sg hsn ?_|refine zq (zLB sg hsn (H.memF hF) hrn) ?_|(have hp:=H.perm (yyf [_,_,_,_,_] M (M1++M2));refine zY sg 1 8 (M:=M) hp rfl rfl rfl rfl rfl rfl rfl rfl rfl rfl rfl hO (zh hp.mem (zz3 _ (zz2 _))) rfl (zx rfl) (by unfold maxLen;omega) qO ?_;clear hp hO;intro ao2 co2 M3 w hO H;replace H:=H.perm (yyf M3 [_,_,_,_,_] (M1++M2)))|(refine qN H ?_;clear H;intro w H)|refine y20 mixed ?_|fail);rw[ew2] at hO;exact zC ⟨k+1,ao2,co2,M3⟩ rfl ⟨zU qO,trivial⟩ ⟨hlt,by rw[<- hsnoc];exact hO,H.sub (yy6 _ (yy6 _ (yy7 _)))⟩ (by show l.length - (k+1)<l.length - k;omega)}
theorem zK0 {e:Evt}(h:zk e=true):e.v=1\/e.v=2\/e.v=3:=by{
unfold zk at h;cases hf:zAg e.v e.kind with
| none=>rw[hf] at h;cases h
| some z =>
  unfold zAg at hf;split at hf
  .rename_i g;omega
  .cases hf}
theorem zE4 {e:Evt}(h:zk e=true):(zB8 e).2=0/\(zB8 e).1.v=3/\zk (zB8 e).1=true:=by{
unfold zB8;rw[if_neg (by rw[h];decide)];rcases zK0 h with g|g|g
.rw[if_pos g];obtain⟨_,h2,h3⟩:=zJ2 h (.inl g);obtain⟨_,h5,h6⟩:=zJ2 h3 (.inr (by rw[h2,g];rfl));exact⟨rfl,by rw[h5,h2,g];rfl,h6⟩
.rw[if_neg qO,if_pos g];obtain⟨_,h2,h3⟩:=zJ2 h (.inr g);exact⟨rfl,by rw[h2,g];rfl,h3⟩
.rw[if_neg qO,if_neg qO];exact⟨rfl,g,h⟩}
theorem zJ3 {e:Evt}(h:zk e=true)(hv:e.v=3):zB8 e=(e,0):=by unfold zB8;rw[if_neg (by rw[h];decide),if_neg qO,if_neg qO]
theorem zHR:∀ (l o:List Evt),(∀ e∈l,zk e=true)->zC2 l o=(o++l.map (fun e=>(zB8 e).1),0)
 | [],o,_=>by unfold zC2;rw[List.map_nil,List.append_nil]
 | e::l,o,h=>by
   unfold zC2
   rw[if_neg (fun g=>g (zE4 (h e (List.Mem.head _))).1),zHR l _ fun x hx=>h x (List.mem_cons_of_mem _ hx),List.map_cons,yyh]
   rfl
abbrev ev0 (l:List Evt):Evt:=l.getD 0 ⟨0,0,[],[]⟩
theorem zGB {l:List Evt}:zHG l=true↔(0<l.length/\l.length<=40)/\∀ e∈l,e.v=(ev0 l).v/\zk e=true:=by unfold zHG;simp only[yy3,decide_eq_true_eq,Bool.not_eq_true',List.any_eq_false,Bool.or_eq_true,not_or,bne_iff_ne,ne_eq,Decidable.not_not,Bool.not_eq_false]
theorem zVq {l:List Evt}(h:∀ e∈l,zk e=true):(l.map fun e=>(zB8 e).1).map (fun e=>(zB8 e).1)=l.map fun e=>(zB8 e).1:=by rw[List.map_map];refine List.map_congr_left fun e he=>?_;obtain⟨_,h2,h3⟩:=zE4 (h e he);exact(show(zB8 (zB8 e).1).1=(zB8 e).1 by rw[zJ3 h3 h2])
theorem zN1 (m:Mrk){l:List Evt}(h:∀ e∈l,zk e=true/\e.v=(ev0 l).v):zBB m l=zBB m (l.map fun e=>(zB8 e).1):=by{
have hm:∀ e∈l,zk e=true:=fun e he=>(h e he).1;have hm2:∀ e∈l.map (fun e=>(zB8 e).1),zk e=true:=fun e he=>by obtain⟨x,hx,rfl⟩:=List.mem_map.1 he;exact(zE4 (hm x hx)).2.2
have hb:zHG l=zHG (l.map fun e=>(zB8 e).1):=by
 rw[Bool.eq_iff_iff,zGB,zGB,yyp];refine and_congr_right fun hl=>⟨fun _ e he=>⟨?_,hm2 e he⟩,fun _ e he=>⟨(h e he).2,hm e he⟩⟩;obtain⟨x,hx,rfl⟩:=List.mem_map.1 he;rw[(zE4 (hm x hx)).2.1];cases l with
 | nil=>cases hx
 | cons a r=>exact(zE4 (hm a (zz2 _))).2.1.symm
unfold zBB;rw[zHR l [] hm,zHR _ [] hm2,zVq hm,hb]}
def dnN (l:List Rul)(n:List Int):List Int:=(List.range l.length).filterMap fun i=>if 0<=(l.getD i default).frm then some ((n.getD i 0 - (l.getD i default).plus).tdiv (l.getD i default).times) else none
def zDu (e:Evt)(l:List Rul):Evt:=⟨e.v - 1,e.kind,dnN l e.nums,e.texts⟩
def evD (a b:Evt):Bool:=decide (a.v=b.v)&&decide (a.kind=b.kind)&&decide (a.nums=b.nums)&&decide (a.texts=b.texts)
theorem evD_eq {a b:Evt}(h:evD a b=true):a=b:=by obtain⟨a1,a2,a3,a4⟩:=a;obtain⟨b1,b2,b3,b4⟩:=b;unfold evD at h;simp only[yy3,decide_eq_true_eq] at h;obtain⟨⟨⟨rfl,rfl⟩,rfl⟩,rfl⟩:=h;rfl
def zAe (e:Evt):Evt × Int :=
 if zk e=false then(⟨0,0,[],[]⟩,4) else
 match zBG (e.v - 1) e.kind with
 | none=>(⟨0,0,[],[]⟩,43)
 | some l=>if (upF (zDu e l)).2=0/\evD (upF (zDu e l)).1 e=true then(zDu e l,0) else(⟨0,0,[],[]⟩,43)
theorem up_may {e:Evt}(h:(upF e).2=0):zk e=true:=by{
cases g:zk e with
| true=>rfl
| false=>unfold upF at h;rw[if_pos g] at h;exact absurd h (by decide)}
theorem zE5 {e:Evt}(h:(zAe e).2=0):upF (zAe e).1=(e,0)/\zk (zAe e).1=true/\(zAe e).1.v=e.v - 1:=by{
unfold zAe at h ⊢;by_cases g:zk e=false
.rw[if_pos g] at h;exact absurd h (by decide)
rw[if_neg g] at h ⊢;cases hr:zBG (e.v - 1) e.kind with
| none=>rw[hr] at h;exact absurd h (by simp)
| some l =>
  rw[hr] at h;simp only at h ⊢;by_cases c:(upF (zDu e l)).2=0/\evD (upF (zDu e l)).1 e=true
  .rw[if_pos c];exact⟨Prod.ext (evD_eq c.2) c.1,up_may c.1,rfl⟩
  .rw[if_neg c] at h;exact absurd h (by simp)}
theorem zHS {α:Type}{d:α}{l l':List α}(hlen:l.length=l'.length)(h:∀ j,j<l.length->l.getD j d=l'.getD j d):l=l':=by
 letI:Inhabited α:=⟨d⟩
 exact zF8 hlen h
theorem neqI {x y:Int}(h:(x != y)=true):x≠y:=by simpa using h
theorem eqvI {x y:Int}(h:(x != y)=false):x=y:=by simpa using h
theorem neqT {x y:ByteArray}(h:(!(x.toList==y.toList))=true):x≠y:=fun e=>by subst e;simp at h
theorem eqvT {x y:ByteArray}(h:(!(x.toList==y.toList))=false):x=y:=(zQt x y).1 (by simpa using h)
theorem c_EqI {a a':OA}{cap cap':Nat}(l l':List Int){F:zA}(w0:World)(hF:Mem w0 F)(hs:SlA F 1 a l.length cap (fun j=>[Value.int .i64 (l.getD j 0)]))(hs':SlA F 1 a' l'.length cap' (fun j=>[Value.int .i64 (l'.getD j 0)])) :
  Cr 64 [.slice a l.length cap,.slice a' l'.length cap'] (.bool (decide (l=l'))) w0:=by{
obtain⟨hn,hc,b,off,cs,T,fr,hs⟩:=hs;obtain⟨hn',hc',b',off',cs',T',fr',hs'⟩:=hs';refine eS func64 ntmps64 fun H=>?_;(repeat' first|refine yX ?_|fail);refine zB rfl (fun h=>?_) (fun h=>?_)
·(repeat' first|refine yX ?_|fail)
 exact zG rfl H.cl (by
  have:l≠l':=fun he=>by subst he;simp at h
  rw[yyc this])
.have hlen:l.length=l'.length:=by simp at h;omega
 (repeat' first|refine yX ?_|fail);refine zD [(4,5),(13,25)] (fun k:Nat=>[(13,.int .i64 (k:Int))]) (fun k w=>k<=l.length/\(∀ j,j<k->l.getD j 0=l'.getD j 0)/\St w0 [] w) (fun k=>l.length - k) 0 ⟨rfl,trivial⟩ ⟨zzD _,fun j hj=>by omega,H⟩ ?_;clear H;rintro k g w ⟨hk,hpk,H⟩;(repeat' first|refine yX ?_|fail);refine zB rfl (fun h=>?_) (fun h=>?_)
 .have hlt:k<l.length:=by{simpa using h};(repeat' first|refine yX ?_|refine x41 sg hs ?_|(refine y41 sg (hs') ?_ ?_ ?_;(omega);(omega))|refine zq (zLB sg hs (H.memF hF) hlt) ?_|refine zq (Yq.loadB1 sg hs' (H.memF hF) rfl rfl rfl rfl (show k<l'.length by omega) rfl) ?_|(refine qN H ?_;clear H;intro w H)|refine y20 mixed ?_|fail)
  refine zB rfl (fun h2=>?_) (fun h2=>?_)
  .have hne:=neqI h2;(repeat' first|refine yX ?_|fail)
   exact zG rfl H.cl (by
    have:l≠l':=fun he=>by subst he;exact hne rfl
    rw[yyc this])
  .have heq:=eqvI h2;(repeat' first|refine yX ?_|fail);refine zC (k+1) rfl ⟨zU qO,trivial⟩ ⟨hlt,fun j hj=>?_,H⟩ qO;by_cases hj':j=k
   .rw[hj'];exact heq
   .exact hpk j qO
 ·(repeat' first|refine yX ?_|fail);have hkn:k=l.length:=by simp at h;omega
  subst hkn
  exact zG rfl H.cl (by
   have:l=l':=zHS hlen hpk
   rw[yyb this])}
theorem c_EqT {a a':OA}{cap cap':Nat}(l l':List ByteArray){F:zA}(w0:World)(hF:Mem w0 F)(hs:SlA F 1 a l.length cap (fun j=>[Value.string (l.getD j ByteArray.empty)]))(hs':SlA F 1 a' l'.length cap' (fun j=>[Value.string (l'.getD j ByteArray.empty)])) :
  Cr 65 [.slice a l.length cap,.slice a' l'.length cap'] (.bool (decide (l=l'))) w0:=by{
obtain⟨hn,hc,b,off,cs,T,fr,hs⟩:=hs;obtain⟨hn',hc',b',off',cs',T',fr',hs'⟩:=hs';refine eS func65 ntmps65 fun H=>?_;(repeat' first|refine yX ?_|fail);refine zB rfl (fun h=>?_) (fun h=>?_)
·(repeat' first|refine yX ?_|fail)
 exact zG rfl H.cl (by
  have:l≠l':=fun he=>by subst he;simp at h
  rw[yyc this])
.have hlen:l.length=l'.length:=by simp at h;omega
 (repeat' first|refine yX ?_|fail);refine zD [(4,5),(13,25)] (fun k:Nat=>[(13,.int .i64 (k:Int))]) (fun k w=>k<=l.length/\(∀ j,j<k->l.getD j ByteArray.empty=l'.getD j ByteArray.empty)/\St w0 [] w) (fun k=>l.length - k) 0 ⟨rfl,trivial⟩ ⟨zzD _,fun j hj=>by omega,H⟩ ?_;clear H;rintro k g w ⟨hk,hpk,H⟩;(repeat' first|refine yX ?_|fail);refine zB rfl (fun h=>?_) (fun h=>?_)
 .have hlt:k<l.length:=by{simpa using h};(repeat' first|refine yX ?_|refine x41 sg hs ?_|(refine y41 sg (hs') ?_ ?_ ?_;(omega);(omega))|refine zq (zLB sg hs (H.memF hF) hlt) ?_|refine zq (Yq.loadB1 sg hs' (H.memF hF) rfl rfl rfl rfl (show k<l'.length by omega) rfl) ?_|(refine qN H ?_;clear H;intro w H)|refine y20 mixed ?_|fail)
  refine zB rfl (fun h2=>?_) (fun h2=>?_)
  .have hne:=neqT h2;(repeat' first|refine yX ?_|fail)
   exact zG rfl H.cl (by
    have:l≠l':=fun he=>by subst he;exact hne rfl
    rw[yyc this])
  .have heq:=eqvT h2;(repeat' first|refine yX ?_|fail);refine zC (k+1) rfl ⟨zU qO,trivial⟩ ⟨hlt,fun j hj=>?_,H⟩ qO;by_cases hj':j=k
   .rw[hj'];exact heq
   .exact hpk j qO
 ·(repeat' first|refine yX ?_|fail);have hkn:k=l.length:=by simp at h;omega
  subst hkn
  exact zG rfl H.cl (by
   have:l=l':=zHS hlen hpk
   rw[yyb this])}
theorem zN2 (e:Evt):evD e e=true:=by unfold evD;simp
theorem zH3 {F:zA}(x y:Evt)(p q:EPt)(w0:World)(hF:Mem w0 F)(hx:EvtM F x p)(hy:EvtM F y q) :
  Cr 29 [.agg (x.cells p).toArray,.agg (y.cells q).toArray] (.bool (evD x y)) w0:=by{
have hi:=fun w (hG:Mem w F)=>c_EqI x.nums y.nums w hG hx.nums hy.nums;have ht:=fun w (hG:Mem w F)=>c_EqT x.texts y.texts w hG hx.texts hy.texts;have eP:evD x y=((x.v==y.v&&x.kind==y.kind)&&decide (x.nums=y.nums)&&decide (x.texts=y.texts)):=rfl;rw[eP];cases d1:x.v==y.v with
| false =>
  refine eS func29 ntmps29 fun H=>?_;(repeat' first|refine yW ?_|(refine yB ?_;intro b w H)|fail);exact zG rfl H.cl rfl
| true =>
cases d2:x.kind==y.kind with
| false =>
  refine eS func29 ntmps29 fun H=>?_;(repeat' first|refine yW ?_|(refine yB ?_;intro b w H)|fail);exact zG rfl H.cl rfl
| true =>
cases d3:decide (x.nums=y.nums) with
| false =>
  rw[d3] at hi;refine eS func29 ntmps29 fun H=>?_;(repeat' first|refine yW ?_|(refine yB ?_;intro b w H)|(refine c0 ent64 ?_;refine⟨_,hi _ (H.memF hF),?_⟩;clear H;intro w H)|fail);exact zG rfl H.cl rfl
| true =>
  rw[d3] at hi;refine eS func29 ntmps29 fun H=>?_;(repeat' first|refine yW ?_|(refine yB ?_;intro b w H)|(refine c0 ent64 ?_;refine⟨_,hi _ (H.memF hF),?_⟩;clear H;intro w H)|(refine c0 ent65 ?_;refine⟨_,ht _ (H.memF hF),?_⟩;clear H;intro w H)|fail);exact zG rfl H.cl rfl}
def zPi (c:Cmd):Bool:=decide ((c.nums.length:Int)>100)||decide ((c.text.size:Int)>300)
theorem zMM {na:OA}{nc:Nat}(c:Cmd)(w0:World) :
  Cr 11 [.agg (c.cells na nc).toArray] (.bool (zPi c)) w0:=by{
unfold zPi;refine eS func11 ntmps11 fun H=>?_;cases d1:decide ((c.nums.length:Int)>100) with
| true =>
  (repeat' first|refine yW ?_|(refine yB ?_;intro b w H)|fail);exact zG rfl H.cl rfl
| false =>
  (repeat' first|refine yW ?_|(refine yB ?_;intro b w H)|fail);exact zG rfl H.cl rfl}
theorem c_old {k:Int}{a:OA}{len cap:Nat}(w0:World) :
  Cr 33 [.int .u8 k,.slice a len cap] (.agg #[.int .u8 1,.int .u8 k,.slice a len cap,.slice none 0 0]) w0:=by refine eS func33 ntmps33 fun H=>?_;(repeat' first|refine yW ?_|(refine yB ?_;intro b w H)|(refine y11 sg H ?_;intro w H)|fail);exact zAv (vs:=[_]) ⟨zg sg rfl H.mem qB rfl rfl,trivial⟩ H.cl rfl
def evz (e:Evt)(k:Nat):Nat:=min (e.texts.getD k ByteArray.empty).size 900
def evSz (n:Nat)(e:Evt):Nat:=zBh 900 (evz e) (n+e.nums.length+e.texts.length) e.texts.length
def evsS:List Evt->Nat->Bool
 | [],_=>false
 | e::l,n=>if 900<evSz n e then true else evsS l (evSz n e)
def zE6 (l:List Evt):Bool:=decide ((l.length:Int)>60)||evsS l 0
theorem zVr {l:List Evt}{k:Nat}(h:k<l.length):l.drop k=ev_ l k::l.drop (k+1):=by rw[List.drop_eq_getElem_cons h];unfold ev_;rw[yy2,yy1 h];rfl
theorem zN3 {F:zA}{a:OA}{cap:Nat}(l:List Evt)(q:Nat->EPt)(w0:World)(hF:Mem w0 F)(hM:EvsM F a cap l q) :
  Cr 28 [.slice a l.length cap] (.bool (zE6 l)) w0:=by{
obtain⟨⟨hn,hc,b0,off,cs,T,fr,hs⟩,hev⟩:=hM;unfold zE6;cases d0:decide ((l.length:Int)>60) with
| true =>
  refine eS func28 ntmps28 fun H=>?_;(repeat' first|refine yW ?_|fail);exact zG rfl H.cl rfl
| false =>
refine eS func28 ntmps28 fun H=>?_;(repeat' first|refine yX ?_|fail);refine CW.condF (congrArg Value.bool d0) ?_;(repeat' first|refine yX ?_|fail);refine zD [(2,5),(9,57)] (fun x:Nat × Nat=>[(3,.int .i64 (x.2:Int)),(4,.int .i64 (x.1:Int))]) (fun x w=>x.1<=l.length/\x.2<=900/\evsS l 0=evsS (l.drop x.1) x.2/\St w0 [] w) (fun x=>l.length - x.1) (0,0) ⟨rfl,rfl,trivial⟩ ⟨zzD _,zzD _,rfl,H⟩ ?_;clear H;rintro⟨i,n⟩ gh w ⟨hi,hn9,hr,H⟩;simp only at hi hn9 hr H ⊢;by_cases hlt:i<l.length;rotate_left
.obtain rfl:i=l.length:=by omega
 have d5:decide ((l.length:Int)<(l.length:Int))=false:=yyc qO;(repeat' first|refine yW ?_|fail);exact zG rfl H.cl (by rw[hr,List.drop_length,evsS];rfl)
have d5:decide ((i:Int)<(l.length:Int))=true:=yyb qO;rw[zVr hlt,evsS] at hr;have hE:=hev i hlt;obtain⟨hn1,hc1,_⟩:=hE.nums;obtain⟨hn2,hc2,b2,off2,cs2,T2,fr2,hs2⟩:=hE.texts;have hw0:IntKind.i64.wrap (IntKind.i64.wrap ((n:Int)+((ev_ l i).nums.length:Int))+((ev_ l i).texts.length:Int))=((n+(ev_ l i).nums.length+(ev_ l i).texts.length:Nat):Int):=by rw[w64 (x:=(n:Int)+((ev_ l i).nums.length:Int)) qO qO,w64 qO qO];omega
have hN:n+(ev_ l i).nums.length+(ev_ l i).texts.length<=800000000000000:=by omega
unfold evSz at hr;obtain⟨N,hNe⟩:∃ N,n+(ev_ l i).nums.length+(ev_ l i).texts.length=N:=⟨_,rfl⟩;rw[hNe] at hw0 hN hr;(repeat' first|refine yW ?_|refine x41 sg hs ?_|refine x45 sg hs (H.memF hF) ?_|(refine qN H ?_;clear H;intro w H)|refine y20 mixed ?_|fail);refine zD [(3,3),(5,5),(30,55)] (fun k:Nat=>[(3,.int .i64 ((zBh 900 (evz (ev_ l i)) N k:Nat):Int)),(5,.int .i64 (k:Int))]) (fun k w=>St w0 [] w/\k<=(ev_ l i).texts.length) (fun k=>(ev_ l i).texts.length - k) 0 ⟨congrArg (Value.int .i64) hw0,rfl,trivial⟩ ⟨H,zzD _⟩ ?_;clear H;rintro k gh2 w ⟨H,hk⟩;have hle:=zGz (c:=900) (z:=evz (ev_ l i)) (n:=N) (B:=900) k fun j _=>by unfold evz;omega
obtain⟨m,hm⟩:∃ m,zBh 900 (evz (ev_ l i)) N k=m:=⟨_,rfl⟩;rw[hm] at hle ⊢;by_cases hkl:k<(ev_ l i).texts.length/\m<=900
.have d1:decide ((k:Int)<((ev_ l i).texts.length:Int))=true:=yyb qO;have d2:decide ((m:Int)<=900)=true:=yyb qO;have hlt2:=hkl.1;(repeat' first|refine yW ?_|refine x40 sg hs ?_|refine x44 sg hs (H.memF hF) ?_|refine x40 sg hs2 ?_|refine z13 (zLB sg hs2 (H.memF hF) hlt2) ?_|fail);exact zC (k+1) rfl ⟨congrArg (Value.int .i64) (zMw (d:=900) hm hkl.2 rfl rfl qO qO),zU qO,trivial⟩ ⟨H,hkl.1⟩ qO
have hd:=fun b=>zIe (c:=900) rfl hkl b;have e1:zBh 900 (evz (ev_ l i)) N (ev_ l i).texts.length=m:=by rw[zFZ hk (by rw[hm];exact hkl),hm]
rw[e1] at hr;clear hkl hm hk;by_cases h9:900<m
.have d6:decide ((m:Int)>900)=true:=yyb qO;rw[if_pos h9] at hr;(repeat' first|refine yW ?_|refine x40 sg hs ?_|refine x44 sg hs (H.memF hF) ?_|((first|refine y17 ?_ ?_|refine y23 ?_ ?_);all_goals(intro h;try (exfalso;first|((exact hd _ ‹_› h);done)|((cases d6.symm.trans h);done))))|fail);all_goals exact zG rfl H.cl (by rw[hr];rfl)
.have d6:decide ((m:Int)>900)=false:=yyc qO;rw[if_neg h9] at hr;(repeat' first|refine yW ?_|refine x40 sg hs ?_|refine x44 sg hs (H.memF hF) ?_|((first|refine y17 ?_ ?_|refine y23 ?_ ?_);all_goals(intro h;try (exfalso;first|((exact hd _ ‹_› h);done)|((cases d6.symm.trans h);done))))|fail);all_goals exact zD5 (i+1,m) rfl ⟨rfl,zU qO,trivial⟩ ⟨hlt,by show m<=900;omega,hr,H⟩ (by show l.length - (i+1)<l.length - i;omega)}
end Go.Proofs.YtejhijhnlogikaaGreatDoor
