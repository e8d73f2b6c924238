/- Texts of ours, joined: the steps of the proof, or the claim's theorem. -/
import Derived.Test.YtejhijhnlogikaaGreatDoorMc29
set_option linter.all false
set_option maxHeartbeats 16000000
namespace Go.Proofs.YtejhijhnlogikaaGreatDoor
section
open Go Go.Sk Go.RowKit Go.Proofs.Tryz
attribute [local irreducible] Go.Calls
theorem zQm {n cap:Nat}{a:Option Addr}{el:Nat→List Value}{f:FuncId}{caps:List Value}{F:zB}(p:Nat→Bool)(w0:World)(hF:Mem w0 F)(hs:SlA F 4 a n cap el)(hf:Ent prog f)
  (hp:∀ j,j<n→∀ w,Cl w0 w→Calls prog f ([Value.agg (el j).toArray]++caps).toArray w (Ret (.bool (p j)) w)) :
  Calls prog 107 [.slice a n cap,.func (.func f) #[] caps.toArray].toArray w0 (Ret (.int .i64 (idx p n)) w0):=by
 obtain⟨hn,hc,b,off,cs,T,fr,hs⟩:=hs
 refine eN func107 ntmps107 ?_
 have H:=zA w0
 repeat' (first|refine yX ?_|with_reducible apply zC|fail)
 refine zI [(4,5),(8,18)] (fun k:Nat=>[(8,.int .i64 (k:Int))]) (fun k w=>k≤n∧(∀ j,j<k→p j=false)∧St w0 [] w) (fun k=>n - k) 0 ⟨rfl,trivial⟩ ⟨zzD _,fun j hj=>by omega,H⟩ ?_
 clear H
 rintro k g w ⟨hk,hpk,H⟩
 repeat' (first|refine yX ?_|fail)
 refine zD rfl (fun h=>?_) (fun h=>?_)
 ·have hlt:k<n:=by simpa using h
  repeat' (first|refine yX ?_|refine x40 sg hs ?_|refine x42 sg hs (H.memF hF) ?_|(refine OX.call rfl rfl (zA3 hf rfl rfl rfl) (hp k hlt _ H.cl) ?_;refine wQ H ?_;clear H;intro w H)|with_reducible apply zC|fail)
  refine zD rfl (fun h2=>?_) (fun h2=>?_)
  ·repeat' (first|refine yX ?_|fail)
   exact zP rfl H.cl (by rw[zBm hlt hpk h2])
  ·repeat' (first|refine yX ?_|fail)
   refine zF (k+1) rfl ⟨zd qO,trivial⟩ ⟨hlt,fun j hj=>?_,H⟩ qO
   by_cases hj':j=k
   ·rw[hj',h2]
   ·exact hpk j qO
 ·repeat' (first|refine yX ?_|fail)
  have hkn:k=n:=by simp at h;omega
  exact zP rfl H.cl (by rw[zA4 (hkn ▸ hpk)])
theorem zKz {n cap:Nat}{a:Option Addr}{el:Nat→List Value}{f:FuncId}{caps:List Value}{F:zB}(p:Nat→Bool)(w0:World)(hF:Mem w0 F)(hs:SlA F 4 a n cap el)(hf:Ent prog f)
  (hp:∀ j,j<n→∀ w,Cl w0 w→Calls prog f ([Value.agg (el j).toArray]++caps).toArray w (Ret (.bool (p j)) w)) :
  Calls prog 71 [.slice a n cap,.func (.func f) #[] caps.toArray].toArray w0 (Ret (.bool (decide (idx p n ≥ 0))) w0):=by
 refine eN func71 ntmps71 ?_
 have H:=zA w0
 repeat' (first|refine yW ?_|(refine c0 ent107 ?_;refine⟨_,zQm p _ (H.memF hF) hs hf (fun j hj w' hw'=>hp j hj w' (H.cl.trans hw')),?_⟩;clear H;intro w H)|fail)
 all_goals exact zP rfl H.cl rfl
theorem zT0 (l:List Evt)(p:Evt→Bool):decide (idx (fun j=>p (ev_ l j)) l.length ≥ 0)=l.any p:=by
 rcases zZ (fun j=>p (ev_ l j)) l.length with ⟨k,h1,_,h2,h3⟩|⟨h1,h3⟩
 ·rw[h3,decide_eq_true qO]
  exact(List.any_eq_true.2 ⟨_,zKn h1,h2⟩).symm
 ·rw[h3,decide_eq_false qO]
  symm
  rw[List.any_eq_false]
  intro e he
  obtain⟨j,hj,rfl⟩:=mem_ev he
  rw[h1 j hj];decide
def othF (l:List Evt)(e:Evt):Bool:=e.v != (ev0 l).v||!zAm e
theorem zVk {F:zB}{a:Option Addr}{cap b0:Nat}{l:List Evt}{q:Nat→EPt}(h0:0<l.length){e:Evt}{qe:EPt}(hT:zCq e)(w0:World)(hF:Mem w0 F)(hK:KinM F)(hM:EvtM F e qe)(hs:EvsM F a cap l q)(hm:cb b0 [.slice a l.length cap] 30∈F) :
  Calls prog 99 [.agg (e.cells qe).toArray,.pointer (some ⟨b0,0,none⟩)].toArray w0 (Ret (.bool (othF l e)) w0):=by
 obtain⟨⟨hn,hc,b1,off,cs,T,fr,hs⟩,_⟩:=hs
 have hmay:=fun w (hG:Mem w F)=>zHX e qe hT w hG hK hM
 unfold othF
 cases d1:e.v != (ev0 l).v with
 | true =>
   have d2:(e.v != (ev_ l 0).v)=true:=d1
   refine eN func99 ntmps99 ?_
   have H:=zA w0
   repeat' (first|refine yW ?_|(refine yB ?_;intro b w H)|refine zq (zH sg rfl rfl (H.memF hF) hm rfl rfl) ?_|refine x41 sg hs ?_|refine x45 sg hs (H.memF hF) ?_|(refine qN H ?_;clear H;intro w H)|refine y20 mixed ?_|fail)
   exact zP rfl H.cl rfl
 | false =>
   have d2:(e.v != (ev_ l 0).v)=false:=d1
   refine eN func99 ntmps99 ?_
   have H:=zA w0
   repeat' (first|refine yW ?_|(refine yB ?_;intro b w H)|refine zq (zH sg rfl rfl (H.memF hF) hm rfl rfl) ?_|refine x41 sg hs ?_|refine x45 sg hs (H.memF hF) ?_|(refine q0 zHA ?_;refine⟨_,fun _ hcl=>hmay _ ((H.ext hcl).memF hF),?_⟩)|(refine qN H ?_;clear H;intro w H)|refine y20 mixed ?_|fail)
   exact zP rfl H.cl rfl
theorem zVl {F:zB}{a:Option Addr}{cap:Nat}{l:List Evt}{q:Nat→EPt}(hT:∀ e∈l,zCq e)(w0:World)(hF:Mem w0 F)(hK:KinM F)(hs:EvsM F a cap l q) :
  Calls prog 59 [.slice a l.length cap].toArray w0 (Ret (.bool (zKo l)) w0):=by
 have eP:zKo l=(decide ((l.length:Int)>0)&&(decide ((l.length:Int)≤40)&&!l.any (othF l))):=by
  unfold zKo
  rw[show decide ((l.length:Int)>0)=decide (0<l.length) from decide_eq_decide.2 qO,show decide ((l.length:Int)≤40)=decide (l.length≤40) from decide_eq_decide.2 qO,Bool.and_assoc]
  rfl
 rw[eP]
 have hct:=fun w (b0:Nat) (G:zB) (h0:0<l.length) (hG:Mem w (G++F)) (hm:cb b0 [.slice a l.length cap] 30∈G)=>zKz (caps:=[.pointer (some ⟨b0,0,none⟩)]) (fun j=>othF l (ev_ l j)) w hG (SlA.mono hs.1 (zz8 _ _)) ent99 (fun j hj w' hw=>zVk (q:=q) h0 (hT _ (zKn hj)) w' (hG.ext hw) (hK.mono (zz8 _ _)) ((hs.2 j hj).mono (zz8 _ _)) (hs.mono (zz8 _ _)) (zz6 _ hm))
 rw[zT0] at hct
 cases d1:decide ((l.length:Int)>0) with
 | false =>
   refine eN func59 ntmps59 ?_
   have H:=zA w0
   repeat' (first|refine yW ?_|(refine yB ?_;intro b w H)|fail)
   exact zP rfl H.cl rfl
 | true =>
 have h0:0<l.length:=by have:=zzA d1;omega
 cases d2:decide ((l.length:Int)≤40) with
 | false =>
   refine eN func59 ntmps59 ?_
   have H:=zA w0
   repeat' (first|refine yW ?_|(refine yB ?_;intro b w H)|fail)
   exact zP rfl H.cl rfl
 | true =>
   refine eN func59 ntmps59 ?_
   have H:=zA w0
   repeat' (first|refine yW ?_|(refine yB ?_;intro b w H)|(refine c0 ent71 ?_;refine⟨_,hct _ _ _ h0 (H.all hF) (zz2 _),?_⟩;clear H;intro w H)|fail)
   exact zP rfl H.cl rfl
def BaX (bl:Nat)(cl:List Value)(N:zB)(m:Mrk)(l:List Evt)(t:Sta)(q:SPt)(e:Int)(N':zB):Prop :=
 e=(zCi m l).2∧((e≠0∧∃ Y,N'=cb bl cl 30::(N++Y))∨(e=0∧t=(zCi m l).1.s∧∃ Y,N'=cb bl cl 30::(N++Y)∧StaM Y t q))
theorem zVm {F N:zB}{m:Mrk}{p:SPt}{bm bl:Nat}{l:List Evt}{a:Option Addr}{cap:Nat}{qe:Nat→EPt}{w0:World}(hF:Mem w0 F)(hP:PriM F)(hK:KinM F)(hg:Good m.s)(hn:m.n<1048576)(hs:StaM (N++F) m.s p)(hT:∀ e∈l,zCq e)(hN:EvsM (N++F) a cap l qe)(w:World)
  (H:St w0 (cb bm (mrk m p) 74::cb bl [.slice a l.length cap] 30::N) w) :
  Calls prog 58 ([Value.agg (m.s.cells p).toArray]++[Value.pointer (some ⟨bl,0,none⟩)]).toArray w (zf (ActR bm m p (BaX bl [.slice a l.length cap] N m l)) w0):=by
 have hsub:∀ {G:zB},N⊆G→N++F⊆G++F:=fun h z hz=>(List.mem_append.1 hz).elim (fun g=>zz6 _ (h g)) (zz3 _)
 have hbm:=fun w (G:zB) (hG:Mem w (G++F)) (h:N⊆G)=>zVl hT w hG (hK.mono (zz8 _ _)) (hN.mono (hsub h))
 unfold BaX zCi
 rw[if_neg qO]
 cases hb:zKo l with
 | false =>
   rw[hb] at hbm
   rw[if_pos rfl]
   refine eN func58 ntmps58 ?_
   repeat' (first|refine yW ?_|(refine yB ?_;intro b w H)|(refine y11 sg H ?_;intro w H)|(refine c0 ent59 ?_;refine⟨_,hbm _ _ (H.all hF) (by intro z hz;simp[hz]),?_⟩;clear H;intro w H)|fail)
   exact zi (vs:=[_,_]) (M:=_::_::N) ⟨zm sg rfl H.mem (zz2 _) rfl rfl,zW rfl,trivial⟩ (H.sub (List.Sublist.cons _ (List.Sublist.cons _ (List.Sublist.refl _)))) ⟨zCp,SPt.n0,4,_,rfl,rfl,rfl,.inl ⟨(by decide),[],by rw[List.append_nil]⟩⟩
 | true =>
 rw[hb] at hbm
 rw[if_neg (by decide)]
 obtain⟨⟨hl0,hl40⟩,hall⟩:=zVh.1 hb
 have hmay:∀ e∈l,zAm e=true:=fun e he=>(hall e he).2
 have hnw:=zPJ l [] hmay
 rw[List.nil_append] at hnw
 have hne:=fun w (G:zB) (hG:Mem w (G++F)) (h:N⊆G)=>zKy (caps:=[]) zG0 ent31 l qe qO w hG (hN.mono (hsub h)) (fun j hj w hG=>zQl (ev_ l j) (qe j) (hT _ (zKn hj)) w hG (hK.mono (zz8 _ _)) ((hN.2 j hj).mono (hsub h)))
 rw[← zJf,hnw] at hne
 rw[hnw]
 rw[if_neg (fun h=>h rfl)]
 obtain⟨L,hL⟩:∃ L,l.map (fun e=>(zG0 e).1)=L:=⟨_,rfl⟩
 have hev:∀ e∈L,zCq e:=fun e he=>by
  rw[← hL] at he
  obtain⟨x,hx,rfl⟩:=List.mem_map.1 he
  exact zPI (zN0 (hmay x hx)).2.1 (zN0 (hmay x hx)).2.2
 rw[hL] at hne ⊢
 have hall:=fun w (G:zB) (ae:Option Addr) (cape:Nat) (qe:Nat→EPt) (M:zB) (hE:EvsM M ae cape L qe) (hG:Mem w (G++F)) (h2:M⊆G) (h:N⊆G)=>zTT (s:=m.s) (p:=p) (zFB hg) L qe hev w hG (hP.mono (zz8 _ _)) (hK.mono (zz8 _ _)) (hs.mono (hsub h)) (hE.mono fun x hx=>zz6 _ (h2 hx))
 have hlt:=zVj m.s L
 obtain⟨⟨u,n,k⟩,hal⟩:∃ r,zCg m.s L=r:=⟨_,rfl⟩
 rw[hal] at hall hlt ⊢
 simp only at hlt ⊢
 refine eN func58 ntmps58 ?_
 repeat' (first|refine yW ?_|(refine yB ?_;intro b w H)|(refine y11 sg H ?_;intro w H)|(refine c0 ent59 ?_;refine⟨_,hbm _ _ (H.all hF) (by intro z hz;simp[hz]),?_⟩;clear H;intro w H)|(refine f0 ent60 ?_;refine⟨_,hne _ _ (H.all hF) (by intro z hz;simp[hz]),?_⟩;clear H;intro v M2 w hR H;(try simp only[zca,zcb] at H);obtain⟨ae,ce,qe2,rfl,hE⟩:=hR)|(refine f0 ent39 ?_;refine⟨_,hall _ _ _ _ _ _ hE (H.all hF) (by intro z hz;simp[hz]) (by intro z hz;simp[hz]),?_⟩;clear H;intro v M3 w hR H;(try simp only[zca,zcb] at H);obtain⟨p3,rfl,hs3⟩:=hR.sta hlt)|fail)
 rw[List.append_assoc] at H
 refine zi (vs:=[_,_]) (M:=_::_::(N++(M2++M3))) ⟨zm sg rfl H.mem (zz2 _) rfl rfl,zW rfl,trivial⟩ (H.sub (List.Sublist.cons _ (List.Sublist.cons _ (List.Sublist.refl _)))) ⟨u,p3,k,_,rfl,rfl,?_⟩
 by_cases hk:k=0
 ·subst hk
  rw[if_neg (fun h=>h rfl)]
  exact⟨rfl,.inr ⟨rfl,rfl,M2++M3,rfl,hs3.mono (zz8 _ _)⟩⟩
 ·rw[if_pos hk]
  exact⟨rfl,.inl ⟨hk,M2++M3,rfl⟩⟩
def MBaR (F:zB)(bm:Nat)(N:zB)(r:Mrk × Int)(M:zB)(v:Value):Prop:=∃ p Y,M=cb bm (mrk r.1 p) 74::(N++Y)∧v=.int .i64 r.2∧StaM ((N++Y)++F) r.1.s p
theorem zVn {m:Mrk}{l:List Evt}(hn:m.n<1048576)(h:(zCi m l).2=0):(zCi m l).1=⟨(zCi m l).1.s,m.n+1⟩:=by
 unfold zCi at h ⊢
 rw[if_neg qO] at h ⊢
 split at h
 ·exact absurd h (show(4:Int)≠0 by decide)
 rename_i g1
 rw[if_neg g1]
 split at h
 ·rename_i g;exact absurd h g
 rename_i g2
 rw[if_neg g2]
 split at h
 ·rename_i g;exact absurd h g
 rename_i g3
 rw[if_neg g3]
theorem zVo {m:Mrk}{l:List Evt}(h:(zCi m l).2≠0):(zCi m l).1=m:=by
 unfold zCi at h ⊢
 split
 ·rfl
 split
 ·rfl
 split
 ·rfl
 split
 ·rfl
 rename_i g1 g2 g3 g4
 rw[if_neg g1,if_neg g2,if_neg g3,if_neg g4] at h
 exact absurd rfl h
theorem zIp {F N:zB}{m:Mrk}{p:SPt}{bm:Nat}{l:List Evt}{a:Option Addr}{cap:Nat}{qe:Nat→EPt}{w0 w:World}(H:St w0 (cb bm (mrk m p) 74::N) w)(hF:Mem w0 F)(hP:PriM F)(hK:KinM F)(hok:MkOk m)(hs:StaM (N++F) m.s p)(hT:∀ e∈l,zCq e)(hN:EvsM (N++F) a cap l qe) :
  Calls prog 25 [.pointer (some ⟨bm,0,none⟩),.slice a l.length cap].toArray w (zf (MBaR F bm N (zCi m l)) w0):=by
 by_cases hn:1048576≤m.n
 ·have e0:zCi m l=(m,40):=by unfold zCi;rw[if_pos hn]
  rw[e0]
  refine eN func25 ntmps25 ?_
  repeat' (first|refine yW ?_|(refine yB ?_;intro b w H)|(refine c0 zI6 ?_;refine⟨_,zIk hn _ (H.all hF) ⟨p,by simp,hs.mono (fun z hz=>(List.mem_append.1 hz).elim (fun g=>zz6 _ (by simp[g])) (zz3 _))⟩,?_⟩;clear H;intro w H)|fail)
  exact zO (M:=_::(N++[])) rfl (by rw[List.append_nil];exact H.sub (List.Sublist.cons _ (List.Sublist.refl _))) ⟨p,[],rfl,rfl,by rw[List.append_nil];exact hs⟩
 have hcc:=fun(bl:Nat) w (h1:St w0 (cb bm (mrk m p) 74::cb bl [.slice a l.length cap] 30::N) w)=>zJc h1 ⟨hok.n.1,by omega⟩ ent58 (zVm hF hP hK hok.good qO hs hT hN)
 unfold ChgR BaX at hcc
 have hst:=zVn (m:=m) (l:=l) qO
 have her:=zVo (m:=m) (l:=l)
 obtain⟨⟨m',k⟩,hr⟩:∃ r,zCi m l=r:=⟨_,rfl⟩
 rw[hr] at hcc hst her ⊢
 simp only at hcc hst her ⊢
 by_cases hk:k=0
 rotate_left
 ·obtain rfl:=her hk
  refine eN func25 ntmps25 ?_
  repeat' (first|refine yW ?_|(refine yB ?_;intro b w H)|(have hp:=H.perm (List.perm_middle (l₁:=[_]));simp only[zca,zcb] at hp;(refine' y33 zI6 ?_ ?_;rotate_left 2;exact hcc _ _ hp;rintro v M w ⟨t,q,e,N',rfl,⟨rfl,hX⟩,rfl⟩ H2;clear H hp;obtain⟨_,Y,rfl⟩:=hX.resolve_right (fun h=>hk h.1);rw[if_neg hk] at H2;have H:=H2;clear H2))|fail)
  exact zO (M:=_::(N++Y)) rfl (H.sub (List.Sublist.cons_cons _ (List.Sublist.cons _ (List.Sublist.refl _)))) ⟨p,Y,rfl,rfl,hs.mono (fun z hz=>(List.mem_append.1 hz).elim (fun h=>zz6 _ (zz6 _ h)) (zz3 _))⟩
 subst hk
 obtain⟨u,n⟩:=m'
 have hst:=hst rfl
 simp only[Mrk.mk.injEq,true_and] at hst
 subst hst
 refine eN func25 ntmps25 ?_
 repeat' (first|refine yW ?_|(refine yB ?_;intro b w H)|(have hp:=H.perm (List.perm_middle (l₁:=[_]));simp only[zca,zcb] at hp;(refine' y33 zI6 ?_ ?_;rotate_left 2;exact hcc _ _ hp;rintro v M w ⟨t,q,e,N',rfl,⟨rfl,hX⟩,rfl⟩ H2;clear H hp;obtain⟨_,rfl,Y,rfl,hS⟩:=hX.resolve_left (fun h=>h.1 rfl);rw[if_pos rfl] at H2;have H:=H2;clear H2))|fail)
 exact zO (M:=_::(N++Y)) rfl (H.sub (List.Sublist.cons_cons _ (List.Sublist.cons _ (List.Sublist.refl _)))) ⟨q,Y,rfl,rfl,hS.mono (fun z hz=>zz6 _ (zz3 _ hz))⟩
end
section
open Go Go.Sk Go.RowKit Go.Proofs.Tryz
def evD (a b:Evt):Bool:=decide (a.v=b.v)&&decide (a.kind=b.kind)&&decide (a.nums=b.nums)&&decide (a.texts=b.texts)
end
section
open Go Go.Sk Go.RowKit Go.Proofs.Tryz
attribute [local irreducible] Go.Calls
theorem zGY {α:Type}{d:α}{l l':List α}(hlen:l.length=l'.length)(h:∀ j,j<l.length→l.getD j d=l'.getD j d):l=l':=by
 letI:Inhabited α:=⟨d⟩
 exact zVR hlen h
theorem neqI {x y:Int}(h:(x != y)=true):x≠y:=by simpa using h
theorem eqvI {x y:Int}(h:(x != y)=false):x=y:=by simpa using h
theorem neqT {x y:ByteArray}(h:(!(x.toList==y.toList))=true):x≠y:=fun e=>by subst e;simp at h
theorem eqvT {x y:ByteArray}(h:(!(x.toList==y.toList))=false):x=y:=(zPC x y).1 (by simpa using h)
theorem c_EqI {a a':Option Addr}{cap cap':Nat}(l l':List Int){F:zB}(w0:World)(hF:Mem w0 F)(hs:SlA F 1 a l.length cap (fun j=>[Value.int .i64 (l.getD j 0)]))(hs':SlA F 1 a' l'.length cap' (fun j=>[Value.int .i64 (l'.getD j 0)])) :
  Calls prog 64 [.slice a l.length cap,.slice a' l'.length cap'].toArray w0 (Ret (.bool (decide (l=l'))) w0):=by
 obtain⟨hn,hc,b,off,cs,T,fr,hs⟩:=hs
 obtain⟨hn',hc',b',off',cs',T',fr',hs'⟩:=hs'
 refine eN func64 ntmps64 ?_
 have H:=zA w0
 repeat' (first|refine yX ?_|fail)
 refine zD rfl (fun h=>?_) (fun h=>?_)
 ·repeat' (first|refine yX ?_|fail)
  exact zP rfl H.cl (by
   have:l≠l':=fun he=>by subst he;simp at h
   rw[decide_eq_false this])
 ·have hlen:l.length=l'.length:=by simp at h;omega
  repeat' (first|refine yX ?_|with_reducible apply zC|fail)
  refine zI [(4,5),(13,25)] (fun k:Nat=>[(13,.int .i64 (k:Int))]) (fun k w=>k≤l.length∧(∀ j,j<k→l.getD j 0=l'.getD j 0)∧St w0 [] w) (fun k=>l.length - k) 0 ⟨rfl,trivial⟩ ⟨zzD _,fun j hj=>by omega,H⟩ ?_
  clear H
  rintro k g w ⟨hk,hpk,H⟩
  repeat' (first|refine yX ?_|fail)
  refine zD rfl (fun h=>?_) (fun h=>?_)
  ·have hlt:k<l.length:=by simpa using h
   repeat' (first|refine yX ?_|refine x41 sg hs ?_|(refine y41 sg (hs') ?_ ?_ ?_;(omega);(omega))|refine zq (Yq.loadB1 sg hs (H.memF hF) rfl rfl rfl rfl hlt rfl) ?_|refine zq (Yq.loadB1 sg hs' (H.memF hF) rfl rfl rfl rfl (show k<l'.length by omega) rfl) ?_|(refine qN H ?_;clear H;intro w H)|refine y20 mixed ?_|with_reducible apply zC|fail)
   refine zD rfl (fun h2=>?_) (fun h2=>?_)
   ·have hne:=neqI h2
    repeat' (first|refine yX ?_|fail)
    exact zP rfl H.cl (by
     have:l≠l':=fun he=>by subst he;exact hne rfl
     rw[decide_eq_false this])
   ·have heq:=eqvI h2
    repeat' (first|refine yX ?_|fail)
    refine zF (k+1) rfl ⟨zd qO,trivial⟩ ⟨hlt,fun j hj=>?_,H⟩ qO
    by_cases hj':j=k
    ·rw[hj'];exact heq
    ·exact hpk j qO
  ·repeat' (first|refine yX ?_|fail)
   have hkn:k=l.length:=by simp at h;omega
   subst hkn
   exact zP rfl H.cl (by
    have:l=l':=zGY hlen hpk
    rw[decide_eq_true this])
theorem c_EqT {a a':Option Addr}{cap cap':Nat}(l l':List ByteArray){F:zB}(w0:World)(hF:Mem w0 F)(hs:SlA F 1 a l.length cap (fun j=>[Value.string (l.getD j ByteArray.empty)]))(hs':SlA F 1 a' l'.length cap' (fun j=>[Value.string (l'.getD j ByteArray.empty)])) :
  Calls prog 65 [.slice a l.length cap,.slice a' l'.length cap'].toArray w0 (Ret (.bool (decide (l=l'))) w0):=by
 obtain⟨hn,hc,b,off,cs,T,fr,hs⟩:=hs
 obtain⟨hn',hc',b',off',cs',T',fr',hs'⟩:=hs'
 refine eN func65 ntmps65 ?_
 have H:=zA w0
 repeat' (first|refine yX ?_|fail)
 refine zD rfl (fun h=>?_) (fun h=>?_)
 ·repeat' (first|refine yX ?_|fail)
  exact zP rfl H.cl (by
   have:l≠l':=fun he=>by subst he;simp at h
   rw[decide_eq_false this])
 ·have hlen:l.length=l'.length:=by simp at h;omega
  repeat' (first|refine yX ?_|with_reducible apply zC|fail)
  refine zI [(4,5),(13,25)] (fun k:Nat=>[(13,.int .i64 (k:Int))]) (fun k w=>k≤l.length∧(∀ j,j<k→l.getD j ByteArray.empty=l'.getD j ByteArray.empty)∧St w0 [] w) (fun k=>l.length - k) 0 ⟨rfl,trivial⟩ ⟨zzD _,fun j hj=>by omega,H⟩ ?_
  clear H
  rintro k g w ⟨hk,hpk,H⟩
  repeat' (first|refine yX ?_|fail)
  refine zD rfl (fun h=>?_) (fun h=>?_)
  ·have hlt:k<l.length:=by simpa using h
   repeat' (first|refine yX ?_|refine x41 sg hs ?_|(refine y41 sg (hs') ?_ ?_ ?_;(omega);(omega))|refine zq (Yq.loadB1 sg hs (H.memF hF) rfl rfl rfl rfl hlt rfl) ?_|refine zq (Yq.loadB1 sg hs' (H.memF hF) rfl rfl rfl rfl (show k<l'.length by omega) rfl) ?_|(refine qN H ?_;clear H;intro w H)|refine y20 mixed ?_|with_reducible apply zC|fail)
   refine zD rfl (fun h2=>?_) (fun h2=>?_)
   ·have hne:=neqT h2
    repeat' (first|refine yX ?_|fail)
    exact zP rfl H.cl (by
     have:l≠l':=fun he=>by subst he;exact hne rfl
     rw[decide_eq_false this])
   ·have heq:=eqvT h2
    repeat' (first|refine yX ?_|fail)
    refine zF (k+1) rfl ⟨zd qO,trivial⟩ ⟨hlt,fun j hj=>?_,H⟩ qO
    by_cases hj':j=k
    ·rw[hj'];exact heq
    ·exact hpk j qO
  ·repeat' (first|refine yX ?_|fail)
   have hkn:k=l.length:=by simp at h;omega
   subst hkn
   exact zP rfl H.cl (by
    have:l=l':=zGY hlen hpk
    rw[decide_eq_true this])
theorem zT1 (e:Evt):evD e e=true:=by unfold evD;simp
theorem zQn {F:zB}(x y:Evt)(p q:EPt)(w0:World)(hF:Mem w0 F)(hx:EvtM F x p)(hy:EvtM F y q) :
  Calls prog 29 [.agg (x.cells p).toArray,.agg (y.cells q).toArray].toArray w0 (Ret (.bool (evD x y)) w0):=by
 have hi:=fun w (hG:Mem w F)=>c_EqI x.nums y.nums w hG hx.nums hy.nums
 have ht:=fun w (hG:Mem w F)=>c_EqT x.texts y.texts w hG hx.texts hy.texts
 have eP:evD x y=((x.v==y.v&&x.kind==y.kind)&&decide (x.nums=y.nums)&&decide (x.texts=y.texts)):=rfl
 rw[eP]
 cases d1:x.v==y.v with
 | false =>
   refine eN func29 ntmps29 ?_
   have H:=zA w0
   repeat' (first|refine yW ?_|(refine yB ?_;intro b w H)|fail)
   exact zP rfl H.cl rfl
 | true =>
 cases d2:x.kind==y.kind with
 | false =>
   refine eN func29 ntmps29 ?_
   have H:=zA w0
   repeat' (first|refine yW ?_|(refine yB ?_;intro b w H)|fail)
   exact zP rfl H.cl rfl
 | true =>
 cases d3:decide (x.nums=y.nums) with
 | false =>
   rw[d3] at hi
   refine eN func29 ntmps29 ?_
   have H:=zA w0
   repeat' (first|refine yW ?_|(refine yB ?_;intro b w H)|(refine c0 ent64 ?_;refine⟨_,hi _ (H.memF hF),?_⟩;clear H;intro w H)|fail)
   exact zP rfl H.cl rfl
 | true =>
   rw[d3] at hi
   refine eN func29 ntmps29 ?_
   have H:=zA w0
   repeat' (first|refine yW ?_|(refine yB ?_;intro b w H)|(refine c0 ent64 ?_;refine⟨_,hi _ (H.memF hF),?_⟩;clear H;intro w H)|(refine c0 ent65 ?_;refine⟨_,ht _ (H.memF hF),?_⟩;clear H;intro w H)|fail)
   exact zP rfl H.cl rfl
def oddC (c:Cmd):Bool:=decide ((c.nums.length:Int)>100)||decide ((c.text.size:Int)>300)
theorem c_oddC {na:Option Addr}{nc:Nat}(c:Cmd)(w0:World) :
  Calls prog 11 [.agg (c.cells na nc).toArray].toArray w0 (Ret (.bool (oddC c)) w0):=by
 unfold oddC
 refine eN func11 ntmps11 ?_
 have H:=zA w0
 cases d1:decide ((c.nums.length:Int)>100) with
 | true =>
   repeat' (first|refine yW ?_|(refine yB ?_;intro b w H)|fail)
   exact zP rfl H.cl rfl
 | false =>
   repeat' (first|refine yW ?_|(refine yB ?_;intro b w H)|fail)
   exact zP rfl H.cl rfl
theorem c_old {k:Int}{a:Option Addr}{len cap:Nat}(w0:World) :
  Calls prog 33 [.int .u8 k,.slice a len cap].toArray w0 (Ret (.agg #[.int .u8 1,.int .u8 k,.slice a len cap,.slice none 0 0]) w0):=by
 refine eN func33 ntmps33 ?_
 have H:=zA w0
 repeat' (first|refine yW ?_|(refine yB ?_;intro b w H)|(refine y11 sg H ?_;intro w H)|fail)
 exact zA7 (vs:=[_]) ⟨zm sg rfl H.mem qB rfl rfl,trivial⟩ H.cl rfl
end
section
open Go Go.Sk Go.RowKit Go.Proofs.Tryz
def zMT (s:Sta):Prop:=∀ a∈s.aucs,s.clock<a.fin
def LateS (s t:Sta):Prop:=t.clock=s.clock∧∀ a∈t.aucs,(∃ b∈s.aucs,b.fin=a.fin)∨s.clock<a.fin
theorem LateS.go {s t:Sta}(h:LateS s t)(hl:zMT s):zMT t:=fun a ha=>by
 rw[h.1]
 rcases h.2 a ha with ⟨b,hb,e⟩|h
 ·rw[← e];exact hl b hb
 ·exact h
theorem zJg {s t:Sta}(h1:t.clock=s.clock)(h2:t.aucs=s.aucs):LateS s t:=⟨h1,fun a ha=>.inl ⟨a,h2 ▸ ha,rfl⟩⟩
theorem zCu {s:Sta}{p:List Pst}:LateS s (zh s p).1:=by
 unfold zh
 split<;>exact zJg rfl rfl
theorem zT2 {a:Auc}{b:Bid}(h:(zS a b).2=0):(zS a b).1.fin=a.fin:=by
 unfold zS at h ⊢
 split at h
 ·exact absurd h (by decide)
 split at h
 ·exact absurd h (by decide)
 split at h
 ·exact absurd h (by decide)
 split at h
 ·rename_i g;exact absurd h (by simpa using g)
 ·rename_i h1 h2 h3 h4
  rw[if_neg h1,if_neg h2,if_neg h3,if_neg h4]
  rfl
theorem zMU {s t:Sta}{i:Nat}{p:List Pst}(h:zAv s i p=(t,0)):LateS s t:=by
 obtain⟨h1,h2,_⟩:=zG5 h
 exact⟨h2,fun a ha=>.inl ⟨a,List.mem_of_mem_eraseIdx (h1 ▸ ha),rfl⟩⟩
theorem zN1 {s t:Sta}{a:Auc}(h:zDA s a=(t,0)):LateS s t:=by
 unfold zDA at h
 simp only at h
 split at h
 ·exact absurd (Prod.mk.inj h).2 (by decide)
 rename_i h1
 split at h
 ·exact absurd (Prod.mk.inj h).2 (by assumption)
 split at h
 ·rename_i g;rw[h] at g;exact absurd rfl g
 obtain rfl:=(Prod.mk.inj h).1
 have hp:=(zCu (s:=s) (p:=[⟨a.seller,a.inst,-a.qty,a.qty⟩])).1
 refine⟨hp,fun x hx=>?_⟩
 rcases List.mem_append.1 hx with g|g
 ·exact .inl ⟨x,g,rfl⟩
 ·rw[List.mem_singleton.1 g];exact .inr qO
theorem zT3 {s t:Sta}{n:List Int}{b:Bool}(h:zH9 s n b=(t,0)):LateS s t:=by
 unfold zH9 at h
 simp only at h
 split at h
 ·exact absurd (Prod.mk.inj h).2 (by decide)
 split at h
 rotate_left
 ·exact absurd (Prod.mk.inj h).2 (by decide)
 split at h
 ·exact absurd (Prod.mk.inj h).2 (by decide)
 split at h
 ·exact absurd (Prod.mk.inj h).2 (by assumption)
 rename_i ht
 have key:∀ p,(if (zh s p).2≠0 then zh s p else({ (zh s p).1 with aucs:=s.aucs.set (zAJ s (nF n 0)).toNat (zS (au_ s.aucs (zAJ s (nF n 0)).toNat) ⟨nF n 1,nF n 2⟩).1 },0))=(t,0)→LateS s t:=by
  intro p h
  split at h
  ·rename_i g;rw[h] at g;exact absurd rfl g
  obtain rfl:=(Prod.mk.inj h).1
  refine⟨zCu.1,fun x hx=>.inl ?_⟩
  rcases List.mem_or_eq_of_mem_set hx with g|g
  ·exact⟨x,g,rfl⟩
  ·by_cases hi:(zAJ s (nF n 0)).toNat<s.aucs.length
   ·refine⟨au_ s.aucs (zAJ s (nF n 0)).toNat,?_,?_⟩
    ·unfold au_;rw[List.getD_eq_getElem?_getD,List.getElem?_eq_getElem hi];exact List.getElem_mem _
    ·rw[g,zT2 (Decidable.of_not_not ht)]
   ·have e:s.aucs.set (zAJ s (nF n 0)).toNat (zS (au_ s.aucs (zAJ s (nF n 0)).toNat) ⟨nF n 1,nF n 2⟩).1=s.aucs:=List.set_eq_of_length_le qO
    have hx:x∈s.aucs.set (zAJ s (nF n 0)).toNat (zS (au_ s.aucs (zAJ s (nF n 0)).toNat) ⟨nF n 1,nF n 2⟩).1:=hx
    rw[e] at hx
    exact⟨x,hx,rfl⟩
 exact key _ h
theorem zQo {s t:Sta}{k:Int}{n:List Int}{tx:ByteArray}(hk:1≤k∧k≤23)(h20:k≠20)(he:zBv s k n tx=(t,0)):LateS s t:=by
 have hps:∀ {p u},zh s p=(u,0)→LateS s u:=fun{p u} g=>by
  have:=zCu (s:=s) (p:=p)
  rw[g] at this
  exact this
 unfold zBv at he
 rcases kinds hk with rfl|rfl|rfl|rfl|rfl|rfl|rfl|rfl|rfl|rfl|rfl|rfl|rfl|rfl|rfl|rfl|rfl|rfl|rfl|rfl|rfl|rfl|rfl<;>first|exact absurd rfl h20|simp only[Int.reduceEq,if_false,if_true] at he
 all_goals first|exact zN1 he|exact zT3 he|skip
 all_goals(try unfold zEJ at he)
 all_goals(try unfold zEK at he)
 all_goals(try unfold zEL at he)
 all_goals(try unfold zFX at he)
 all_goals(try unfold zCo at he)
 all_goals(try unfold zBN at he)
 all_goals(try unfold zDR at he)
 all_goals(try unfold zFY at he)
 all_goals(try unfold zCa at he)
 all_goals(try unfold zBp at he)
 all_goals(try unfold zDB at he)
 all_goals(try unfold zEM at he)
 all_goals(try unfold zC8 at he)
 all_goals(try unfold zAY at he)
 all_goals(try simp only at he)
 all_goals(repeat' split at he)
 all_goals first
  | exact absurd (Prod.mk.inj he).2 (by decide)
  | exact absurd (Prod.mk.inj he).2 (by assumption)
  | exact hps he
  | exact zMU he
  | (have h1:=zCu (s:={ s with orders:=(zC7 s.orders (zT s.orders (nF n 0)).1.id).1 }) (p:=[⟨(zT s.orders (nF n 0)).1.acct,(zX (zT s.orders (nF n 0)).1).1,- -(zX (zT s.orders (nF n 0)).1).2,-(zX (zT s.orders (nF n 0)).1).2⟩]);rw[he] at h1;exact h1)
  | (rename_i g;rw[he] at g;exact absurd rfl g)
  | (obtain rfl:=(Prod.mk.inj he).1
     first|exact zJg rfl rfl|exact⟨zCu.1,zCu.2⟩)
theorem zIq {s t:Sta}{e:Evt}(hd:zN s e=(t,0))(h20:e.kind≠20)(hl:zMT s):zMT t:=by
 obtain⟨_,_,ev,_,_,hd⟩:=zBk hd
 exact(zQo ev.kind h20 hd).go hl
theorem zMV {s:Sta}(g:Good s):zEk s.aucs s.clock=[]↔zMT s:=by
 have hm:=g.aucs
 rcases zEZ s.aucs s.clock with ⟨_,_,h3⟩|⟨h1,_⟩
 rotate_left
 ·rw[hm] at h1;cases h1
 have hmf:∀ a∈s.aucs,zAU a=true:=fun a ha=>((zw.1 hm).2.1 a ha)
 constructor
 ·intro h a ha
  rw[h] at h3
  have h4:=h3.symm.eq_nil
  have:=List.filter_eq_nil_iff.1 h4 a ha
  unfold zAX at this
  rw[hmf a ha] at this
  simp only[Bool.true_and,decide_eq_true_eq] at this
  omega
 ·intro h
  have hf:s.aucs.filter (fun x=>zAX x s.clock)=[]:=by
   refine List.filter_eq_nil_iff.2 fun a ha=>?_
   unfold zAX
   have:=h a ha
   simp only[Bool.and_eq_true,decide_eq_true_eq,not_and]
   intro _
   omega
  rw[hf] at h3
  exact h3.eq_nil
theorem zN2 {x:WS}{id:Int}{e:Evt}(h:trN id x=some e):e.kind=13:=by
 unfold trN zEY at h
 simp only at h
 split at h
 ·cases h;rfl
 ·cases h
theorem zT4 {id:Int}{x y:WS}(h:Beh (trN id) x y)(hl:zMT x.s):zMT y.s:=by
 induction h with
 | here=>exact hl
 | on h1 h2 _ ih=>exact ih (zIq (Prod.ext rfl h2) (by rw[zN2 h1];decide) hl)
structure FairS (s:Sta):Prop where
 good:Good s
 late:zMT s
 cross:zFD s.orders=false
theorem fair_e:FairS zGl:=⟨zTe,(fun a ha=>nomatch ha),rfl⟩
theorem zT5 {s t:Sta}{c:Cmd}{l:List Evt}{n:Int}(h:FairS s)(hc:zCO s c=(l,0))(ha:zCg s l=(t,n,0)):FairS t:=by
 obtain⟨u,hu⟩:=zNy hc
 obtain rfl:u=t:=(Prod.mk.inj (hu.all.symm.trans ha)).1
 refine⟨hu.good,?_,hu.cross h.cross⟩
 by_cases h17:c.kind=17
 ·exact(zMV hu.good).1 (hu.row h17)
 obtain⟨f,t1,y,hk⟩:=zNu hc
 obtain rfl:y=u:=(Prod.mk.inj ((hk.all).1.symm.trans hu.all)).1
 have h20:f.kind≠20:=by
  rw[hk.kind]
  rcases zDx (zE2 hk.may) with h|h|h|h|h|h|h|h|h|h|h|h|h|h|h|h|h|h|h|h<;>rw[h]<;>first|decide|exact absurd h h17
 have ht:=zIq hk.ev h20 h.late
 rcases hk.beh with ⟨_,z,b1,_,_,rfl,_⟩|⟨k1,_⟩|⟨_,_,_,rfl⟩
 ·exact zT4 b1 ht
 ·exact absurd k1 h17
 ·exact ht
theorem zN3 {s:Sta}(h:FairS s){i:Int}(h1:(zAQ s.orders i 1).2=true)(h2:(zAQ s.orders i 2).2=true):zo (zAQ s.orders i 1).1 (zAQ s.orders i 2).1=false∧(zAQ s.orders i 1).1.price<(zAQ s.orders i 2).1.price:=by
 obtain⟨a,ha⟩:∃ a,(zAQ s.orders i 1).1=a:=⟨_,rfl⟩
 obtain⟨b,hb⟩:∃ b,(zAQ s.orders i 2).1=b:=⟨_,rfl⟩
 have e1:zAQ s.orders i 1=(a,true):=Prod.ext ha h1
 have e2:zAQ s.orders i 2=(b,true):=Prod.ext hb h2
 rw[ha,hb]
 have hg:=h.good.ords
 obtain⟨m1,i1,s1,_⟩:=zFt hg e1 (.inl rfl)
 obtain⟨m2,i2,s2,_⟩:=zFt hg e2 (.inr rfl)
 have hc:zo a b=false:=Bool.eq_false_iff.2 fun g=>by
  have:=zFE.2 ⟨a,m1,b,m2,g⟩
  rw[h.cross] at this
  cases this
 refine⟨hc,?_⟩
 have hm:=(zAK.1 hg).2.1
 unfold zo at hc
 rw[(zAS a).2 (hm a m1),(zAS b).2 (hm b m2),i1,i2,s1,s2] at hc
 simpa using hc
structure DoneP (m t:Mrk)(l:List Evt):Prop where
 room:m.n<1048576
 next:t.n=m.n+1
 goodS:Good m.s
 good:Good t.s
 all:zCg m.s l=(t.s,(l.length:Int),0)
 len:0<l.length∧l.length≤40
 evs:∀ e∈l,e.v=3∧zAm e=true
 fair:FairS m.s→FairS t.s
theorem zN4 {m t:Mrk}{c:Cmd}{l:List Evt}(h:mDo m c=(t,l,0)):DoneP m t l:=by
 unfold mDo at h
 by_cases g:1048576≤m.n
 ·rw[if_pos g] at h;exact absurd (Prod.mk.inj (Prod.mk.inj h).2).2 (by decide)
 rw[if_neg g] at h
 by_cases g2:(zCO m.s c).2≠0
 ·rw[if_pos g2] at h;exact absurd (Prod.mk.inj (Prod.mk.inj h).2).2 g2
 rw[if_neg g2] at h
 obtain⟨rfl,e2⟩:=Prod.mk.inj h
 obtain⟨rfl,_⟩:=Prod.mk.inj e2
 have hc:zCO m.s c=((zCO m.s c).1,0):=Prod.ext rfl (Decidable.of_not_not g2)
 obtain⟨u,hu⟩:=zNy hc
 obtain⟨f,es,_,hes⟩:=hu.fst
 have e3:(zCg m.s (zCO m.s c).1).1=u:=congrArg (·.1) hu.all
 have ha:=hu.all
 rw[← e3] at ha
 refine⟨by omega,rfl,hu.goodS,by rw[e3];exact hu.good,ha,⟨by rw[hes];exact Nat.succ_pos _,hu.len⟩,hu.evs,fun hf=>zT5 hf hc ha⟩
theorem zPK {m:Mrk}{c:Cmd}(h:(mDo m c).2.2≠0):(mDo m c).1=m∧(mDo m c).2.1=[]:=by
 unfold mDo at h ⊢
 by_cases g:1048576≤m.n
 ·rw[if_pos g];exact⟨rfl,rfl⟩
 rw[if_neg g] at h ⊢
 by_cases g2:(zCO m.s c).2≠0
 ·rw[if_pos g2];exact⟨rfl,rfl⟩
 ·rw[if_neg g2] at h;exact absurd rfl h
theorem zMW {m:Mrk}{l:List Evt}(h:(zCi m l).2≠0):(zCi m l).1=m:=by
 unfold zCi at h ⊢
 by_cases g:1048576≤m.n
 ·rw[if_pos g]
 rw[if_neg g] at h ⊢
 by_cases g2:zKo l=false
 ·rw[if_pos g2]
 rw[if_neg g2] at h ⊢
 by_cases g3:(zDK l []).2≠0
 ·rw[if_pos g3]
 rw[if_neg g3] at h ⊢
 by_cases g4:(zCg m.s (zDK l []).1).2.2≠0
 ·rw[if_pos g4]
 ·rw[if_neg g4] at h;exact absurd rfl h
theorem zQp {s t:Sta}{l:List Evt}{n:Int}(h:zCg s l=(t,n,0)):Good t:=by
 unfold zCg at h
 by_cases hm:zCU s=true
 ·rw[if_pos hm] at h
  exact zOk (zAp.1 hm) h
 ·rw[if_neg hm] at h
  exact absurd (Prod.mk.inj (Prod.mk.inj h).2).2 (by decide)
theorem zVp {m t:Mrk}{l:List Evt}(h:zCi m l=(t,0)):t.n=m.n+1∧m.n<1048576∧Good t.s:=by
 unfold zCi at h
 by_cases g:1048576≤m.n
 ·rw[if_pos g] at h;exact absurd (Prod.mk.inj h).2 (by decide)
 rw[if_neg g] at h
 by_cases g2:zKo l=false
 ·rw[if_pos g2] at h;exact absurd (Prod.mk.inj h).2 (by decide)
 rw[if_neg g2] at h
 by_cases g3:(zDK l []).2≠0
 ·rw[if_pos g3] at h;exact absurd (Prod.mk.inj h).2 g3
 rw[if_neg g3] at h
 by_cases g4:(zCg m.s (zDK l []).1).2.2≠0
 ·rw[if_pos g4] at h;exact absurd (Prod.mk.inj h).2 g4
 rw[if_neg g4] at h
 obtain rfl:=(Prod.mk.inj h).1
 exact⟨rfl,by omega,zQp (Prod.ext rfl (Prod.ext rfl (Decidable.of_not_not g4)))⟩
end
section
open Go Go.Sk Go.RowKit Go.Proofs.Tryz
attribute [local irreducible] Go.Calls
theorem evB_eq {a b:Evt}(h:evB a b=true):a=b:=by
 unfold evB numB txtB at h
 simp only[Bool.and_eq_true,beq_iff_eq,List.all_eq_true,List.mem_range] at h
 obtain⟨⟨⟨⟨h1,h2⟩,h3⟩,h4⟩,h5,h6⟩:=h
 have e1:=zGY (d:=0) h3 h5
 have e2:=zGY (d:=ByteArray.empty) h4 fun j hj=>(zVQ _ _).1 (h6 j hj)
 cases a;cases b
 cases h1;cases h2;cases e1;cases e2;rfl
def annE:Evt:=evN 1 ⟨#[97,110,110]⟩ [1]
structure MaF (m1 m2:Mrk):Prop where
 d1:mDo zKp zI2=(m1,[annE],0)
 d2:mDo m1 zI2=(m1,[],6)
 n1:m1.n=1
 b1:zCi m1 maL=(m2,0)
 b2:zCi m2 maM=(m2,47)
 b3:zCi m2 []=(m2,4)
 n2:m2.n=2
 tot:zAg m2.s.rows 1 0=500
theorem ma_f:∃ m1 m2,MaF m1 m2:=by
 have h:=ma_b
 unfold maB at h
 simp only[Bool.and_eq_true,beq_iff_eq] at h
 obtain⟨⟨⟨⟨⟨⟨h1,h2⟩,h3⟩,h4⟩,⟨h5,h6⟩,h7⟩,h8⟩,h9⟩:=h
 obtain⟨⟨m1,l,k⟩,e1⟩:∃ r,mDo zKp zI2=r:=⟨_,rfl⟩
 rw[e1] at h1 h2 h3 h4 h5 h6 h7 h8 h9
 simp only at h1 h2 h3 h4 h5 h6 h7 h8 h9
 subst h1
 obtain⟨⟨m2,k2⟩,e2⟩:∃ r,zCi m1 maL=r:=⟨_,rfl⟩
 rw[e2] at h5 h6 h7 h8 h9
 simp only at h5 h6 h7 h8 h9
 subst h5
 unfold evsB at h2
 simp only[Bool.and_eq_true,beq_iff_eq,List.all_eq_true,List.mem_range] at h2
 obtain⟨hl,he⟩:=h2
 have hl:l.length=1:=hl
 match l,hl with
 | [x],_ =>
 obtain rfl:x=annE:=evB_eq (he 0 Nat.zero_lt_one)
 have d2:=zPK (m:=m1) (c:=zI2) (by rw[h4];decide)
 have b2:=zMW (m:=m2) (l:=maM) (by rw[h8];decide)
 have b3:=zMW (m:=m2) (l:=[]) (by rw[h9];decide)
 exact⟨m1,m2,e1,Prod.ext d2.1 (Prod.ext d2.2 h4),h3,e2,Prod.ext b2 h8,Prod.ext b3 h9,h6,h7⟩
def zK0:List Value→List EPt
 | _::_::.slice a _ c::.slice a2 _ c2::r=>⟨a,c,a2,c2⟩::zK0 r
 | _=>[]
theorem zT6 {F:zB}{b:Nat}{T:TypeId}{cs:List Value}(l:List Evt)(h:cb b cs T∈F)(hE:EvL F l (zK0 cs))(hx:cs=(l.zip (zK0 cs)).flatMap (fun x=>x.1.cells x.2):=by rfl)(hc:cs.length=l.length*4:=by rfl)(hl:l.length≤1000:=by decide):EvsM F (some ⟨b,0,none⟩) l.length l (ept_ (zK0 cs)):=by
 have o:=Go.Sk.Own.mk (g:=b) (cs:=cs) (E:=T) (size:=4) (zzC l.length) (by unfold maxLen;omega) hc
 rw[List.take_of_length_le (Nat.le_of_eq hc)] at o
 exact EvsM.of l _ o (fun p hp=>by rw[List.mem_singleton.1 hp];exact h) hE rfl hx hl
theorem zPL (k:Int)(n:List Int)(hk:0≤k∧k≤255):zCq (old6 k n):=⟨⟨(show(0:Int)≤1 by decide),(show(1:Int)≤255 by decide)⟩,hk,fun t ht=>nomatch ht⟩
theorem zHg {F:zB}{b:Nat}{T:TypeId}(k:Int)(n:List Int)(hl:n.length≤1000)(h:cb b (n.map (Value.int .i64)) T∈F):EvtM F (old6 k n) ⟨some ⟨b,0,none⟩,n.length,none,0⟩:=⟨zGO n hl h,SlA.nil⟩
theorem zT7:MkOk zKp:=⟨zTe,by decide⟩
theorem zT8:zIy zI2:=⟨by decide,by decide⟩
theorem ma_t:(∀ e∈maL,zCq e)∧∀ e∈maM,zCq e:=by
 constructor
 ·intro e he
  rw[List.mem_singleton.1 he]
  exact zPL _ _ (by decide)
 ·intro e he
  unfold maM at he
  simp only[List.mem_cons,List.not_mem_nil,or_false] at he
  rcases he with rfl|rfl|rfl<;>exact zPL _ _ (by decide)
theorem zVq {x:Nat × Obj}{A M F:zB}:A++F⊆(x::(A++M))++F:=fun z hz=>zz5 _ ((List.mem_append.1 hz).elim (fun h=>zz6 _ (zz6 _ h)) (zz3 _))
theorem zT9 {F:zB}(w0:World)(hF:Mem w0 F)(hP:PriM F)(hK:KinM F)(hC:ComM F):Calls prog 9 [].toArray w0 (Ret (.bool true) w0):=by
 obtain⟨m1,m2,A⟩:=ma_f
 have D1:=zN4 A.d1
 obtain⟨_,_,g2⟩:=zVp A.b1
 have ok1:MkOk m1:=⟨D1.good,by rw[A.n1];decide⟩
 have ok2:MkOk m2:=⟨g2,by rw[A.n2];decide⟩
 have do1:=fun{w:World} {bm b2:Nat} {p:SPt} {N:zB} (hs:StaM N zKp.s p) (H:St w0 (cb bm (mrk zKp p) 74::cb b2 (zI2.cells none 0) 29::N) w)=>zTt (c:=zI2) (na:=none) (nc:=0) H hF hP hK hC zT7 (hs.mono (fun z hz=>zz6 _ (zz4 _ hz))) zT8 zLx
 have do2:=fun{w:World} {bm:Nat} {p:SPt} {N:zB} (hs:StaM (N++F) m1.s p) (H:St w0 (cb bm (mrk m1 p) 74::N) w)=>zTt (c:=zI2) (na:=none) (nc:=0) H hF hP hK hC ok1 hs zT8 zLx
 have ba1:=fun{w:World} {bm:Nat} {p:SPt} {N:zB} {a:Option Addr} {q:Nat→EPt} (hs:StaM (N++F) m1.s p) (H:St w0 (cb bm (mrk m1 p) 74::N) w) (hE:EvsM (N++F) a 1 maL q)=>zIp H hF hP hK ok1 hs ma_t.1 hE
 have ba2:=fun{w:World} {bm:Nat} {p:SPt} {N:zB} {a:Option Addr} {q:Nat→EPt} (hs:StaM (N++F) m2.s p) (H:St w0 (cb bm (mrk m2 p) 74::N) w) (hE:EvsM (N++F) a 3 maM q)=>zIp H hF hP hK ok2 hs ma_t.2 hE
 have ba3:=fun{w:World} {bm:Nat} {p:SPt} {N:zB} (hs:StaM (N++F) m2.s p) (H:St w0 (cb bm (mrk m2 p) 74::N) w)=>zIp (l:=[]) (a:=none) (cap:=0) (qe:=fun _=>zFA) H hF hP hK ok2 hs (fun e he=>nomatch he) zTs
 unfold MDoR at do1 do2
 unfold MBaR at ba1 ba2 ba3
 rw[A.d1] at do1
 rw[A.d2] at do2
 rw[A.b1] at ba1
 rw[A.b2] at ba2
 rw[A.b3] at ba3
 simp only at do1 do2 ba1 ba2 ba3
 have sq1:=fun{w:World} {G:zB} {bm:Nat} (hG:Mem w G) (hm:MkM G bm m1)=>zNp w hG hm
 have sq2:=fun{w:World} {G:zB} {bm:Nat} (hG:Mem w G) (hm:MkM G bm m2)=>zNp w hG hm
 rw[A.n1] at sq1
 rw[A.n2] at sq2
 have sm:=fun{w:World} {G:zB} {p q:EPt} (hG:Mem w G) (h1:EvtM G annE p) (h2:EvtM G annE q)=>zQn annE annE p q w hG h1 h2
 rw[zT1] at sm
 have to2:=fun{w:World} {G:zB} {a:Option Addr} {cap:Nat} (hG:Mem w G) (h:SlA G 4 a m2.s.rows.length cap (rwl m2.s.rows))=>zLX m2.s.rows (zIi g2) 1 0 w hG h
 rw[A.tot] at to2
 refine eN func9 ntmps9 ?_
 have H:=zA w0
 repeat' (first|refine yW ?_|(refine yB ?_;intro b w H)|(refine y11 sg H ?_;intro w H)|(refine f0 ent10 ?_;refine⟨_,zTY _,?_⟩;clear H;intro v M w hR H;(try simp only[zca,zcb] at H);obtain⟨bm,p0,N0,rfl,rfl,hs0⟩:=hR)|(refine c0 zQ2 ?_;refine⟨_,zNp (m:=zKp) _ H.mem ⟨p0,zz2 _,hs0.mono (fun z hz=>zz4 _ hz)⟩,?_⟩;clear H;intro w H)|(have hp:=H.perm (List.Perm.swap _ _ _);refine' y33 zOA ?_ ?_;rotate_left 2;exact do1 hs0 hp;rintro v M w ⟨p1,a1,c1,q1,Y1,rfl,rfl,⟨⟨hnE,hcE,bE,offE,csE,TE,frE,hsE⟩,hevE⟩,hs1⟩ H2;clear H hp;have H:=H2;clear H2;simp only[zca] at H)|(refine' y33 zOA ?_ ?_;rotate_left 2;exact do2 hs1 H;rintro v M w ⟨p2,a2,c2,q2,Y2,rfl,rfl,_,hs2⟩ H2;clear H;have H:=H2;clear H2;simp only[zca] at H)|(refine y40 sg (hsE) ?_ ?_ ?_;(first|omega|decide);(first|omega|decide))|(refine y42 sg (hsE) ((H.mem.sub (by intro z hz;simp[hz]))) ?_ ?_;(first|omega|decide))|(refine zBA sg H ?_;intro b w H _)|(refine c0 ent29 ?_;refine⟨_,sm H.mem ((hevE 0 Nat.zero_lt_one).mono (by intro z hz;simp[hz])) (zU1 1 ⟨#[97,110,110]⟩ [1] (by decide) (zz5 _ (zz2 _)) (zz2 _)),?_⟩;clear H;intro w H)|(refine c0 zQ2 ?_;refine⟨_,sq1 (H.all hF) ⟨p2,zz5 _ (zz5 _ (zz2 _)),hs2.mono (fun z hz=>zz5 _ (zz5 _ (zz5 _ hz)))⟩,?_⟩;clear H;intro w H)|(refine c0 ent33 ?_;refine⟨_,c_old _,?_⟩;clear H;intro w H)|(have hp:=H.perm (List.perm_middle (l₁:=[_,_,_,_]));simp only[zca,zcb] at hp;refine' y33 zQ3 ?_ ?_;rotate_left 2;exact ba1 (hs2.mono (fun z hz=>zz5 _ (zz5 _ (zz5 _ (zz5 _ hz))))) hp (zT6 maL (zz2 _) ⟨zHg 6 [1,5] (by decide) (zz5 _ (zz2 _)),trivial⟩);rintro v M w ⟨p3,Y3,rfl,rfl,hs3⟩ H2;clear H hp;have H:=H2;clear H2;simp only[zca] at H)|(have hp:=H.perm (List.perm_middle (l₁:=[_,_,_,_]));simp only[zca,zcb] at hp;refine' y33 zQ3 ?_ ?_;rotate_left 2;exact ba2 (hs3.mono (fun z hz=>zz5 _ (zz5 _ (zz5 _ (zz5 _ hz))))) hp (zT6 maM (zz2 _) ⟨zHg 6 [1,5] (by decide) (zz5 _ (zz5 _ (zz5 _ (zz2 _)))),zHg 7 [1,9] (by decide) (zz5 _ (zz5 _ (zz2 _))),zHg 7 [1,9] (by decide) (zz5 _ (zz2 _)),trivial⟩);rintro v M w ⟨p4,Y4,rfl,rfl,hs4⟩ H2;clear H hp;have H:=H2;clear H2;simp only[zca] at H)|(refine' y33 zQ3 ?_ ?_;rotate_left 2;exact ba3 hs4 H;rintro v M w ⟨p5,Y5,rfl,rfl,hs5⟩ H2;clear H;have H:=H2;clear H2;simp only[zca] at H)|(refine f0 zQ1 ?_;refine⟨_,zIj (m:=m2) (zCd g2) _ (H.all hF) ⟨p5,zz2 _,hs5.mono (fun z hz=>zz5 _ hz)⟩,?_⟩;clear H;intro v M w hR H;(try simp only[zca,zcb] at H);obtain⟨p6,rfl,hs6⟩:=hR)|(refine c0 zOD ?_;refine⟨_,to2 H.mem (SlA.mono hs6.rw (by intro z hz;simp[hz])),?_⟩;clear H;intro w H)|(refine c0 zQ2 ?_;refine⟨_,sq2 (H.all hF) ⟨p5,zz2 _,hs5.mono (zVq (M:=M))⟩,?_⟩;clear H;intro w H)|fail)
 exact zP rfl H.cl rfl
end
end Go.Proofs.YtejhijhnlogikaaGreatDoor
