/- Texts of ours, joined: the steps of the proof, or the claim's theorem. -/
import Derived.Test.YtejhijhnlogikaaGreatDoorMc30
set_option linter.all false
set_option maxHeartbeats 16000000
namespace Go.Proofs.YtejhijhnlogikaaGreatDoor
section
open Go Go.Sk Go.RowKit Go.Proofs.Tryz
theorem zVr {m t:Mrk}{c:Cmd}{l:List Evt}(hk:MkOk m)(h:mDo m c=(t,l,0)):MkOk t:=by
 have d:=zN4 h
 have:=d.room
 have:=d.next
 have:=hk.n
 exact⟨d.good,by omega⟩
end
section
open Go Go.Sk Go.RowKit Go.Proofs.Tryz
attribute [local irreducible] Go.Calls
structure LI where
 i:Nat
 m:Mrk
 p:SPt
 N:zB
set_option maxRecDepth 20000 in
theorem zUA {F:zB}{a:Option Addr}{cap:Nat}(l:List Cmd)(q:Nat→CPt)(hT:∀ c∈l,zIy c)(w0:World)(hF:Mem w0 F)(hP:PriM F)(hK:KinM F)(hC:ComM F)(hM:CmsM F a cap l q) :
  Calls prog 3 [.slice a l.length cap].toArray w0 (Ret (.bool true) w0):=by
 have haw:=fun w (hG:Mem w F)=>zT9 w hG hP hK hC
 cases d0:decide ((l.length:Int)>60) with
 | true =>
   refine eN func3 ntmps3 ?_
   have H:=zA w0
   repeat' (first|refine yW ?_|(refine c0 ent9 ?_;refine⟨_,haw _ (H.memF hF),?_⟩;clear H;intro w H)|fail)
   exact zP rfl H.cl rfl
 | false =>
 obtain⟨⟨hn,hc,b0,off,cs,T,fr,hs⟩,hnm⟩:=hM
 refine eN func3 ntmps3 ?_
 have H:=zA w0
 repeat' (first|refine yX ?_|(refine c0 ent9 ?_;refine⟨_,haw _ (H.memF hF),?_⟩;clear H;intro w H)|(refine f0 ent10 ?_;refine⟨_,zTY _,?_⟩;clear H;intro v M w hR H;(try simp only[zca,zcb] at H);obtain⟨bm,p0,N0,rfl,rfl,hs0⟩:=hR)|with_reducible apply zC|fail)
 refine zI [(2,2),(4,12),(22,94)] (fun x:LI=>[(4,.int .i64 (x.i:Int))]) (fun x w=>x.i≤l.length∧MkOk x.m∧FairS x.m.s∧StaM (x.N++F) x.m.s x.p∧St w0 (cb bm (mrk x.m x.p) 74::x.N) w) (fun x=>l.length - x.i) ⟨0,zKp,p0,N0⟩ ⟨rfl,trivial⟩ ⟨zzD _,zT7,fair_e,hs0.mono (List.subset_append_left _ _),H⟩ ?_
 clear H hs0
 rintro⟨i,m,p,N⟩ gh w ⟨hi,hok,hfa,hS,H⟩
 simp only at hi hok hfa hS H ⊢
 have hmay:=fun{w:World} {G:zB} {p:SPt} (hG:Mem w G) (hs:StaM G m.s p)=>zCn m.s p (zFB hok.good) w hG hs
 by_cases hlt:i<l.length
 rotate_left
 ·obtain rfl:i=l.length:=by omega
  have d5:decide ((l.length:Int)<(l.length:Int))=false:=decide_eq_false qO
  rw[zAp.2 hok.good] at hmay
  repeat' (first|refine yW ?_|(refine f0 zQ1 ?_;refine⟨_,zIj (zCd hok.good) _ (H.all hF) ⟨p,zz2 _,hS.mono (fun z hz=>zz5 _ hz)⟩,?_⟩;clear H;intro v M w hR H;(try simp only[zca,zcb] at H);obtain⟨p2,rfl,hs2⟩:=hR)|(refine c0 zDk ?_;refine⟨_,hmay (H.all hF) (hs2.mono (fun z hz=>by simp[hz])),?_⟩;clear H;intro w H)|fail)
  exact zP rfl H.cl rfl
 have d5:decide ((i:Int)<(l.length:Int))=true:=decide_eq_true qO
 have hct:=hT _ (cm_mem hlt)
 have hod:=fun w=>c_oddC (na:=(q i).1) (nc:=(q i).2) (cm_ l i) w
 have hni:=hnm i hlt
 cases ho:oddC (cm_ l i) with
 | true =>
   rw[ho] at hod
   repeat' (first|refine yW ?_|refine x40 sg hs ?_|refine x42 sg hs (H.memF hF) ?_|(refine c0 zQ0 ?_;refine⟨_,hod _,?_⟩;clear H;intro w H)|with_reducible apply zC|fail)
   exact zP rfl H.cl rfl
 | false =>
 rw[ho] at hod
 have hdo:=fun{w:World} (H:St w0 (cb bm (mrk m p) 74::N) w)=>zTt (c:=cm_ l i) (na:=(q i).1) (nc:=(q i).2) H hF hP hK hC hok hS hct (SlA.mono hni (zz8 _ _))
 unfold MDoR at hdo
 obtain⟨⟨t,es,k⟩,hr⟩:∃ r,mDo m (cm_ l i)=r:=⟨_,rfl⟩
 have her:=zPK (m:=m) (c:=cm_ l i)
 rw[hr] at hdo her
 simp only at hdo her
 by_cases hk:k=0
 rotate_left
 ·obtain⟨rfl,rfl⟩:=her hk
  have d6:(k != 0)=true:=by simpa using hk
  repeat' (first|refine yW ?_|refine x40 sg hs ?_|refine x42 sg hs (H.memF hF) ?_|(refine c0 zQ0 ?_;refine⟨_,hod _,?_⟩;clear H;intro w H)|(refine' y33 zOA ?_ ?_;rotate_left 2;exact hdo H;rintro v M w ⟨p1,a1,c1,q1,Y1,rfl,rfl,hE1,hs1⟩ H2;clear H;have H:=H2;clear H2)|with_reducible apply zC|fail)
  exact zF ⟨i+1,t,p1,N++Y1⟩ rfl ⟨zd qO,trivial⟩ ⟨hlt,hok,hfa,hs1,H⟩ (by show l.length - (i+1)<l.length - i;omega)
 subst hk
 have D:=zN4 hr
 have hok1:=zVr hok hr
 have hfa1:=D.fair hfa
 clear her hmay
 have hmay:=fun{w:World} {G:zB} {p:SPt} (hG:Mem w G) (hs:StaM G t.s p)=>zCn t.s p (zFB hok1.good) w hG hs
 rw[zAp.2 hok1.good] at hmay
 have hrow:=fun{w:World} {G:zB} {p:SPt} (hG:Mem w G) (hs:StaM G t.s p)=>zKk t.s.aucs p.ad t.s.clock w hG hs.au
 repeat' (first|refine yX ?_|fail)
 refine CW.condT (congrArg Value.bool d5) ?_
 repeat' (first|refine yW ?_|(refine yB ?_;intro b w H)|(refine y11 sg H ?_;intro w H)|refine x40 sg hs ?_|refine x42 sg hs (H.memF hF) ?_|(refine c0 zQ0 ?_;refine⟨_,hod _,?_⟩;clear H;intro w H)|(refine' y33 zOA ?_ ?_;rotate_left 2;exact hdo H;rintro v M w ⟨p1,a1,c1,q1,Y1,rfl,rfl,hE1,hs1⟩ H2;clear H;have H:=H2;clear H2)|(refine f0 zQ1 ?_;refine⟨_,zIj (zCd hok1.good) _ (H.all hF) ⟨p1,zz2 _,hs1.mono (fun z hz=>zz5 _ hz)⟩,?_⟩;clear H;intro v M w hR H;(try simp only[zca,zcb] at H);obtain⟨p2,rfl,hs2⟩:=hR)|(refine c0 zDk ?_;refine⟨_,hmay (H.all hF) (hs2.mono (fun z hz=>by simp[hz])),?_⟩;clear H;intro w H)|(refine f0 zOB ?_;refine⟨_,hrow (H.all hF) (hs2.mono (fun z hz=>by simp[hz])),?_⟩;clear H;intro v Mr w hR H;(try simp only[zca,zcb] at H);obtain⟨r,ar,cr,hrr,rfl,hO⟩:=hR;obtain rfl:=hrr.uniq (zEZ t.s.aucs t.s.clock);rw[(zMV hok1.good).2 hfa1.late])|with_reducible apply zC|fail)
 have hF1:Mem w ((cb b (t.s.cells p2) 40::cb bm (mrk t p1) 74::(N++Y1++M++Mr))++F):=H.all hF
 have H0:=H
 clear H
 obtain⟨w1,rfl⟩:∃ w1,w1=w:=⟨w,rfl⟩
 have H:=zA w1
 have hb7:cb b (t.s.cells p2) 40∈(cb b (t.s.cells p2) 40::cb bm (mrk t p1) 74::(N++Y1++M++Mr))++F:=zz2 _
 replace hs2:=hs2.mono (show M⊆(cb b (t.s.cells p2) 40::cb bm (mrk t p1) 74::(N++Y1++M++Mr))++F from fun z hz=>by simp[hz])
 replace hP:=hP.mono (show F⊆(cb b (t.s.cells p2) 40::cb bm (mrk t p1) 74::(N++Y1++M++Mr))++F from zz8 _ _)
 generalize hF1d:(cb b (t.s.cells p2) 40::cb bm (mrk t p1) 74::(N++Y1++M++Mr))++F=F1 at hF1 hb7 hs2 hP
 have hin:=zIT hok1.good
 refine zI [(2,2),(8,12),(58,94)] (fun j:Nat=>[(8,.int .i64 (j:Int))]) (fun j w=>j≤t.s.insts.length+1∧St w1 [] w) (fun j=>t.s.insts.length+1 - j) 1 ⟨rfl,trivial⟩ ⟨by omega,H⟩ ?_
 clear H
 rintro j gh2 w ⟨hj,H⟩
 by_cases hjl:j<t.s.insts.length+1
 rotate_left
 ·have d7:decide ((j:Int)≤(t.s.insts.length:Int))=false:=decide_eq_false qO
  repeat' (first|refine yW ?_|refine z13 (zH sg rfl rfl (H.memF hF1) hb7 rfl rfl) ?_|fail)
  refine zDj ⟨i+1,t,p1,(N++Y1++M++Mr)⟩ rfl ⟨zd qO,trivial⟩ ⟨hlt,hok1,hfa1,hs1.mono (fun z hz=>by simp only[List.mem_append] at hz ⊢;rcases hz with (h|h)|h<;>simp[h]),(H0.ext H.cl).sub (zz7 _ _)⟩ (by show l.length - (i+1)<l.length - i;omega)
 have d7:decide ((j:Int)≤(t.s.insts.length:Int))=true:=decide_eq_true qO
 have hff:=zN3 hfa1 (i:=(j:Int))
 have hf1:=fun{w:World} (hG:Mem w F1)=>zHb t.s.orders (j:Int) 1 w hG hP hs2.od
 have hf2:=fun{w:World} (hG:Mem w F1)=>zHb t.s.orders (j:Int) 2 w hG hP hs2.od
 obtain⟨⟨x1,i1⟩,e1⟩:∃ r,zAQ t.s.orders (j:Int) 1=r:=⟨_,rfl⟩
 obtain⟨⟨x2,i2⟩,e2⟩:∃ r,zAQ t.s.orders (j:Int) 2=r:=⟨_,rfl⟩
 rw[e1,e2] at hff
 rw[e1] at hf1
 rw[e2] at hf2
 simp only at hff hf1 hf2
 have hcr:=fun{w:World} (hG:Mem w F1)=>zGw x1 x2 w hG hP
 cases i1 with
 | false =>
   repeat' (first|refine yW ?_|(refine yB ?_;intro b w H)|(refine y11 sg H ?_;intro w H)|refine z13 (zH sg rfl rfl (H.memF hF1) hb7 rfl rfl) ?_|(refine c0 zG9 ?_;refine⟨_,hf1 (H.memF hF1),?_⟩;clear H;intro w H)|(refine c0 zG9 ?_;refine⟨_,hf2 (H.memF hF1),?_⟩;clear H;intro w H)|with_reducible apply zC|fail)
   exact zF (j+1) rfl ⟨zd qO,trivial⟩ ⟨by omega,H.sub (zz9 _)⟩ qO
 | true =>
 cases i2 with
 | false =>
   repeat' (first|refine yW ?_|(refine yB ?_;intro b w H)|(refine y11 sg H ?_;intro w H)|refine z13 (zH sg rfl rfl (H.memF hF1) hb7 rfl rfl) ?_|(refine c0 zG9 ?_;refine⟨_,hf1 (H.memF hF1),?_⟩;clear H;intro w H)|(refine c0 zG9 ?_;refine⟨_,hf2 (H.memF hF1),?_⟩;clear H;intro w H)|with_reducible apply zC|fail)
   exact zF (j+1) rfl ⟨zd qO,trivial⟩ ⟨by omega,H.sub (zz9 _)⟩ qO
 | true =>
   obtain⟨c1,c2⟩:=hff rfl rfl
   rw[c1] at hcr
   have d8:decide (x1.price ≥ x2.price)=false:=decide_eq_false qO
   repeat' (first|refine yW ?_|(refine yB ?_;intro b w H)|(refine y11 sg H ?_;intro w H)|refine z13 (zH sg rfl rfl (H.memF hF1) hb7 rfl rfl) ?_|(refine c0 zG9 ?_;refine⟨_,hf1 (H.memF hF1),?_⟩;clear H;intro w H)|(refine c0 zG9 ?_;refine⟨_,hf2 (H.memF hF1),?_⟩;clear H;intro w H)|(refine c0 zOC ?_;refine⟨_,hcr (H.memF hF1),?_⟩;clear H;intro w H)|with_reducible apply zC|fail)
   exact zF (j+1) rfl ⟨zd qO,trivial⟩ ⟨by omega,H.sub (zz9 _)⟩ qO
end
end Go.Proofs.YtejhijhnlogikaaGreatDoor
