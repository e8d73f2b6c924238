/- The statement MarketLiftSaid, proved, and its tied card. -/
import Derived.ChangeKeysEq
import Derived.Deep.LoopGhost
import Derived.Deep.QuietTactic
import Derived.Deep.Slices
import Derived.KernelRfl
import Derived.LaidMore
import Derived.Laws.Bits64b
import Derived.Laws.IdiomStrings
import Derived.Laws.MakeOwn
import Derived.Laws.RangeString
import Derived.Laws.StructEq
import Derived.Lib.Mul64
import Derived.Maps.RangeRun
import Derived.OpenShut
import Derived.OrdersHeld
import Derived.ProofKit
import Derived.RangeFuncLeaves
import Derived.RangeFuncNested
import Derived.Shelf.SlLaysE
import Derived.Shelf.SlLaysF0
import Derived.Shelf.SlLaysM
import Derived.Shelf.SlSortCmp.NoneTotal
import Derived.Shelf.SlicesE.Compact
import Derived.Shelf.SortM.Plain
import Derived.Shelf.SortM.SortNone
import Derived.SizedLaws
import Derived.Sort.LoopGhostIn
import Derived.Stop.Joined
import Derived.TacticsIn
import Derived.Test.YtejhijhnlogikaaGreatDoorChecked
import Derived.Test.YtejhijhnlogikaaGreatDoorProg
import Derived.Test.YtejhijhnlogikaaGreatDoorRows
import Derived.WalkKit
import Derived.WalkSpells
import Derived.Test.YtejhijhnlogikaaGreatDoorMe31
set_option linter.all false
set_option maxHeartbeats 16000000
namespace Go.Proofs.YtejhijhnlogikaaGreatDoor
section
open Go Go.Sk Go.RowKit Go.ChangeShapes Go.WideShapes Go.Proofs.Tryz
attribute [local irreducible] Go.Calls
section
variable {H:Type}{enc:TypeId × Value->H}{P:Program}{w:World}{base:Nat}{spare:Nat->Bool}{held:Bool}{t0 t1 t2 t3 t4:TypeId}{args:Array Value}{ds:List (DataW H)}{ps:List MemPlace}
theorem zRA (h:DataW.TrodAll enc P w base spare held [t0,t1,t2] args.toList ds ps) :
  ∃ v0 v1 v2 d0 d1 d2 p0 p1 p2,args=#[v0,v1,v2]/\ds=[d0,d1,d2]/\ps=p0++p1++p2/\DataW.Trod enc P w base spare held t0 v0 d0 p0/\DataW.Trod enc P w base spare held t1 v1 d1 p1/\DataW.Trod enc P w base spare held t2 v2 d2 p2:=by obtain⟨v0,_,d0,_,p0,_,e,rfl,rfl,h0,h⟩:=trodAll_cons h;obtain⟨v1,_,d1,_,p1,_,rfl,rfl,rfl,h1,h⟩:=trodAll_cons h;obtain⟨v2,_,d2,_,p2,_,rfl,rfl,rfl,h2,h⟩:=trodAll_cons h;obtain⟨rfl,rfl,rfl⟩:=trodAll_nil h;exact⟨v0,v1,v2,d0,d1,d2,p0,p1,p2,by cases args;simp_all,rfl,by simp,h0,h1,h2⟩
end
end
section
open Go Go.Sk Go.RowKit Go.Proofs.Tryz
attribute [local irreducible] Go.Calls
theorem zXs {e:Evt}(h:zk e=false):(zB8 e).2=4:=by unfold zB8;rw[if_pos h]
theorem zXt (m:Mrk){l:List Evt}{e:Evt}(he:e∈l)(h:zk e=false\/e.v≠(ev0 l).v):(zBB m l).2≠0/\(zBB m l).1=m:=by{
have hb:zHG l=false:=Bool.eq_false_iff.2 fun g=>by
 obtain⟨g1,g2⟩:=(zGB.1 g).2 e he;rcases h with h|h
 .rw[h] at g2;cases g2
 .exact h g1
unfold zBB;by_cases g:1048576<=m.n
.rw[if_pos g];exact⟨show(40:Int)≠0 by decide,rfl⟩
.rw[if_neg g,if_pos hb];exact⟨show(4:Int)≠0 by decide,rfl⟩}
set_option maxRecDepth 20000 in
theorem zXu {F:zA}{a:OA}{cap:Nat}(s:Sta)(p:SPt)(n:Int)(l:List Evt)(q:Nat->EPt)(hA:StaA s)(hT:∀ e∈l,zAr e)(w0:World)(hF:Mem w0 F)(hP:PriM F)(hK:KinM F)(hC:ComM F)(hs:StaM F s p)(hM:EvsM F a cap l q) :
  Cr 7 [.agg (s.cells p).toArray,.int .i64 n,.slice a l.length cap] (.bool true) w0:=by{
have haw:=fun w (hG:Mem w F)=>zFs w hG hP hK hC;have hlg:=fun w (hG:Mem w F)=>zGC s p hA.acN hA.insN w hG hs;have hev:=fun w (hG:Mem w F)=>zN3 l q w hG hM;by_cases hg:zCx s=false/\zE6 l=false;rotate_left
.cases h1:zCx s with
 | true =>
   rw[h1] at hlg;refine eS func7 ntmps7 fun H=>?_;(repeat' first|refine yW ?_|(refine yB ?_;intro b w H)|(refine c0 zCc ?_;refine⟨_,hlg _ (H.memF hF),?_⟩;clear H;intro w H)|(refine c0 zEU ?_;refine⟨_,haw _ (H.memF hF),?_⟩;clear H;intro w H)|fail);exact zG rfl H.cl rfl
 | false =>
 cases h2:zE6 l with
 | true =>
   rw[h1] at hlg;rw[h2] at hev;refine eS func7 ntmps7 fun H=>?_;(repeat' first|refine yW ?_|(refine yB ?_;intro b w H)|(refine c0 zCc ?_;refine⟨_,hlg _ (H.memF hF),?_⟩;clear H;intro w H)|(refine c0 zKN ?_;refine⟨_,hev _ (H.memF hF),?_⟩;clear H;intro w H)|(refine c0 zEU ?_;refine⟨_,haw _ (H.memF hF),?_⟩;clear H;intro w H)|fail);exact zG rfl H.cl rfl
 | false=>exact absurd ⟨h1,h2⟩ hg
obtain⟨h1,h2⟩:=hg;rw[h1] at hlg;rw[h2] at hev;have hW:=zIo (zCt h1) hA.rw;have hL:=zHV (zCt h1);have hl60:l.length<=60:=by unfold zE6 at h2;rw[Bool.or_eq_false_iff] at h2;have:=zzB h2.1;omega
by_cases he:ofE s n=0;rotate_left
.have ho:=fun w (hG:Mem w F)=>zGg s p n hW he w hG hs;have d1:(ofE s n != 0)=true:=by simpa using he
 refine eS func7 ntmps7 fun H=>?_;(repeat' first|refine yW ?_|(refine yB ?_;intro b w H)|(refine c0 zCc ?_;refine⟨_,hlg _ (H.memF hF),?_⟩;clear H;intro w H)|(refine c0 zKN ?_;refine⟨_,hev _ (H.memF hF),?_⟩;clear H;intro w H)|(refine c0 zEU ?_;refine⟨_,haw _ (H.memF hF),?_⟩;clear H;intro w H)|(refine c0 zDk ?_;refine⟨_,ho _ (H.memF hF),?_⟩;clear H;intro w H)|fail);exact zG rfl H.cl rfl
have ho:=fun w (hG:Mem w F)=>zHw s p n hW hL he w hG hs;have hok:=zJu he;obtain⟨m,hm⟩:∃ m:Mrk,(⟨s,n⟩:Mrk)=m:=⟨_,rfl⟩;rw[hm] at ho hok;have hmn:m.n=n:=by rw[<- hm]
have hba:=fun{w:World} {b:Nat} {p:SPt} {N:zA} (hs:StaM (N++F) m.s p) (H:St w0 (cb b (mrk m p) 74::N) w)=>zFr H hF hP hK hok hs hT (hM.mono (zz8 _ _));unfold MBaR at hba;have hbg:=fun{w:World} {b:Nat} {p:SPt} {N G:zA} (hG:G⊆N++F) (hs:StaM G m.s p) (H:St w0 (cb b (mrk m p) 74::N) w)=>zEP H hF hP hK hok hG hs hT (hM.mono (zz8 _ _));unfold MBaG at hbg;obtain⟨⟨hnl,hcl,bl,offl,csl,Tl,frl,hsl⟩,hel⟩:=id hM;refine eS func7 ntmps7 fun H=>?_;(repeat' first|refine yW ?_|(refine yB ?_;intro b w H)|(refine c0 zCc ?_;refine⟨_,hlg _ (H.memF hF),?_⟩;clear H;intro w H)|(refine c0 zKN ?_;refine⟨_,hev _ (H.memF hF),?_⟩;clear H;intro w H)|(refine c0 zEU ?_;refine⟨_,haw _ (H.memF hF),?_⟩;clear H;intro w H)|(refine f0 zDk ?_;refine⟨_,ho _ (H.memF hF),?_⟩;clear H;intro v M w hR H;(try simp only[zca,zcb] at H);obtain⟨_,rfl,bm,p1,N1,rfl,rfl,hs1⟩:=hR;replace H:=H.perm (List.Perm.swap _ _ _))|fail);refine zD [(6,6),(9,12),(35,76)] (fun x:EI=>[(9,.slice x.a x.k x.cap),(10,.int .i64 (x.k:Int))]) (fun x w=>x.k<=l.length/\x.o=(l.take x.k).map (fun e=>(zB8 e).1)/\(∀ e∈l.take x.k,zk e=true/\e.v=(ev0 l).v)/\Go.Sk.Own x.M 61 4 x.a x.k x.cap (evX x.o x.q)/\(∀ j,j<x.k->EvtM x.R (ev_ x.o j) (x.q j))/\StaM x.R m.s p1/\St w0 (cb bm (mrk m p1) 74::(x.M++x.R)) w) (fun x=>l.length - x.k) ⟨0,none,0,[],_::N1,[],fun _=>zEN⟩ ⟨rfl,rfl,trivial⟩ ⟨zzD _,rfl,(fun e he=>nomatch he),zWD _ _ _,(fun j hj=>absurd hj (zzE _)),hs1.mono zD3,H⟩ ?_;clear H hs1;rintro⟨k,ao,co,M,R,o,qo⟩ gh w ⟨hk,ho,hvm,hO,hQ,hS,H⟩;simp only at hk ho hvm hO hQ hS H ⊢;have hol:o.length=k:=by rw[ho,yyp,List.length_take];omega
by_cases hlt:k<l.length
.have d5:decide ((k:Int)<(l.length:Int))=true:=yyb qO;have hnw:=fun w (hG:Mem w F)=>zK1 (ev_ l k) (q k) (hT _ (zDc hlt)) w hG hK (hel k hlt);have hbad:=fun h=>zXt m (zDc hlt) h;have hnf:=fun h=>(zE4 (e:=ev_ l k) h).1;have hsn:l.take (k+1)=l.take k++[ev_ l k]:=by rw[yyj hlt];unfold ev_;simp[yy1 hlt]
 obtain⟨⟨x,e1⟩,hx⟩:∃ r,zB8 (ev_ l k)=r:=⟨_,rfl⟩;rw[hx] at hnw hnf;simp only at hnf;have hsq:=fun{w:World} {G:zA} {b:Nat} (hG:Mem w G) (h:MkM G b m)=>zEz w hG h;rw[hmn] at hsq;have dnn:(n==n)=true:=by simp
 by_cases hgd:zk (ev_ l k)=true/\(ev_ l k).v=(ev0 l).v
 .obtain rfl:=hnf hgd.1;have d6:((ev_ l k).v != (ev_ l 0).v)=false:=by have e:(ev_ l k).v=(ev_ l 0).v:=hgd.2;rw[e];simp
  have hl0:0<l.length:=by{omega};(repeat' first|refine yW ?_|(refine yB ?_;intro b w H)|(refine y11 sg H ?_;intro w H)|refine x40 sg hsl ?_|refine x41 sg hsl ?_|refine x42 sg hsl (H.memF hF) ?_|refine x45 sg hsl (H.memF hF) ?_|(refine f0 zPt ?_;refine⟨_,hnw _ (H.memF hF),?_⟩;clear H;intro v M3 w hR H;(try simp only[zca,zcb] at H);obtain⟨q3,rfl,hE3⟩:=hR;simp only[yyh] at H)|(refine zBA sg H ?_;intro b w H _)|(have hp:=H.perm (yyf [_,_,_] M (R++M3));refine zY sg 4 56 (M:=M) hp rfl rfl rfl rfl rfl rfl rfl rfl rfl rfl rfl hO (zh hp.mem (zz3 _ (zz2 _))) rfl (zx rfl) (by unfold maxLen;omega) qO ?_;clear hp hO;intro a1 c1 M4 w hO H;replace H:=H.perm (yyf M4 [_,_,_] (R++M3)))|(refine qN H ?_;clear H;intro w H)|refine y20 mixed ?_|fail)
  have hO2:Go.Sk.Own M4 61 4 a1 (k+1) c1 (evX o qo++x.cells q3):=hO;rw[zHO,hol] at hO2;refine zC ⟨k+1,a1,c1,M4,R++M3,o++[x],zHL k qo q3⟩ rfl ⟨rfl,zU qO,trivial⟩ ⟨hlt,?_,?_,hO2,fun j hj=>?_,hS.mono (yyi _ _),H.sub (yy6 _ (yy6 _ (yy7 _)))⟩ (by show l.length - (k+1)<l.length - k;omega)
  .show o++[x]=(l.take (k+1)).map (fun e=>(zB8 e).1);rw[hsn,List.map_append,<- ho,List.map_singleton,hx]
  .show ∀ e∈l.take (k+1),_;rw[hsn];intro e he;rcases List.mem_append.1 he with h|h
   .exact hvm e h
   .rw[List.mem_singleton.1 h];exact hgd
  .show EvtM (R++M3) (ev_ (o++[x]) j) (if j<k then qo j else q3);by_cases hjk:j<k
   .rw[if_pos hjk,zHM (by rw[hol];exact hjk)];exact(hQ j hjk).mono (yyi _ _)
   .obtain rfl:j=k:=by have:j<k+1:=hj;omega
    rw[if_neg hjk];have:ev_ (o++[x]) j=x:=by rw[<- hol];exact zHN
    rw[this];exact hE3.mono (zz8 _ _)
 .have hb2:=hbad (by
   by_cases g:zk (ev_ l k)=true
   .exact .inr fun e=>hgd ⟨g,e⟩
   .exact .inl (by simpa using g))
  obtain⟨⟨m2,k2⟩,hr2⟩:∃ r,zBB m l=r:=⟨_,rfl⟩;rw[hr2] at hba hb2;obtain⟨hb3,rfl⟩:=hb2;simp only at hba hb3;have d7:(k2 != 0)=true:=by{simpa using hb3};by_cases he1:e1=0
  .subst he1;have hl0:0<l.length:=by{omega};have d6:((ev_ l k).v != (ev_ l 0).v)=true:=by
    have:=fun e=>hgd ⟨(by
     cases g:zk (ev_ l k) with
     | true=>rfl
     | false=>have:=zXs g;rw[hx] at this;cases this),e⟩
    simp only[bne_iff_ne,ne_eq];exact this
   (repeat' first|refine yW ?_|(refine yB ?_;intro b w H)|(refine y11 sg H ?_;intro w H)|refine x40 sg hsl ?_|refine x41 sg hsl ?_|refine x42 sg hsl (H.memF hF) ?_|refine x45 sg hsl (H.memF hF) ?_|(refine f0 zPt ?_;refine⟨_,hnw _ (H.memF hF),?_⟩;clear H;intro v M3 w hR H;(try simp only[zca,zcb] at H);obtain⟨q3,rfl,hE3⟩:=hR)|(have hp:=H.perm (List.Perm.swap _ _ _);refine' y33 zE9 ?_ ?_;rotate_left 2;exact hba (hS.mono (by intro z hz;simp[hz])) hp;rintro v M w ⟨p4,Y3,rfl,rfl,hs4⟩ H2;clear H hp;have H:=H2;clear H2;simp only[zca] at H)|(refine c0 zD6 ?_;refine⟨_,hsq (H.all hF) ⟨p4,zz2 _,hs4.mono zD3⟩,?_⟩;clear H;intro w H)|(refine qN H ?_;clear H;intro w H)|refine y20 mixed ?_|fail);exact zG rfl H.cl (congrArg Value.bool dnn)
  .have d6:(e1 != 0)=true:=by{simpa using he1};(repeat' first|refine yW ?_|(refine yB ?_;intro b w H)|(refine y11 sg H ?_;intro w H)|refine x40 sg hsl ?_|refine x42 sg hsl (H.memF hF) ?_|(refine f0 zPt ?_;refine⟨_,hnw _ (H.memF hF),?_⟩;clear H;intro v M3 w hR H;(try simp only[zca,zcb] at H);obtain⟨q3,rfl,hE3⟩:=hR)|(have hp:=H.perm (List.Perm.swap _ _ _);refine' y33 zE9 ?_ ?_;rotate_left 2;exact hba (hS.mono (by intro z hz;simp[hz])) hp;rintro v M w ⟨p4,Y3,rfl,rfl,hs4⟩ H2;clear H hp;have H:=H2;clear H2;simp only[zca] at H)|(refine c0 zD6 ?_;refine⟨_,hsq (H.all hF) ⟨p4,zz2 _,hs4.mono zD3⟩,?_⟩;clear H;intro w H)|(refine qN H ?_;clear H;intro w H)|refine y20 mixed ?_|fail)
   exact zG rfl H.cl (congrArg Value.bool dnn)
obtain rfl:k=l.length:=by omega
have d5:decide ((l.length:Int)<(l.length:Int))=false:=yyc qO;rw[List.take_length] at ho hvm;have hlift:=zN1 m (l:=l) hvm;rw[<- ho] at hlift;have hTo:∀ e∈o,zAr e:=fun e he=>by rw[ho] at he;obtain⟨y,hy,rfl⟩:=List.mem_map.1 he;obtain⟨_,g1,g2⟩:=zE4 (hvm y hy).1;exact zHQ g1 g2
have hEo:EvsM (M++R) ao co o qo:=by unfold evX at hO;refine⟨?_,fun j hj=>(hQ j qO).mono (zz8 _ _)⟩;rw[hol];rw[hol] at hO;exact hO.sl (yyi _ _) (fun _ _=>rfl) qO
have hbo:=fun{w:World} {b:Nat} {p:SPt} {N G:zA} (hG:G⊆N++F) (hs:StaM G m.s p) (hE:EvsM (N++F) ao co o qo) (H:St w0 (cb b (mrk m p) 74::N) w)=>zEP H hF hP hK hok hG hs hTo hE;unfold MBaG at hbo;rw[hol,<- hlift] at hbo;have hcp:=fun{w:World} {G:zA} {b:Nat} (hG:Mem w G) (h:MkM G b m)=>zHK (zBJ hok.good) w hG h;obtain⟨⟨m2,k2⟩,hr2⟩:∃ r,zBB m l=r:=⟨_,rfl⟩;rw[hr2] at hbg hbo;simp only at hbg hbo;have hsm:=fun{w:World} {G:zA} {b1 b2:Nat} (hG:Mem w G) (h1:MkM G b1 m2) (h2:MkM G b2 m2)=>zF9 w hG h1 h2;rw[zC9.2 rfl] at hsm;have dkk:(k2==k2)=true:=by simp
(repeat' first|refine yW ?_|(refine f0 zH9 ?_;refine⟨_,hcp H.mem ⟨p1,zz2 _,hS.mono (by intro z hz;simp[hz])⟩,?_⟩;clear H;intro v X w hR H;(try simp only[zca,zcb] at H);obtain⟨bc,p2,N2,rfl,rfl,hs2⟩:=hR;replace H:=H.perm (List.perm_middle (l₁:=_::(M++R)));simp only[zca] at H)|(have hp:=H.perm (List.Perm.swap _ _ _);refine' y33 zE9 ?_ ?_;rotate_left 2;exact hbg (G:=R) (by intro z hz;simp[hz]) hS hp;rintro v X w ⟨p4,Y3,rfl,rfl,hs4⟩ H2;clear H hp;have H:=H2;clear H2;simp only[zca] at H)|(have hp:=H.perm (List.Perm.swap _ _ _);refine' y33 zE9 ?_ ?_;rotate_left 2;exact hbo (G:=N2) (by intro z hz;simp[hz]) hs2 (hEo.mono (by intro z hz;simp only[List.mem_append] at hz;rcases hz with h|h<;>simp[h])) hp;rintro v X w ⟨p5,Y4,rfl,rfl,hs5⟩ H2;clear H hp;have H:=H2;clear H2;simp only[zca] at H)|(refine c0 zDE ?_;refine⟨_,hsm (b1:=bm) (b2:=bc) H.mem ⟨p4,zz5 _ (zz2 _),hs4.mono (by intro z hz;simp only[List.mem_append] at hz;rcases hz with h|h<;>simp[h])⟩ ⟨p5,zz2 _,hs5.mono (by intro z hz;simp only[List.mem_append] at hz;rcases hz with h|h<;>simp[h])⟩,?_⟩;clear H;intro w H)|fail);exact zG rfl H.cl rfl}
end
section
open Go Go.Sk Go.RowKit Go.ChangeShapes Go.WideShapes Go.Proofs.Tryz
attribute [local irreducible] Go.Calls
set_option maxRecDepth 100000 in
theorem marketLift_calls {H:Type}{enc:TypeId × Value->H}{W:World}{args:Array Value}{ds:List (DataW H)}{p:List MemPlace}
  (hA:DataW.TrodAll enc prog W 0 (fun _=>true) true [40,2,30] args.toList ds p) (hz:∀ (j:Nat) t d,([40,2,30]:List TypeId)[j]?=some t->ds[j]?=some d->∀ n∈d.weights prog t,n<=reachBytes) (hv:∀ (j:Nat) t v,([40,2,30]:List TypeId)[j]?=some t->args[j]?=some v->Value.okWide prog W .any 0 t v) (hL:laidMetH prog zBN W) :
  Calls prog 7 args W (Ret (.bool true) W):=by obtain⟨v0,v1,v2,d0,d1,d2,r0,r1,r2,rfl,rfl,rfl,h0,h1,h2⟩:=zRA hA;obtain⟨s0,p0,rfl,hM0,hA0⟩:=zIi h0 (hz 0 _ _ rfl rfl) (hv 0 _ _ rfl rfl);obtain⟨x1,rfl,hx1⟩:=zIj (sg.desc rfl rfl) h1 (hv 1 _ _ rfl rfl);obtain⟨l2,a2,cap2,q2,rfl,hE2,hT2⟩:=zQT h2 (hz 2 _ _ rfl rfl) (hv 2 _ _ rfl rfl);exact zXu s0 p0 x1 l2 q2 hA0 hT2 W (zFP W) (zJq hL) (zJo hL) (zJp hL) hM0 hE2
set_option maxRecDepth 100000 in
theorem marketLift_lifted (os:Os)(started:os.Started)(H:Type)(enc:TypeId × Value->H) :
  ReturnsInHanded {} checked os 7 .any (fun w args=>(Rows.marketLiftSpec.pre enc prog f7 [] false w args/\laidMetH prog zBN w)/\sizedMet enc prog f7 (OpenSpec.ofChange Rows.marketLiftSpec) false w args)
   (Rows.marketLiftSpec.post enc prog f7 false true false false):=by{
refine returnsInHanded_of_change_and (C:=checked) (X:=fun w _=>laidMetH prog zBN w) (fun _ _ _ hh h=>h.of_heap hh) (by kernel_rfl) started (by kernel_rfl) func7
 (ChangeSpec.witness_shaped (enc:=enc) (C:=checked) (os:=os) (X:=fun w _=>laidMetH prog zBN w) false (World.doorLaid prog 600 os) #[.agg #[.int .i64 0,.int .i64 0,.int .i64 0,.int .i64 0,.slice none 0 0,.slice none 0 0,.slice none 0 0,.slice none 0 0,.slice none 0 0],.int .i64 0,.slice none 0 0] 8 rfl (World.shaped_of_RefB (by kernel_rfl) (by kernel_rfl)) (by kernel_rfl) (by kernel_rfl) (by kernel_rfl) (zFl os _)) ?_
intro W base args ds gs before hval hW _ hsz hL _;have hA:DataW.TrodAll enc prog W 0 (fun _=>true) true [40,2,30] args.toList ds hW.choose:=hW.choose_spec.choose_spec.1;refine(marketLift_calls hA (fun j t d h1 h2=>zFQ hsz (Eq.trans ?_ h1) h2) (fun j t v h1 h2=>?_) hL).mono fun e W' ⟨he,hc⟩=>?_
.exact congrArg (fun l:List TypeId=>l[j]?) (by kernel_rfl)
.refine hval j t v (Eq.trans ?_ h1) h2;rw[<- Array.getElem?_toList];exact congrArg (fun l:List TypeId=>l[j]?) (by kernel_rfl)
.have hds:∃ q,hW.choose=q:=⟨_,rfl⟩;obtain⟨q,hq⟩:=hds;rw[hq] at hA;refine⟨_,he,zFO (tb:=4) (by kernel_rfl) rfl (by kernel_rfl) rfl (sg.desc rfl rfl) ?_ hW hc⟩;clear hq;obtain⟨v0,v1,v2,d0,d1,d2,r0,r1,r2,_,rfl,_⟩:=zRA hA;rfl}
end
end Go.Proofs.YtejhijhnlogikaaGreatDoor
