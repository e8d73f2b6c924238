/- The statement MarketLeavesSaid, proved, and its tied card. -/
import Derived.ChangeKeysEq
import Derived.Deep.LoopGhost
import Derived.Deep.QuietTactic
import Derived.Deep.Slices
import Derived.KernelRfl
import Derived.LaidMore
import Derived.Laws.Bits64b
import Derived.Laws.IdiomStrings
import Derived.Laws.MakeOwn
import Derived.Laws.RangeString
import Derived.Laws.StructEq
import Derived.Lib.Mul64
import Derived.Maps.RangeRun
import Derived.OpenShut
import Derived.OrdersHeld
import Derived.ProofKit
import Derived.RangeFuncLeaves
import Derived.RangeFuncNested
import Derived.Shelf.SlLaysE
import Derived.Shelf.SlLaysF0
import Derived.Shelf.SlLaysM
import Derived.Shelf.SlSortCmp.NoneTotal
import Derived.Shelf.SlicesE.Compact
import Derived.Shelf.SortM.Plain
import Derived.Shelf.SortM.SortNone
import Derived.SizedLaws
import Derived.Sort.LoopGhostIn
import Derived.Stop.Joined
import Derived.TacticsIn
import Derived.Test.YtejhijhnlogikaaGreatDoorChecked
import Derived.Test.YtejhijhnlogikaaGreatDoorProg
import Derived.Test.YtejhijhnlogikaaGreatDoorRows
import Derived.WalkKit
import Derived.WalkSpells
import Derived.Test.YtejhijhnlogikaaGreatDoorMe31
set_option linter.all false
set_option maxHeartbeats 16000000
namespace Go.Proofs.YtejhijhnlogikaaGreatDoor
open Go Go.Sk Go.RowKit Go.ChangeShapes Go.WideShapes Go.Proofs.Tryz
section
variable {H:Type}{enc:TypeId × Value->H}{P:Program}{w:World}{base:Nat}{sp:Nat->Bool}{held:Bool}
end
section
variable {H:Type}{enc:TypeId × Value->H}{w:World}
set_option maxRecDepth 20000 in
theorem zXr {v:Value}{d:DataW H}{p:List MemPlace}(h:DataW.Trod enc prog w 0 (fun _=>true) true 29 v d p)(hz:∀ n∈d.weights prog 29,n<=reachBytes)(hv:Value.okWide prog w .any 0 29 v) :
  ∃ (c:Cmd) (a:OA) (cap:Nat),v=.agg (c.cells a cap).toArray/\Ints (zDD w) a cap c.nums/\zGG c:=by obtain⟨cs,rfl,_⟩:=Go.WideShapes.okWide_struct (sg.desc rfl rfl) hv;obtain⟨⟨c,a,cap⟩,e,hM,hA⟩:=zVV (Rz.of h hz);refine⟨c,a,cap,?_,hM,hA⟩;have:cs.toList=c.cells a cap:=e;rw[<- this]
end
end Go.Proofs.YtejhijhnlogikaaGreatDoor
namespace Go.Sk
open Go Go.RowKit
theorem Byt.app {a b:List Nat}(h:Byt a)(k:Byt b):Byt (a++b):=fun x hx=>(List.mem_append.1 hx).elim (h x) (k x)
end Go.Sk
namespace Go.Proofs.YtejhijhnlogikaaGreatDoor
section
open Go Go.Sk Go.RowKit Go.Proofs.Tryz
attribute [local irreducible] Go.Calls
theorem yV {A B:Prop}(k:B)(h:B->A:=by
  intro k
  (first|refine y13 ?_|refine y14 ?_|refine y15 ?_|refine y16 ?_|(with_reducible first|apply OW.app|apply OW.app0|apply QW.app|apply QW.app0|apply zHX|apply zH5|apply zCQ|apply zHW|apply zFu|apply zFt|apply zKH|apply zKI|apply zH6|apply zKJ)|refine y19 ?_|refine y24 ?_|refine y25 ?_|refine y21 ?_|refine y22 ?_|fail)
  exact k):A:=h k
set_option maxRecDepth 20000 in
theorem zSj {F:zA}{a:OA}{cap:Nat}{na:OA}{nc:Nat}(s:Sta)(p:SPt)(n:Int)(c:Cmd)(l:List Evt)(q:Nat->EPt)(hA:StaA s)(hc:zGG c)(hT:∀ e∈l,zAr e)(w0:World)(hF:Mem w0 F)(hP:PriM F)(hK:KinM F)(hC:ComM F)(hs:StaM F s p)(hN:Ints F na nc c.nums)(hM:EvsM F a cap l q) :
  Cr 6 [.agg (s.cells p).toArray,.int .i64 n,.agg (c.cells na nc).toArray,.slice a l.length cap] (.bool true) w0:=by{
have haw:=fun w (hG:Mem w F)=>zFs w hG hP hK hC;have hlg:=fun w (hG:Mem w F)=>zGC s p hA.acN hA.insN w hG hs;have hod:=fun w=>zMM (na:=na) (nc:=nc) c w;have hev:=fun w (hG:Mem w F)=>zN3 l q w hG hM;by_cases hg:zCx s=false/\zPi c=false/\zE6 l=false;rotate_left
.cases h1:zCx s with
 | true =>
   rw[h1] at hlg;refine eS func6 ntmps6 fun H=>?_;(repeat' first|refine yW ?_|(refine yB ?_;intro b w H)|(refine c0 zCc ?_;refine⟨_,hlg _ (H.memF hF),?_⟩;clear H;intro w H)|(refine c0 zEU ?_;refine⟨_,haw _ (H.memF hF),?_⟩;clear H;intro w H)|fail);exact zG rfl H.cl rfl
 | false =>
 cases h2:zPi c with
 | true =>
   rw[h1] at hlg;rw[h2] at hod;refine eS func6 ntmps6 fun H=>?_;(repeat' first|refine yW ?_|(refine yB ?_;intro b w H)|(refine c0 zCc ?_;refine⟨_,hlg _ (H.memF hF),?_⟩;clear H;intro w H)|(refine c0 zE8 ?_;refine⟨_,hod _,?_⟩;clear H;intro w H)|(refine c0 zEU ?_;refine⟨_,haw _ (H.memF hF),?_⟩;clear H;intro w H)|fail);exact zG rfl H.cl rfl
 | false =>
 cases h3:zE6 l with
 | true =>
   rw[h1] at hlg;rw[h2] at hod;rw[h3] at hev;refine eS func6 ntmps6 fun H=>?_;(repeat' first|refine yW ?_|(refine yB ?_;intro b w H)|(refine c0 zCc ?_;refine⟨_,hlg _ (H.memF hF),?_⟩;clear H;intro w H)|(refine c0 zE8 ?_;refine⟨_,hod _,?_⟩;clear H;intro w H)|(refine c0 zKN ?_;refine⟨_,hev _ (H.memF hF),?_⟩;clear H;intro w H)|(refine c0 zEU ?_;refine⟨_,haw _ (H.memF hF),?_⟩;clear H;intro w H)|fail);exact zG rfl H.cl rfl
 | false=>exact absurd ⟨h1,h2,h3⟩ hg
obtain⟨h1,h2,h3⟩:=hg;rw[h1] at hlg;rw[h2] at hod;rw[h3] at hev;have hW:=zIo (zCt h1) hA.rw;have hL:=zHV (zCt h1);by_cases he:ofE s n=0;rotate_left
.have ho:=fun w (hG:Mem w F)=>zGg s p n hW he w hG hs;have d1:(ofE s n != 0)=true:=by simpa using he
 refine eS func6 ntmps6 fun H=>?_;(repeat' first|refine yW ?_|(refine yB ?_;intro b w H)|(refine c0 zCc ?_;refine⟨_,hlg _ (H.memF hF),?_⟩;clear H;intro w H)|(refine c0 zE8 ?_;refine⟨_,hod _,?_⟩;clear H;intro w H)|(refine c0 zKN ?_;refine⟨_,hev _ (H.memF hF),?_⟩;clear H;intro w H)|(refine c0 zEU ?_;refine⟨_,haw _ (H.memF hF),?_⟩;clear H;intro w H)|(refine c0 zDk ?_;refine⟨_,ho _ (H.memF hF),?_⟩;clear H;intro w H)|fail);exact zG rfl H.cl rfl
have ho:=fun w (hG:Mem w F)=>zHw s p n hW hL he w hG hs;have hok:=zJu he;obtain⟨m,hm⟩:∃ m:Mrk,(⟨s,n⟩:Mrk)=m:=⟨_,rfl⟩;rw[hm] at ho hok;have hcp:=fun{w:World} {G:zA} {b:Nat} (hG:Mem w G) (h:MkM G b m)=>zHK (zBJ hok.good) w hG h;have hwd:=fun{w:World} {G:zA} {b:Nat} (hG:Mem w (G++F)) (h:MkM (G++F) b m)=>zNw (c:=c) (na:=na) (nc:=nc) w hG (hP.mono (zz8 _ _)) (hK.mono (zz8 _ _)) (hC.mono (zz8 _ _)) hok h hc (SlA.mono hN (zz8 _ _));have hsm:=fun{w:World} {G:zA} {b1 b2:Nat} (hG:Mem w G) (h1:MkM G b1 m) (h2:MkM G b2 m)=>zF9 w hG h1 h2;rw[zC9.2 rfl] at hsm;have hdo:=fun{w:World} {b:Nat} {p:SPt} {N:zA} (hs:StaM (N++F) m.s p) (H:St w0 (cb b (mrk m p) 74::N) w)=>zKz (c:=c) (na:=na) (nc:=nc) H hF hP hK hC hok hs hc (SlA.mono hN (zz8 _ _));unfold MDoR at hdo;have her:=zHU (m:=m) (c:=c);obtain⟨⟨t,es,k⟩,hr⟩:∃ r,mDo m c=r:=⟨_,rfl⟩;rw[hr] at hwd hdo her;simp only at hwd hdo her;refine eS func6 ntmps6 fun H=>?_;(repeat' first|refine yW ?_|(refine yB ?_;intro b w H)|(refine c0 zCc ?_;refine⟨_,hlg _ (H.memF hF),?_⟩;clear H;intro w H)|(refine c0 zE8 ?_;refine⟨_,hod _,?_⟩;clear H;intro w H)|(refine c0 zKN ?_;refine⟨_,hev _ (H.memF hF),?_⟩;clear H;intro w H)|(refine c0 zEU ?_;refine⟨_,haw _ (H.memF hF),?_⟩;clear H;intro w H)|(refine f0 zDk ?_;refine⟨_,ho _ (H.memF hF),?_⟩;clear H;intro v M w hR H;(try simp only[zca,zcb] at H);obtain⟨_,rfl,bm,p1,N1,rfl,rfl,hs1⟩:=hR)|(refine f0 zH9 ?_;refine⟨_,hcp H.mem ⟨p1,zz5 _ (zz5 _ (zz2 _)),hs1.mono (by intro z hz;simp[hz])⟩,?_⟩;clear H;intro v M w hR H;(try simp only[zca,zcb] at H);obtain⟨bw,p2,N2,rfl,rfl,hs2⟩:=hR;replace H:=H.perm (List.perm_middle (l₁:=_::_::_::N1));simp only[zca] at H)|(refine f0 zS3 ?_;refine⟨_,hwd (H.all hF) ⟨p1,zz5 _ (zz5 _ (zz5 _ (zz2 _))),hs1.mono (by intro z hz;simp[hz])⟩,?_⟩;clear H;intro v Y1 w hR H;(try simp only[zca,zcb] at H);obtain⟨aw,cw,qw,rfl,hEw⟩:=hR)|(refine c0 zDE ?_;refine⟨_,hsm H.mem ⟨p1,zz5 _ (zz5 _ (zz5 _ (zz2 _))),hs1.mono (by intro z hz;simp[hz])⟩ ⟨p2,zz2 _,hs2.mono (by intro z hz;simp[hz])⟩,?_⟩;clear H;intro w H)|(have hp:=H.perm (List.perm_middle (l₁:=[_,_,_]));simp only[zca,zcb] at hp;refine' y33 zDj ?_ ?_;rotate_left 2;exact hdo (hs1.mono (by intro z hz;simp[hz])) hp;rintro v M w ⟨p3,a3,c3,q3,Y2,rfl,rfl,hE3,hs3⟩ H2;clear H hp;have H:=H2;clear H2;simp only[zca] at H;refine Hold.un ?_)|fail);refine⟨?_⟩;(repeat' first|refine yS ?_|refine yV ?_|fail);refine CW.cutT (fun en1 w=>∃ b4 b6 en',en1=ovl [(103,.bool false),(1,.int .i64 n),(3,.slice a l.length cap),(4,(pt b4)),(9,(pt bm)),(11,(pt bw)),(12,.slice aw es.length cw),(14,.slice a3 es.length c3)] en'/\St w0 (cb bm (mrk t p3) 74::cb bw (mrk m p2) 74::cb b6 (c.cells na nc) 29::cb b4 (s.cells p) 40::(N1++N2++Y1++Y2)) w) ?_ ?_
.have dl:((es.length:Int) != (es.length:Int))=false:=by simp
 have dkk:(k != k)=false:=by simp
 refine zC6 ?_;by_cases hk:k=0
 .subst hk;have D:=zH4 hr;have dn:(t.n != IntKind.i64.wrap (n+1))=false:=by have h1:=D.next;have h2:=D.room;have h3:=hok.n;rw[<- hm] at h1 h2 h3;simp only at h1 h2 h3;rw[w64 qO qO,h1];simp
  have d0:((es.length:Int)==0)=false:=beq_eq_false_iff_ne.2 (by have:=D.len.1;omega);have sq:=fun{w:World} {G:zA} {b:Nat} (hG:Mem w G) (h:MkM G b t)=>zEz w hG h;(repeat' first|refine yW ?_|(refine c0 zD6 ?_;refine⟨_,sq (H.all hF) ⟨p3,zz2 _,hs3.mono zD3⟩,?_⟩;clear H;intro w H)|fail);exact⟨_,_,_,zz (congrArg Value.bool d0) (zz rfl (zz rfl (zz rfl (zz rfl (zA2 rfl rfl rfl))))),H⟩
 .obtain⟨rfl,rfl⟩:=her hk;have dk:(k != 0)=true:=by{simpa using hk};have dk2:(k==0)=false:=by simpa using hk
  (repeat' first|refine yW ?_|(refine c0 zDE ?_;refine⟨_,hsm (H.all hF) ⟨p3,zz2 _,hs3.mono zD3⟩ ⟨p2,zz5 _ (zz2 _),hs2.mono (by intro z hz;simp[hz])⟩,?_⟩;clear H;intro w H)|fail);exact⟨_,_,_,zz rfl (zz rfl (zz rfl (zz rfl (zz rfl (zA2 rfl rfl rfl))))),H⟩
clear H;rintro _ w ⟨b4,b6,en',rfl,H⟩;have hes:∀ j,j<es.length->zAr (ev_ es j)/\zk (ev_ es j)=true/\(ev_ es j).v=3:=fun j hj=>by
 by_cases hk:k=0
 .subst hk;obtain⟨g1,g2⟩:=(zH4 hr).evs _ (zDc hj);exact⟨zHQ g1 g2,g2,g1⟩
 .obtain⟨_,rfl⟩:=her hk;exact absurd hj (zzE _)
have hF1:Mem w (Y1++Y2++F):=(H.all hF).sub (by intro z hz;simp only[List.mem_append] at hz;rcases hz with (h|h)|h<;>simp[h]);have hKy:KinM (Y1++Y2++F):=hK.mono (zz8 _ _);replace hEw:EvsM (Y1++Y2++F) aw cw es qw:=hEw.mono (show Y1⊆Y1++Y2++F from fun z hz=>by simp[hz]);replace hE3:EvsM (Y1++Y2++F) a3 c3 es q3:=hE3.mono (show Y2⊆Y1++Y2++F from fun z hz=>by simp[hz]);obtain⟨⟨hnw,hcw,be,offe,cse,Te,fre,hse⟩,hew⟩:=hEw;obtain⟨⟨hn3,hc3,be3,offe3,cse3,Te3,fre3,hse3⟩,he3⟩:=hE3;have H0:=H;clear H;obtain⟨w1,rfl⟩:∃ w1,w1=w:=⟨w,rfl⟩;have H:=zBm w1;(repeat' first|refine yX ?_|fail);refine zD [(8,8),(16,16),(104,135)] (fun i:Nat=>[(16,.int .i64 (i:Int))]) (fun i w=>i<=es.length/\St w1 [] w) (fun i=>es.length - i) 0 ⟨rfl,trivial⟩ ⟨zzD _,H⟩ ?_;clear H;rintro i gh w ⟨hi,H⟩;by_cases hlt:i<es.length
.have d5:decide ((i:Int)<(es.length:Int))=true:=yyb qO;obtain⟨hT1,hm1,hv1⟩:=hes i hlt;have d6:((ev_ es i).v != 3)=false:=by rw[hv1];rfl
 have ss:=fun{w:World} (hG:Mem w (Y1++Y2++F))=>zH3 (ev_ es i) (ev_ es i) (qw i) (q3 i) w hG (hew i hlt) (he3 i hlt);rw[zN2] at ss;have sm:=fun{w:World} (hG:Mem w (Y1++Y2++F))=>zEo (ev_ es i) (qw i) hT1 w hG hKy (hew i hlt);rw[hm1] at sm;(repeat' first|refine yW ?_|refine x41 sg hse ?_|refine x43 sg hse (H.memF hF1) ?_|refine x41 sg hse3 ?_|refine x43 sg hse3 (H.memF hF1) ?_|refine x45 sg hse (H.memF hF1) ?_|(refine q0 zPs ?_;refine⟨_,fun _ hcl=>ss ((H.ext hcl).memF hF1),?_⟩)|(refine q0 zD7 ?_;refine⟨_,fun _ hcl=>sm ((H.ext hcl).memF hF1),?_⟩)|(refine qN H ?_;clear H;intro w H)|refine y20 mixed ?_|fail);exact zC (i+1) rfl ⟨zU qO,trivial⟩ ⟨hlt,H⟩ qO
obtain rfl:i=es.length:=by omega
have d5:decide ((es.length:Int)<(es.length:Int))=false:=yyc qO;replace H:=H0.ext H.cl;clear H0 hF1 hKy hew he3 hes;have hba:=fun{w:World} {b:Nat} {p:SPt} {N:zA} (hs:StaM (N++F) m.s p) (H:St w0 (cb b (mrk m p) 74::N) w)=>zFr H hF hP hK hok hs hT (hM.mono (zz8 _ _));unfold MBaR at hba;have hbe:=zJ5 (m:=m) (l:=l);obtain⟨⟨m2,k2⟩,hr2⟩:∃ r,zBB m l=r:=⟨_,rfl⟩;rw[hr2] at hba hbe;simp only at hba hbe;(repeat' first|refine yW ?_|(have hp:=H.perm (List.Perm.swap _ _ _);refine' y33 zE9 ?_ ?_;rotate_left 2;exact hba (hs2.mono (by intro z hz;simp[hz])) hp;rintro v M w ⟨p4,Y3,rfl,rfl,hs4⟩ H2;clear H hp;have H:=H2;clear H2;simp only[zca] at H)|(refine f0 zDk ?_;refine⟨_,ho _ (H.memF hF),?_⟩;clear H;intro v M w hR H;(try simp only[zca,zcb] at H);obtain⟨_,rfl,bg,p5,N5,rfl,rfl,hs5⟩:=hR;refine Hold.un ?_)|fail);refine⟨?_⟩;by_cases hk:k2=0;rotate_left
.obtain rfl:=hbe hk;have dk:(k2 != 0)=true:=by simpa using hk
 (repeat' first|refine yW ?_|(refine c0 zDE ?_;refine⟨_,hsm (H.all hF) ⟨p4,zz2 _,hs4.mono (by intro z hz;simp only[List.mem_append,List.cons_append,List.mem_cons] at hz ⊢;grind)⟩ ⟨p5,by simp,hs5.mono (by intro z hz;simp[hz])⟩,?_⟩;clear H;intro w H)|fail);exact zG rfl H.cl rfl
subst hk;obtain⟨g1,g2,g3⟩:=zQ6 hr2;have dn:(m2.n==IntKind.i64.wrap (n+1))=true:=by have h3:=hok.n;rw[<- hm] at g1 g2 h3;simp only at g1 g2 h3;rw[w64 qO qO,g1];simp
have sq:=fun{w:World} {G:zA} {b:Nat} (hG:Mem w G) (h:MkM G b m2)=>zEz w hG h;have st:=fun{w:World} {G:zA} {b:Nat} (hG:Mem w G) (h:MkM G b m2)=>zJt (zBJ g3) w hG h;have sm:=fun{w:World} {G:zA} {p:SPt} (hG:Mem w G) (h:StaM G m2.s p)=>zCm m2.s p (zFn g3) w hG h;rw[zAl.2 g3] at sm;(repeat' first|refine yW ?_|(refine c0 zD6 ?_;refine⟨_,sq (H.all hF) ⟨p4,zz2 _,hs4.mono (by intro z hz;simp only[List.mem_append,List.cons_append,List.mem_cons] at hz ⊢;grind)⟩,?_⟩;clear H;intro w H)|(refine f0 zMb ?_;refine⟨_,st (H.all hF) ⟨p4,zz2 _,hs4.mono (by intro z hz;simp only[List.mem_append,List.cons_append,List.mem_cons] at hz ⊢;grind)⟩,?_⟩;clear H;intro v M w hR H;(try simp only[zca,zcb] at H);obtain⟨p6,rfl,hs6⟩:=hR)|(refine c0 zCz ?_;refine⟨_,sm H.mem (hs6.mono (by intro z hz;simp[hz])),?_⟩;clear H;intro w H)|fail);exact zG rfl H.cl rfl}
end
section
open Go Go.Sk Go.RowKit Go.ChangeShapes Go.WideShapes Go.Proofs.Tryz
attribute [local irreducible] Go.Calls
set_option maxRecDepth 100000 in
theorem marketLeaves_calls {H:Type}{enc:TypeId × Value->H}{W:World}{args:Array Value}{ds:List (DataW H)}{p:List MemPlace}
  (hA:DataW.TrodAll enc prog W 0 (fun _=>true) true [40,2,29,30] args.toList ds p) (hz:∀ (j:Nat) t d,([40,2,29,30]:List TypeId)[j]?=some t->ds[j]?=some d->∀ n∈d.weights prog t,n<=reachBytes) (hv:∀ (j:Nat) t v,([40,2,29,30]:List TypeId)[j]?=some t->args[j]?=some v->Value.okWide prog W .any 0 t v) (hL:laidMetH prog zBN W) :
  Calls prog 6 args W (Ret (.bool true) W):=by obtain⟨v0,v1,v2,v3,d0,d1,d2,d3,r0,r1,r2,r3,rfl,rfl,rfl,h0,h1,h2,h3⟩:=zF7 hA;obtain⟨s0,p0,rfl,hM0,hA0⟩:=zIi h0 (hz 0 _ _ rfl rfl) (hv 0 _ _ rfl rfl);obtain⟨x1,rfl,hx1⟩:=zIj (sg.desc rfl rfl) h1 (hv 1 _ _ rfl rfl);obtain⟨c2,a2,cap2,rfl,hN2,hT2⟩:=zXr h2 (hz 2 _ _ rfl rfl) (hv 2 _ _ rfl rfl);obtain⟨l3,a3,cap3,q3,rfl,hE3,hT3⟩:=zQT h3 (hz 3 _ _ rfl rfl) (hv 3 _ _ rfl rfl);exact zSj s0 p0 x1 c2 l3 q3 hA0 hT2 hT3 W (zFP W) (zJq hL) (zJo hL) (zJp hL) hM0 hN2 hE3
set_option maxRecDepth 100000 in
theorem marketLeaves_lifted (os:Os)(started:os.Started)(H:Type)(enc:TypeId × Value->H) :
  ReturnsInHanded {} checked os 6 .any (fun w args=>(Rows.marketLeavesSpec.pre enc prog f6 [] false w args/\laidMetH prog zBN w)/\sizedMet enc prog f6 (OpenSpec.ofChange Rows.marketLeavesSpec) false w args)
   (Rows.marketLeavesSpec.post enc prog f6 false true false false):=by{
refine returnsInHanded_of_change_and (C:=checked) (X:=fun w _=>laidMetH prog zBN w) (fun _ _ _ hh h=>h.of_heap hh) (by kernel_rfl) started (by kernel_rfl) func6
 (ChangeSpec.witness_shaped (enc:=enc) (C:=checked) (os:=os) (X:=fun w _=>laidMetH prog zBN w) false (World.doorLaid prog 600 os) #[.agg #[.int .i64 0,.int .i64 0,.int .i64 0,.int .i64 0,.slice none 0 0,.slice none 0 0,.slice none 0 0,.slice none 0 0,.slice none 0 0],.int .i64 0,.agg #[.int .u8 0,.slice none 0 0,.string ByteArray.empty],.slice none 0 0] 8 rfl (World.shaped_of_RefB (by kernel_rfl) (by kernel_rfl)) (by kernel_rfl) (by kernel_rfl) (by kernel_rfl) (zFl os _)) ?_
intro W base args ds gs before hval hW _ hsz hL _;have hA:DataW.TrodAll enc prog W 0 (fun _=>true) true [40,2,29,30] args.toList ds hW.choose:=hW.choose_spec.choose_spec.1;refine(marketLeaves_calls hA (fun j t d h1 h2=>zFQ hsz (Eq.trans ?_ h1) h2) (fun j t v h1 h2=>?_) hL).mono fun e W' ⟨he,hc⟩=>?_
.exact congrArg (fun l:List TypeId=>l[j]?) (by kernel_rfl)
.refine hval j t v (Eq.trans ?_ h1) h2;rw[<- Array.getElem?_toList];exact congrArg (fun l:List TypeId=>l[j]?) (by kernel_rfl)
.have hds:∃ q,hW.choose=q:=⟨_,rfl⟩;obtain⟨q,hq⟩:=hds;rw[hq] at hA;refine⟨_,he,zFO (tb:=4) (by kernel_rfl) rfl (by kernel_rfl) rfl (sg.desc rfl rfl) ?_ hW hc⟩;clear hq;obtain⟨v0,v1,v2,v3,d0,d1,d2,d3,r0,r1,r2,r3,_,rfl,_⟩:=zF7 hA;rfl}
end
end Go.Proofs.YtejhijhnlogikaaGreatDoor
