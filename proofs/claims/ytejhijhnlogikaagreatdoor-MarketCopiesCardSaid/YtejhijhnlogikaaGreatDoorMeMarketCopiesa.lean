/- The statement MarketCopiesSaid, proved, and its tied card. -/
import Derived.ChangeKeysEq
import Derived.Deep.LoopGhost
import Derived.Deep.QuietTactic
import Derived.Deep.Slices
import Derived.KernelRfl
import Derived.LaidMore
import Derived.Laws.Bits64b
import Derived.Laws.IdiomStrings
import Derived.Laws.MakeOwn
import Derived.Laws.RangeString
import Derived.Laws.StructEq
import Derived.Lib.Mul64
import Derived.Maps.RangeRun
import Derived.OpenShut
import Derived.OrdersHeld
import Derived.ProofKit
import Derived.RangeFuncLeaves
import Derived.RangeFuncNested
import Derived.Shelf.SlLaysE
import Derived.Shelf.SlLaysF0
import Derived.Shelf.SlLaysM
import Derived.Shelf.SlSortCmp.NoneTotal
import Derived.Shelf.SlicesE.Compact
import Derived.Shelf.SortM.Plain
import Derived.Shelf.SortM.SortNone
import Derived.SizedLaws
import Derived.Sort.LoopGhostIn
import Derived.Stop.Joined
import Derived.TacticsIn
import Derived.Test.YtejhijhnlogikaaGreatDoorChecked
import Derived.Test.YtejhijhnlogikaaGreatDoorProg
import Derived.Test.YtejhijhnlogikaaGreatDoorRows
import Derived.WalkKit
import Derived.WalkSpells
import Derived.Test.YtejhijhnlogikaaGreatDoorMe31
set_option linter.all false
set_option maxHeartbeats 16000000
namespace Go.Proofs.YtejhijhnlogikaaGreatDoor
section
open Go Go.Sk Go.RowKit Go.Proofs.Tryz
attribute [local irreducible] Go.Calls
theorem zQ9 {A M F:zA}:A++F⊆(A++M)++F:=fun _ hz=>(List.mem_append.1 hz).elim (fun h=>zz6 _ (zz6 _ h)) (zz3 _)
theorem zV3 {m c:Mrk}{x:Cmd}(h:c=m\/m.n<c.n):(mDo c x).1=m\/m.n<(mDo c x).1.n:=by{
by_cases h0:(mDo c x).2.2=0
.have:=(zH4 (m:=c) (c:=x) (t:=(mDo c x).1) (l:=(mDo c x).2.1) (Prod.ext rfl (Prod.ext rfl h0))).next;rcases h with rfl|h<;>exact .inr qO
.rw[(zHU h0).1];exact h}
set_option maxRecDepth 20000 in
theorem zSk {F:zA}{a a2:OA}{cap cap2:Nat}(s:Sta)(p:SPt)(n:Int)(l lo:List Cmd)(q q2:Nat->CPt)(hA:StaA s)(hT:∀ c∈l,zGG c)(hT2:∀ c∈lo,zGG c)(w0:World)(hF:Mem w0 F)(hP:PriM F)(hK:KinM F)(hC:ComM F)(hs:StaM F s p)(hM:CmsM F a cap l q)(hM2:CmsM F a2 cap2 lo q2) :
  Cr 4 [.agg (s.cells p).toArray,.int .i64 n,.slice a l.length cap,.slice a2 lo.length cap2] (.bool true) w0:=by{
have haw:=fun w (hG:Mem w F)=>zFs w hG hP hK hC;have hlg:=fun w (hG:Mem w F)=>zGC s p hA.acN hA.insN w hG hs;by_cases hg:zCx s=false/\decide ((l.length:Int)>30)=false/\decide ((lo.length:Int)>30)=false;rotate_left
.cases h1:zCx s with
 | true =>
   rw[h1] at hlg;refine eS func4 ntmps4 fun H=>?_;(repeat' first|refine yW ?_|(refine yB ?_;intro b w H)|(refine c0 zCc ?_;refine⟨_,hlg _ (H.memF hF),?_⟩;clear H;intro w H)|(refine c0 zEU ?_;refine⟨_,haw _ (H.memF hF),?_⟩;clear H;intro w H)|fail);exact zG rfl H.cl rfl
 | false =>
 cases h2:decide ((l.length:Int)>30) with
 | true =>
   rw[h1] at hlg;refine eS func4 ntmps4 fun H=>?_;(repeat' first|refine yW ?_|(refine yB ?_;intro b w H)|(refine c0 zCc ?_;refine⟨_,hlg _ (H.memF hF),?_⟩;clear H;intro w H)|(refine c0 zEU ?_;refine⟨_,haw _ (H.memF hF),?_⟩;clear H;intro w H)|fail);exact zG rfl H.cl rfl
 | false =>
 cases h3:decide ((lo.length:Int)>30) with
 | true =>
   rw[h1] at hlg;refine eS func4 ntmps4 fun H=>?_;(repeat' first|refine yW ?_|(refine yB ?_;intro b w H)|(refine c0 zCc ?_;refine⟨_,hlg _ (H.memF hF),?_⟩;clear H;intro w H)|(refine c0 zEU ?_;refine⟨_,haw _ (H.memF hF),?_⟩;clear H;intro w H)|fail);exact zG rfl H.cl rfl
 | false=>exact absurd ⟨h1,h2,h3⟩ hg
obtain⟨h1,h2,h3⟩:=hg;rw[h1] at hlg;have hW:=zIo (zCt h1) hA.rw;have hL:=zHV (zCt h1);by_cases he:ofE s n=0;rotate_left
.have ho:=fun w (hG:Mem w F)=>zGg s p n hW he w hG hs;have d1:(ofE s n != 0)=true:=by simpa using he
 refine eS func4 ntmps4 fun H=>?_;(repeat' first|refine yW ?_|(refine yB ?_;intro b w H)|(refine c0 zCc ?_;refine⟨_,hlg _ (H.memF hF),?_⟩;clear H;intro w H)|(refine c0 zEU ?_;refine⟨_,haw _ (H.memF hF),?_⟩;clear H;intro w H)|(refine c0 zDk ?_;refine⟨_,ho _ (H.memF hF),?_⟩;clear H;intro w H)|fail);exact zG rfl H.cl rfl
have ho:=fun w (hG:Mem w F)=>zHw s p n hW hL he w hG hs;have hok:=zJu he;obtain⟨⟨hn,hc,b0,off,cs,T,fr,hsl⟩,hnm⟩:=hM;obtain⟨⟨hn2,hc2,b02,off2,cs2,T2,fr2,hsl2⟩,hnm2⟩:=hM2;refine eS func4 ntmps4 fun H=>?_;(repeat' first|refine yW ?_|(refine yB ?_;intro b w H)|(refine c0 zCc ?_;refine⟨_,hlg _ (H.memF hF),?_⟩;clear H;intro w H)|(refine c0 zEU ?_;refine⟨_,haw _ (H.memF hF),?_⟩;clear H;intro w H)|(refine f0 zDk ?_;refine⟨_,ho _ (H.memF hF),?_⟩;clear H;intro v M w hR H;(try simp only[zca,zcb] at H);obtain⟨_,rfl,bm,p1,N1,rfl,rfl,hs1⟩:=hR;replace H:=H.perm (List.Perm.swap _ _ _))|fail);refine zD [(8,8),(11,11),(42,58)] (fun x:CI=>[(11,.int .i64 (x.i:Int))]) (fun x w=>x.i<=l.length/\MkOk x.m/\StaM (x.N++F) x.m.s x.p/\St w0 (cb bm (mrk x.m x.p) 74::x.N) w) (fun x=>l.length - x.i) ⟨0,⟨s,n⟩,p1,_::N1⟩ ⟨rfl,trivial⟩ ⟨zzD _,hok,hs1.mono (by intro z hz;simp[hz]),H⟩ ?_;clear H hs1 hok;rintro⟨i,m,p1,N⟩ gh w ⟨hi,hok,hS,H⟩;simp only at hi hok hS H ⊢;by_cases hlt:i<l.length
.have d5:decide ((i:Int)<(l.length:Int))=true:=yyb qO;have hod:=fun w=>zMM (na:=(q i).1) (nc:=(q i).2) (cm_ l i) w;have hni:=hnm i hlt;cases ho:zPi (cm_ l i) with
 | true =>
   rw[ho] at hod;(repeat' first|refine yW ?_|refine x40 sg hsl ?_|refine x42 sg hsl (H.memF hF) ?_|(refine c0 zE8 ?_;refine⟨_,hod _,?_⟩;clear H;intro w H)|fail);exact zG rfl H.cl rfl
 | false =>
   rw[ho] at hod;have hdo:=fun{w:World} (H:St w0 (cb bm (mrk m p1) 74::N) w)=>zKz (c:=cm_ l i) (na:=(q i).1) (nc:=(q i).2) H hF hP hK hC hok hS (hT _ (zPg hlt)) (SlA.mono hni (zz8 _ _));unfold MDoR at hdo;(repeat' first|refine yW ?_|refine x40 sg hsl ?_|refine x42 sg hsl (H.memF hF) ?_|(refine c0 zE8 ?_;refine⟨_,hod _,?_⟩;clear H;intro w H)|(refine' y33 zDj ?_ ?_;rotate_left 2;exact hdo H;rintro v M w ⟨p2,a3,c3,q3,Y1,rfl,rfl,hE1,hs1⟩ H2;clear H;have H:=H2;clear H2)|fail);exact zC ⟨i+1,(mDo m (cm_ l i)).1,p2,N++Y1⟩ rfl ⟨zU qO,trivial⟩ ⟨hlt,zMP hok,hs1,H⟩ (by show l.length - (i+1)<l.length - i;omega)
obtain rfl:i=l.length:=by omega
have d5:decide ((l.length:Int)<(l.length:Int))=false:=yyc qO;have hcp:=fun{w:World} {G:zA} {b:Nat} (hG:Mem w G) (h:MkM G b m)=>zHK (zBJ hok.good) w hG h;have hsm:=fun{w:World} {G:zA} {b1 b2:Nat} (hG:Mem w G) (h1:MkM G b1 m) (h2:MkM G b2 m)=>zF9 w hG h1 h2;rw[zC9.2 rfl] at hsm;have sq:=fun{w:World} {G:zA} {b:Nat} (hG:Mem w G) (h:MkM G b m)=>zEz w hG h;have st:=fun{w:World} {G:zA} {b:Nat} (hG:Mem w G) (h:MkM G b m)=>zJt (zBJ hok.good) w hG h;have ss:=fun{w:World} {G:zA} {p q:SPt} (hG:Mem w G) (h1:StaM G m.s p) (h2:StaM G m.s q)=>zNk m.s m.s p q w hG h1 h2;rw[zEM.2 rfl] at ss;have dn:(m.n != m.n)=false:=by simp
have MM:∀ {G:zA},cb bm (mrk m p1) 74∈G->N⊆G->MkM (G++F) bm m:=fun h1 h2=>⟨p1,zz6 _ h1,hS.mono (fun z hz=>(List.mem_append.1 hz).elim (fun h=>zz6 _ (h2 h)) (zz3 _))⟩;(repeat' first|refine yW ?_|(refine f0 zH9 ?_;refine⟨_,hcp (H.all hF) ⟨p1,zz2 _,hS.mono zD3⟩,?_⟩;clear H;intro v M w hR H;(try simp only[zca,zcb] at H);obtain⟨bc,p2,N2,rfl,rfl,hs2⟩:=hR;replace H:=H.perm (List.perm_middle (l₁:=_::N));simp only[zca] at H)|(refine f0 zH9 ?_;refine⟨_,hcp (H.all hF) ⟨p1,zz5 _ (zz2 _),hS.mono (fun z hz=>zz5 _ (zIq (M:=N2) hz))⟩,?_⟩;clear H;intro v M w hR H;(try simp only[zca,zcb] at H);obtain⟨bs,p3,N3,rfl,rfl,hs3⟩:=hR;replace H:=H.perm (List.perm_middle (l₁:=_::_::(N++N2)));simp only[zca] at H)|(refine c0 zDE ?_;refine⟨_,hsm (b1:=bm) (b2:=bc) (H.all hF) (MM (by simp) (by intro z hz;simp[hz])) ⟨p2,by simp,hs2.mono (by intro z hz;simp[hz])⟩,?_⟩;clear H;intro w H)|(refine c0 zDE ?_;refine⟨_,hsm (b1:=bc) (b2:=bm) (H.all hF) ⟨p2,by simp,hs2.mono (by intro z hz;simp[hz])⟩ (MM (by simp) (by intro z hz;simp[hz])),?_⟩;clear H;intro w H)|(refine c0 zD6 ?_;refine⟨_,sq (b:=bc) (H.all hF) ⟨p2,by simp,hs2.mono (by intro z hz;simp[hz])⟩,?_⟩;clear H;intro w H)|(refine c0 zD6 ?_;refine⟨_,sq (b:=bm) (H.all hF) (MM (by simp) (by intro z hz;simp[hz])),?_⟩;clear H;intro w H)|(refine f0 zMb ?_;refine⟨_,st (b:=bc) (H.all hF) ⟨p2,by simp,hs2.mono (by intro z hz;simp[hz])⟩,?_⟩;clear H;intro v M4 w hR H;(try simp only[zca,zcb] at H);obtain⟨p4,rfl,hs4⟩:=hR)|(refine f0 zMb ?_;refine⟨_,st (b:=bm) (H.all hF) (MM (by simp) (by intro z hz;simp[hz])),?_⟩;clear H;intro v M5 w hR H;(try simp only[zca,zcb] at H);obtain⟨p5,rfl,hs5⟩:=hR)|(refine c0 ent23 ?_;refine⟨_,ss H.mem (hs4.mono (by intro z hz;simp[hz])) (hs5.mono (by intro z hz;simp[hz])),?_⟩;clear H;intro w H)|fail);replace H:=H.perm (List.perm_middle (l₁:=[_]));simp only[zca,zcb] at H;refine zD [(8,8),(14,14),(88,108)] (fun x:CI=>[(14,.int .i64 (x.i:Int))]) (fun x w=>x.i<=lo.length/\MkOk x.m/\(x.m=m\/m.n<x.m.n)/\StaM (x.N++F) x.m.s x.p/\MkM (x.N++F) bm m/\MkM (x.N++F) bs m/\St w0 (cb bc (mrk x.m x.p) 74::x.N) w) (fun x=>lo.length - x.i) ⟨0,m,p2,_⟩ ⟨rfl,trivial⟩ ⟨zzD _,hok,.inl rfl,hs2.mono (by intro z hz;simp[hz]),MM (by simp) (by intro z hz;simp[hz]),⟨p3,by simp,hs3.mono (by intro z hz;simp[hz])⟩,H⟩ ?_;clear H hcp st ss MM hS;rintro⟨i2,c,pc,X⟩ gh2 w ⟨hi2,hokc,hgr,hSc,hMm,hMs,H⟩;simp only at hi2 hokc hgr hSc hMm hMs H ⊢;by_cases hlt2:i2<lo.length
.have d6:decide ((i2:Int)<(lo.length:Int))=true:=yyb qO;have hod:=fun w=>zMM (na:=(q2 i2).1) (nc:=(q2 i2).2) (cm_ lo i2) w;have hni:=hnm2 i2 hlt2;cases ho:zPi (cm_ lo i2) with
 | true =>
   rw[ho] at hod;(repeat' first|refine yW ?_|refine x40 sg hsl2 ?_|refine x42 sg hsl2 (H.memF hF) ?_|(refine c0 zE8 ?_;refine⟨_,hod _,?_⟩;clear H;intro w H)|fail);exact zG rfl H.cl rfl
 | false =>
   rw[ho] at hod;have hdo:=fun{w:World} (H:St w0 (cb bc (mrk c pc) 74::X) w)=>zKz (c:=cm_ lo i2) (na:=(q2 i2).1) (nc:=(q2 i2).2) H hF hP hK hC hokc hSc (hT2 _ (zPg hlt2)) (SlA.mono hni (zz8 _ _));unfold MDoR at hdo;(repeat' first|refine yW ?_|refine x40 sg hsl2 ?_|refine x42 sg hsl2 (H.memF hF) ?_|(refine c0 zE8 ?_;refine⟨_,hod _,?_⟩;clear H;intro w H)|(refine' y33 zDj ?_ ?_;rotate_left 2;exact hdo H;rintro v M w ⟨p6,a3,c3,q3,Y1,rfl,rfl,hE1,hs1⟩ H2;clear H;have H:=H2;clear H2)|(refine c0 zDE ?_;refine⟨_,hsm (H.all hF) (hMm.mono (zIq (M:=Y1))) (hMs.mono (zIq (M:=Y1))),?_⟩;clear H;intro w H)|fail);exact zC ⟨i2+1,(mDo c (cm_ lo i2)).1,p6,X++Y1⟩ rfl ⟨zU qO,trivial⟩ ⟨hlt2,zMP hokc,zV3 hgr,hs1,hMm.mono zQ9,hMs.mono zQ9,H⟩ (by show lo.length - (i2+1)<lo.length - i2;omega)
obtain rfl:i2=lo.length:=by omega
have d6:decide ((lo.length:Int)<(lo.length:Int))=false:=yyc qO;have hfin:(zIJ c m==(c.n==m.n))=true:=by
 rcases hgr with rfl|h
 .rw[zC9.2 rfl];simp
 .have h2:(c.n==m.n)=false:=beq_eq_false_iff_ne.2 qO;unfold zIJ;rw[h2];rfl
have sm:=fun{w:World} {G:zA} {b1 b2:Nat} (hG:Mem w G) (h1:MkM G b1 c) (h2:MkM G b2 m)=>zF9 w hG h1 h2;have sqc:=fun{w:World} {G:zA} {b:Nat} (hG:Mem w G) (h:MkM G b c)=>zEz w hG h;(repeat' first|refine yW ?_|(refine c0 zDE ?_;refine⟨_,sm (H.all hF) ⟨pc,zz2 _,hSc.mono zD3⟩ (hMm.mono zD3),?_⟩;clear H;intro w H)|(refine c0 zD6 ?_;refine⟨_,sqc (b:=bc) (H.all hF) ⟨pc,zz2 _,hSc.mono zD3⟩,?_⟩;clear H;intro w H)|(refine c0 zD6 ?_;refine⟨_,sq (b:=bm) (H.all hF) (hMm.mono zD3),?_⟩;clear H;intro w H)|fail);exact zG rfl H.cl (congrArg Value.bool hfin)}
end
section
open Go Go.Sk Go.RowKit Go.ChangeShapes Go.WideShapes Go.Proofs.Tryz
attribute [local irreducible] Go.Calls
set_option maxRecDepth 100000 in
theorem marketCopies_calls {H:Type}{enc:TypeId × Value->H}{W:World}{args:Array Value}{ds:List (DataW H)}{p:List MemPlace}
  (hA:DataW.TrodAll enc prog W 0 (fun _=>true) true [40,2,22,22] args.toList ds p) (hz:∀ (j:Nat) t d,([40,2,22,22]:List TypeId)[j]?=some t->ds[j]?=some d->∀ n∈d.weights prog t,n<=reachBytes) (hv:∀ (j:Nat) t v,([40,2,22,22]:List TypeId)[j]?=some t->args[j]?=some v->Value.okWide prog W .any 0 t v) (hL:laidMetH prog zBN W) :
  Calls prog 4 args W (Ret (.bool true) W):=by obtain⟨v0,v1,v2,v3,d0,d1,d2,d3,r0,r1,r2,r3,rfl,rfl,rfl,h0,h1,h2,h3⟩:=zF7 hA;obtain⟨s0,p0,rfl,hM0,hA0⟩:=zIi h0 (hz 0 _ _ rfl rfl) (hv 0 _ _ rfl rfl);obtain⟨x1,rfl,hx1⟩:=zIj (sg.desc rfl rfl) h1 (hv 1 _ _ rfl rfl);obtain⟨l2,a2,cap2,q2,rfl,hE2,hT2⟩:=zJr h2 (hz 2 _ _ rfl rfl) (hv 2 _ _ rfl rfl);obtain⟨l3,a3,cap3,q3,rfl,hE3,hT3⟩:=zJr h3 (hz 3 _ _ rfl rfl) (hv 3 _ _ rfl rfl);exact zSk s0 p0 x1 l2 l3 q2 q3 hA0 hT2 hT3 W (zFP W) (zJq hL) (zJo hL) (zJp hL) hM0 hE2 hE3
set_option maxRecDepth 100000 in
theorem marketCopies_lifted (os:Os)(started:os.Started)(H:Type)(enc:TypeId × Value->H) :
  ReturnsInHanded {} checked os 4 .any (fun w args=>(Rows.marketCopiesSpec.pre enc prog f4 [] false w args/\laidMetH prog zBN w)/\sizedMet enc prog f4 (OpenSpec.ofChange Rows.marketCopiesSpec) false w args)
   (Rows.marketCopiesSpec.post enc prog f4 false true false false):=by{
refine returnsInHanded_of_change_and (C:=checked) (X:=fun w _=>laidMetH prog zBN w) (fun _ _ _ hh h=>h.of_heap hh) (by kernel_rfl) started (by kernel_rfl) func4
 (ChangeSpec.witness_shaped (enc:=enc) (C:=checked) (os:=os) (X:=fun w _=>laidMetH prog zBN w) false (World.doorLaid prog 600 os) #[.agg #[.int .i64 0,.int .i64 0,.int .i64 0,.int .i64 0,.slice none 0 0,.slice none 0 0,.slice none 0 0,.slice none 0 0,.slice none 0 0],.int .i64 0,.slice none 0 0,.slice none 0 0] 8 rfl (World.shaped_of_RefB (by kernel_rfl) (by kernel_rfl)) (by kernel_rfl) (by kernel_rfl) (by kernel_rfl) (zFl os _)) ?_
intro W base args ds gs before hval hW _ hsz hL _;have hA:DataW.TrodAll enc prog W 0 (fun _=>true) true [40,2,22,22] args.toList ds hW.choose:=hW.choose_spec.choose_spec.1;refine(marketCopies_calls hA (fun j t d h1 h2=>zFQ hsz (Eq.trans ?_ h1) h2) (fun j t v h1 h2=>?_) hL).mono fun e W' ⟨he,hc⟩=>?_
.exact congrArg (fun l:List TypeId=>l[j]?) (by kernel_rfl)
.refine hval j t v (Eq.trans ?_ h1) h2;rw[<- Array.getElem?_toList];exact congrArg (fun l:List TypeId=>l[j]?) (by kernel_rfl)
.have hds:∃ q,hW.choose=q:=⟨_,rfl⟩;obtain⟨q,hq⟩:=hds;rw[hq] at hA;refine⟨_,he,zFO (tb:=4) (by kernel_rfl) rfl (by kernel_rfl) rfl (sg.desc rfl rfl) ?_ hW hc⟩;clear hq;obtain⟨v0,v1,v2,v3,d0,d1,d2,d3,r0,r1,r2,r3,_,rfl,_⟩:=zF7 hA;rfl}
end
end Go.Proofs.YtejhijhnlogikaaGreatDoor
