/- The statement MarketNamesSaid, proved, and its tied card. -/
import Derived.ChangeKeysEq
import Derived.Deep.LoopGhost
import Derived.Deep.QuietTactic
import Derived.Deep.Slices
import Derived.KernelRfl
import Derived.LaidMore
import Derived.Laws.Bits64b
import Derived.Laws.IdiomStrings
import Derived.Laws.MakeOwn
import Derived.Laws.RangeString
import Derived.Laws.StructEq
import Derived.Lib.Mul64
import Derived.Maps.RangeRun
import Derived.OpenShut
import Derived.OrdersHeld
import Derived.ProofKit
import Derived.RangeFuncLeaves
import Derived.RangeFuncNested
import Derived.Shelf.SlLaysE
import Derived.Shelf.SlLaysF0
import Derived.Shelf.SlLaysM
import Derived.Shelf.SlSortCmp.NoneTotal
import Derived.Shelf.SlicesE.Compact
import Derived.Shelf.SortM.Plain
import Derived.Shelf.SortM.SortNone
import Derived.SizedLaws
import Derived.Sort.LoopGhostIn
import Derived.Stop.Joined
import Derived.TacticsIn
import Derived.Test.YtejhijhnlogikaaGreatDoorChecked
import Derived.Test.YtejhijhnlogikaaGreatDoorProg
import Derived.Test.YtejhijhnlogikaaGreatDoorRows
import Derived.WalkKit
import Derived.WalkSpells
import Derived.Test.YtejhijhnlogikaaGreatDoorMe31
set_option linter.all false
set_option maxHeartbeats 16000000
namespace Go.Proofs.YtejhijhnlogikaaGreatDoor
section
open Go Go.Sk Go.RowKit Go.Proofs.Tryz
attribute [local irreducible] Go.Calls
theorem ent26:Ent prog 26:=em func26
theorem ent27:Ent prog 27:=em func27
theorem ent61:Ent prog 61:=em func61
theorem ent62:Ent prog 62:=em func62
end
section
open Go Go.Sk Go.RowKit Go.ChangeShapes Go.WideShapes Go.Proofs.Tryz
attribute [local irreducible] Go.Calls
section
variable {H:Type}{enc:TypeId × Value->H}{P:Program}{w:World}{base:Nat}{spare:Nat->Bool}{held:Bool}{t0 t1 t2 t3 t4:TypeId}{args:Array Value}{ds:List (DataW H)}{ps:List MemPlace}
theorem zRB (h:DataW.TrodAll enc P w base spare held [] args.toList ds ps):args=#[]/\ds=[]/\ps=[]:=by obtain⟨e,rfl,rfl⟩:=trodAll_nil h;exact⟨by cases args;simp_all,rfl,rfl⟩
end
end
section
open Go Go.Sk Go.RowKit Go.Proofs.Tryz
attribute [local irreducible] Go.Calls
section
attribute [local semireducible] Yq
theorem Yq.nilP {P:Program}(S:Sig P){o:Oper}{e:Env}{w:World}{t E:TypeId}{x y:Operand}{a:Addr}{ti:TI}{yT:TypeId}(ho:o.op=.binOp .eql t x y yT)
  (hx:ev e x=.pointer none) (hy:ev e y=.pointer (some a)) (ht:lk S.tab t=some ti) (htd:ti.d=.pointer E):Yq P o e w (.bool false):=by{
intro w' _;have hu:=S.run_und ht w';rw[htd] at hu;have he:∀ d,(Op.equalIn (d+1) t (.pointer none) (.pointer (some a))).run P w'=.ok false w':=by intro d;simp only[Op.equalIn,Sem.run_bind,hu,Result.andThen_ok];rfl
have hb:binOp .eql t (.pointer none) (.pointer (some a))=(do pure (.bool (<- Op.equal t (.pointer none) (.pointer (some a))))):=rfl;have hg:(eqGuard .eql t x y (.pointer none) (.pointer (some a))).run P w'=.ok () w':=by unfold eqGuard;rfl
simp only[execOp,ho,hx,hy,hb,Op.equal,Op.maxDepth,Sem.run_bind,hg,he,Result.andThen_ok,Sem.run_pure]}
end
theorem zXv (w0:World):Cr 22 [.pointer none] (.int .i64 0) w0:=by refine eS func22 ntmps22 fun H=>?_;(repeat' first|refine yW ?_|fail);exact zG rfl H.cl rfl
theorem zSl (w0:World):Cr 13 [.pointer none] (.agg (zBg.cells SPt.n0).toArray) w0:=by refine eS func13 ntmps13 fun H=>?_;(repeat' first|refine yW ?_|(refine yB ?_;intro b w H)|(refine y11 sg H ?_;intro w H)|fail);exact zAv (vs:=[_]) ⟨zg sg rfl H.mem (zz2 _) rfl rfl,trivial⟩ H.cl rfl
theorem zN7 (w0:World):Cr 20 [.pointer none] (.pointer none) w0:=by refine eS func20 ntmps20 fun H=>?_;(repeat' first|refine yW ?_|fail);exact zG rfl H.cl rfl
theorem zV4 {a b:Mrk}(h:a≠b):zIJ a b=false:=Bool.eq_false_iff.2 fun e=>h (zC9.1 e)
theorem zSm (w0:World):Cr 21 [.pointer none,.pointer none] (.bool true) w0:=by refine eS func21 ntmps21 fun H=>?_;(repeat' first|refine yW ?_|fail);exact zG rfl H.cl rfl
theorem zSn {b:Nat}(w0:World):Cr 21 [.pointer none,(pt b)] (.bool false) w0:=by refine eS func21 ntmps21 fun H=>?_;(repeat' first|refine yW ?_|(refine za rfl rfl (Yq.nilP sg rfl rfl rfl rfl rfl) ?_)|fail);exact zG rfl H.cl rfl
theorem zSo {b:Nat}(w0:World):Cr 21 [(pt b),.pointer none] (.bool false) w0:=by refine eS func21 ntmps21 fun H=>?_;(repeat' first|refine yW ?_|fail);exact zG rfl H.cl rfl
theorem zJ6 {f:Value}(w0:World):Cr 36 [.pointer none,f] (.int .i64 2) w0:=by refine eS func36 ntmps36 fun H=>?_;(repeat' first|refine yW ?_|fail);exact zG rfl H.cl rfl
end
section
open Go Go.Sk Go.RowKit Go.Proofs.Tryz
attribute [local irreducible] Go.Calls
theorem zV5 {c:Cmd}{na:OA}{nc:Nat}(w0:World):Cr 12 [.pointer none,.agg (c.cells na nc).toArray] (.tuple #[.slice none 0 0,.int .i64 2]) w0:=by refine eS func12 ntmps12 fun H=>?_;(repeat' first|refine yW ?_|(refine yB ?_;intro b w H)|(refine c0 zIA ?_;refine⟨_,zJ6 _,?_⟩;clear H;intro w H)|fail);exact zFL rfl rfl H.cl rfl
theorem zSp {c:Cmd}{na:OA}{nc:Nat}(w0:World):Cr 24 [.pointer none,.agg (c.cells na nc).toArray] (.tuple #[.slice none 0 0,.int .i64 2]) w0:=by refine eS func24 ntmps24 fun H=>?_;(repeat' first|refine yW ?_|(refine yB ?_;intro b w H)|(refine q0 zH9 ?_;refine⟨_,fun _ hcl=>zN7 _,?_⟩)|(refine q0 zDj ?_;refine⟨_,fun _ hcl=>zV5 _,?_⟩)|(refine qN H ?_;clear H;intro w H)|refine y20 mixed ?_|fail);exact zFL rfl rfl H.cl rfl
theorem zSq {a:OA}{len cap:Nat}(w0:World):Cr 25 [.pointer none,.slice a len cap] (.int .i64 2) w0:=by refine eS func25 ntmps25 fun H=>?_;(repeat' first|refine yW ?_|(refine yB ?_;intro b w H)|(refine c0 zIA ?_;refine⟨_,zJ6 _,?_⟩;clear H;intro w H)|fail);exact zG rfl H.cl rfl
theorem c_rEmp (w0:World):Cr 27 [] (.agg (Sta.cells zB4 SPt.n0).toArray) w0:=by refine eS func27 ntmps27 fun H=>?_;(repeat' first|refine yW ?_|(refine yB ?_;intro b w H)|(refine y11 sg H ?_;intro w H)|fail);exact zAv (vs:=[_]) ⟨zg sg rfl H.mem (zz2 _) rfl rfl,trivial⟩ H.cl rfl
theorem zV6 (w0:World):Cr 61 [.slice none 0 0,.slice none 0 0] (.bool true) w0:=by refine eS func61 ntmps61 fun H=>?_;(repeat' first|refine yW ?_|fail);refine zD [(4,5),(11,25)] (fun _:Unit=>[(5,.int .i64 0)]) (fun _ w=>St w0 [] w) (fun _=>0) () ⟨rfl,trivial⟩ H ?_;clear H;rintro _ gh w H;(repeat' first|refine yW ?_|fail);exact zG rfl H.cl rfl
theorem zV7 (w0:World):Cr 62 [.slice none 0 0,.slice none 0 0] (.bool true) w0:=by refine eS func62 ntmps62 fun H=>?_;(repeat' first|refine yW ?_|fail);refine zD [(4,5),(11,25)] (fun _:Unit=>[(5,.int .i64 0)]) (fun _ w=>St w0 [] w) (fun _=>0) () ⟨rfl,trivial⟩ H ?_;clear H;rintro _ gh w H;(repeat' first|refine yW ?_|fail);exact zG rfl H.cl rfl
theorem zV8 (w0:World):Cr 26 [.agg (zBg.cells SPt.n0).toArray,.agg (zBg.cells SPt.n0).toArray] (.bool true) w0:=by refine eS func26 ntmps26 fun H=>?_;(repeat' first|refine yW ?_|(refine yB ?_;intro b w H)|(refine c0 ent61 ?_;refine⟨_,zV6 _,?_⟩;clear H;intro w H)|(refine c0 ent62 ?_;refine⟨_,zV7 _,?_⟩;clear H;intro w H)|fail);refine zD [(4,5),(77,94)] (fun _:Unit=>[(5,.int .i64 0)]) (fun _ w=>St w0 [cb _ (zBg.cells SPt.n0) 40,cb _ (zBg.cells SPt.n0) 40] w) (fun _=>0) () ⟨rfl,trivial⟩ H ?_;clear H;rintro _ gh w H;(repeat' first|refine yW ?_|fail);refine zD [(4,4),(6,6),(95,112)] (fun _:Unit=>[(6,.int .i64 0)]) (fun _ w=>St w0 [cb _ (zBg.cells SPt.n0) 40,cb _ (zBg.cells SPt.n0) 40] w) (fun _=>0) () ⟨rfl,trivial⟩ H ?_;clear H;rintro _ gh2 w H;(repeat' first|refine yW ?_|fail);refine zD [(4,4),(7,7),(113,131)] (fun _:Unit=>[(7,.int .i64 0)]) (fun _ w=>St w0 [cb _ (zBg.cells SPt.n0) 40,cb _ (zBg.cells SPt.n0) 40] w) (fun _=>0) () ⟨rfl,trivial⟩ H ?_;clear H;rintro _ gh3 w H;(repeat' first|refine yW ?_|fail);exact zG rfl H.cl rfl
theorem mn_b:((mDo zIN zGH).2.2==0&&(mDo zIN zGH).1.n==1048576&&decide ((mDo zIN zGH).1.s.accts.length=1))=true:=by decide +kernel
theorem zRC (c:Cmd){m:Mrk}(h:m.n=1048576):mDo m c=(m,[],40):=by unfold mDo;rw[if_pos qO]
theorem zV9 (l:List Evt){m:Mrk}(h:m.n=1048576):zBB m l=(m,40):=by unfold zBB;rw[if_pos qO]
def mBob:Cmd:=cmN 1 ⟨#[98,111,98]⟩ []
theorem last_f:∃ m es,LastF m es:=by have h:=mn_b;obtain⟨⟨m,es,k⟩,hr⟩:∃ r,mDo zIN zGH=r:=⟨_,rfl⟩;rw[hr] at h;simp only[yy3,beq_iff_eq,decide_eq_true_eq] at h;obtain⟨⟨rfl,h2⟩,h3⟩:=h;refine⟨m,es,hr,h2,zV4 fun e=>?_⟩;rw[<- e] at h3;exact absurd h3 (by decide)
theorem ofE_z:ofE zBg (-1)=4:=by decide +kernel
theorem zK4:ofE zB4 (-1)=1/\ofE zB4 1048577=1/\ofE zB4 1048576=0/\ofE zB4 1048575=0:=by decide +kernel
theorem staW_z:StaW zBg:=⟨zzD _,fun k hk=>absurd hk (zzE _),zzD _,fun k hk=>absurd hk (zzE _),fun k hk=>absurd hk (zzE _)⟩
theorem staM_z {F:zA}:StaM F zBg SPt.n0:=⟨SlA.nil,SlA.nil,SlA.nil,SlA.nil,SlA.nil,fun j hj=>absurd hj (zzE _)⟩
set_option maxRecDepth 20000 in
theorem zSr {F:zA}(w0:World)(hF:Mem w0 F)(hP:PriM F)(hK:KinM F)(hC:ComM F):Cr 5 [] (.bool true) w0:=by obtain⟨m,es,A⟩:=last_f;have okF:MkOk zIO:=⟨zJx,by decide⟩;have okL:MkOk zIN:=⟨zJx,by decide⟩;have ok1:=zQ8 okL A.d;have hLe:=zBJ zJx;have hWe:=zFn zJx;have haw:=fun w (hG:Mem w F)=>zFs w hG hP hK hC;have oz:=fun w (hG:Mem w F)=>zGg (F:=F) zBg SPt.n0 (-1) staW_z (by rw[ofE_z];decide) w hG staM_z;rw[ofE_z] at oz;have o1:=fun w (hG:Mem w F)=>zGg (F:=F) zB4 SPt.n0 (-1) hWe (by rw[zK4.1];decide) w hG zJs;rw[zK4.1] at o1;have o2:=fun w (hG:Mem w F)=>zGg (F:=F) zB4 SPt.n0 1048577 hWe (by rw[zK4.2.1];decide) w hG zJs;rw[zK4.2.1] at o2;have o3:=fun w (hG:Mem w F)=>zHw (F:=F) zB4 SPt.n0 1048576 hWe hLe zK4.2.2.1 w hG zJs;have o4:=fun w (hG:Mem w F)=>zHw (F:=F) zB4 SPt.n0 1048575 hWe hLe zK4.2.2.2 w hG zJs;have dF:=fun{w:World} {bm:Nat} {p:SPt} {N G:zA} (hG:G⊆N++F) (hs:StaM G zIO.s p) (H:St w0 (cb bm (mrk zIO p) 74::N) w)=>zJ1 (c:=cmZ) (na:=none) (nc:=0) H hF hP hK hC okF hG hs ⟨by decide,by decide⟩ zEL;have dA:=fun{w:World} {bm:Nat} {p:SPt} {N G:zA} (hG:G⊆N++F) (hs:StaM G zIN.s p) (H:St w0 (cb bm (mrk zIN p) 74::N) w)=>zJ1 (c:=zGH) (na:=none) (nc:=0) H hF hP hK hC okL hG hs zPl zEL;have dB:=fun{w:World} {bm:Nat} {p:SPt} {N G:zA} (hG:G⊆N++F) (hs:StaM G m.s p) (H:St w0 (cb bm (mrk m p) 74::N) w)=>zJ1 (c:=mBob) (na:=none) (nc:=0) H hF hP hK hC ok1 hG hs ⟨by decide,by decide⟩ zEL;have wF:=fun{w:World} {G:zA} {b:Nat} (hG:Mem w (G++F)) (h:MkM (G++F) b zIO)=>zNw (c:=cmZ) (na:=none) (nc:=0) w hG (hP.mono (zz8 _ _)) (hK.mono (zz8 _ _)) (hC.mono (zz8 _ _)) okF h ⟨by decide,by decide⟩ zEL;have bF:=fun{w:World} {bm:Nat} {p:SPt} {N G:zA} (hG:G⊆N++F) (hs:StaM G zIO.s p) (H:St w0 (cb bm (mrk zIO p) 74::N) w)=>zEP (l:=[]) (a:=none) (cap:=0) (qe:=fun _=>zEN) H hF hP hK okF hG hs (fun e he=>nomatch he) zQ4;unfold MDoG at dF dA dB;unfold MBaG at bF;rw[zRC cmZ rfl] at dF wF;rw[A.d] at dA;rw[zRC mBob A.n] at dB;rw[zV9 [] rfl] at bF;simp only at dF dA dB wF bF;have sq:=fun{w:World} {G:zA} {b:Nat} (hG:Mem w G) (h:MkM G b m)=>zEz w hG h;rw[A.n] at sq;have sm:=fun{w:World} {G:zA} {b1 b2:Nat} (hG:Mem w G) (h1:MkM G b1 zIO) (h2:MkM G b2 m)=>zF9 w hG h1 h2;rw[A.ne] at sm;refine eS func5 ntmps5 fun H=>?_;(repeat' first|refine yW ?_|(refine c0 zEU ?_;refine⟨_,haw _ (H.memF hF),?_⟩;clear H;intro w H)|(refine c0 zDj ?_;refine⟨_,zV5 (c:=cmZ) (na:=none) (nc:=0) _,?_⟩;clear H;intro w H)|(refine c0 zS3 ?_;refine⟨_,zSp (c:=cmZ) (na:=none) (nc:=0) _,?_⟩;clear H;intro w H)|(refine c0 zE9 ?_;refine⟨_,zSq _,?_⟩;clear H;intro w H)|(refine c0 zD6 ?_;refine⟨_,zXv _,?_⟩;clear H;intro w H)|(refine c0 zMb ?_;refine⟨_,zSl _,?_⟩;clear H;intro w H)|(refine c0 ent26 ?_;refine⟨_,zV8 _,?_⟩;clear H;intro w H)|(refine c0 zH9 ?_;refine⟨_,zN7 _,?_⟩;clear H;intro w H)|(refine c0 zDE ?_;refine⟨_,zSm _,?_⟩;clear H;intro w H)|(refine c0 zDE ?_;refine⟨_,zSn _,?_⟩;clear H;intro w H)|(refine c0 zDE ?_;refine⟨_,zSo _,?_⟩;clear H;intro w H)|(refine f0 ent10 ?_;refine⟨_,zVW _,?_⟩;clear H;intro v M w hR H;(try simp only[zca,zcb] at H);obtain⟨bn,pn,Nn,rfl,rfl,_⟩:=hR;replace H:=H.sub (zz9 _))|(refine c0 ent27 ?_;refine⟨_,c_rEmp _,?_⟩;clear H;intro w H)|(refine c0 zDk ?_;refine⟨_,oz _ (H.memF hF),?_⟩;clear H;intro w H)|(refine c0 zDk ?_;refine⟨_,o1 _ (H.memF hF),?_⟩;clear H;intro w H)|(refine c0 zDk ?_;refine⟨_,o2 _ (H.memF hF),?_⟩;clear H;intro w H)|(refine f0 zDk ?_;refine⟨_,o3 _ (H.memF hF),?_⟩;clear H;intro v M w hR H;(try simp only[zca,zcb] at H);obtain⟨_,rfl,bf,p1,N1,rfl,rfl,hs1⟩:=hR)|(refine f0 zDk ?_;refine⟨_,o4 _ (H.memF hF),?_⟩;clear H;intro v M w hR H;(try simp only[zca,zcb] at H);obtain⟨_,rfl,bl,p2,N2,rfl,rfl,hs2⟩:=hR;refine Hold.un ?_)|fail);refine⟨?_⟩;replace H:=H.perm (List.Perm.cons _ List.perm_middle);(repeat' first|refine yW ?_|(refine' y33 zDj ?_ ?_;rotate_left 2;exact dF (by intro z hz;simp only[List.mem_append,List.cons_append,List.mem_cons] at hz ⊢;grind) hs1 H;rintro v M w ⟨p3,a3,c3,q3,Y1,rfl,rfl,_,hs3⟩ H2;clear H;have H:=H2;clear H2;simp only[zca] at H)|(refine f0 zS3 ?_;refine⟨_,wF (H.all hF) ⟨p3,by simp,hs3.mono (by intro z hz;simp only[List.mem_append,List.cons_append,List.mem_cons] at hz ⊢;grind)⟩,?_⟩;clear H;intro v M w hR H;(try simp only[zca,zcb] at H);obtain⟨a5,c5,q5,rfl,_⟩:=hR)|(have hp:=H.perm (List.Perm.swap _ _ _);refine' y33 zDj ?_ ?_;rotate_left 2;exact dA (by intro z hz;simp only[List.mem_append,List.cons_append,List.mem_cons] at hz ⊢;grind) hs2 hp;rintro v M w ⟨p4,a4,c4,q4,Y2,rfl,rfl,_,hs4⟩ H2;clear H hp;have H:=H2;clear H2;simp only[zca] at H)|(refine' y33 zDj ?_ ?_;rotate_left 2;exact dB (by intro z hz;simp only[List.mem_append,List.cons_append,List.mem_cons] at hz ⊢;grind) hs4 H;rintro v M w ⟨p5,a6,c6,q6,Y3,rfl,rfl,_,hs5⟩ H2;clear H;have H:=H2;clear H2;simp only[zca] at H)|(have hp:=H.perm (List.Perm.swap _ _ _);refine' y33 zE9 ?_ ?_;rotate_left 2;exact bF (by intro z hz;simp only[List.mem_append,List.cons_append,List.mem_cons] at hz ⊢;grind) hs3 hp;rintro v M w ⟨p6,Y4,rfl,rfl,hs6⟩ H2;clear H hp;have H:=H2;clear H2;simp only[zca] at H)|(refine c0 zD6 ?_;refine⟨_,sq (H.all hF) ⟨p5,by simp,hs5.mono (by intro z hz;simp only[List.mem_append,List.cons_append,List.mem_cons] at hz ⊢;grind)⟩,?_⟩;clear H;intro w H)|(refine c0 zDE ?_;refine⟨_,sm (H.all hF) ⟨p6,by simp,hs6.mono (by intro z hz;simp only[List.mem_append,List.cons_append,List.mem_cons] at hz ⊢;grind)⟩ ⟨p5,by simp,hs5.mono (by intro z hz;simp only[List.mem_append,List.cons_append,List.mem_cons] at hz ⊢;grind)⟩,?_⟩;clear H;intro w H)|fail);exact zG rfl H.cl rfl
end
section
open Go Go.Sk Go.RowKit Go.ChangeShapes Go.WideShapes Go.Proofs.Tryz
attribute [local irreducible] Go.Calls
set_option maxRecDepth 100000 in
theorem marketNames_calls {H:Type}{enc:TypeId × Value->H}{W:World}{args:Array Value}{ds:List (DataW H)}{p:List MemPlace}
  (hA:DataW.TrodAll enc prog W 0 (fun _=>true) true [] args.toList ds p) (hz:∀ (j:Nat) t d,([]:List TypeId)[j]?=some t->ds[j]?=some d->∀ n∈d.weights prog t,n<=reachBytes) (hv:∀ (j:Nat) t v,([]:List TypeId)[j]?=some t->args[j]?=some v->Value.okWide prog W .any 0 t v) (hL:laidMetH prog zBN W) :
  Calls prog 5 args W (Ret (.bool true) W):=by obtain⟨rfl,rfl,rfl⟩:=zRB hA;exact zSr W (zFP W) (zJq hL) (zJo hL) (zJp hL)
set_option maxRecDepth 100000 in
theorem marketNames_lifted (os:Os)(started:os.Started)(H:Type)(enc:TypeId × Value->H) :
  ReturnsInHanded {} checked os 5 .any (fun w args=>(Rows.marketNamesSpec.pre enc prog f5 [] false w args/\laidMetH prog zBN w)/\sizedMet enc prog f5 (OpenSpec.ofChange Rows.marketNamesSpec) false w args)
   (Rows.marketNamesSpec.post enc prog f5 false true false false):=by{
refine returnsInHanded_of_change_and (C:=checked) (X:=fun w _=>laidMetH prog zBN w) (fun _ _ _ hh h=>h.of_heap hh) (by kernel_rfl) started (by kernel_rfl) func5
 (ChangeSpec.witness_shaped (enc:=enc) (C:=checked) (os:=os) (X:=fun w _=>laidMetH prog zBN w) false (World.doorLaid prog 600 os) #[] 8 rfl (World.shaped_of_RefB (by kernel_rfl) (by kernel_rfl)) (by kernel_rfl) (by kernel_rfl) (by kernel_rfl) (zFl os _)) ?_
intro W base args ds gs before hval hW _ hsz hL _;have hA:DataW.TrodAll enc prog W 0 (fun _=>true) true [] args.toList ds hW.choose:=hW.choose_spec.choose_spec.1;refine(marketNames_calls hA (fun j t d h1 h2=>zFQ hsz (Eq.trans ?_ h1) h2) (fun j t v h1 h2=>?_) hL).mono fun e W' ⟨he,hc⟩=>?_
.exact congrArg (fun l:List TypeId=>l[j]?) (by kernel_rfl)
.refine hval j t v (Eq.trans ?_ h1) h2;rw[<- Array.getElem?_toList];exact congrArg (fun l:List TypeId=>l[j]?) (by kernel_rfl)
.have hds:∃ q,hW.choose=q:=⟨_,rfl⟩;obtain⟨q,hq⟩:=hds;rw[hq] at hA;refine⟨_,he,zFO (tb:=4) (by kernel_rfl) rfl (by kernel_rfl) rfl (sg.desc rfl rfl) ?_ hW hc⟩;clear hq;obtain⟨_,rfl,_⟩:=zRB hA;rfl}
end
end Go.Proofs.YtejhijhnlogikaaGreatDoor
