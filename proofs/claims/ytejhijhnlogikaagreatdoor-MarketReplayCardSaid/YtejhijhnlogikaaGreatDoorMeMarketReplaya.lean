/- The statement MarketReplaySaid, proved, and its tied card. -/
import Derived.ChangeKeysEq
import Derived.Deep.LoopGhost
import Derived.Deep.QuietTactic
import Derived.Deep.Slices
import Derived.KernelRfl
import Derived.LaidMore
import Derived.Laws.Bits64b
import Derived.Laws.IdiomStrings
import Derived.Laws.MakeOwn
import Derived.Laws.RangeString
import Derived.Laws.StructEq
import Derived.Lib.Mul64
import Derived.Maps.RangeRun
import Derived.OpenShut
import Derived.OrdersHeld
import Derived.ProofKit
import Derived.RangeFuncLeaves
import Derived.RangeFuncNested
import Derived.Shelf.SlLaysE
import Derived.Shelf.SlLaysF0
import Derived.Shelf.SlLaysM
import Derived.Shelf.SlSortCmp.NoneTotal
import Derived.Shelf.SlicesE.Compact
import Derived.Shelf.SortM.Plain
import Derived.Shelf.SortM.SortNone
import Derived.SizedLaws
import Derived.Sort.LoopGhostIn
import Derived.Stop.Joined
import Derived.TacticsIn
import Derived.Test.YtejhijhnlogikaaGreatDoorChecked
import Derived.Test.YtejhijhnlogikaaGreatDoorProg
import Derived.Test.YtejhijhnlogikaaGreatDoorRows
import Derived.WalkKit
import Derived.WalkSpells
import Derived.Test.YtejhijhnlogikaaGreatDoorMe31
set_option linter.all false
set_option maxHeartbeats 16000000
namespace Go.Proofs.YtejhijhnlogikaaGreatDoor
section
open Go Go.Sk Go.RowKit Go.Proofs.Tryz
attribute [local irreducible] Go.Calls
theorem ent32:Ent prog 32:=em func32
theorem ent72:Ent prog 72:=em func72
theorem ent73:Ent prog 73:=em func73
theorem ent74:Ent prog 74:=em func74
def toF (e:Evt)(v:Int):Evt × Int :=
 if zk e=false then(⟨0,0,[],[]⟩,4) else if v<1\/3<v then(⟨0,0,[],[]⟩,43) else
 if v=3 then(e,0) else
 if (zAe e).2≠0 then(⟨0,0,[],[]⟩,(zAe e).2) else
 if v=2 then((zAe e).1,0) else
 if (zAe (zAe e).1).2≠0 then(⟨0,0,[],[]⟩,(zAe (zAe e).1).2) else((zAe (zAe e).1).1,0)
def zB0 (v:Int):List Evt->List Evt->List Evt × Int
 | [],o=>(o,0)
 | e::l,o=>if (toF e v).2≠0 then([],(toF e v).2) else zB0 v l (o++[(toF e v).1])
def zGh (l:List Evt)(v:Int):Int × List Evt:=if (zB0 v l []).2=0 then(v,(zB0 v l []).1) else if v=1 then(if (zB0 2 l []).2=0 then(2,(zB0 2 l []).1) else(3,l)) else(3,l)
theorem zWA {e:Evt}(h3:e.v=3){v:Int}(h:(toF e v).2=0):zB8 (toF e v).1=(e,0)/\zk (toF e v).1=true/\(toF e v).1.v=v:=by{
unfold toF at h ⊢;by_cases g:zk e=false
.rw[if_pos g] at h;exact absurd h (by decide)
rw[if_neg g] at h ⊢;have gm:zk e=true:=by simpa using g
by_cases g1:v<1\/3<v
.rw[if_pos g1] at h;exact absurd h (by decide)
rw[if_neg g1] at h ⊢;by_cases g2:v=3
.rw[if_pos g2];exact⟨zJ3 gm h3,gm,by rw[h3,g2]⟩
rw[if_neg g2] at h ⊢;by_cases g3:(zAe e).2≠0
.rw[if_pos g3] at h;exact absurd h g3
rw[if_neg g3] at h ⊢;obtain⟨d1,d2,d3⟩:=zE5 (Decidable.of_not_not g3);by_cases g4:v=2
.rw[if_pos g4];refine⟨?_,d2,by simp only;omega⟩;unfold zB8;simp only;rw[if_neg (by rw[d2];decide),if_neg qO,if_pos qO,d1]
rw[if_neg g4] at h ⊢;by_cases g5:(zAe (zAe e).1).2≠0
.rw[if_pos g5] at h;exact absurd h g5
rw[if_neg g5];obtain⟨e1,e2,e3⟩:=zE5 (Decidable.of_not_not g5);refine⟨?_,e2,by simp only;omega⟩;unfold zB8;simp only;rw[if_neg (by rw[e2];decide),if_pos qO,e1,d1]}
theorem zPm {v:Int}:∀ {l:List Evt} (o:List Evt),(zB0 v l o).2=0->(zB0 v l o).1=o++l.map (fun e=>(toF e v).1)/\∀ e∈l,(toF e v).2=0
 | [],o,_=>⟨by unfold zB0;simp,fun e he=>nomatch he⟩
 | e::l,o,h=>by
   unfold zB0 at h ⊢
   by_cases g:(toF e v).2≠0
   .rw[if_pos g] at h;exact absurd h g
   rw[if_neg g] at h ⊢
   obtain⟨h1,h2⟩:=zPm _ h
   exact⟨by rw[h1,yyh];rfl,fun x hx=>(List.mem_cons.1 hx).elim (fun q=>q ▸ Decidable.of_not_not g) (h2 x)⟩
theorem zRD {v:Int}{l:List Evt}(h3:∀ e∈l,e.v=3)(h:(zB0 v l []).2=0)(hl:0<l.length/\l.length<=40)(m:Mrk):zBB m (zB0 v l []).1=zBB m l/\zHG (zB0 v l []).1=true:=by{
obtain⟨h1,h2⟩:=zPm [] h;rw[List.nil_append] at h1;have hm:∀ e∈(zB0 v l []).1,zk e=true/\e.v=v:=fun e he=>by rw[h1] at he;obtain⟨x,hx,rfl⟩:=List.mem_map.1 he;exact(zWA (h3 x hx) (h2 x hx)).2
have h0:(ev0 (zB0 v l []).1).v=v:=by
 refine(hm _ ?_).2;rw[h1];cases l with
 | nil=>exact absurd hl.1 (yyz 0)
 | cons a r=>exact zz2 _
have hx:=zN1 m (l:=(zB0 v l []).1) fun e he=>⟨(hm e he).1,(hm e he).2.trans h0.symm⟩;refine⟨hx.trans (congrArg (zBB m) ?_),zGB.2 ⟨by rw[h1,yyp];exact hl,fun e he=>⟨(hm e he).2.trans h0.symm,(hm e he).1⟩⟩⟩;rw[h1,List.map_map];refine(List.map_congr_left fun e he=>?_).trans (List.map_id _);exact congrArg Prod.fst (zWA (h3 e he) (h2 e he)).1}
theorem to_tD {e:Evt}(h:zk e=true)(h3:e.v=3){v:Int}(hv:1<=v/\v<=3):toF e v=tD 3 e v:=by{
unfold toF;rw[if_neg (by rw[h];decide),if_neg qO];simp only[tD];by_cases g:v=3
.rw[if_pos g,if_neg (show ¬ e.v>v by omega)]
rw[if_neg g,if_pos (show e.v>v by omega)];by_cases g1:(zAe e).2≠0
.rw[if_pos g1,if_pos g1]
rw[if_neg g1,if_neg g1];obtain⟨_,_,d3⟩:=zE5 (Decidable.of_not_not g1);by_cases g2:v=2
.rw[if_pos g2,if_neg (show ¬ (zAe e).1.v>v by omega)]
rw[if_neg g2,if_pos (show(zAe e).1.v>v by omega)];by_cases g3:(zAe (zAe e).1).2≠0
.rw[if_pos g3,if_pos g3]
rw[if_neg g3,if_neg g3];obtain⟨_,_,d4⟩:=zE5 (Decidable.of_not_not g3);rw[if_neg (show ¬ (zAe (zAe e).1).1.v>v by omega)]}
theorem zMQ {F:zA}{a:OA}{cap:Nat}(g:Evt->Evt × Int){f:FuncId}{caps:List Value}(hf:Ent prog f)(l:List Evt)(q:Nat->EPt)(hl:l.length<=1000)(w0:World)(hF:Mem w0 F)(hM:EvsM F a cap l q)
  (hg:∀ j,j<l.length->∀ w,Mem w F->Cf f ([Value.agg ((ev_ l j).cells (q j)).toArray]++caps) (zJw (g (ev_ l j))) w) :
  Cf 73 [.slice a l.length cap,.func (.func f) #[] caps.toArray] (CmdR (zCv g l [])) w0:=by{
obtain⟨⟨hnl,hcl,bl,offl,csl,Tl,frl,hsl⟩,hev⟩:=hM;refine eS func73 ntmps73 fun H=>?_;(repeat' first|refine yX ?_|fail);refine zD [(4,6),(8,10),(13,30)] (fun x:EI=>[(6,.slice x.a x.k x.cap),(13,.int .i64 (x.k:Int))]) (fun x w=>x.k<=l.length/\x.o.length=x.k/\zCv g l []=zCv g (l.drop x.k) x.o/\Go.Sk.Own x.M 61 4 x.a x.k x.cap (evX x.o x.q)/\(∀ j,j<x.k->EvtM x.R (ev_ x.o j) (x.q j))/\St w0 (x.M++x.R) w) (fun x=>l.length - x.k) ⟨0,none,0,[],[],[],fun _=>zEN⟩ ⟨rfl,rfl,trivial⟩ ⟨zzD _,rfl,rfl,zWD _ _ _,fun j hj=>absurd hj (zzE _),H⟩ ?_;clear H;rintro⟨k,ao,co,M,R,o,qo⟩ gh w ⟨hk,ho,hr,hO,hQ,H⟩;simp only at hk ho hr hO hQ H ⊢;by_cases hlt:k<l.length;rotate_left
.obtain rfl:k=l.length:=by omega
 have d5:decide ((l.length:Int)<(l.length:Int))=false:=yyc qO;(repeat' first|refine yW ?_|fail);have hro:zCv g l []=(o,0):=by rw[hr,List.drop_length,zCv]
 rw[hro];refine zBH (M:=M++R) rfl rfl H ⟨ao,co,qo,by simp only[ho],?_,fun j hj=>?_⟩
 .simp only;rw[ho];unfold evX at hO;rw[ho] at hO;exact hO.sl (yyi _ _) (fun _ _=>rfl) qO
 .exact(hQ j (by simp only at hj;omega)).mono (zz8 _ _)
have d5:decide ((k:Int)<(l.length:Int))=true:=yyb qO;rw[zQ5 hlt,zCv] at hr;have hc:=hg k hlt;obtain⟨⟨x,n⟩,hx⟩:∃ r,g (ev_ l k)=r:=⟨_,rfl⟩;rw[hx] at hr hc;simp only at hr;by_cases hn:n=0;rotate_left
.have d6:(n != 0)=true:=by simpa using hn
 rw[if_pos hn] at hr;rw[hr];(repeat' first|refine yW ?_|(refine yB ?_;intro b w H)|(refine y11 sg H ?_;intro w H)|refine x40 sg hsl ?_|refine x42 sg hsl (H.memF hF) ?_|(refine OX.callF rfl rfl (zAq hf rfl rfl rfl) (hc _ (H.memF hF)) ?_;intro v M3 w hR hS;replace H:=H.addR hS;clear hS;obtain⟨q3,rfl,hE3⟩:=hR;(try simp only[zca,zcb] at H))|fail);exact zBH (M:=[]) rfl rfl (H.sub (zz9 _)) (zJy n)
.subst hn;rw[if_neg (fun h=>h rfl)] at hr;(repeat' first|refine yW ?_|(refine yB ?_;intro b w H)|(refine y11 sg H ?_;intro w H)|refine x40 sg hsl ?_|refine x42 sg hsl (H.memF hF) ?_|(refine OX.callF rfl rfl (zAq hf rfl rfl rfl) (hc _ (H.memF hF)) ?_;intro v M3 w hR hS;replace H:=H.addR hS;clear hS;obtain⟨q3,rfl,hE3⟩:=hR;(try simp only[List.cons_append,List.nil_append,yyh] at H))|(refine zBA sg H ?_;intro b w H _)|(have hp:=H.perm (yyf [_,_,_] M (R++M3));refine zY sg 4 56 (M:=M) hp rfl rfl rfl rfl rfl rfl rfl rfl rfl rfl rfl hO (zh hp.mem (zz3 _ (zz2 _))) rfl (zx rfl) (by unfold maxLen;omega) qO ?_;clear hp hO;intro a1 c1 M4 w hO H;replace H:=H.perm (yyf M4 [_,_,_] (R++M3)))|fail);have hO2:Go.Sk.Own M4 61 4 a1 (k+1) c1 (evX o qo++x.cells q3):=hO;rw[zHO,ho] at hO2;refine zC ⟨k+1,a1,c1,M4,R++M3,o++[x],zHL k qo q3⟩ rfl ⟨rfl,zU qO,trivial⟩ ⟨hlt,by rw[yy4,ho];rfl,hr,hO2,fun j hj=>?_,H.sub (yy6 _ (yy6 _ (yy6 _ (yy7 _))))⟩ (by show l.length - (k+1)<l.length - k;omega);show EvtM (R++M3) (ev_ (o++[x]) j) (if j<k then qo j else q3);by_cases hjk:j<k
 .rw[if_pos hjk,zHM (by rw[ho];exact hjk)];exact(hQ j hjk).mono (yyi _ _)
 .obtain rfl:j=k:=by have:j<k+1:=hj;omega
  rw[if_neg hjk];have:ev_ (o++[x]) j=x:=by rw[<- ho];exact zHN
  rw[this];exact hE3.mono (zz8 _ _)}
theorem zWB {m t:Mrk}{l:List Evt}(h:DoneP m t l):zBB m l=(t,0):=by{
have hb:zHG l=true:=zGB.2 ⟨h.len,fun e he=>⟨?_,(h.evs e he).2⟩⟩
.have hn:zC2 l []=(l,0):=by rw[zHR l [] fun e he=>(h.evs e he).2,List.nil_append];refine congrArg (·,0) ((List.map_congr_left fun e he=>?_).trans (List.map_id _));exact congrArg Prod.fst (zJ3 (h.evs e he).2 (h.evs e he).1)
 unfold zBB;have:=h.room;rw[if_neg qO,if_neg (by rw[hb];decide),hn,if_neg (fun g=>g rfl),h.all,if_neg (fun g=>g rfl),<- h.next]
.cases l with
 | nil=>cases he
 | cons a r=>exact(h.evs e he).1.trans (h.evs a (zz2 _)).1.symm}
theorem zXw {m t:Mrk}{l:List Evt}(h:DoneP m t l){v:Int}(hv:v=1\/v=2\/v=3):zBB m (zGh l v).2=(t,0):=by{
have h3:∀ e∈l,e.v=3:=fun e he=>(h.evs e he).1;have hd:=zWB h;unfold zGh;by_cases g:(zB0 v l []).2=0
.rw[if_pos g];exact(zRD h3 g h.len m).1.trans hd
rw[if_neg g];by_cases g1:v=1
.rw[if_pos g1];by_cases g2:(zB0 2 l []).2=0
 .rw[if_pos g2];exact(zRD h3 g2 h.len m).1.trans hd
 .rw[if_neg g2];exact hd
.rw[if_neg g1];exact hd}
theorem zN8 (v:Int):∀ (l o:List Evt),zB0 v l o=zCv (fun e=>toF e v) l o
 | [],o=>rfl
 | e::l,o=>by unfold zB0 zCv;rw[zN8 v l]
theorem tos_3:∀ (l o:List Evt),(∀ e∈l,zk e=true/\e.v=3)->zB0 3 l o=(o++l,0)
 | [],o,_=>by unfold zB0;rw[List.append_nil]
 | e::l,o,h=>by
   have he:toF e 3=(e,0):=by
    unfold toF
    rw[if_neg (by rw[(h e (List.Mem.head _)).1];decide),if_neg (by decide),if_pos rfl]
   unfold zB0
   rw[he,if_neg (fun g=>g rfl),tos_3 l _ fun x hx=>h x (List.mem_cons_of_mem _ hx),yyh]
   rfl
theorem zRE {l:List Evt}{v:Int}(h:(zB0 v l []).2=0):zGh l v=(v,(zB0 v l []).1):=by unfold zGh;rw[if_pos h]
theorem zWC {l:List Evt}{v:Int}(hl:∀ e∈l,zk e=true/\e.v=3)(hv:1<=v/\v<=3)(h:(zB0 v l []).2≠0):v<3/\zGh l v=zGh l (v+1):=by{
have h3:=tos_3 l [] hl;have hv3:v≠3:=fun e=>h (by rw[e,h3]);refine⟨by omega,?_⟩;obtain rfl|rfl:v=1\/v=2:=by omega
.unfold zGh;rw[if_neg h,if_pos rfl];show _=if (zB0 2 l []).2=0 then _ else _
 by_cases g:(zB0 2 l []).2=0
 .rw[if_pos g];exact(if_pos g).symm
 .rw[if_neg g];exact((if_neg g).trans (if_neg (by decide))).symm
.rw[zRE (show(zB0 (2+1) l []).2=0 from congrArg Prod.snd h3)];unfold zGh;rw[if_neg h,if_neg (by decide)];exact congrArg (Prod.mk (3:Int)) (show l=(zB0 3 l []).1 by rw[h3];rfl)}
def LowR (r:Int × List Evt)(M:zA)(z:Value):Prop:=∃ a cap q,z=.tuple #[.int .u8 r.1,.slice a r.2.length cap,.int .i64 0]/\EvsM M a cap r.2 q
theorem zXx {F:zA}(e:Evt)(q:EPt)(he:zAr e)(w0:World)(hF:Mem w0 F)(hK:KinM F)(hE:EvtM F e q) :
  Cr 72 [.agg (e.cells q).toArray] (.bool (!zk e)) w0:=by have hmay:=fun w (hG:Mem w F)=>zEo e q he w hG hK hE;refine eS func72 ntmps72 fun H=>?_;(repeat' first|refine yW ?_|(refine yB ?_;intro b w H)|(refine c0 zD7 ?_;refine⟨_,hmay _ (H.memF hF),?_⟩;clear H;intro w H)|fail);all_goals exact zG rfl H.cl rfl
theorem zXy {F:zA}(e:Evt)(q:EPt)(he:zAr e)(hm:zk e=true)(h3:e.v=3)(v:Int)(hv:1<=v/\v<=3){b3:Nat}(w0:World)(hF:Mem w0 F)(hK:KinM F)(hE:EvtM F e q)(hb:cb b3 [.int .u8 v] 5∈F) :
  Cf 74 [.agg (e.cells q).toArray,(pt b3)] (zJw (toF e v)) w0:=by have hto:=fun w (hG:Mem w F)=>zVv e q he v (fun _=>by omega) w hG hK hE;rw[hm,if_neg (by decide),<- to_tD hm h3 hv] at hto;refine eS func74 ntmps74 fun H=>?_;(repeat' first|refine yW ?_|(refine yB ?_;intro b w H)|(refine y11 sg H ?_;intro w H)|refine z13 (zF sg rfl rfl (H.memF hF) hb rfl rfl) ?_|(refine f0 zMf ?_;refine⟨_,hto _ (H.memF hF),?_⟩;clear H;intro z M w hR H;(try simp only[zca,zcb] at H);obtain⟨q1,rfl,hE1⟩:=hR)|fail);exact zc (vs:=[_,_]) (M:=M) ⟨zg sg rfl H.mem qB rfl rfl,zP rfl,trivial⟩ (H.sub (yy6 _ (yy6 _ (yy7 _)))) ⟨q1,rfl,hE1⟩
theorem zSs {F:zA}{a:OA}{cap:Nat}{l:List Evt}{q:Nat->EPt}(hl:l.length<=1000)(hT:∀ e∈l,zAr e/\zk e=true/\e.v=3)(v:Int)(hv:1<=v/\v<=3)(w0:World)(hF:Mem w0 F)(hK:KinM F)(hs:EvsM F a cap l q) :
  Cf 32 [.slice a l.length cap,.int .u8 v] (LowR (zGh l v)) w0:=by{
have hct:=fun w (hG:Mem w F)=>zHT (caps:=[]) (fun j=>!zk (ev_ l j)) w hG hs.1 ent72 (fun j hj w' hw=>zXx _ (q j) (hT _ (zDc hj)).1 w' (hG.ext hw) hK (hs.2 j hj));have hany:l.any (fun e=>!zk e)=false:=by rw[List.any_eq_false];intro e he;rw[(hT e he).2.1];decide
rw[zN4 l (fun e=>!zk e),hany] at hct;have hea:=fun(u:Int) (hu:1<=u/\u<=3) {G:zA} {b3:Nat} w (hG:Mem w (G++F)) (hb:cb b3 [.int .u8 u] 5∈G)=>zMQ (caps:=[(pt b3)]) (fun e=>toF e u) ent74 l q hl w hG (hs.mono (zz8 _ _)) (fun j hj w' hw=>zXy _ (q j) (hT _ (zDc hj)).1 (hT _ (zDc hj)).2.1 (hT _ (zDc hj)).2.2 u hu w' hw (hK.mono (zz8 _ _)) ((hs.2 j hj).mono (zz8 _ _)) (zz6 _ hb));simp only[<- zN8] at hea;refine eS func32 ntmps32 fun H=>?_;(repeat' first|refine yW ?_|(refine yB ?_;intro b w H)|(refine c0 ent71 ?_;refine⟨_,hct _ (H.memF hF),?_⟩;clear H;intro w H)|fail);refine zD [(4,8),(11,28)] (fun _:Int=>[]) (fun u w=>(1<=u/\u<=3)/\zGh l v=zGh l u/\St w0 [cb b [.int .u8 u] 5] w) (fun u=>(3 - u).toNat) v trivial ⟨hv,rfl,H⟩ ?_;clear H;rintro u gh w ⟨hu,hlu,H⟩;have d1:decide (u >= 1)=true:=yyb hu.1;have d2:decide (u<=3)=true:=yyb hu.2;have hcu:=@hea u hu;by_cases h0:(zB0 u l []).2=0
.rw[hlu,zRE h0];obtain⟨⟨o,n⟩,ho⟩:∃ r,zB0 u l []=r:=⟨_,rfl⟩;rw[ho] at hcu h0 ⊢;obtain rfl:n=0:=h0;(repeat' first|refine yW ?_|(refine f0 ent73 ?_;refine⟨_,hcu _ (H.all hF) qB,?_⟩;clear H;intro z M w hR H;(try simp only[zca,zcb] at H);obtain⟨a1,c1,q1,rfl,hE1⟩:=hR)|fail);exact zc (vs:=[_,_,_]) (M:=M) ⟨zP rfl,zP rfl,zP rfl,trivial⟩ (H.sub (yy6 _ (yy7 _))) ⟨a1,c1,q1,rfl,hE1⟩
.obtain⟨hu3,hlow⟩:=zWC (fun e he=>(hT e he).2) hu h0;rw[hlow] at hlu;obtain⟨⟨o,n⟩,ho⟩:∃ r,zB0 u l []=r:=⟨_,rfl⟩;rw[ho] at hcu h0;have d3:(n==0)=false:=beq_eq_false_iff_ne.2 h0;have ew:IntKind.u8.wrap (u+1)=u+1:=zML qO qO;(repeat' first|refine yW ?_|(refine y11 sg H ?_;intro w H)|(refine f0 ent73 ?_;refine⟨_,hcu _ (H.all hF) qB,?_⟩;clear H;intro z M w hR H;(try simp only[zca,zcb] at H);obtain⟨a1,c1,q1,rfl,hE1⟩:=hR)|fail);rw[ew] at H;exact zC (u+1) rfl trivial ⟨⟨by omega,by omega⟩,hlu,H.sub (List.Sublist.cons₂ _ (zz9 _))⟩ qO}
end
section
open Go Go.Sk Go.RowKit Go.ChangeShapes Go.WideShapes Go.Proofs.Tryz
attribute [local irreducible] Go.Calls
section
variable {H:Type}{enc:TypeId × Value->H}{w:World}
theorem rz_u8 {cs:List Value}(h:Rz enc prog w 5 cs):∃ x:Int,cs=[.int .u8 x]/\0<=x/\x<=255:=by obtain⟨i,rfl,hi⟩:=Rd.int (Rz.rd h) (sg.desc rfl rfl);have:=zNN hi;exact⟨i,rfl,by omega,by omega⟩
set_option maxRecDepth 20000 in
theorem zXz {v:Value}{d:DataW H}{p:List MemPlace}(h:DataW.Trod enc prog w 0 (fun _=>true) true 67 v d p)(hz:∀ n∈d.weights prog 67,n<=reachBytes)(hv:Value.okWide prog w .any 0 67 v) :
  ∃ (l:List Int) (a:OA) (cap:Nat),v=.slice a l.length cap/\SlA (zDD w) 1 a l.length cap (fun j=>[Value.int .u8 (l.getD j 0)])/\∀ x∈l,0<=x/\x<=255:=by obtain⟨a,len,cap,rfl⟩:=Go.WideShapes.okWide_slice (sg.desc rfl rfl) hv;have hR:Rz enc prog w 67 [.slice a len cap]:=Rz.of h hz;obtain⟨a,len,cap,e,hs⟩:=Rz.slice hR (sg.desc rfl rfl) (sg.ncells rfl rfl) (sg.nbytes rfl rfl);cases e;obtain⟨l,rfl,hm,hp⟩:=hs.named (el:=fun x:Int=>[.int .u8 x]) (fun _=>rz_u8);refine⟨l,a,cap,rfl,hm,fun x hx=>?_⟩;obtain⟨j,hj,rfl⟩:=List.getElem_of_mem hx;have:=hp j hj;rw[yy2,yy1 hj] at this;exact this
end
end
section
open Go Go.Sk Go.RowKit Go.Proofs.Tryz
attribute [local irreducible] Go.Calls
theorem tD_t (v:Int):∀ (k:Nat) (x:Evt),zAr x->(tD k x v).2=0->zAr (tD k x v).1
 | 0,_,h,_=>h
 | k+1,x,h,h0=>by
   unfold tD at h0 ⊢
   by_cases g:x.v>v
   .rw[if_pos g] at h0 ⊢
    by_cases g1:(zAe x).2≠0
    .rw[if_pos g1] at h0;exact absurd h0 g1
    .rw[if_neg g1] at h0 ⊢
     exact tD_t v k _ (zVt h (Decidable.of_not_not g1)) h0
   .rw[if_neg g];exact h
theorem low_t {l:List Evt}(hl:∀ e∈l,zAr e/\zk e=true/\e.v=3){v:Int}(hv:1<=v/\v<=3):∀ e∈(zGh l v).2,zAr e:=by{
have hu:∀ u,1<=u/\u<=3->(zB0 u l []).2=0->∀ e∈(zB0 u l []).1,zAr e:=fun u hu h e he=>by obtain⟨h1,h2⟩:=zPm [] h;rw[h1,List.nil_append] at he;obtain⟨x,hx,rfl⟩:=List.mem_map.1 he;have h3:=h2 x hx;obtain⟨g1,g2,g3⟩:=hl x hx;rw[to_tD g2 g3 hu] at h3 ⊢;exact tD_t u 3 x g1 h3
unfold zGh;split
.exact hu v hv (by assumption)
.split
 .split
  .exact hu 2 (by decide) (by assumption)
  .exact fun e he=>(hl e he).1
 .exact fun e he=>(hl e he).1}
theorem sub_p {x y:Nat × Obj}{N Y G F:zA}(h:G⊆N++F):Y++G⊆(x::y::(N++Y))++F:=fun z hz=>by{
simp only[List.mem_append,List.cons_append,List.mem_cons];rcases List.mem_append.1 hz with g|g
.simp[g]
.rcases List.mem_append.1 (h g) with g|g<;>simp[g]}
theorem sub_q {x y:Nat × Obj}{N Y G F:zA}(h:G⊆N++F):G⊆(x::y::(N++Y))++F:=fun _ hz=>sub_p h (zz3 _ hz)
theorem sub_r {N Y G F:zA}(h:G⊆N++F):Y++G⊆(N++Y)++F:=fun z hz=>by{
simp only[List.mem_append];rcases List.mem_append.1 hz with g|g
.simp[g]
.rcases List.mem_append.1 (h g) with g|g<;>simp[g]}
theorem sub_s {x:Nat × Obj}{N G F:zA}(h:G⊆N++F):G⊆(x::N)++F:=fun _ hz=>zz5 _ (h hz)
structure RpI where
 i:Nat
 m:Mrk
 p1:SPt
 p2:SPt
 N:zA
 G1:zA
 G2:zA
set_option maxRecDepth 20000 in
theorem zSt {F:zA}{a av:OA}{cap capv:Nat}(s:Sta)(p:SPt)(n:Int)(l:List Cmd)(q:Nat->CPt)(vs:List Int)(hA:StaA s)(hT:∀ c∈l,zGG c)(hvs:∀ x∈vs,0<=x/\x<=255)(w0:World)(hF:Mem w0 F)(hP:PriM F)(hK:KinM F)(hC:ComM F)(hs:StaM F s p)(hM:CmsM F a cap l q)(hV:SlA F 1 av vs.length capv (fun j=>[Value.int .u8 (vs.getD j 0)])) :
  Cr 8 [.agg (s.cells p).toArray,.int .i64 n,.slice a l.length cap,.slice av vs.length capv] (.bool true) w0:=by{
have haw:=fun w (hG:Mem w F)=>zFs w hG hP hK hC;have hlg:=fun w (hG:Mem w F)=>zGC s p hA.acN hA.insN w hG hs;by_cases hg:zCx s=false/\decide ((l.length:Int)>40)=false;rotate_left
.cases h1:zCx s with
 | true =>
   rw[h1] at hlg;refine eS func8 ntmps8 fun H=>?_;(repeat' first|refine yW ?_|(refine yB ?_;intro b w H)|(refine c0 zCc ?_;refine⟨_,hlg _ (H.memF hF),?_⟩;clear H;intro w H)|(refine c0 zEU ?_;refine⟨_,haw _ (H.memF hF),?_⟩;clear H;intro w H)|fail);exact zG rfl H.cl rfl
 | false =>
 cases h2:decide ((l.length:Int)>40) with
 | true =>
   rw[h1] at hlg;refine eS func8 ntmps8 fun H=>?_;(repeat' first|refine yW ?_|(refine yB ?_;intro b w H)|(refine c0 zCc ?_;refine⟨_,hlg _ (H.memF hF),?_⟩;clear H;intro w H)|(refine c0 zEU ?_;refine⟨_,haw _ (H.memF hF),?_⟩;clear H;intro w H)|fail);exact zG rfl H.cl rfl
 | false=>exact absurd ⟨h1,h2⟩ hg
obtain⟨h1,h2⟩:=hg;rw[h1] at hlg;have hW:=zIo (zCt h1) hA.rw;have hL:=zHV (zCt h1);by_cases he:ofE s n=0;rotate_left
.have ho:=fun w (hG:Mem w F)=>zGg s p n hW he w hG hs;have d1:(ofE s n != 0)=true:=by simpa using he
 refine eS func8 ntmps8 fun H=>?_;(repeat' first|refine yW ?_|(refine yB ?_;intro b w H)|(refine c0 zCc ?_;refine⟨_,hlg _ (H.memF hF),?_⟩;clear H;intro w H)|(refine c0 zEU ?_;refine⟨_,haw _ (H.memF hF),?_⟩;clear H;intro w H)|(refine c0 zDk ?_;refine⟨_,ho _ (H.memF hF),?_⟩;clear H;intro w H)|fail);exact zG rfl H.cl rfl
have ho:=fun w (hG:Mem w F)=>zHw s p n hW hL he w hG hs;have hok:=zJu he;have hcp:=fun{w:World} {G:zA} {b:Nat} (hG:Mem w G) (h:MkM G b ⟨s,n⟩)=>zHK (zBJ hok.good) w hG h;obtain⟨⟨hn,hc,b0,off,cs,T,fr,hsl⟩,hnm⟩:=hM;obtain⟨hnv,hcv,bv,offv,csv,Tv,frv,hsv⟩:=hV;refine eS func8 ntmps8 fun H=>?_;(repeat' first|refine yW ?_|(refine yB ?_;intro b w H)|(refine c0 zCc ?_;refine⟨_,hlg _ (H.memF hF),?_⟩;clear H;intro w H)|(refine c0 zEU ?_;refine⟨_,haw _ (H.memF hF),?_⟩;clear H;intro w H)|(refine f0 zDk ?_;refine⟨_,ho _ (H.memF hF),?_⟩;clear H;intro v M w hR H;(try simp only[zca,zcb] at H);obtain⟨_,rfl,bm,p1,N1,rfl,rfl,hs1⟩:=hR;replace H:=H.perm (List.Perm.swap _ _ _))|(refine f0 zH9 ?_;refine⟨_,hcp (H.all hF) ⟨p1,zz2 _,hs1.mono (by intro z hz;simp[hz])⟩,?_⟩;clear H;intro v M w hR H;(try simp only[zca,zcb] at H);obtain⟨bo,p2,N2,rfl,rfl,hs2⟩:=hR)|fail);replace H:=H.perm ((List.Perm.cons _ ((List.Perm.cons _ List.perm_middle).trans (List.Perm.swap _ _ _))));refine zD [(8,8),(12,18),(43,106)] (fun x:RpI=>[(12,.int .i64 (x.i:Int))]) (fun x w=>x.i<=l.length/\MkOk x.m/\x.G1⊆x.N++F/\x.G2⊆x.N++F/\StaM x.G1 x.m.s x.p1/\StaM x.G2 x.m.s x.p2/\St w0 (cb bm (mrk x.m x.p1) 74::cb bo (mrk x.m x.p2) 74::x.N) w) (fun x=>l.length - x.i) ⟨0,⟨s,n⟩,p1,p2,_::(N1++N2),N1,N2⟩ ⟨rfl,trivial⟩ ⟨zzD _,hok,(by intro z hz;simp[hz]),(by intro z hz;simp[hz]),hs1,hs2,H⟩ ?_;clear H hs1 hs2 hok hcp;rintro⟨i,m,p1,p2,N,G1,G2⟩ gh w ⟨hi,hok,hG1,hG2,hS1,hS2,H⟩;simp only at hi hok hG1 hG2 hS1 hS2 H ⊢;by_cases hlt:i<l.length;rotate_left
.obtain rfl:i=l.length:=by omega
 have d5:decide ((l.length:Int)<(l.length:Int))=false:=yyc qO;(repeat' first|refine yW ?_|fail);exact zG rfl H.cl rfl
have d5:decide ((i:Int)<(l.length:Int))=true:=yyb qO;have hod:=fun w=>zMM (na:=(q i).1) (nc:=(q i).2) (cm_ l i) w;have hni:=hnm i hlt;cases ho:zPi (cm_ l i) with
| true =>
  rw[ho] at hod;(repeat' first|refine yW ?_|refine x40 sg hsl ?_|refine x42 sg hsl (H.memF hF) ?_|(refine c0 zE8 ?_;refine⟨_,hod _,?_⟩;clear H;intro w H)|fail);exact zG rfl H.cl rfl
| false =>
rw[ho] at hod;have hdo:=fun{w:World} (H:St w0 (cb bm (mrk m p1) 74::cb bo (mrk m p2) 74::N) w)=>zJ1 (c:=cm_ l i) (na:=(q i).1) (nc:=(q i).2) H hF hP hK hC hok (sub_s hG1) hS1 (hT _ (zPg hlt)) (SlA.mono hni (zz8 _ _));unfold MDoG at hdo;have hokt:=zMP (c:=cm_ l i) hok;have herr:=fun h=>zHU (m:=m) (c:=cm_ l i) h;have hdone:=fun h=>zH4 (m:=m) (c:=cm_ l i) (t:=(mDo m (cm_ l i)).1) (l:=(mDo m (cm_ l i)).2.1) (Prod.ext rfl (Prod.ext rfl h));obtain⟨⟨t,es,k⟩,hr⟩:∃ r,mDo m (cm_ l i)=r:=⟨_,rfl⟩;rw[hr] at hdo hokt herr hdone;simp only at hdo hokt herr hdone;have hst:=fun{w:World} {G:zA} {b1 b2:Nat} (hG:Mem w G) (h1:MkM G b1 t) (h2:MkM G b2 t)=>zF9 w hG h1 h2;rw[zC9.2 rfl] at hst;by_cases hk0:k=0;rotate_left
.have d6:(k != 0)=true:=by simpa using hk0
 obtain⟨rfl,rfl⟩:=herr hk0;(repeat' first|refine yW ?_|refine x40 sg hsl ?_|refine x42 sg hsl (H.memF hF) ?_|(refine c0 zE8 ?_;refine⟨_,hod _,?_⟩;clear H;intro w H)|(refine' y33 zDj ?_ ?_;rotate_left 2;exact hdo H;rintro v M w ⟨p3,a3,c3,q3,Y1,rfl,rfl,hE1,hs1⟩ H2;clear H;have H:=H2;clear H2;simp only[zca] at H)|(refine c0 zDE ?_;refine⟨_,hst (b1:=bm) (b2:=bo) (H.all hF) ⟨p3,zz2 _,hs1.mono (sub_p hG1)⟩ ⟨p2,zz5 _ (zz2 _),hS2.mono (sub_q hG2)⟩,?_⟩;clear H;intro w H)|fail);exact zC ⟨i+1,t,p3,p2,N++Y1,Y1++G1,G2⟩ rfl ⟨zU qO,trivial⟩ ⟨hlt,hok,sub_r hG1,(fun z hz=>sub_r hG2 (zz3 _ hz)),hs1,hS2,H⟩ (by show l.length - (i+1)<l.length - i;omega)
subst hk0;replace hdone:=hdone rfl;have hTe:∀ e∈es,zAr e/\zk e=true/\e.v=3:=fun e he=>⟨zHQ (hdone.evs e he).1 (hdone.evs e he).2,(hdone.evs e he).2,(hdone.evs e he).1⟩;have hlo:=fun(f:Int) (hf:1<=f/\f<=3) {w:World} {G:zA} {a:OA} {cap:Nat} {q:Nat->EPt} (hG:Mem w (G++F)) (hE:EvsM G a cap es q)=>zSs (by have:=hdone.len.2;omega) hTe f hf w hG (hK.mono (zz8 _ _)) (hE.mono (yyi _ _));have hba:∀ (f:Int) (_:1<=f/\f<=3) {w:World} {N':zA} {a:OA} {cap:Nat} {q:Nat->EPt},G2⊆N'++F->EvsM (N'++F) a cap (zGh es f).2 q->St w0 (cb bo (mrk m p2) 74::N') w->Calls prog 25 [(pt bo),.slice a (zGh es f).2.length cap].toArray w (zZ (MBaG G2 bo N' (t,0)) w0):=by intro f hf w N' a cap q h1 h2 H;have:=zEP H hF hP hK hok h1 hS2 (low_t hTe hf) h2;rw[zXw hdone qO] at this;exact this
unfold MBaG at hba;by_cases hv0:0<vs.length;rotate_left
.have d9:decide ((vs.length:Int)>0)=false:=yyc qO;(repeat' first|refine yW ?_|refine x40 sg hsl ?_|refine x42 sg hsl (H.memF hF) ?_|(refine c0 zE8 ?_;refine⟨_,hod _,?_⟩;clear H;intro w H)|(refine' y33 zDj ?_ ?_;rotate_left 2;exact hdo H;rintro v M w ⟨p3,a3,c3,q3,Y1,rfl,rfl,hE1,hs1⟩ H2;clear H;have H:=H2;clear H2;simp only[zca] at H)|(refine f0 ent32 ?_;refine⟨_,hlo _ (by decide) (H.all hF) (hE1.mono (by intro z hz;simp[hz])),?_⟩;clear H;intro v M5 w hR H;(try simp only[zca,zcb] at H);obtain⟨a4,c4,q4,rfl,hE4⟩:=hR)|(have hp:=H.perm (List.Perm.swap _ _ _);refine' y33 zE9 ?_ ?_;rotate_left 2;exact hba _ (by decide) (fun z g=>(List.mem_append.1 (hG2 g)).elim (fun g=>by simp[g]) (fun g=>by simp[g])) (hE4.mono (by intro z hz;simp[hz])) hp;rintro v M w ⟨p6,Y3,rfl,rfl,hs6⟩ H2;clear H hp;have H:=H2;clear H2;simp only[zca] at H)|(refine c0 zDE ?_;refine⟨_,hst (b1:=bm) (b2:=bo) (H.all hF) ⟨p3,zz5 _ (zz2 _),hs1.mono (fun z hz=>(List.mem_append.1 hz).elim (fun g=>by simp[g]) (fun g=>(List.mem_append.1 (hG1 g)).elim (fun g=>by simp[g]) (fun g=>by simp[g])))⟩ ⟨p6,zz2 _,hs6.mono (fun z hz=>(List.mem_append.1 hz).elim (fun g=>by simp[g]) (fun g=>(List.mem_append.1 (hG2 g)).elim (fun g=>by simp[g]) (fun g=>by simp[g])))⟩,?_⟩;clear H;intro w H)|fail);refine zC ⟨i+1,t,p3,p6,_,Y1++G1,Y3++G2⟩ rfl ⟨zU qO,trivial⟩ ⟨hlt,hokt,?_,?_,hs1,hs6,H.perm (List.Perm.swap _ _ _)⟩ (by show l.length - (i+1)<l.length - i;omega)
 .exact(fun z hz=>(List.mem_append.1 hz).elim (fun g=>by simp[g]) (fun g=>(List.mem_append.1 (hG1 g)).elim (fun g=>by simp[g]) (fun g=>by simp[g])))
 .exact(fun z hz=>(List.mem_append.1 hz).elim (fun g=>by simp[g]) (fun g=>(List.mem_append.1 (hG2 g)).elim (fun g=>by simp[g]) (fun g=>by simp[g])))
.have d9:decide ((vs.length:Int)>0)=true:=yyb qO;have hkl:=Nat.mod_lt i hv0;have erm:(i:Int).tmod (vs.length:Int)=((i % vs.length:Nat):Int):=by rw[Int.tmod_eq_emod_of_nonneg qO];rfl
 have hkk:((i:Int).tmod (vs.length:Int)).toNat=i % vs.length:=by rw[erm];rfl
 have hq0:0<=(i:Int).tmod (vs.length:Int):=by rw[erm];omega
 have hq1:(i:Int).tmod (vs.length:Int)<(vs.length:Int):=by rw[erm];omega
 have hx:=hvs (vs.getD (i % vs.length) 0) (by rw[yy2,yy1 hkl];exact List.getElem_mem hkl);have hf2:1<=IntKind.u8.wrap (1+(vs.getD (i % vs.length) 0).tmod 3)/\IntKind.u8.wrap (1+(vs.getD (i % vs.length) 0).tmod 3)<=3:=by have e3:=Int.tmod_eq_emod_of_nonneg (b:=3) hx.1;rw[e3,zML qO qO];omega
 (repeat' first|refine yW ?_|refine x40 sg hsl ?_|refine x42 sg hsl (H.memF hF) ?_|(refine c0 zE8 ?_;refine⟨_,hod _,?_⟩;clear H;intro w H)|(refine' y33 zDj ?_ ?_;rotate_left 2;exact hdo H;rintro v M w ⟨p3,a3,c3,q3,Y1,rfl,rfl,hE1,hs1⟩ H2;clear H;have H:=H2;clear H2;simp only[zca] at H)|refine z13 (Yq.rem rfl rfl rfl qO) ?_|refine z13 (zAO sg hsv rfl rfl rfl rfl rfl rfl rfl hkk hq0 hq1) ?_|refine z13 (zLB sg hsv (H.memF hF) hkl) ?_|(refine f0 ent32 ?_;refine⟨_,hlo _ hf2 (H.all hF) (hE1.mono (by intro z hz;simp[hz])),?_⟩;clear H;intro v M5 w hR H;(try simp only[zca,zcb] at H);obtain⟨a4,c4,q4,rfl,hE4⟩:=hR)|(have hp:=H.perm (List.Perm.swap _ _ _);refine' y33 zE9 ?_ ?_;rotate_left 2;exact hba _ hf2 (fun z g=>(List.mem_append.1 (hG2 g)).elim (fun g=>by simp[g]) (fun g=>by simp[g])) (hE4.mono (by intro z hz;simp[hz])) hp;rintro v M w ⟨p6,Y3,rfl,rfl,hs6⟩ H2;clear H hp;have H:=H2;clear H2;simp only[zca] at H)|(refine c0 zDE ?_;refine⟨_,hst (b1:=bm) (b2:=bo) (H.all hF) ⟨p3,zz5 _ (zz2 _),hs1.mono (fun z hz=>(List.mem_append.1 hz).elim (fun g=>by simp[g]) (fun g=>(List.mem_append.1 (hG1 g)).elim (fun g=>by simp[g]) (fun g=>by simp[g])))⟩ ⟨p6,zz2 _,hs6.mono (fun z hz=>(List.mem_append.1 hz).elim (fun g=>by simp[g]) (fun g=>(List.mem_append.1 (hG2 g)).elim (fun g=>by simp[g]) (fun g=>by simp[g])))⟩,?_⟩;clear H;intro w H)|fail);refine zC ⟨i+1,t,p3,p6,_,Y1++G1,Y3++G2⟩ rfl ⟨zU qO,trivial⟩ ⟨hlt,hokt,?_,?_,hs1,hs6,H.perm (List.Perm.swap _ _ _)⟩ (by show l.length - (i+1)<l.length - i;omega)
 .exact(fun z hz=>(List.mem_append.1 hz).elim (fun g=>by simp[g]) (fun g=>(List.mem_append.1 (hG1 g)).elim (fun g=>by simp[g]) (fun g=>by simp[g])))
 .exact(fun z hz=>(List.mem_append.1 hz).elim (fun g=>by simp[g]) (fun g=>(List.mem_append.1 (hG2 g)).elim (fun g=>by simp[g]) (fun g=>by simp[g])))}
end
section
open Go Go.Sk Go.RowKit Go.ChangeShapes Go.WideShapes Go.Proofs.Tryz
attribute [local irreducible] Go.Calls
set_option maxRecDepth 100000 in
theorem marketReplay_calls {H:Type}{enc:TypeId × Value->H}{W:World}{args:Array Value}{ds:List (DataW H)}{p:List MemPlace}
  (hA:DataW.TrodAll enc prog W 0 (fun _=>true) true [40,2,22,67] args.toList ds p) (hz:∀ (j:Nat) t d,([40,2,22,67]:List TypeId)[j]?=some t->ds[j]?=some d->∀ n∈d.weights prog t,n<=reachBytes) (hv:∀ (j:Nat) t v,([40,2,22,67]:List TypeId)[j]?=some t->args[j]?=some v->Value.okWide prog W .any 0 t v) (hL:laidMetH prog zBN W) :
  Calls prog 8 args W (Ret (.bool true) W):=by obtain⟨v0,v1,v2,v3,d0,d1,d2,d3,r0,r1,r2,r3,rfl,rfl,rfl,h0,h1,h2,h3⟩:=zF7 hA;obtain⟨s0,p0,rfl,hM0,hA0⟩:=zIi h0 (hz 0 _ _ rfl rfl) (hv 0 _ _ rfl rfl);obtain⟨x1,rfl,hx1⟩:=zIj (sg.desc rfl rfl) h1 (hv 1 _ _ rfl rfl);obtain⟨l2,a2,cap2,q2,rfl,hE2,hT2⟩:=zJr h2 (hz 2 _ _ rfl rfl) (hv 2 _ _ rfl rfl);obtain⟨l3,a3,cap3,rfl,hE3,hT3⟩:=zXz h3 (hz 3 _ _ rfl rfl) (hv 3 _ _ rfl rfl);exact zSt s0 p0 x1 l2 q2 l3 hA0 hT2 hT3 W (zFP W) (zJq hL) (zJo hL) (zJp hL) hM0 hE2 hE3
set_option maxRecDepth 100000 in
theorem marketReplay_lifted (os:Os)(started:os.Started)(H:Type)(enc:TypeId × Value->H) :
  ReturnsInHanded {} checked os 8 .any (fun w args=>(Rows.marketReplaySpec.pre enc prog f8 [] false w args/\laidMetH prog zBN w)/\sizedMet enc prog f8 (OpenSpec.ofChange Rows.marketReplaySpec) false w args)
   (Rows.marketReplaySpec.post enc prog f8 false true false false):=by{
refine returnsInHanded_of_change_and (C:=checked) (X:=fun w _=>laidMetH prog zBN w) (fun _ _ _ hh h=>h.of_heap hh) (by kernel_rfl) started (by kernel_rfl) func8
 (ChangeSpec.witness_shaped (enc:=enc) (C:=checked) (os:=os) (X:=fun w _=>laidMetH prog zBN w) false (World.doorLaid prog 600 os) #[.agg #[.int .i64 0,.int .i64 0,.int .i64 0,.int .i64 0,.slice none 0 0,.slice none 0 0,.slice none 0 0,.slice none 0 0,.slice none 0 0],.int .i64 0,.slice none 0 0,.slice none 0 0] 8 rfl (World.shaped_of_RefB (by kernel_rfl) (by kernel_rfl)) (by kernel_rfl) (by kernel_rfl) (by kernel_rfl) (zFl os _)) ?_
intro W base args ds gs before hval hW _ hsz hL _;have hA:DataW.TrodAll enc prog W 0 (fun _=>true) true [40,2,22,67] args.toList ds hW.choose:=hW.choose_spec.choose_spec.1;refine(marketReplay_calls hA (fun j t d h1 h2=>zFQ hsz (Eq.trans ?_ h1) h2) (fun j t v h1 h2=>?_) hL).mono fun e W' ⟨he,hc⟩=>?_
.exact congrArg (fun l:List TypeId=>l[j]?) (by kernel_rfl)
.refine hval j t v (Eq.trans ?_ h1) h2;rw[<- Array.getElem?_toList];exact congrArg (fun l:List TypeId=>l[j]?) (by kernel_rfl)
.have hds:∃ q,hW.choose=q:=⟨_,rfl⟩;obtain⟨q,hq⟩:=hds;rw[hq] at hA;refine⟨_,he,zFO (tb:=4) (by kernel_rfl) rfl (by kernel_rfl) rfl (sg.desc rfl rfl) ?_ hW hc⟩;clear hq;obtain⟨v0,v1,v2,v3,d0,d1,d2,d3,r0,r1,r2,r3,_,rfl,_⟩:=zF7 hA;rfl}
end
end Go.Proofs.YtejhijhnlogikaaGreatDoor
