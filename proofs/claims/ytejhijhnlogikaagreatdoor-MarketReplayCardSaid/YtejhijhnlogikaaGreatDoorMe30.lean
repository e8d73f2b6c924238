/- Steps of the proof. -/
import Derived.Test.YtejhijhnlogikaaGreatDoorMe29
set_option linter.all false
set_option maxHeartbeats 16000000
namespace Go.Proofs.YtejhijhnlogikaaGreatDoor
open Go Go.Sk Go.RowKit Go.Proofs.Tryz
attribute [local irreducible] Go.Calls
def dnO (l:List Rul)(n:List Int)(i:Nat):Option Int:=if 0<=(l.getD i default).frm then some ((n.getD i 0 - (l.getD i default).plus).tdiv (l.getD i default).times) else none
abbrev dnK (l:List Rul)(n:List Int)(k:Nat):List Int:=(List.range k).filterMap (dnO l n)
theorem zXh {l:List Rul}{n:List Int}{k:Nat}(h:0<=(l.getD k default).frm):dnK l n (k+1)=dnK l n k++[(n.getD k 0 - (l.getD k default).plus).tdiv (l.getD k default).times]:=by unfold dnK;rw[yys,List.filterMap_append];simp only[List.filterMap_cons,List.filterMap_nil];rw[show dnO l n k=some _ from if_pos h]
theorem zXi {l:List Rul}{n:List Int}{k:Nat}(h:¬ 0<=(l.getD k default).frm):dnK l n (k+1)=dnK l n k:=by unfold dnK;rw[yys,List.filterMap_append];simp only[List.filterMap_cons,List.filterMap_nil];rw[show dnO l n k=none from if_neg h,List.append_nil]
theorem dn_le (l:List Rul)(n:List Int)(k:Nat):(dnK l n k).length<=k:=Nat.le_trans (List.length_filterMap_le _ _) (Nat.le_of_eq List.length_range)
theorem zSf (v:Int)(c:Nat):1<=(zAu v c).1:=by{
unfold zAu;split
.decide
.split
 .decide
 .split<;>decide}
theorem zVs {e:Evt}{l:List Rul}(h:zk e=true)(hr:zBG (e.v - 1) e.kind=some l):l.length=e.nums.length/\∀ i,i<l.length->(0<=(l.getD i default).plus/\(l.getD i default).plus<=100)/\(0<=(l.getD i default).frm->1<=(l.getD i default).times)/\0<=e.nums.getD i 0/\e.nums.getD i 0<=1125899906842624:=by{
obtain⟨old,tx,hf,hn,hb,_⟩:=zDf h;unfold zBG at hr;cases hg:zAg (e.v - 1) e.kind with
| none=>rw[hg] at hr;cases hr
| some z =>
obtain⟨od,ty⟩:=z;rw[hg] at hr;simp only at hr;split at hr
.cases hr
obtain rfl:=Option.some.inj hr;have ef:(zBT (e.v - 1+1) e.kind).1=old:=by
 rw[Int.sub_add_cancel];unfold zAg at hf;split at hf
 .rw[Option.some.inj hf]
 .cases hf
rw[ef] at hr ⊢;have hll:(zAY (e.v - 1) od old 0).length=old.length:=zDA _ _ _ _;refine⟨hll.trans hn.symm,fun i hi=>?_⟩;rw[hll] at hi;rcases zFq (e.v - 1) od old 0 i (zzD _) hi with g|⟨j,g1,g2,g3⟩
.rw[g];refine⟨?_,fun h=>absurd h (by show ¬ (0:Int)<=-1;decide),hb i hi⟩;unfold zDd;simp only;split<;>decide
.rw[g3];exact⟨(zNz _ _).2,fun _=>zSf _ _,hb i hi⟩}
theorem quo_bd {a t:Int}(h0:-100<=a)(h1:a<=1125899906842624)(ht:1<=t):IntKind.i64.wrap (a.tdiv t)=a.tdiv t:=by have h2:(a.tdiv t).natAbs<=a.natAbs:=Int.natAbs_tdiv_le_natAbs a t;exact w64 qO qO
theorem dn_t {e:Evt}(he:zAr e)(h1:1<=e.v)(l:List Rul):zAr (zDu e l):=⟨⟨by show 0<=e.v - 1;omega,by have:=he.1.2;show e.v - 1<=255;omega⟩,he.2.1,he.2.2⟩
theorem z6d {w0 w:World}{L F:zA}{x y z:Nat × Obj}(H:St w0 L w)(hF:Mem w0 F)(hx:x∈L:=by(repeat (first|exact zz2 _|refine zz5 _ ?_));done)(hy:y∈L:=by(repeat (first|exact zz2 _|refine zz5 _ ?_));done)(hz:z∈L:=by(repeat (first|exact zz2 _|refine zz5 _ ?_));done):Mem w (x::y::z::F):=fun p hp=>by{
rcases List.mem_cons.1 hp with rfl|hp
.exact H.mem _ hx
.exact z6 H hF hy hz _ hp}
theorem zXj {F:zA}(e:Evt)(q:EPt)(he:zAr e)(w0:World)(hF:Mem w0 F)(hK:KinM F)(hE:EvtM F e q) :
  Cf 105 [.agg (e.cells q).toArray] (zJw (zAe e)) w0:=by{
have hmay:=fun w (hG:Mem w F)=>zEo e q he w hG hK hE;cases hm:zk e with
| false =>
  rw[hm] at hmay;rw[show zAe e=(⟨0,0,[],[]⟩,4) from if_pos hm];refine eS func105 ntmps105 fun H=>?_;(repeat' first|refine yW ?_|(refine yB ?_;intro b w H)|(refine y11 sg H ?_;intro w H)|(refine c0 zD7 ?_;refine⟨_,hmay _ (H.memF hF),?_⟩;clear H;intro w H)|fail);exact zc (vs:=[_,_]) (M:=[]) ⟨zg sg rfl H.mem (zz2 _) rfl rfl,zP rfl,trivial⟩ (H.sub (zz9 _)) (zE3 4)
| true =>
rw[hm] at hmay;have hv:=zK0 hm;have ew:IntKind.u8.wrap (e.v - 1)=e.v - 1:=zML qO qO;have hru:∀ w,Mem w F->Cf 106 [.int .u8 (IntKind.u8.wrap (e.v - 1)),.int .u8 e.kind] (RulR (zBG (e.v - 1) e.kind)) w:=by rw[ew];exact fun w hG=>zNy (e.v - 1) e.kind he.2.1 w hG hK
cases hrl:zBG (e.v - 1) e.kind with
| none =>
  rw[hrl] at hru;rw[show zAe e=(⟨0,0,[],[]⟩,43) by unfold zAe;rw[hm,if_neg (by decide),hrl]];refine eS func105 ntmps105 fun H=>?_;(repeat' first|refine yW ?_|(refine yB ?_;intro b w H)|(refine y11 sg H ?_;intro w H)|(refine c0 zD7 ?_;refine⟨_,hmay _ (H.memF hF),?_⟩;clear H;intro w H)|(refine f0 zLD ?_;refine⟨_,hru _ (H.memF hF),?_⟩;clear H;intro z M w hR H;(try simp only[zca,zcb] at H);obtain rfl:z=_:=hR)|fail);exact zc (vs:=[_,_]) (M:=[]) ⟨zg sg rfl H.mem (zz2 _) rfl rfl,zP rfl,trivial⟩ (H.sub (zz9 _)) (zE3 43)
| some l =>
rw[hrl] at hru;obtain⟨hll,hok⟩:=zVs hm hrl;obtain⟨old,tx,hfe,hnl,_,htl⟩:=zDf hm;have hclo:=fun w (hG:Mem w F)=>zGw (a:=q.ta) (n:=e.texts.length) (cap:=q.tc) (fun j=>e.texts.getD j ByteArray.empty) w hG hE.texts qO;have hup:=fun(e:Evt) (he:zAr e) {G:zA} {q:EPt} {M:zA} (hE:EvtM M e q) w (hG:Mem w (G++F)) (hs:M⊆G)=>c_uUp e q he w hG (hK.mono (zz8 _ _)) (hE.mono (fun z hz=>zz6 _ (hs hz)));have hup:=@hup (zDu e l) (dn_t he qO l);rw[show zAe e=if (upF (zDu e l)).2=0/\evD (upF (zDu e l)).1 e=true then(zDu e l,0) else(⟨0,0,[],[]⟩,43) by unfold zAe;rw[hm,if_neg (by decide),hrl]];obtain⟨⟨x,n⟩,hx⟩:∃ r,upF (zDu e l)=r:=⟨_,rfl⟩;rw[hx] at hup ⊢;simp only;clear hnl hfe;refine eS func105 ntmps105 fun H=>?_;(repeat' first|refine yX ?_|(refine yB ?_;intro b w H)|(refine c0 zD7 ?_;refine⟨_,hmay _ (H.memF hF),?_⟩;clear H;intro w H)|(refine f0 zLD ?_;refine⟨_,hru _ (H.memF hF),?_⟩;clear H;intro z M1 w hR H;(try simp only[zca,zcb] at H);obtain⟨hl100,a1,c1,rfl,hO1⟩:=hR)|fail);refine CW.cutT (fun en1 w=>∃ b1 b2 b6 ta tc M2 en',en1=ovl [(1,(pt b1)),(2,(pt b2)),(4,.slice a1 l.length c1),(6,(pt b6))] en'/\SlA M2 1 ta e.texts.length tc (fun j=>[Value.string (e.texts.getD j ByteArray.empty)])/\St w0 (cb b6 [.int .u8 (e.v - 1),.int .u8 e.kind,.slice none 0 0,.slice ta e.texts.length tc] 61::cb b2 [.int .u8 0,.int .u8 0,.slice none 0 0,.slice none 0 0] 61::cb b1 (e.cells q) 61::(M1++M2)) w) ?_ ?_
·(repeat' first|refine yX ?_|(refine yB ?_;intro b w H)|(refine y11 sg H ?_;intro w H)|(refine CW.regionL mixed 11 (z6s (x:=cb _ (e.cells q) 61) H hF) [] ?_ ?_;exact rfl;refine wQ H ?_;clear H;intro w H;have qh:=z6s (x:=cb _ (e.cells q) 61) H hF;refine lT sg 0 qh ?_;refine' l1 1 qh ?_ ?_;rotate_left;(exact z3 sg);refine lT sg 2 qh ?_;refine lT sg 3 qh ?_;refine' l1 4 qh ?_ ?_;rotate_left;(exact z3 sg);refine lT sg 5 qh ?_;refine' l1 6 qh ?_ ?_;rotate_left;(exact z3 sg))|refine lN ?_|(refine lT sg 8 (z6s H hF) ?_)|refine l2 7 ?_|refine l2 9 ?_|refine l2 10 ?_|refine l4 7 9 ?_ ?_|(refine l5 (z6s H hF) ?_)|(refine f0 zLC ?_;refine⟨_,hclo _ (H.memF hF),?_⟩;clear H;intro v M2 w hR H;(try simp only[zca,zcb] at H);obtain⟨ta,tc,rfl,hO2⟩:=hR)|fail)
 all_goals
  rw[ew] at H;exact⟨_,_,_,ta,tc,M2,_,zz rfl (zA2 rfl rfl rfl),hO2.sl (fun _ h=>h) (fun _ _=>rfl) qO,H⟩
clear H;rintro _ w ⟨b1,b2,b6,ta,tc,M2,en',rfl,hT2,H⟩;rw[zN0] at hO1;have hsl:=hO1.sl (F:=M1) (fun _ h=>h) (fun _ _=>rfl) qO;obtain⟨hn1,hc1,bl,offl,csl,Tl,frl,hsl⟩:=hsl;have hEE:=hE;obtain⟨⟨hnn,hcn,bn,offn,csn,Tn,frn,hsn⟩,_⟩:=hE;(repeat' first|refine yX ?_|fail);refine zD [(7,8),(38,62)] (fun x:UI=>[(38,.int .i64 (x.k:Int))]) (fun x w=>x.k<=l.length/\Go.Sk.Own x.M 2 1 x.a (dnK l e.nums x.k).length x.cap ((dnK l e.nums x.k).map (Value.int .i64))/\St w0 (cb b6 [.int .u8 (e.v - 1),.int .u8 e.kind,.slice x.a (dnK l e.nums x.k).length x.cap,.slice ta e.texts.length tc] 61::cb b2 [.int .u8 0,.int .u8 0,.slice none 0 0,.slice none 0 0] 61::cb b1 (e.cells q) 61::(x.M++(M1++M2))) w) (fun x=>l.length - x.k) ⟨0,none,0,[]⟩ ⟨rfl,trivial⟩ ⟨zzD _,zWD _ _ _,H⟩ ?_;clear H;rintro⟨k,ao,co,M⟩ gh w ⟨hk,hO,H⟩;simp only at hk hO H ⊢;have hdl:=dn_le l e.nums k;by_cases hlt:k<l.length;rotate_left
.obtain rfl:k=l.length:=by omega
 have d5:decide ((l.length:Int)<(l.length:Int))=false:=yyc qO;have hEd:EvtM (M++(M1++M2)) (zDu e l) ⟨ao,co,ta,tc⟩:=⟨zFm _ hO (yyi _ _) rfl (by show(dnK l e.nums l.length).length<=1000;omega),SlA.mono hT2 (fun z hz=>zz3 _ (zz3 _ hz))⟩;have hsame:=fun{G M:zA} {q1:EPt} (h1:EvtM M x q1) w (hG:Mem w (G++F)) (hs:M⊆G)=>zH3 x e q1 q w hG (h1.mono (fun z hz=>zz6 _ (hs hz))) (hEE.mono (zz8 _ _));by_cases hn0:n=0;rotate_left
 .have d8:(n != 0)=true:=by{simpa using hn0};rw[if_neg (fun h=>hn0 h.1)]
  (repeat' first|refine yW ?_|(refine yB ?_;intro b w H)|(refine y11 sg H ?_;intro w H)|(refine f0 zKP ?_;refine⟨_,hup hEd _ (H.all hF) (by intro z hz;simp at hz ⊢;simp[hz]),?_⟩;clear H;intro v M5 w hR H;(try simp only[zca,zcb] at H);obtain⟨q5,rfl,hE5⟩:=hR)|fail);exact zc (vs:=[_,_]) (M:=[]) ⟨zg sg rfl H.mem qB rfl rfl,zP rfl,trivial⟩ (H.sub (zz9 _)) (zE3 43)
 subst hn0;cases d8:evD x e with
 | false =>
   rw[d8] at hsame;rw[if_neg (fun h=>by cases h.2)];(repeat' first|refine yW ?_|(refine yB ?_;intro b w H)|(refine y11 sg H ?_;intro w H)|(refine f0 zKP ?_;refine⟨_,hup hEd _ (H.all hF) (by intro z hz;simp at hz ⊢;simp[hz]),?_⟩;clear H;intro v M5 w hR H;(try simp only[zca,zcb] at H);obtain⟨q5,rfl,hE5⟩:=hR)|(refine c0 zPs ?_;refine⟨_,hsame hE5 _ (H.all hF) (by intro z hz;simp at hz ⊢;simp[hz]),?_⟩;clear H;intro w H)|fail);exact zc (vs:=[_,_]) (M:=[]) ⟨zg sg rfl H.mem qB rfl rfl,zP rfl,trivial⟩ (H.sub (zz9 _)) (zE3 43)
 | true =>
   rw[d8] at hsame;rw[if_pos ⟨rfl,rfl⟩];(repeat' first|refine yW ?_|(refine yB ?_;intro b w H)|(refine y11 sg H ?_;intro w H)|(refine f0 zKP ?_;refine⟨_,hup hEd _ (H.all hF) (by intro z hz;simp at hz ⊢;simp[hz]),?_⟩;clear H;intro v M5 w hR H;(try simp only[zca,zcb] at H);obtain⟨q5,rfl,hE5⟩:=hR)|(refine c0 zPs ?_;refine⟨_,hsame hE5 _ (H.all hF) (by intro z hz;simp at hz ⊢;simp[hz]),?_⟩;clear H;intro w H)|fail);exact zc (vs:=[_,_]) (M:=M++(M1++M2)) ⟨zg sg rfl H.mem qB rfl rfl,zP rfl,trivial⟩ (H.sub (yy6 _ (yy6 _ (yy6 _ (yy6 _ (yyt _ _)))))) ⟨⟨ao,co,ta,tc⟩,rfl,hEd⟩
have d5:decide ((k:Int)<(l.length:Int))=true:=yyb qO;obtain⟨⟨hp0,hp1⟩,htt,hb0,hb1⟩:=hok k hlt;by_cases hf0:0<=(l.getD k default).frm;rotate_left
.have d6:decide ((l.getD k default).frm >= 0)=false:=yyc hf0;(repeat' first|refine yW ?_|(refine yB ?_;intro b w H)|(refine y11 sg H ?_;intro w H)|refine x40 sg hsl ?_|(refine y42 sg (hsl) ((H.mem.sub (by intro z hz;simp[hz]))) ?_ ?_;(omega))|fail);rw[<- zXi hf0] at hO H;exact zC ⟨k+1,ao,co,M⟩ rfl ⟨zU qO,trivial⟩ ⟨hlt,hO,H.sub (yy6 _ (yy7 _))⟩ (by show l.length - (k+1)<l.length - k;omega)
.have d6:decide ((l.getD k default).frm >= 0)=true:=yyb hf0;have ht1:=htt hf0;have ew1:IntKind.i64.wrap (e.nums.getD k 0 - (l.getD k default).plus)=e.nums.getD k 0 - (l.getD k default).plus:=w64 qO qO;have ew2:IntKind.i64.wrap ((IntKind.i64.wrap (e.nums.getD k 0 - (l.getD k default).plus)).tdiv (l.getD k default).times)=(e.nums.getD k 0 - (l.getD k default).plus).tdiv (l.getD k default).times:=by rw[ew1];exact quo_bd qO qO ht1
 have hsnoc:=zXh (n:=e.nums) hf0;have hln:(dnK l e.nums (k+1)).length=(dnK l e.nums k).length+1:=by rw[hsnoc,yy4];rfl
 have hsnF:=fun x y z=>SlB.mono hsn (show F⊆x::y::z::F from fun p hp=>zz4 _ (zz4 _ (zz4 _ hp)));(repeat' first|refine yW ?_|(refine yB ?_;intro b w H)|(refine y11 sg H ?_;intro w H)|refine x40 sg hsl ?_|(refine y42 sg (hsl) ((H.mem.sub (by intro z hz;simp[hz]))) ?_ ?_;(omega))|(refine CW.regionL mixed 17 (z6d (x:=cb b1 (e.cells q) 61) (y:=cb b6 [.int .u8 (e.v - 1),.int .u8 e.kind,.slice ao (dnK l e.nums k).length co,.slice ta e.texts.length tc] 61) (z:=cb _ (l.getD k default).cells 164) H hF) [15,16] ?_ ?_;exact rfl;refine wQ H ?_;clear H;intro w H;have qh:=z6d (x:=cb b1 (e.cells q) 61) (y:=cb b6 [.int .u8 (e.v - 1),.int .u8 e.kind,.slice ao (dnK l e.nums k).length co,.slice ta e.texts.length tc] 61) (z:=cb _ (l.getD k default).cells 164) H hF;refine lT sg 0 qh ?_;refine' l1 1 qh ?_ ?_;rotate_left;(exact z3 sg);refine lT sg 2 qh ?_;refine' l1 3 qh ?_ ?_;rotate_left;(exact z3 sg);refine lT sg 4 qh ?_;refine' l1 5 qh ?_ ?_;rotate_left;(exact(zQ sg hsn));refine' l1 6 qh ?_ ?_;rotate_left;(exact(zK sg (hsnF _ _ _) (show k<e.nums.length by omega)));refine lT sg 7 qh ?_;refine' l1 8 qh ?_ ?_;rotate_left;(exact z3 sg);refine lT sg 9 qh ?_;refine lT sg 10 qh ?_;refine' l1 11 qh ?_ ?_;rotate_left;(exact z3 sg);refine' l1 12 qh ?_ ?_;rotate_left;(exact(fun w2 _=>Yq.quo rfl rfl rfl qO)))|refine lN ?_|(refine' l6 15 ?_ ?_;rotate_left;exact z9 sg)|refine l3 16 ?_|refine l2 13 ?_|refine l2 14 ?_|(refine l5 (z6d (x:=cb b1 (e.cells q) 61) (y:=cb b6 [.int .u8 (e.v - 1),.int .u8 e.kind,.slice ao (dnK l e.nums k).length co,.slice ta e.texts.length tc] 61) (z:=cb _ (l.getD k default).cells 164) H hF) ?_)|(have hp:=H.perm (yyf [_,_,_,_,_] M (M1++M2));refine zY sg 1 8 (M:=M) hp rfl rfl rfl rfl rfl rfl rfl rfl rfl rfl rfl hO (zh hp.mem (zz3 _ (zz2 _))) rfl (zx rfl) (by unfold maxLen;omega) qO ?_;clear hp hO;intro ao2 co2 M3 w hO H;replace H:=H.perm (yyf M3 [_,_,_,_,_] (M1++M2)))|fail);rw[ew2] at hO;exact zC ⟨k+1,ao2,co2,M3⟩ rfl ⟨zU qO,trivial⟩ ⟨hlt,by rw[hln,hsnoc,List.map_append];exact hO,by rw[hln];exact H.sub (yy6 _ (yy6 _ (yy7 _)))⟩ (by show l.length - (k+1)<l.length - k;omega)}
def tD:Nat->Evt->Int->Evt × Int
 | 0,x,_=>(x,0)
 | k+1,x,v=>if x.v>v then(if (zAe x).2≠0 then(⟨0,0,[],[]⟩,(zAe x).2) else tD k (zAe x).1 v) else(x,0)
theorem zVt {e:Evt}(he:zAr e)(h:(zAe e).2=0):zAr (zAe e).1:=by{
have h1:=(zE5 h).2.1;have h2:=(zE5 h).2.2;have h3:=zK0 h1;unfold zAe at h ⊢;by_cases g:zk e=false
.rw[if_pos g] at h;exact absurd h (by decide)
rw[if_neg g] at h ⊢;cases hr:zBG (e.v - 1) e.kind with
| none=>rw[hr] at h;exact absurd h (by simp)
| some l =>
  rw[hr] at h;simp only at h ⊢;by_cases c:(upF (zDu e l)).2=0/\evD (upF (zDu e l)).1 e=true
  .rw[if_pos c];exact dn_t he qO l
  .rw[if_neg c] at h;exact absurd h (by simp)}
theorem zVu {n cap:Nat}{a:OA}{el:Nat->List Value}{F:zA}(w0:World)(hF:Mem w0 F)(hs:SlA F 1 a n cap el)(h1:∀ j,j<n->∀ u∈el j,u.oneCell'=true)(hel:∀ j,j<n->(el j).length=1)(hn:n*8<=140737488355328) :
  Cf 103 [.slice a n cap] (fun M v=>∃ a' cap',v=.slice a' n cap'/\Go.Sk.Own M 2 1 a' n cap' ((List.range n).flatMap el)) w0:=by{
obtain⟨hnc,hcb,b,off,cs,T,fr,hs⟩:=hs;refine eS func103 ntmps103 fun H=>?_;(repeat' first|refine yX ?_|(refine za rfl rfl (Yq.nilS sg rfl rfl rfl rfl) ?_)|fail);refine zB rfl (fun h=>?_) (fun h=>?_)
.have hn0:n=0:=by
  rcases yyn n with h0|h0
  .exact h0
  .rw[(hs h0).1] at h;cases h
 subst hn0;(repeat' first|refine yX ?_|fail);exact zL rfl H ⟨_,_,rfl,zWD _ _ _⟩
·(repeat' first|refine yX ?_|(refine zCG sg H rfl rfl rfl rfl rfl rfl ?_;intro b w H _)|(refine zY sg 1 8 (M:=[]) (G:=[]) H rfl rfl rfl rfl rfl rfl rfl rfl rfl rfl rfl (zWD _ _ _) (zJL hs hel (H.memF hF)) (zEp hel) (zG3 h1) (by unfold maxLen;omega) qO ?_;intro a' cap' M w hO H;simp only[yyv,List.nil_append] at hO;rw[List.append_nil] at H;rw[yyv])|fail);exact zL rfl H ⟨_,_,rfl,hO⟩}
structure TI_s where
 k:Nat
 x:Evt
 q:EPt
 M:zA
theorem zVv {F:zA}(e:Evt)(q:EPt)(he:zAr e)(v:Int)(hv:zk e=true->1<=v/\v<=e.v)(w0:World)(hF:Mem w0 F)(hK:KinM F)(hE:EvtM F e q) :
  Cf 69 [.agg (e.cells q).toArray,.int .u8 v] (zJw (if zk e=false then(⟨0,0,[],[]⟩,4) else tD 3 e v)) w0:=by{
have hmay:=fun w (hG:Mem w F)=>zEo e q he w hG hK hE;cases hm:zk e with
| false =>
  rw[hm] at hmay;rw[if_pos rfl];refine eS func69 ntmps69 fun H=>?_;(repeat' first|refine yW ?_|(refine yB ?_;intro b w H)|(refine y11 sg H ?_;intro w H)|(refine c0 zD7 ?_;refine⟨_,hmay _ (H.memF hF),?_⟩;clear H;intro w H)|fail);exact zc (vs:=[_,_]) (M:=[]) ⟨zg sg rfl H.mem (zz2 _) rfl rfl,zP rfl,trivial⟩ (H.sub (zz9 _)) (zE3 4)
| true =>
rw[hm] at hmay;rw[if_neg (by decide)];have hv3:=zK0 hm;obtain⟨hv1,hve⟩:=hv hm;obtain⟨old,tx,hfe,hnl,_,htl⟩:=zDf hm;have hn1:e.nums.length<=100:=by
 rw[zEB] at hfe;split at hfe
 .have:=zEn e.kind e.v;have:=congrArg (fun x:List Nat × Bool=>x.1.length) (Option.some.inj hfe);simp only at this;omega
 .cases hfe
have d1:decide (v<1)=false:=yyc qO;have d2:decide (v>3)=false:=yyc qO;have d3:decide (e.v<v)=false:=yyc qO;have hclo:=fun w (hG:Mem w F)=>zGw (a:=q.ta) (n:=e.texts.length) (cap:=q.tc) (fun j=>e.texts.getD j ByteArray.empty) w hG hE.texts qO;have hcli:=fun w (hG:Mem w F)=>zVu (a:=q.na) (n:=e.nums.length) (cap:=q.nc) (el:=iel e.nums) w hG hE.nums (fun j _=>zx rfl) (fun j _=>rfl) qO;have hdn:=fun(e:Evt) (he:zAr e) {G:zA} {q:EPt} {M:zA} (hE:EvtM M e q) w (hG:Mem w (G++F)) (hs:M⊆G)=>zXj e q he w hG (hK.mono (zz8 _ _)) (hE.mono (fun z hz=>zz6 _ (hs hz)));obtain⟨r,htd⟩:∃ r,tD 3 e v=r:=⟨_,rfl⟩;rw[htd];clear hfe;refine eS func69 ntmps69 fun H=>?_;(repeat' first|refine yW ?_|(refine yB ?_;intro b w H)|(refine c0 zD7 ?_;refine⟨_,hmay _ (H.memF hF),?_⟩;clear H;intro w H)|fail);refine CW.cutT (fun en1 w=>∃ b2 b4 b6 qc M2 en',en1=ovl [(1,.int .u8 v),(2,(pt b2)),(4,(pt b4)),(6,(pt b6))] en'/\EvtM M2 e qc/\St w0 (cb b6 (e.cells qc) 61::cb b4 [.int .u8 0,.int .u8 0,.slice none 0 0,.slice none 0 0] 61::cb b2 (e.cells q) 61::M2) w) ?_ ?_
·(repeat' first|refine yX ?_|(refine yB ?_;intro b w H)|(refine y11 sg H ?_;intro w H)|(refine CW.regionL mixed 13 (z6s (x:=cb _ (e.cells q) 61) H hF) [] ?_ ?_;exact rfl;refine wQ H ?_;clear H;intro w H;have qh:=z6s (x:=cb _ (e.cells q) 61) H hF;refine lT sg 0 qh ?_;refine' l1 1 qh ?_ ?_;rotate_left;(exact z3 sg);refine lT sg 2 qh ?_;refine' l1 3 qh ?_ ?_;rotate_left;(exact z3 sg);refine lT sg 4 qh ?_;refine' l1 5 qh ?_ ?_;rotate_left;(exact z3 sg);refine lT sg 7 qh ?_;refine' l1 8 qh ?_ ?_;rotate_left;(exact z3 sg))|refine lN ?_|(refine lT sg 10 (z6s H hF) ?_)|refine l2 6 ?_|refine l2 9 ?_|refine l2 11 ?_|refine l2 12 ?_|refine l4 6 11 ?_ ?_|refine l4 9 11 ?_ ?_|(refine l5 (z6s H hF) ?_)|(refine f0 ent103 ?_;refine⟨_,hcli _ (H.memF hF),?_⟩;clear H;intro v M2 w hR H;(try simp only[zca,zcb] at H);obtain⟨ia,ic,rfl,hO1⟩:=hR)|(refine f0 zLC ?_;refine⟨_,hclo _ (H.memF hF),?_⟩;clear H;intro v M3 w hR H;(try simp only[zca,zcb] at H);obtain⟨ta,tc,rfl,hO2⟩:=hR)|fail)
 all_goals
  exact⟨_,_,_,⟨ia,ic,ta,tc⟩,M2++M3,_,zz rfl (zA2 rfl rfl rfl),⟨hO1.sl (yyi _ _) (fun _ _=>rfl) qO,hO2.sl (zz8 _ _) (fun _ _=>rfl) qO⟩,H⟩
clear H;rintro _ w ⟨b2,b4,b6,qc,M2,en',rfl,hE2,H⟩;(repeat' first|refine yX ?_|fail);refine zD [(5,5),(7,7),(30,42)] (fun _:Unit=>[]) (fun _ w=>St w0 (cb b6 (e.cells qc) 61::cb b4 [.int .u8 0,.int .u8 0,.slice none 0 0,.slice none 0 0] 61::cb b2 (e.cells q) 61::M2) w) (fun _=>0) () trivial H ?_;clear H;rintro _ gh w H;(repeat' first|refine yX ?_|fail);refine CW.condF (congrArg Value.bool d3) ?_;(repeat' first|refine yX ?_|fail);refine zD [(5,5),(7,7),(43,55)] (fun _:TI_s=>[]) (fun x w=>zAr x.x/\EvtM x.M x.x x.q/\x.x.v<=v+x.k/\tD x.k x.x v=r/\St w0 (cb b6 (x.x.cells x.q) 61::cb b4 [.int .u8 0,.int .u8 0,.slice none 0 0,.slice none 0 0] 61::cb b2 (e.cells q) 61::x.M) w) (fun x=>x.k) ⟨3,e,qc,M2⟩ trivial ⟨he,hE2,by simp only;omega,htd,H⟩ ?_;clear H;rintro⟨k,x,qx,M⟩ gh2 w ⟨hxT,hxM,hkv,htx,H⟩;simp only at hxT hxM hkv htx H ⊢;by_cases hgt:x.v>v;rotate_left
.have d4:decide (x.v>v)=false:=yyc hgt;have hfin:r=(x,0):=by
  rw[<- htx];cases k with
  | zero=>rfl
  | succ k=>unfold tD;rw[if_neg hgt]
 rw[hfin];(repeat' first|refine yX ?_|fail);refine CW.condF (congrArg Value.bool d4) ?_;(repeat' first|refine yX ?_|(refine y11 sg H ?_;intro w H)|fail);exact zc (vs:=[_,_]) (M:=M) ⟨zg sg rfl H.mem (zz5 _ (zz2 _)) rfl rfl,zP rfl,trivial⟩ (H.sub (yy6 _ (yy6 _ (yy6 _ (yy7 _))))) ⟨qx,rfl,hxM⟩
have d4:decide (x.v>v)=true:=yyb hgt;obtain⟨k,rfl⟩:∃ j,k=j+1:=⟨k - 1,by omega⟩;unfold tD at htx;rw[if_pos hgt] at htx;have hdx:=@hdn x hxT;have hdt:=zVt hxT;have hdv:=fun h=>(zE5 (e:=x) h).2.2;obtain⟨⟨y,n⟩,hy⟩:∃ r,zAe x=r:=⟨_,rfl⟩;rw[hy] at htx hdx hdt hdv;simp only at htx hdt hdv;by_cases hn0:n=0;rotate_left
.have d8:(n != 0)=true:=by simpa using hn0
 rw[if_pos hn0] at htx;rw[<- htx];(repeat' first|refine yW ?_|(refine y11 sg H ?_;intro w H)|(refine f0 zTA ?_;refine⟨_,hdx hxM _ (H.all hF) (by intro z hz;simp at hz ⊢;simp[hz]),?_⟩;clear H;intro v M5 w hR H;(try simp only[zca,zcb] at H);obtain⟨q5,rfl,hE5⟩:=hR)|fail);exact zc (vs:=[_,_]) (M:=[]) ⟨zg sg rfl H.mem qB rfl rfl,zP rfl,trivial⟩ (H.sub (zz9 _)) (zE3 n)
.subst hn0;rw[if_neg (fun h=>h rfl)] at htx;have hv5:=hdv rfl;(repeat' first|refine yW ?_|(refine y11 sg H ?_;intro w H)|(refine f0 zTA ?_;refine⟨_,hdx hxM _ (H.all hF) (by intro z hz;simp at hz ⊢;simp[hz]),?_⟩;clear H;intro v M5 w hR H;(try simp only[zca,zcb] at H);obtain⟨q5,rfl,hE5⟩:=hR)|fail);exact zC ⟨k,y,q5,M5⟩ rfl trivial ⟨hdt rfl,hE5,by simp only;omega,htx,H.sub (List.Sublist.cons₂ _ (List.Sublist.cons₂ _ (List.Sublist.cons₂ _ (yyx _ _))))⟩ (Nat.lt_succ_self k)}
theorem c_uTo0 {F:zA}(e:Evt)(q:EPt)(he:zAr e)(w0:World)(hF:Mem w0 F)(hK:KinM F)(hE:EvtM F e q) :
  Cf 69 [.agg (e.cells q).toArray,.int .u8 e.v] (zJw (if zk e=false then(⟨0,0,[],[]⟩,4) else(e,0))) w0:=by have h:=zVv e q he e.v (fun hm=>⟨by have:=zK0 hm;omega,Int.le_refl _⟩) w0 hF hK hE;rw[show tD 3 e e.v=(e,0) from if_neg (Int.lt_irrefl _)] at h;exact h
theorem up_t {e:Evt}(he:zAr e)(hm:zk e=true)(hv:e.v=1\/e.v=2):zAr (upF e).1:=by{
obtain⟨_,h1,h2⟩:=zJ2 hm hv;refine⟨by rw[h1];omega,?_,?_⟩
.unfold upF;rw[if_neg (by rw[hm];decide)];split
 .exact⟨Int.le_refl _,by decide⟩
 .exact he.2.1
.unfold upF;rw[if_neg (by rw[hm];decide)];split
 .intro t ht;cases ht
 .exact he.2.2}
theorem zK1 {F:zA}(e:Evt)(q:EPt)(he:zAr e)(w0:World)(hF:Mem w0 F)(hK:KinM F)(hE:EvtM F e q) :
  Cf 31 [.agg (e.cells q).toArray] (zJw (zB8 e)) w0:=by{
have hto:=fun w (hG:Mem w F)=>c_uTo0 e q he w hG hK hE;have hup:=fun(e:Evt) (he:zAr e) {G:zA} {q:EPt} {M:zA} (hE:EvtM M e q) w (hG:Mem w (G++F)) (hs:M⊆G)=>c_uUp e q he w hG (hK.mono (zz8 _ _)) (hE.mono (fun z hz=>zz6 _ (hs hz)));unfold zB8;cases hm:zk e with
| false =>
  rw[hm,if_pos rfl] at hto;rw[if_pos rfl];refine eS func31 ntmps31 fun H=>?_;(repeat' first|refine yW ?_|(refine yB ?_;intro b w H)|(refine y11 sg H ?_;intro w H)|(refine f0 zMf ?_;refine⟨_,hto _ (H.memF hF),?_⟩;clear H;intro v M w hR H;(try simp only[zca,zcb] at H);obtain⟨q1,rfl,hE1⟩:=hR)|fail);exact zc (vs:=[_,_]) (M:=[]) ⟨zg sg rfl H.mem qB rfl rfl,zP rfl,trivial⟩ (H.sub (zz9 _)) (zE3 4)
| true =>
rw[hm,if_neg (by decide)] at hto;rw[if_neg (by decide)];rcases zK0 hm with hv|hv|hv
.have d1:(e.v==1)=true:=by rw[hv];rfl
 have t1:=up_t he hm (.inl hv);have u1:=@hup e he;have u2:=@hup (upF e).1 t1;have e2:(upF (upF e).1).2=0:=by obtain⟨_,h1,h2⟩:=zJ2 hm (.inl hv);exact(zJ2 h2 (.inr (by rw[h1,hv];rfl))).1
 have e1:=(zJ2 hm (.inl hv)).1;rw[if_pos hv];obtain⟨⟨x1,k1⟩,hx1⟩:∃ r,upF e=r:=⟨_,rfl⟩;rw[hx1] at u1 u2 e2 e1 ⊢;simp only at u2 e2 e1 ⊢;obtain⟨⟨x2,k2⟩,hx2⟩:∃ r,upF x1=r:=⟨_,rfl⟩;rw[hx2] at u2 e2 ⊢;refine eS func31 ntmps31 fun H=>?_;(repeat' first|refine yW ?_|(refine yB ?_;intro b w H)|(refine y11 sg H ?_;intro w H)|(refine f0 zMf ?_;refine⟨_,hto _ (H.memF hF),?_⟩;clear H;intro v M w hR H;(try simp only[zca,zcb] at H);obtain⟨q1,rfl,hE1⟩:=hR)|(refine f0 zKP ?_;refine⟨_,u1 hE1 _ (H.all hF) (by intro z hz;simp[hz]),?_⟩;clear H;intro v M2 w hR H;(try simp only[zca,zcb] at H);obtain⟨q2,rfl,hE2⟩:=hR)|(refine f0 zKP ?_;refine⟨_,u2 hE2 _ (H.all hF) (by intro z hz;simp[hz]),?_⟩;clear H;intro v M3 w hR H;(try simp only[zca,zcb] at H);obtain⟨q3,rfl,hE3⟩:=hR)|fail);exact zc (vs:=[_,_]) (M:=M3) ⟨zg sg rfl H.mem qB rfl rfl,zP rfl,trivial⟩ (H.sub ((yyx _ M3).trans (yy6 _ (yy6 _ (yy6 _ (yy7 _)))))) ⟨q3,rfl,hE3⟩
.have d1:(e.v==1)=false:=by rw[hv];rfl
 have d2:(e.v==2)=true:=by rw[hv];rfl
 have u1:=@hup e he;rw[if_neg qO,if_pos hv];obtain⟨⟨x1,k1⟩,hx1⟩:∃ r,upF e=r:=⟨_,rfl⟩;rw[hx1] at u1 ⊢;refine eS func31 ntmps31 fun H=>?_;(repeat' first|refine yW ?_|(refine yB ?_;intro b w H)|(refine y11 sg H ?_;intro w H)|(refine f0 zMf ?_;refine⟨_,hto _ (H.memF hF),?_⟩;clear H;intro v M w hR H;(try simp only[zca,zcb] at H);obtain⟨q1,rfl,hE1⟩:=hR)|(refine f0 zKP ?_;refine⟨_,u1 hE1 _ (H.all hF) (by intro z hz;simp[hz]),?_⟩;clear H;intro v M3 w hR H;(try simp only[zca,zcb] at H);obtain⟨q3,rfl,hE3⟩:=hR)|fail);exact zc (vs:=[_,_]) (M:=M3) ⟨zg sg rfl H.mem qB rfl rfl,zP rfl,trivial⟩ (H.sub ((yyx _ M3).trans (yy6 _ (yy6 _ (yy6 _ (yy7 _)))))) ⟨q3,rfl,hE3⟩
.have d1:(e.v==1)=false:=by rw[hv];rfl
 have d2:(e.v==2)=false:=by rw[hv];rfl
 rw[if_neg qO,if_neg qO];refine eS func31 ntmps31 fun H=>?_;(repeat' first|refine yW ?_|(refine yB ?_;intro b w H)|(refine y11 sg H ?_;intro w H)|(refine f0 zMf ?_;refine⟨_,hto _ (H.memF hF),?_⟩;clear H;intro v M w hR H;(try simp only[zca,zcb] at H);obtain⟨q1,rfl,hE1⟩:=hR)|fail);exact zc (vs:=[_,_]) (M:=M) ⟨zg sg rfl H.mem qB rfl rfl,zP rfl,trivial⟩ (H.sub (yy6 _ (yy6 _ (yy6 _ (yy7 _))))) ⟨q1,rfl,hE1⟩}
def zCv (g:Evt->Evt × Int):List Evt->List Evt->List Evt × Int
 | [],o=>(o,0)
 | e::l,o=>if (g e).2≠0 then([],(g e).2) else zCv g l (o++[(g e).1])
theorem zK2:∀ (l o:List Evt),zC2 l o=zCv zB8 l o
 | [],o=>rfl
 | e::l,o=>by unfold zC2 zCv;rw[zK2 l]
theorem zQ5 {l:List Evt}{k:Nat}(h:k<l.length):l.drop k=ev_ l k::l.drop (k+1):=by rw[List.drop_eq_getElem_cons h];unfold ev_;rw[yy2,yy1 h];rfl
structure EI where
 k:Nat
 a:OA
 cap:Nat
 M:zA
 R:zA
 o:List Evt
 q:Nat->EPt
theorem zMN {F:zA}{a:OA}{cap:Nat}(g:Evt->Evt × Int){f:FuncId}{caps:List Value}(hf:Ent prog f)(l:List Evt)(q:Nat->EPt)(hl:l.length<=1000)(w0:World)(hF:Mem w0 F)(hM:EvsM F a cap l q)
  (hg:∀ j,j<l.length->∀ w,Mem w F->Cf f ([Value.agg ((ev_ l j).cells (q j)).toArray]++caps) (zJw (g (ev_ l j))) w) :
  Cf 60 [.slice a l.length cap,.func (.func f) #[] caps.toArray] (CmdR (zCv g l [])) w0:=by{
obtain⟨⟨hnl,hcl,bl,offl,csl,Tl,frl,hsl⟩,hev⟩:=hM;refine eS func60 ntmps60 fun H=>?_;(repeat' first|refine yX ?_|fail);refine zD [(4,6),(8,10),(13,30)] (fun x:EI=>[(6,.slice x.a x.k x.cap),(13,.int .i64 (x.k:Int))]) (fun x w=>x.k<=l.length/\x.o.length=x.k/\zCv g l []=zCv g (l.drop x.k) x.o/\Go.Sk.Own x.M 61 4 x.a x.k x.cap (evX x.o x.q)/\(∀ j,j<x.k->EvtM x.R (ev_ x.o j) (x.q j))/\St w0 (x.M++x.R) w) (fun x=>l.length - x.k) ⟨0,none,0,[],[],[],fun _=>zEN⟩ ⟨rfl,rfl,trivial⟩ ⟨zzD _,rfl,rfl,zWD _ _ _,fun j hj=>absurd hj (zzE _),H⟩ ?_;clear H;rintro⟨k,ao,co,M,R,o,qo⟩ gh w ⟨hk,ho,hr,hO,hQ,H⟩;simp only at hk ho hr hO hQ H ⊢;by_cases hlt:k<l.length;rotate_left
.obtain rfl:k=l.length:=by omega
 have d5:decide ((l.length:Int)<(l.length:Int))=false:=yyc qO;(repeat' first|refine yW ?_|fail);have hro:zCv g l []=(o,0):=by rw[hr,List.drop_length,zCv]
 rw[hro];refine zBH (M:=M++R) rfl rfl H ⟨ao,co,qo,by simp only[ho],?_,fun j hj=>?_⟩
 .simp only;rw[ho];unfold evX at hO;rw[ho] at hO;exact hO.sl (yyi _ _) (fun _ _=>rfl) qO
 .exact(hQ j (by simp only at hj;omega)).mono (zz8 _ _)
have d5:decide ((k:Int)<(l.length:Int))=true:=yyb qO;rw[zQ5 hlt,zCv] at hr;have hc:=hg k hlt;obtain⟨⟨x,n⟩,hx⟩:∃ r,g (ev_ l k)=r:=⟨_,rfl⟩;rw[hx] at hr hc;simp only at hr;by_cases hn:n=0;rotate_left
.have d6:(n != 0)=true:=by simpa using hn
 rw[if_pos hn] at hr;rw[hr];(repeat' first|refine yW ?_|(refine yB ?_;intro b w H)|(refine y11 sg H ?_;intro w H)|refine x40 sg hsl ?_|refine x42 sg hsl (H.memF hF) ?_|(refine OX.callF rfl rfl (zAq hf rfl rfl rfl) (hc _ (H.memF hF)) ?_;intro v M3 w hR hS;replace H:=H.addR hS;clear hS;obtain⟨q3,rfl,hE3⟩:=hR;(try simp only[zca,zcb] at H))|fail);exact zBH (M:=[]) rfl rfl (H.sub (zz9 _)) (zJy n)
.subst hn;rw[if_neg (fun h=>h rfl)] at hr;(repeat' first|refine yW ?_|(refine yB ?_;intro b w H)|(refine y11 sg H ?_;intro w H)|refine x40 sg hsl ?_|refine x42 sg hsl (H.memF hF) ?_|(refine OX.callF rfl rfl (zAq hf rfl rfl rfl) (hc _ (H.memF hF)) ?_;intro v M3 w hR hS;replace H:=H.addR hS;clear hS;obtain⟨q3,rfl,hE3⟩:=hR;(try simp only[List.cons_append,List.nil_append,yyh] at H))|(refine zBA sg H ?_;intro b w H _)|(have hp:=H.perm (yyf [_,_,_] M (R++M3));refine zY sg 4 56 (M:=M) hp rfl rfl rfl rfl rfl rfl rfl rfl rfl rfl rfl hO (zh hp.mem (zz3 _ (zz2 _))) rfl (zx rfl) (by unfold maxLen;omega) qO ?_;clear hp hO;intro a1 c1 M4 w hO H;replace H:=H.perm (yyf M4 [_,_,_] (R++M3)))|fail);have hO2:Go.Sk.Own M4 61 4 a1 (k+1) c1 (evX o qo++x.cells q3):=hO;rw[zHO,ho] at hO2;refine zC ⟨k+1,a1,c1,M4,R++M3,o++[x],zHL k qo q3⟩ rfl ⟨rfl,zU qO,trivial⟩ ⟨hlt,by rw[yy4,ho];rfl,hr,hO2,fun j hj=>?_,H.sub (yy6 _ (yy6 _ (yy6 _ (yy7 _))))⟩ (by show l.length - (k+1)<l.length - k;omega);show EvtM (R++M3) (ev_ (o++[x]) j) (if j<k then qo j else q3);by_cases hjk:j<k
 .rw[if_pos hjk,zHM (by rw[ho];exact hjk)];exact(hQ j hjk).mono (yyi _ _)
 .obtain rfl:j=k:=by have:j<k+1:=hj;omega
  rw[if_neg hjk];have:ev_ (o++[x]) j=x:=by rw[<- ho];exact zHN
  rw[this];exact hE3.mono (zz8 _ _)}
theorem zIo {s:Sta}(h:Smal s)(hr:∀ j,j<s.rows.length->(rw_ s.rows j).wf):StaW s:=by have:=h.n;exact⟨by omega,fun k hk=>by have:=h.acN k hk;omega,by omega,fun k hk=>by have:=h.insN k hk;omega,hr⟩
theorem EvsM.pre {F:zA}{a:OA}{cap:Nat}{l:List Evt}{q:Nat->EPt}(h:EvsM F a cap l q){k:Nat}(hk:k<=l.length):EvsM F a cap (l.take k) q:=by{
obtain⟨⟨hn,hc,b,off,cs,T,fr,hs⟩,hev⟩:=h;have hl:(l.take k).length=k:=by rw[List.length_take];omega
have he:∀ j,j<k->ev_ (l.take k) j=ev_ l j:=fun j hj=>by unfold ev_;rw[yy2,yy2,List.getElem?_take_of_lt hj]
refine⟨⟨by omega,by omega,b,off,cs,T,fr,fun h0=>?_⟩,fun j hj=>?_⟩
.obtain⟨h1,h2,h3⟩:=hs qO;refine⟨h1,h2,fun j hj=>?_⟩;show _/\_=(ev_ (l.take k) j).cells (q j);rw[he j qO];exact h3 j qO
.rw[he j qO];exact hev j qO}
theorem zVw:∀ (l:List Evt) (s:Sta) (i:Int),Good s->Good (zAx s l i).1\/(zAx s l i).1=zBg
 | [],s,i,h=>.inl h
 | e::l,s,i,h=>by
   rw[all_cons]
   split
   .rename_i g
    exact zVw l _ _ (zEu h (Prod.ext rfl g))
   .exact .inr rfl
theorem zXk (s:Sta)(l:List Evt):LtS (zCs s l).1:=by{
unfold zCs;split
.rename_i h;rcases zVw l s 0 (zAl.1 h) with g|g
 .exact zBJ g
 .rw[g];exact lt_z
.exact lt_z}
theorem zSg {n cap:Nat}{a:OA}{el:Nat->List Value}{f:FuncId}{caps:List Value}{F:zA}(p:Nat->Bool)(w0:World)(hF:Mem w0 F)(hs:SlA F 4 a n cap el)(hf:Ent prog f)
  (hp:∀ j,j<n->∀ w,Cl w0 w->Cr f ([Value.agg (el j).toArray]++caps) (.bool (p j)) w) :
  Cr 107 [.slice a n cap,.func (.func f) #[] caps.toArray] (.int .i64 (idx p n)) w0:=by{
obtain⟨hn,hc,b,off,cs,T,fr,hs⟩:=hs;refine eS func107 ntmps107 fun H=>?_;(repeat' first|refine yX ?_|fail);refine zD [(4,5),(8,18)] (fun k:Nat=>[(8,.int .i64 (k:Int))]) (fun k w=>k<=n/\(∀ j,j<k->p j=false)/\St w0 [] w) (fun k=>n - k) 0 ⟨rfl,trivial⟩ ⟨zzD _,fun j hj=>by omega,H⟩ ?_;clear H;rintro k g w ⟨hk,hpk,H⟩;(repeat' first|refine yX ?_|fail);refine zB rfl (fun h=>?_) (fun h=>?_)
.have hlt:k<n:=by simpa using h
 (repeat' first|refine yX ?_|refine x40 sg hs ?_|refine x42 sg hs (H.memF hF) ?_|(refine OX.call rfl rfl (zAq hf rfl rfl rfl) (hp k hlt _ H.cl) ?_;refine wQ H ?_;clear H;intro w H)|fail);refine zB rfl (fun h2=>?_) (fun h2=>?_)
 ·(repeat' first|refine yX ?_|fail);exact zG rfl H.cl (by rw[zBv hlt hpk h2])
 ·(repeat' first|refine yX ?_|fail);refine zC (k+1) rfl ⟨zU qO,trivial⟩ ⟨hlt,fun j hj=>?_,H⟩ qO;by_cases hj':j=k
  .rw[hj',h2]
  .exact hpk j qO
·(repeat' first|refine yX ?_|fail);have hkn:k=n:=by simp at h;omega
 exact zG rfl H.cl (by rw[zA8 (hkn ▸ hpk)])}
theorem zHT {n cap:Nat}{a:OA}{el:Nat->List Value}{f:FuncId}{caps:List Value}{F:zA}(p:Nat->Bool)(w0:World)(hF:Mem w0 F)(hs:SlA F 4 a n cap el)(hf:Ent prog f)
  (hp:∀ j,j<n->∀ w,Cl w0 w->Cr f ([Value.agg (el j).toArray]++caps) (.bool (p j)) w) :
  Cr 71 [.slice a n cap,.func (.func f) #[] caps.toArray] (.bool (decide (idx p n >= 0))) w0:=by refine eS func71 ntmps71 fun H=>?_;(repeat' first|refine yW ?_|(refine c0 ent107 ?_;refine⟨_,zSg p _ (H.memF hF) hs hf (fun j hj w' hw'=>hp j hj w' (H.cl.trans hw')),?_⟩;clear H;intro w H)|fail);all_goals exact zG rfl H.cl rfl
theorem zN4 (l:List Evt)(p:Evt->Bool):decide (idx (fun j=>p (ev_ l j)) l.length >= 0)=l.any p:=by{
rcases zX (fun j=>p (ev_ l j)) l.length with ⟨k,h1,_,h2,h3⟩|⟨h1,h3⟩
.rw[h3,yyb qO];exact(List.any_eq_true.2 ⟨_,zDc h1,h2⟩).symm
.rw[h3,yyc qO];symm;rw[List.any_eq_false];intro e he;obtain⟨j,hj,rfl⟩:=mem_ev he;rw[h1 j hj];decide}
def othF (l:List Evt)(e:Evt):Bool:=e.v != (ev0 l).v||!zk e
theorem zXl {F:zA}{a:OA}{cap b0:Nat}{l:List Evt}{q:Nat->EPt}(h0:0<l.length){e:Evt}{qe:EPt}(hT:zAr e)(w0:World)(hF:Mem w0 F)(hK:KinM F)(hM:EvtM F e qe)(hs:EvsM F a cap l q)(hm:cb b0 [.slice a l.length cap] 30∈F) :
  Cr 99 [.agg (e.cells qe).toArray,(pt b0)] (.bool (othF l e)) w0:=by{
obtain⟨⟨hn,hc,b1,off,cs,T,fr,hs⟩,_⟩:=hs;have hmay:=fun w (hG:Mem w F)=>zEo e qe hT w hG hK hM;unfold othF;cases d1:e.v != (ev0 l).v with
| true =>
  have d2:(e.v != (ev_ l 0).v)=true:=d1;refine eS func99 ntmps99 fun H=>?_;(repeat' first|refine yW ?_|(refine yB ?_;intro b w H)|refine zq (zF sg rfl rfl (H.memF hF) hm rfl rfl) ?_|refine x41 sg hs ?_|refine x45 sg hs (H.memF hF) ?_|(refine qN H ?_;clear H;intro w H)|refine y20 mixed ?_|fail);exact zG rfl H.cl rfl
| false =>
  have d2:(e.v != (ev_ l 0).v)=false:=d1;refine eS func99 ntmps99 fun H=>?_;(repeat' first|refine yW ?_|(refine yB ?_;intro b w H)|refine zq (zF sg rfl rfl (H.memF hF) hm rfl rfl) ?_|refine x41 sg hs ?_|refine x45 sg hs (H.memF hF) ?_|(refine q0 zD7 ?_;refine⟨_,fun _ hcl=>hmay _ ((H.ext hcl).memF hF),?_⟩)|(refine qN H ?_;clear H;intro w H)|refine y20 mixed ?_|fail);exact zG rfl H.cl rfl}
theorem zXm {F:zA}{a:OA}{cap:Nat}{l:List Evt}{q:Nat->EPt}(hT:∀ e∈l,zAr e)(w0:World)(hF:Mem w0 F)(hK:KinM F)(hs:EvsM F a cap l q) :
  Cr 59 [.slice a l.length cap] (.bool (zHG l)) w0:=by{
have eP:zHG l=(decide ((l.length:Int)>0)&&(decide ((l.length:Int)<=40)&&!l.any (othF l))):=by unfold zHG;rw[show decide ((l.length:Int)>0)=decide (0<l.length) from decide_eq_decide.2 qO,show decide ((l.length:Int)<=40)=decide (l.length<=40) from decide_eq_decide.2 qO,Bool.and_assoc];rfl
rw[eP];have hct:=fun w (b0:Nat) (G:zA) (h0:0<l.length) (hG:Mem w (G++F)) (hm:cb b0 [.slice a l.length cap] 30∈G)=>zHT (caps:=[(pt b0)]) (fun j=>othF l (ev_ l j)) w hG (SlA.mono hs.1 (zz8 _ _)) ent99 (fun j hj w' hw=>zXl (q:=q) h0 (hT _ (zDc hj)) w' (hG.ext hw) (hK.mono (zz8 _ _)) ((hs.2 j hj).mono (zz8 _ _)) (hs.mono (zz8 _ _)) (zz6 _ hm));rw[zN4] at hct;cases d1:decide ((l.length:Int)>0) with
| false =>
  refine eS func59 ntmps59 fun H=>?_;(repeat' first|refine yW ?_|(refine yB ?_;intro b w H)|fail);exact zG rfl H.cl rfl
| true =>
have h0:0<l.length:=by have:=zzA d1;omega
cases d2:decide ((l.length:Int)<=40) with
| false =>
  refine eS func59 ntmps59 fun H=>?_;(repeat' first|refine yW ?_|(refine yB ?_;intro b w H)|fail);exact zG rfl H.cl rfl
| true =>
  refine eS func59 ntmps59 fun H=>?_;(repeat' first|refine yW ?_|(refine yB ?_;intro b w H)|(refine c0 ent71 ?_;refine⟨_,hct _ _ _ h0 (H.all hF) (zz2 _),?_⟩;clear H;intro w H)|fail);exact zG rfl H.cl rfl}
def BaX (bl:Nat)(cl:List Value)(N:zA)(m:Mrk)(l:List Evt)(t:Sta)(q:SPt)(e:Int)(N':zA):Prop :=
 e=(zBB m l).2/\((e≠0/\∃ Y,N'=cb bl cl 30::(N++Y))\/(e=0/\t=(zBB m l).1.s/\∃ Y,N'=cb bl cl 30::(N++Y)/\StaM Y t q))
theorem zXn {F N:zA}{m:Mrk}{p:SPt}{bm bl:Nat}{l:List Evt}{a:OA}{cap:Nat}{qe:Nat->EPt}{w0:World}(hF:Mem w0 F)(hP:PriM F)(hK:KinM F)(hg:Good m.s)(hn:m.n<1048576)(hs:StaM (N++F) m.s p)(hT:∀ e∈l,zAr e)(hN:EvsM (N++F) a cap l qe)(w:World)
  (H:St w0 (cb bm (mrk m p) 74::cb bl [.slice a l.length cap] 30::N) w) :
  Calls prog 58 ([Value.agg (m.s.cells p).toArray]++[(pt bl)]).toArray w (zZ (ActR bm m p (BaX bl [.slice a l.length cap] N m l)) w0):=by{
have hsub:∀ {G:zA},N⊆G->N++F⊆G++F:=fun h z hz=>(List.mem_append.1 hz).elim (fun g=>zz6 _ (h g)) (zz3 _);have hbm:=fun w (G:zA) (hG:Mem w (G++F)) (h:N⊆G)=>zXm hT w hG (hK.mono (zz8 _ _)) (hN.mono (hsub h));unfold BaX zBB;rw[if_neg qO];cases hb:zHG l with
| false =>
  rw[hb] at hbm;rw[if_pos rfl];refine eN func58 ntmps58 ?_;(repeat' first|refine yW ?_|(refine yB ?_;intro b w H)|(refine y11 sg H ?_;intro w H)|(refine c0 ent59 ?_;refine⟨_,hbm _ _ (H.all hF) (by intro z hz;simp[hz]),?_⟩;clear H;intro w H)|fail);exact zc (vs:=[_,_]) (M:=_::_::N) ⟨zg sg rfl H.mem (zz2 _) rfl rfl,zP rfl,trivial⟩ (H.sub (yy6 _ (yy6 _ (yy7 _)))) ⟨zBg,SPt.n0,4,_,rfl,rfl,rfl,.inl ⟨(by decide),[],by rw[List.append_nil]⟩⟩
| true =>
rw[hb] at hbm;rw[if_neg (by decide)];obtain⟨⟨hl0,hl40⟩,hall⟩:=zGB.1 hb;have hmay:∀ e∈l,zk e=true:=fun e he=>(hall e he).2;have hnw:=zHR l [] hmay;rw[List.nil_append] at hnw;have hne:=fun w (G:zA) (hG:Mem w (G++F)) (h:N⊆G)=>zMN (caps:=[]) zB8 zPt l qe qO w hG (hN.mono (hsub h)) (fun j hj w hG=>zK1 (ev_ l j) (qe j) (hT _ (zDc hj)) w hG (hK.mono (zz8 _ _)) ((hN.2 j hj).mono (hsub h)));rw[<- zK2,hnw] at hne;rw[hnw];rw[if_neg (fun h=>h rfl)];obtain⟨L,hL⟩:∃ L,l.map (fun e=>(zB8 e).1)=L:=⟨_,rfl⟩;have hev:∀ e∈L,zAr e:=fun e he=>by rw[<- hL] at he;obtain⟨x,hx,rfl⟩:=List.mem_map.1 he;exact zHQ (zE4 (hmay x hx)).2.1 (zE4 (hmay x hx)).2.2
rw[hL] at hne ⊢;have hall:=fun w (G:zA) (ae:OA) (cape:Nat) (qe:Nat->EPt) (M:zA) (hE:EvsM M ae cape L qe) (hG:Mem w (G++F)) (h2:M⊆G) (h:N⊆G)=>zVS (s:=m.s) (p:=p) (zFn hg) L qe hev w hG (hP.mono (zz8 _ _)) (hK.mono (zz8 _ _)) (hs.mono (hsub h)) (hE.mono fun x hx=>zz6 _ (h2 hx));have hlt:=zXk m.s L;obtain⟨⟨u,n,k⟩,hal⟩:∃ r,zCs m.s L=r:=⟨_,rfl⟩;rw[hal] at hall hlt ⊢;simp only at hlt ⊢;refine eN func58 ntmps58 ?_;(repeat' first|refine yW ?_|(refine yB ?_;intro b w H)|(refine y11 sg H ?_;intro w H)|(refine c0 ent59 ?_;refine⟨_,hbm _ _ (H.all hF) (by intro z hz;simp[hz]),?_⟩;clear H;intro w H)|(refine f0 ent60 ?_;refine⟨_,hne _ _ (H.all hF) (by intro z hz;simp[hz]),?_⟩;clear H;intro v M2 w hR H;(try simp only[zca,zcb] at H);obtain⟨ae,ce,qe2,rfl,hE⟩:=hR)|(refine f0 ent39 ?_;refine⟨_,hall _ _ _ _ _ _ hE (H.all hF) (by intro z hz;simp[hz]) (by intro z hz;simp[hz]),?_⟩;clear H;intro v M3 w hR H;(try simp only[zca,zcb] at H);obtain⟨p3,rfl,hs3⟩:=hR.sta hlt)|fail);rw[yyh] at H;refine zc (vs:=[_,_]) (M:=_::_::(N++(M2++M3))) ⟨zg sg rfl H.mem (zz2 _) rfl rfl,zP rfl,trivial⟩ (H.sub (yy6 _ (yy6 _ (yy7 _)))) ⟨u,p3,k,_,rfl,rfl,?_⟩;by_cases hk:k=0
.subst hk;rw[if_neg (fun h=>h rfl)];exact⟨rfl,.inr ⟨rfl,rfl,M2++M3,rfl,hs3.mono (zz8 _ _)⟩⟩
.rw[if_pos hk];exact⟨rfl,.inl ⟨hk,M2++M3,rfl⟩⟩}
def MBaG (G:zA)(bm:Nat)(N:zA)(r:Mrk × Int)(M:zA)(v:Value):Prop:=∃ p Y,M=cb bm (mrk r.1 p) 74::(N++Y)/\v=.int .i64 r.2/\StaM (Y++G) r.1.s p
def MBaR (F:zA)(bm:Nat)(N:zA)(r:Mrk × Int)(M:zA)(v:Value):Prop:=∃ p Y,M=cb bm (mrk r.1 p) 74::(N++Y)/\v=.int .i64 r.2/\StaM ((N++Y)++F) r.1.s p
theorem zXo {m:Mrk}{l:List Evt}(hn:m.n<1048576)(h:(zBB m l).2=0):(zBB m l).1=⟨(zBB m l).1.s,m.n+1⟩:=by{
unfold zBB at h ⊢;rw[if_neg qO] at h ⊢;split at h
.exact absurd h (show(4:Int)≠0 by decide)
rename_i g1;rw[if_neg g1];split at h
.rename_i g;exact absurd h g
rename_i g2;rw[if_neg g2];split at h
.rename_i g;exact absurd h g
rename_i g3;rw[if_neg g3]}
theorem zXp {m:Mrk}{l:List Evt}(h:(zBB m l).2≠0):(zBB m l).1=m:=by{
unfold zBB at h ⊢;split
.rfl
split
.rfl
split
.rfl
split
.rfl
rename_i g1 g2 g3 g4;rw[if_neg g1,if_neg g2,if_neg g3,if_neg g4] at h;exact absurd rfl h}
theorem zEP {F N G:zA}{m:Mrk}{p:SPt}{bm:Nat}{l:List Evt}{a:OA}{cap:Nat}{qe:Nat->EPt}{w0 w:World}(H:St w0 (cb bm (mrk m p) 74::N) w)(hF:Mem w0 F)(hP:PriM F)(hK:KinM F)(hok:MkOk m)(hG:G⊆N++F)(hs0:StaM G m.s p)(hT:∀ e∈l,zAr e)(hN:EvsM (N++F) a cap l qe) :
  Calls prog 25 [(pt bm),.slice a l.length cap].toArray w (zZ (MBaG G bm N (zBB m l)) w0):=by{
have hs:=hs0.mono hG;by_cases hn:1048576<=m.n
.have e0:zBB m l=(m,40):=by unfold zBB;rw[if_pos hn]
 rw[e0];refine eN func25 ntmps25 ?_;(repeat' first|refine yW ?_|(refine yB ?_;intro b w H)|(refine c0 zIA ?_;refine⟨_,zJv hn _ (H.all hF) ⟨p,by simp,hs.mono (fun z hz=>(List.mem_append.1 hz).elim (fun g=>zz6 _ (by simp[g])) (zz3 _))⟩,?_⟩;clear H;intro w H)|fail);exact zL (M:=_::(N++[])) rfl (by rw[List.append_nil];exact H.sub (yy6 _ (yy7 _))) ⟨p,[],rfl,rfl,hs0⟩
have hcc:=fun(bl:Nat) w (h1:St w0 (cb bm (mrk m p) 74::cb bl [.slice a l.length cap] 30::N) w)=>zKw h1 ⟨hok.n.1,by omega⟩ ent58 (zXn hF hP hK hok.good qO hs hT hN);unfold ChgR BaX at hcc;have hst:=zXo (m:=m) (l:=l) qO;have her:=zXp (m:=m) (l:=l);obtain⟨⟨m',k⟩,hr⟩:∃ r,zBB m l=r:=⟨_,rfl⟩;rw[hr] at hcc hst her ⊢;simp only at hcc hst her ⊢;by_cases hk:k=0;rotate_left
.obtain rfl:=her hk;refine eN func25 ntmps25 ?_;(repeat' first|refine yW ?_|(refine yB ?_;intro b w H)|(have hp:=H.perm (List.perm_middle (l₁:=[_]));simp only[zca,zcb] at hp;(refine' y33 zIA ?_ ?_;rotate_left 2;exact hcc _ _ hp;rintro v M w ⟨t,q,e,N',rfl,⟨rfl,hX⟩,rfl⟩ H2;clear H hp;obtain⟨_,Y,rfl⟩:=hX.resolve_right (fun h=>hk h.1);rw[if_neg hk] at H2;have H:=H2;clear H2))|fail);exact zL (M:=_::(N++Y)) rfl (H.sub (yy5 _ (yy6 _ (yy7 _)))) ⟨p,Y,rfl,rfl,hs0.mono (zz8 _ _)⟩
subst hk;obtain⟨u,n⟩:=m';have hst:=hst rfl;simp only[Mrk.mk.injEq,true_and] at hst;subst hst;refine eN func25 ntmps25 ?_;(repeat' first|refine yW ?_|(refine yB ?_;intro b w H)|(have hp:=H.perm (List.perm_middle (l₁:=[_]));simp only[zca,zcb] at hp;(refine' y33 zIA ?_ ?_;rotate_left 2;exact hcc _ _ hp;rintro v M w ⟨t,q,e,N',rfl,⟨rfl,hX⟩,rfl⟩ H2;clear H hp;obtain⟨_,rfl,Y,rfl,hS⟩:=hX.resolve_left (fun h=>h.1 rfl);rw[if_pos rfl] at H2;have H:=H2;clear H2))|fail);exact zL (M:=_::(N++Y)) rfl (H.sub (yy5 _ (yy6 _ (yy7 _)))) ⟨q,Y,rfl,rfl,hS.mono (yyi _ _)⟩}
theorem zXq {Y N F:zA}:Y++(N++F)⊆(N++Y)++F:=fun z hz=>by simp only[List.mem_append] at hz ⊢;rcases hz with h|h|h<;>simp[h]
theorem zFr {F N:zA}{m:Mrk}{p:SPt}{bm:Nat}{l:List Evt}{a:OA}{cap:Nat}{qe:Nat->EPt}{w0 w:World}(H:St w0 (cb bm (mrk m p) 74::N) w)(hF:Mem w0 F)(hP:PriM F)(hK:KinM F)(hok:MkOk m)(hs:StaM (N++F) m.s p)(hT:∀ e∈l,zAr e)(hN:EvsM (N++F) a cap l qe) :
  Calls prog 25 [(pt bm),.slice a l.length cap].toArray w (zZ (MBaR F bm N (zBB m l)) w0) :=
 (zEP H hF hP hK hok (fun _ h=>h) hs hT hN).mono fun _ _ ⟨v,M,h1,⟨p,Y,h2,h3,h5⟩,h6⟩=>⟨v,M,h1,⟨p,Y,h2,h3,h5.mono zXq⟩,h6⟩
def zN5 (s:Sta):Prop:=∀ a∈s.aucs,s.clock<a.fin
def LateS (s t:Sta):Prop:=t.clock=s.clock/\∀ a∈t.aucs,(∃ b∈s.aucs,b.fin=a.fin)\/s.clock<a.fin
theorem LateS.go {s t:Sta}(h:LateS s t)(hl:zN5 s):zN5 t:=fun a ha=>by{
rw[h.1];rcases h.2 a ha with ⟨b,hb,e⟩|h
.rw[<- e];exact hl b hb
.exact h}
theorem zK3 {s t:Sta}(h1:t.clock=s.clock)(h2:t.aucs=s.aucs):LateS s t:=⟨h1,fun a ha=>.inl ⟨a,h2 ▸ ha,rfl⟩⟩
theorem zDB {s:Sta}{p:List Pst}:LateS s (zf s p).1:=by unfold zf;split<;>exact zK3 rfl rfl
theorem zVx {a:Auc}{b:Bid}(h:(zN a b).2=0):(zN a b).1.fin=a.fin:=by{
unfold zN at h ⊢;split at h
.exact absurd h (by decide)
split at h
.exact absurd h (by decide)
split at h
.exact absurd h (by decide)
split at h
.rename_i g;exact absurd h (by simpa using g)
.rename_i h1 h2 h3 h4;rw[if_neg h1,if_neg h2,if_neg h3,if_neg h4];rfl}
theorem zN6 {s t:Sta}{i:Nat}{p:List Pst}(h:zAz s i p=(t,0)):LateS s t:=by obtain⟨h1,h2,_⟩:=zH1 h;exact⟨h2,fun a ha=>.inl ⟨a,List.mem_of_mem_eraseIdx (h1 ▸ ha),rfl⟩⟩
theorem zPj {s t:Sta}{a:Auc}(h:zDS s a=(t,0)):LateS s t:=by{
unfold zDS at h;simp only at h;split at h
.exact absurd (Prod.mk.inj h).2 (by decide)
rename_i h1;split at h
.exact absurd (Prod.mk.inj h).2 (by assumption)
split at h
.rename_i g;rw[h] at g;exact absurd rfl g
obtain rfl:=(Prod.mk.inj h).1;have hp:=(zDB (s:=s) (p:=[⟨a.seller,a.inst,-a.qty,a.qty⟩])).1;refine⟨hp,fun x hx=>?_⟩;rcases List.mem_append.1 hx with g|g
.exact .inl ⟨x,g,rfl⟩
.rw[List.mem_singleton.1 g];exact .inr qO}
theorem zVy {s t:Sta}{n:List Int}{b:Bool}(h:zJE s n b=(t,0)):LateS s t:=by{
unfold zJE at h;simp only at h;split at h
.exact absurd (Prod.mk.inj h).2 (by decide)
split at h;rotate_left
.exact absurd (Prod.mk.inj h).2 (by decide)
split at h
.exact absurd (Prod.mk.inj h).2 (by decide)
split at h
.exact absurd (Prod.mk.inj h).2 (by assumption)
rename_i ht;have key:∀ p,(if (zf s p).2≠0 then zf s p else({ (zf s p).1 with aucs:=s.aucs.set (zAI s (nF n 0)).toNat (zN (au_ s.aucs (zAI s (nF n 0)).toNat) ⟨nF n 1,nF n 2⟩).1 },0))=(t,0)->LateS s t:=by
 intro p h;split at h
 .rename_i g;rw[h] at g;exact absurd rfl g
 obtain rfl:=(Prod.mk.inj h).1;refine⟨zDB.1,fun x hx=>.inl ?_⟩;rcases List.mem_or_eq_of_mem_set hx with g|g
 .exact⟨x,g,rfl⟩
 .by_cases hi:(zAI s (nF n 0)).toNat<s.aucs.length
  .refine⟨au_ s.aucs (zAI s (nF n 0)).toNat,?_,?_⟩
   .unfold au_;rw[yy2,yy1 hi];exact List.getElem_mem _
   .rw[g,zVx (Decidable.of_not_not ht)]
  .have e:s.aucs.set (zAI s (nF n 0)).toNat (zN (au_ s.aucs (zAI s (nF n 0)).toNat) ⟨nF n 1,nF n 2⟩).1=s.aucs:=List.set_eq_of_length_le qO;have hx:x∈s.aucs.set (zAI s (nF n 0)).toNat (zN (au_ s.aucs (zAI s (nF n 0)).toNat) ⟨nF n 1,nF n 2⟩).1:=hx;rw[e] at hx;exact⟨x,hx,rfl⟩
exact key _ h}
theorem zSh {s t:Sta}{k:Int}{n:List Int}{tx:ByteArray}(hk:1<=k/\k<=23)(h20:k≠20)(he:zB6 s k n tx=(t,0)):LateS s t:=by{
have hps:∀ {p u},zf s p=(u,0)->LateS s u:=fun{p u} g=>by have:=zDB (s:=s) (p:=p);rw[g] at this;exact this
unfold zB6 at he;rcases kinds hk with rfl|rfl|rfl|rfl|rfl|rfl|rfl|rfl|rfl|rfl|rfl|rfl|rfl|rfl|rfl|rfl|rfl|rfl|rfl|rfl|rfl|rfl|rfl<;>first|exact absurd rfl h20|simp only[Int.reduceEq,if_false,if_true] at he
all_goals first|exact zPj he|exact zVy he|skip
all_goals(try unfold zEj at he)
all_goals(try unfold zEk at he)
all_goals(try unfold zEl at he)
all_goals(try unfold zGL at he)
all_goals(try unfold zC4 at he)
all_goals(try unfold zBW at he)
all_goals(try unfold zDn at he)
all_goals(try unfold zGM at he)
all_goals(try unfold zCn at he)
all_goals(try unfold zBy at he)
all_goals(try unfold zDT at he)
all_goals(try unfold zEm at he)
all_goals(try unfold zDQ at he)
all_goals(try unfold zAX at he)
all_goals(try simp only at he)
all_goals(repeat' split at he)
all_goals first
 | exact absurd (Prod.mk.inj he).2 (by decide)
 | exact absurd (Prod.mk.inj he).2 (by assumption)
 | exact hps he
 | exact zN6 he
 | (have h1:=zDB (s:={ s with orders:=(zDP s.orders (zO s.orders (nF n 0)).1.id).1 }) (p:=[⟨(zO s.orders (nF n 0)).1.acct,(zV (zO s.orders (nF n 0)).1).1,- -(zV (zO s.orders (nF n 0)).1).2,-(zV (zO s.orders (nF n 0)).1).2⟩]);rw[he] at h1;exact h1)
 | (rename_i g;rw[he] at g;exact absurd rfl g)
 | (obtain rfl:=(Prod.mk.inj he).1
    first|exact zK3 rfl rfl|exact⟨zDB.1,zDB.2⟩)}
theorem zJ4 {s t:Sta}{e:Evt}(hd:zM s e=(t,0))(h20:e.kind≠20)(hl:zN5 s):zN5 t:=by obtain⟨_,_,ev,_,_,hd⟩:=zBt hd;exact(zSh ev.kind h20 hd).go hl
theorem zVz {s:Sta}(g:Good s):zFH s.aucs s.clock=[]↔zN5 s:=by{
have hm:=g.aucs;rcases zGA s.aucs s.clock with ⟨_,_,h3⟩|⟨h1,_⟩;rotate_left
.rw[hm] at h1;cases h1
have hmf:∀ a∈s.aucs,zAS a=true:=fun a ha=>((zs.1 hm).2.1 a ha);constructor
.intro h a ha;rw[h] at h3;have h4:=h3.symm.eq_nil;have:=List.filter_eq_nil_iff.1 h4 a ha;unfold zAW at this;rw[hmf a ha] at this;simp only[Bool.true_and,decide_eq_true_eq] at this;omega
.intro h;have hf:s.aucs.filter (fun x=>zAW x s.clock)=[]:=by refine List.filter_eq_nil_iff.2 fun a ha=>?_;unfold zAW;have:=h a ha;simp only[yy3,decide_eq_true_eq,not_and];intro _;omega
 rw[hf] at h3;exact h3.eq_nil}
theorem zPk {x:WS}{id:Int}{e:Evt}(h:trN id x=some e):e.kind=13:=by{
unfold trN zE0 at h;simp only at h;split at h
.cases h;rfl
.cases h}
theorem zV0 {id:Int}{x y:WS}(h:Beh (trN id) x y)(hl:zN5 x.s):zN5 y.s:=by{
induction h with
| here=>exact hl
| on h1 h2 _ ih=>exact ih (zJ4 (Prod.ext rfl h2) (by rw[zPk h1];decide) hl)}
structure FairS (s:Sta):Prop where
 good:Good s
 late:zN5 s
 cross:zFp s.orders=false
theorem zV1 {s t:Sta}{c:Cmd}{l:List Evt}{n:Int}(h:FairS s)(hc:zCb s c=(l,0))(ha:zCs s l=(t,n,0)):FairS t:=by{
obtain⟨u,hu⟩:=zPf hc;obtain rfl:u=t:=(Prod.mk.inj (hu.all.symm.trans ha)).1;refine⟨hu.good,?_,hu.cross h.cross⟩;by_cases h17:c.kind=17
.exact(zVz hu.good).1 (hu.row h17)
obtain⟨f,t1,y,hk⟩:=zPa hc;obtain rfl:y=u:=(Prod.mk.inj ((hk.all).1.symm.trans hu.all)).1;have h20:f.kind≠20:=by rw[hk.kind];rcases zEK (zFe hk.may) with h|h|h|h|h|h|h|h|h|h|h|h|h|h|h|h|h|h|h|h<;>rw[h]<;>first|decide|exact absurd h h17
have ht:=zJ4 hk.ev h20 h.late;rcases hk.beh with ⟨_,z,b1,_,_,rfl,_⟩|⟨k1,_⟩|⟨_,_,_,rfl⟩
.exact zV0 b1 ht
.exact absurd k1 h17
.exact ht}
structure DoneP (m t:Mrk)(l:List Evt):Prop where
 room:m.n<1048576
 next:t.n=m.n+1
 goodS:Good m.s
 good:Good t.s
 all:zCs m.s l=(t.s,(l.length:Int),0)
 len:0<l.length/\l.length<=40
 evs:∀ e∈l,e.v=3/\zk e=true
 fair:FairS m.s->FairS t.s
theorem zH4 {m t:Mrk}{c:Cmd}{l:List Evt}(h:mDo m c=(t,l,0)):DoneP m t l:=by{
unfold mDo at h;by_cases g:1048576<=m.n
.rw[if_pos g] at h;exact absurd (Prod.mk.inj (Prod.mk.inj h).2).2 (by decide)
rw[if_neg g] at h;by_cases g2:(zCb m.s c).2≠0
.rw[if_pos g2] at h;exact absurd (Prod.mk.inj (Prod.mk.inj h).2).2 g2
rw[if_neg g2] at h;obtain⟨rfl,e2⟩:=Prod.mk.inj h;obtain⟨rfl,_⟩:=Prod.mk.inj e2;have hc:zCb m.s c=((zCb m.s c).1,0):=Prod.ext rfl (Decidable.of_not_not g2);obtain⟨u,hu⟩:=zPf hc;obtain⟨f,es,_,hes⟩:=hu.fst;have e3:(zCs m.s (zCb m.s c).1).1=u:=congrArg (·.1) hu.all;have ha:=hu.all;rw[<- e3] at ha;refine⟨by omega,rfl,hu.goodS,by rw[e3];exact hu.good,ha,⟨by rw[hes];exact Nat.succ_pos _,hu.len⟩,hu.evs,fun hf=>zV1 hf hc ha⟩}
theorem zHU {m:Mrk}{c:Cmd}(h:(mDo m c).2.2≠0):(mDo m c).1=m/\(mDo m c).2.1=[]:=by{
unfold mDo at h ⊢;by_cases g:1048576<=m.n
.rw[if_pos g];exact⟨rfl,rfl⟩
rw[if_neg g] at h ⊢;by_cases g2:(zCb m.s c).2≠0
.rw[if_pos g2];exact⟨rfl,rfl⟩
.rw[if_neg g2] at h;exact absurd rfl h}
theorem zJ5 {m:Mrk}{l:List Evt}(h:(zBB m l).2≠0):(zBB m l).1=m:=by{
unfold zBB at h ⊢;by_cases g:1048576<=m.n
.rw[if_pos g]
rw[if_neg g] at h ⊢;by_cases g2:zHG l=false
.rw[if_pos g2]
rw[if_neg g2] at h ⊢;by_cases g3:(zC2 l []).2≠0
.rw[if_pos g3]
rw[if_neg g3] at h ⊢;by_cases g4:(zCs m.s (zC2 l []).1).2.2≠0
.rw[if_pos g4]
.rw[if_neg g4] at h;exact absurd rfl h}
theorem zSi {s t:Sta}{l:List Evt}{n:Int}(h:zCs s l=(t,n,0)):Good t:=by{
unfold zCs at h;by_cases hm:zCP s=true
.rw[if_pos hm] at h;exact zQQ (zAl.1 hm) h
.rw[if_neg hm] at h;exact absurd (Prod.mk.inj (Prod.mk.inj h).2).2 (by decide)}
theorem zQ6 {m t:Mrk}{l:List Evt}(h:zBB m l=(t,0)):t.n=m.n+1/\m.n<1048576/\Good t.s:=by{
unfold zBB at h;by_cases g:1048576<=m.n
.rw[if_pos g] at h;exact absurd (Prod.mk.inj h).2 (by decide)
rw[if_neg g] at h;by_cases g2:zHG l=false
.rw[if_pos g2] at h;exact absurd (Prod.mk.inj h).2 (by decide)
rw[if_neg g2] at h;by_cases g3:(zC2 l []).2≠0
.rw[if_pos g3] at h;exact absurd (Prod.mk.inj h).2 g3
rw[if_neg g3] at h;by_cases g4:(zCs m.s (zC2 l []).1).2.2≠0
.rw[if_pos g4] at h;exact absurd (Prod.mk.inj h).2 g4
rw[if_neg g4] at h;obtain rfl:=(Prod.mk.inj h).1;exact⟨rfl,by omega,zSi (Prod.ext rfl (Prod.ext rfl (Decidable.of_not_not g4)))⟩}
end Go.Proofs.YtejhijhnlogikaaGreatDoor
