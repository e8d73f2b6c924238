/- Steps of the proof. -/
import Derived.Test.YtejhijhnlogikaaGreatDoorMe30
set_option linter.all false
set_option maxHeartbeats 16000000
namespace Go.Proofs.YtejhijhnlogikaaGreatDoor
open Go Go.Sk Go.RowKit Go.Proofs.Tryz
attribute [local irreducible] Go.Calls
theorem evB_eq {a b:Evt}(h:evB a b=true):a=b:=by unfold evB numB txtB at h;simp only[yy3,beq_iff_eq,yye,yy8] at h;obtain⟨⟨⟨⟨h1,h2⟩,h3⟩,h4⟩,h5,h6⟩:=h;have e1:=zHS (d:=0) h3 h5;have e2:=zHS (d:=ByteArray.empty) h4 fun j hj=>(zHI _ _).1 (h6 j hj);cases a;cases b;cases h1;cases h2;cases e1;cases e2;rfl
def annE:Evt:=evN 1 ⟨#[97,110,110]⟩ [1]
structure MaF (m1 m2:Mrk):Prop where
 d1:mDo zNi zGH=(m1,[annE],0)
 d2:mDo m1 zGH=(m1,[],6)
 n1:m1.n=1
 b1:zBB m1 maL=(m2,0)
 b2:zBB m2 maM=(m2,47)
 b3:zBB m2 []=(m2,4)
 n2:m2.n=2
 tot:zAf m2.s.rows 1 0=500
theorem ma_f:∃ m1 m2,MaF m1 m2:=by{
have h:=ma_b;unfold maB at h;simp only[yy3,beq_iff_eq] at h;obtain⟨⟨⟨⟨⟨⟨h1,h2⟩,h3⟩,h4⟩,⟨h5,h6⟩,h7⟩,h8⟩,h9⟩:=h;obtain⟨⟨m1,l,k⟩,e1⟩:∃ r,mDo zNi zGH=r:=⟨_,rfl⟩;rw[e1] at h1 h2 h3 h4 h5 h6 h7 h8 h9;simp only at h1 h2 h3 h4 h5 h6 h7 h8 h9;subst h1;obtain⟨⟨m2,k2⟩,e2⟩:∃ r,zBB m1 maL=r:=⟨_,rfl⟩;rw[e2] at h5 h6 h7 h8 h9;simp only at h5 h6 h7 h8 h9;subst h5;unfold evsB at h2;simp only[yy3,beq_iff_eq,yye,yy8] at h2;obtain⟨hl,he⟩:=h2;have hl:l.length=1:=hl;match l,hl with
| [x],_ =>
obtain rfl:x=annE:=evB_eq (he 0 Nat.zero_lt_one);have d2:=zHU (m:=m1) (c:=zGH) (by rw[h4];decide);have b2:=zJ5 (m:=m2) (l:=maM) (by rw[h8];decide);have b3:=zJ5 (m:=m2) (l:=[]) (by rw[h9];decide);exact⟨m1,m2,e1,Prod.ext d2.1 (Prod.ext d2.2 h4),h3,e2,Prod.ext b2 h8,Prod.ext b3 h9,h6,h7⟩}
def zMO:List Value->List EPt
 | _::_::.slice a _ c::.slice a2 _ c2::r=>⟨a,c,a2,c2⟩::zMO r
 | _=>[]
theorem zV2 {F:zA}{b:Nat}{T:TypeId}{cs:List Value}(l:List Evt)(h:cb b cs T∈F)(hE:EvL F l (zMO cs))(hx:cs=(l.zip (zMO cs)).flatMap (fun x=>x.1.cells x.2):=by rfl)(hc:cs.length=l.length*4:=by rfl)(hl:l.length<=1000:=by decide):EvsM F (some ⟨b,0,none⟩) l.length l (ept_ (zMO cs)):=by have o:=Go.Sk.Own.mk (g:=b) (cs:=cs) (E:=T) (size:=4) (zzC l.length) (by unfold maxLen;omega) hc;rw[List.take_of_length_le (Nat.le_of_eq hc)] at o;exact EvsM.of l _ o (fun p hp=>by rw[List.mem_singleton.1 hp];exact h) hE rfl hx hl
theorem zQ7 (k:Int)(n:List Int)(hk:0<=k/\k<=255):zAr (old6 k n):=⟨⟨(show(0:Int)<=1 by decide),(show(1:Int)<=255 by decide)⟩,hk,fun t ht=>nomatch ht⟩
theorem zIp {F:zA}{b:Nat}{T:TypeId}(k:Int)(n:List Int)(hl:n.length<=1000)(h:cb b (n.map (Value.int .i64)) T∈F):EvtM F (old6 k n) ⟨some ⟨b,0,none⟩,n.length,none,0⟩:=⟨zHB n hl h,SlA.nil⟩
theorem ok_new:MkOk zNi:=⟨zJx,by decide⟩
theorem zPl:zGG zGH:=⟨by decide,by decide⟩
theorem ma_t:(∀ e∈maL,zAr e)/\∀ e∈maM,zAr e:=by{
constructor
.intro e he;rw[List.mem_singleton.1 he];exact zQ7 _ _ (by decide)
.intro e he;unfold maM at he;simp only[List.mem_cons,List.not_mem_nil,or_false] at he;rcases he with rfl|rfl|rfl<;>exact zQ7 _ _ (by decide)}
theorem zIq {x:Nat × Obj}{A M F:zA}:A++F⊆(x::(A++M))++F:=fun z hz=>zz5 _ ((List.mem_append.1 hz).elim (fun h=>zz6 _ (zz6 _ h)) (zz3 _))
theorem zFs {F:zA}(w0:World)(hF:Mem w0 F)(hP:PriM F)(hK:KinM F)(hC:ComM F):Cr 9 [] (.bool true) w0:=by obtain⟨m1,m2,A⟩:=ma_f;have D1:=zH4 A.d1;obtain⟨_,_,g2⟩:=zQ6 A.b1;have ok1:MkOk m1:=⟨D1.good,by rw[A.n1];decide⟩;have ok2:MkOk m2:=⟨g2,by rw[A.n2];decide⟩;have do1:=fun{w:World} {bm b2:Nat} {p:SPt} {N:zA} (hs:StaM N zNi.s p) (H:St w0 (cb bm (mrk zNi p) 74::cb b2 (zGH.cells none 0) 29::N) w)=>zKz (c:=zGH) (na:=none) (nc:=0) H hF hP hK hC ok_new (hs.mono (fun z hz=>zz6 _ (zz4 _ hz))) zPl zEL;have do2:=fun{w:World} {bm:Nat} {p:SPt} {N:zA} (hs:StaM (N++F) m1.s p) (H:St w0 (cb bm (mrk m1 p) 74::N) w)=>zKz (c:=zGH) (na:=none) (nc:=0) H hF hP hK hC ok1 hs zPl zEL;have ba1:=fun{w:World} {bm:Nat} {p:SPt} {N:zA} {a:OA} {q:Nat->EPt} (hs:StaM (N++F) m1.s p) (H:St w0 (cb bm (mrk m1 p) 74::N) w) (hE:EvsM (N++F) a 1 maL q)=>zFr H hF hP hK ok1 hs ma_t.1 hE;have ba2:=fun{w:World} {bm:Nat} {p:SPt} {N:zA} {a:OA} {q:Nat->EPt} (hs:StaM (N++F) m2.s p) (H:St w0 (cb bm (mrk m2 p) 74::N) w) (hE:EvsM (N++F) a 3 maM q)=>zFr H hF hP hK ok2 hs ma_t.2 hE;have ba3:=fun{w:World} {bm:Nat} {p:SPt} {N:zA} (hs:StaM (N++F) m2.s p) (H:St w0 (cb bm (mrk m2 p) 74::N) w)=>zFr (l:=[]) (a:=none) (cap:=0) (qe:=fun _=>zEN) H hF hP hK ok2 hs (fun e he=>nomatch he) zQ4;unfold MDoR at do1 do2;unfold MBaR at ba1 ba2 ba3;rw[A.d1] at do1;rw[A.d2] at do2;rw[A.b1] at ba1;rw[A.b2] at ba2;rw[A.b3] at ba3;simp only at do1 do2 ba1 ba2 ba3;have sq1:=fun{w:World} {G:zA} {bm:Nat} (hG:Mem w G) (hm:MkM G bm m1)=>zEz w hG hm;have sq2:=fun{w:World} {G:zA} {bm:Nat} (hG:Mem w G) (hm:MkM G bm m2)=>zEz w hG hm;rw[A.n1] at sq1;rw[A.n2] at sq2;have sm:=fun{w:World} {G:zA} {p q:EPt} (hG:Mem w G) (h1:EvtM G annE p) (h2:EvtM G annE q)=>zH3 annE annE p q w hG h1 h2;rw[zN2] at sm;have to2:=fun{w:World} {G:zA} {a:OA} {cap:Nat} (hG:Mem w G) (h:SlA G 4 a m2.s.rows.length cap (rwl m2.s.rows))=>zMz m2.s.rows (zJn g2) 1 0 w hG h;rw[A.tot] at to2;refine eS func9 ntmps9 fun H=>?_;(repeat' first|refine yW ?_|(refine yB ?_;intro b w H)|(refine y11 sg H ?_;intro w H)|(refine f0 ent10 ?_;refine⟨_,zVW _,?_⟩;clear H;intro v M w hR H;(try simp only[zca,zcb] at H);obtain⟨bm,p0,N0,rfl,rfl,hs0⟩:=hR)|(refine c0 zD6 ?_;refine⟨_,zEz (m:=zNi) _ H.mem ⟨p0,zz2 _,hs0.mono (fun z hz=>zz4 _ hz)⟩,?_⟩;clear H;intro w H)|(have hp:=H.perm (List.Perm.swap _ _ _);refine' y33 zDj ?_ ?_;rotate_left 2;exact do1 hs0 hp;rintro v M w ⟨p1,a1,c1,q1,Y1,rfl,rfl,⟨⟨hnE,hcE,bE,offE,csE,TE,frE,hsE⟩,hevE⟩,hs1⟩ H2;clear H hp;have H:=H2;clear H2;simp only[zca] at H)|(refine' y33 zDj ?_ ?_;rotate_left 2;exact do2 hs1 H;rintro v M w ⟨p2,a2,c2,q2,Y2,rfl,rfl,_,hs2⟩ H2;clear H;have H:=H2;clear H2;simp only[zca] at H)|(refine y40 sg (hsE) ?_ ?_ ?_;(first|omega|decide);(first|omega|decide))|(refine y42 sg (hsE) ((H.mem.sub (by intro z hz;simp[hz]))) ?_ ?_;(first|omega|decide))|(refine zBA sg H ?_;intro b w H _)|(refine c0 zPs ?_;refine⟨_,sm H.mem ((hevE 0 Nat.zero_lt_one).mono (by intro z hz;simp[hz])) (zW3 1 ⟨#[97,110,110]⟩ [1] (by decide) (zz5 _ (zz2 _)) (zz2 _)),?_⟩;clear H;intro w H)|(refine c0 zD6 ?_;refine⟨_,sq1 (H.all hF) ⟨p2,zz5 _ (zz5 _ (zz2 _)),hs2.mono (fun z hz=>zz5 _ (zz5 _ (zz5 _ hz)))⟩,?_⟩;clear H;intro w H)|(refine c0 ent33 ?_;refine⟨_,c_old _,?_⟩;clear H;intro w H)|(have hp:=H.perm (List.perm_middle (l₁:=[_,_,_,_]));simp only[zca,zcb] at hp;refine' y33 zE9 ?_ ?_;rotate_left 2;exact ba1 (hs2.mono (fun z hz=>zz5 _ (zz5 _ (zz5 _ (zz5 _ hz))))) hp (zV2 maL (zz2 _) ⟨zIp 6 [1,5] (by decide) (zz5 _ (zz2 _)),trivial⟩);rintro v M w ⟨p3,Y3,rfl,rfl,hs3⟩ H2;clear H hp;have H:=H2;clear H2;simp only[zca] at H)|(have hp:=H.perm (List.perm_middle (l₁:=[_,_,_,_]));simp only[zca,zcb] at hp;refine' y33 zE9 ?_ ?_;rotate_left 2;exact ba2 (hs3.mono (fun z hz=>zz5 _ (zz5 _ (zz5 _ (zz5 _ hz))))) hp (zV2 maM (zz2 _) ⟨zIp 6 [1,5] (by decide) (zz5 _ (zz5 _ (zz5 _ (zz2 _)))),zIp 7 [1,9] (by decide) (zz5 _ (zz5 _ (zz2 _))),zIp 7 [1,9] (by decide) (zz5 _ (zz2 _)),trivial⟩);rintro v M w ⟨p4,Y4,rfl,rfl,hs4⟩ H2;clear H hp;have H:=H2;clear H2;simp only[zca] at H)|(refine' y33 zE9 ?_ ?_;rotate_left 2;exact ba3 hs4 H;rintro v M w ⟨p5,Y5,rfl,rfl,hs5⟩ H2;clear H;have H:=H2;clear H2;simp only[zca] at H)|(refine f0 zMb ?_;refine⟨_,zJt (m:=m2) (zBJ g2) _ (H.all hF) ⟨p5,zz2 _,hs5.mono (fun z hz=>zz5 _ hz)⟩,?_⟩;clear H;intro v M w hR H;(try simp only[zca,zcb] at H);obtain⟨p6,rfl,hs6⟩:=hR)|(refine c0 zPu ?_;refine⟨_,to2 H.mem (SlA.mono hs6.rw (by intro z hz;simp[hz])),?_⟩;clear H;intro w H)|(refine c0 zD6 ?_;refine⟨_,sq2 (H.all hF) ⟨p5,zz2 _,hs5.mono (zIq (M:=M))⟩,?_⟩;clear H;intro w H)|fail);exact zG rfl H.cl rfl
set_option maxRecDepth 20000 in
theorem zGC {F:zA}(s:Sta)(p:SPt)(hac:∀ k,k<s.accts.length->(ac_ s.accts k).name.size<=140737488355328)(hin:∀ k,k<s.insts.length->(in_ s.insts k).name.size<=140737488355328)(w0:World)(hF:Mem w0 F)(hs:StaM F s p) :
  Cr 18 [.agg (s.cells p).toArray] (.bool (zCx s)) w0:=by{
obtain⟨ha,hi,hr,ho,hu⟩:=hs;obtain⟨hna,hca,ba,offa,csa,Ta,fra,ha⟩:=ha;obtain⟨hni,hci,bi,offi,csi,Ti,fri,hi⟩:=hi;obtain⟨hnr,hcr,_⟩:=hr;obtain⟨hno,hco,_⟩:=ho;obtain⟨⟨hnu,hcu,bu,offu,csu,Tu,fru,hu⟩,hub⟩:=hu;have hub':∀ k,k<s.aucs.length->(s.aucs.getD k default).bids.length<=140737488355328:=fun k hk=>(hub k hk).2.1;have hw0:IntKind.i64.wrap (IntKind.i64.wrap (IntKind.i64.wrap (IntKind.i64.wrap ((s.accts.length:Int)+(s.insts.length:Int))+(s.rows.length:Int))+(s.orders.length:Int))+(s.aucs.length:Int))=((lgN s:Nat):Int):=by unfold lgN;rw[w64 (x:=(s.accts.length:Int)+(s.insts.length:Int)) qO qO,w64 (x:=(s.accts.length:Int)+(s.insts.length:Int)+(s.rows.length:Int)) qO qO,w64 (x:=(s.accts.length:Int)+(s.insts.length:Int)+(s.rows.length:Int)+(s.orders.length:Int)) qO qO,w64 qO qO];omega
have hN:lgN s<=800000000000000:=by unfold lgN;omega
obtain⟨N,hNe⟩:∃ N,lgN s=N:=⟨_,rfl⟩;rw[hNe] at hw0 hN;refine eS func18 ntmps18 fun H=>?_;(repeat' first|refine yX ?_|(refine yB ?_;intro b w H)|fail);refine zD [(3,4),(26,46)] (fun k:Nat=>[(3,.int .i64 ((zBh 1500 (zLk s) N k:Nat):Int)),(4,.int .i64 (k:Int))]) (fun k w=>St w0 [cb _ (s.cells p) 40] w/\k<=s.aucs.length) (fun k=>s.aucs.length - k) 0 ⟨congrArg (Value.int .i64) hw0,rfl,trivial⟩ ⟨H,zzD _⟩ ?_;clear H;rintro k gh w ⟨H,hk⟩;have hle:=zGz (c:=1500) (z:=zLk s) (n:=N) (B:=1501) k fun j _=>by unfold zLk;omega
obtain⟨m,hm⟩:∃ m,zBh 1500 (zLk s) N k=m:=⟨_,rfl⟩;rw[hm] at hle ⊢;by_cases hkl:k<s.aucs.length/\m<=1500
.have d1:decide ((k:Int)<(s.aucs.length:Int))=true:=yyb qO;have d2:decide ((m:Int)<=1500)=true:=yyb qO;(repeat' first|refine yW ?_|refine x40 sg hu ?_|refine x44 sg hu (H.memF hF) ?_|fail);exact zC (k+1) rfl ⟨congrArg (Value.int .i64) (zMw (d:=1501) hm hkl.2 rfl rfl qO qO),zU qO,trivial⟩ ⟨H,hkl.1⟩ qO
have hd:=fun b=>zIe (c:=1500) rfl hkl b;have e1:lgU s=m:=by unfold lgU;rw[hNe,zFZ hk (by rw[hm];exact hkl),hm]
clear hkl hm hk;(repeat' first|refine yW ?_|((first|refine y17 ?_ ?_|refine y23 ?_ ?_);all_goals(intro h;try (exfalso;first|((exact hd _ ‹_› h);done))))|fail)
all_goals
 clear hd;refine zD [(3,3),(5,5),(47,67)] (fun k:Nat=>[(3,.int .i64 ((zBh 1500 (zLl s) m k:Nat):Int)),(5,.int .i64 (k:Int))]) (fun k w=>St w0 [cb _ (s.cells p) 40] w/\k<=s.accts.length) (fun k=>s.accts.length - k) 0 ⟨rfl,rfl,trivial⟩ ⟨H,zzD _⟩ ?_;clear H;rintro k gh w ⟨H,hk⟩;have hle1:=zGz (c:=1500) (z:=zLl s) (n:=m) (B:=140737488355328) k fun j hj=>by have:=hac j qO;unfold zLl;omega
 obtain⟨m1,hm1⟩:∃ m1,zBh 1500 (zLl s) m k=m1:=⟨_,rfl⟩;rw[hm1] at hle1 ⊢;by_cases hkl:k<s.accts.length/\m1<=1500
 .have d1:decide ((k:Int)<(s.accts.length:Int))=true:=yyb qO;have d2:decide ((m1:Int)<=1500)=true:=yyb qO;(repeat' first|refine yW ?_|refine x40 sg ha ?_|refine x44 sg ha (H.memF hF) ?_|fail);exact zC (k+1) rfl ⟨congrArg (Value.int .i64) (zMx hm1 hkl.2 rfl (hac k hkl.1)),zU qO,trivial⟩ ⟨H,hkl.1⟩ qO
 have hd:=fun b=>zIe (c:=1500) rfl hkl b;have e2:lgA s=m1:=by unfold lgA;rw[e1,zFZ hk (by rw[hm1];exact hkl),hm1]
 clear hkl hm1 hk;(repeat' first|refine yW ?_|((first|refine y17 ?_ ?_|refine y23 ?_ ?_);all_goals(intro h;try (exfalso;first|((exact hd _ ‹_› h);done))))|fail)
 all_goals
  clear hd;refine zD [(3,3),(6,6),(68,88)] (fun k:Nat=>[(3,.int .i64 ((zBh 1500 (zLm s) m1 k:Nat):Int)),(6,.int .i64 (k:Int))]) (fun k w=>St w0 [cb _ (s.cells p) 40] w/\k<=s.insts.length) (fun k=>s.insts.length - k) 0 ⟨rfl,rfl,trivial⟩ ⟨H,zzD _⟩ ?_;clear H;rintro k gh w ⟨H,hk⟩;have hle2:=zGz (c:=1500) (z:=zLm s) (n:=m1) (B:=140737488355328) k fun j hj=>by have:=hin j qO;unfold zLm;omega
  obtain⟨m2,hm2⟩:∃ m2,zBh 1500 (zLm s) m1 k=m2:=⟨_,rfl⟩;rw[hm2] at hle2 ⊢;by_cases hkl:k<s.insts.length/\m2<=1500
  .have d1:decide ((k:Int)<(s.insts.length:Int))=true:=yyb qO;have d2:decide ((m2:Int)<=1500)=true:=yyb qO;(repeat' first|refine yW ?_|refine x40 sg hi ?_|refine x44 sg hi (H.memF hF) ?_|fail);exact zC (k+1) rfl ⟨congrArg (Value.int .i64) (zMx hm2 hkl.2 rfl (hin k hkl.1)),zU qO,trivial⟩ ⟨H,hkl.1⟩ qO
  have hd:=fun b=>zIe (c:=1500) rfl hkl b;have e3:lgI s=m2:=by unfold lgI;rw[e2,zFZ hk (by rw[hm2];exact hkl),hm2]
  clear hkl hm2 hk;(repeat' first|refine yW ?_|((first|refine y17 ?_ ?_|refine y23 ?_ ?_);all_goals(intro h;try (exfalso;first|((exact hd _ ‹_› h);done))))|fail)
  all_goals
   refine zG rfl H.cl (congrArg Value.bool ?_);unfold zCx;rw[e3]}
theorem zD3 {x:Nat × Obj}{A:zA}:A⊆x::A:=fun _ h=>zz5 _ h
theorem zHV {s:Sta}(h:Smal s):LtS s:=by have:=h.n;exact⟨by omega,by omega,by omega,by omega,by omega,fun k hk=>by have:=h.bd k hk;omega⟩
theorem zQ8 {m t:Mrk}{c:Cmd}{l:List Evt}(hk:MkOk m)(h:mDo m c=(t,l,0)):MkOk t:=by have d:=zH4 h;have:=d.room;have:=d.next;have:=hk.n;exact⟨d.good,by omega⟩
theorem zMP {m:Mrk}{c:Cmd}(hk:MkOk m):MkOk (mDo m c).1:=by{
by_cases h:(mDo m c).2.2=0
.exact zQ8 hk (l:=(mDo m c).2.1) (Prod.ext rfl (Prod.ext rfl h))
.rw[(zHU h).1];exact hk}
structure CI where
 i:Nat
 m:Mrk
 p:SPt
 N:zA
def zIN:Mrk:=⟨zB4,1048575⟩
def zIO:Mrk:=⟨zB4,1048576⟩
structure LastF (m:Mrk)(es:List Evt):Prop where
 d:mDo zIN zGH=(m,es,0)
 n:m.n=1048576
 ne:zIJ zIO m=false
end Go.Proofs.YtejhijhnlogikaaGreatDoor
