/- The statement ApplyNamesSaid, proved, and its tied card. -/
import Derived.Test.YtibmaifoaajllaaGreatDoorQaApplyNamesa
set_option linter.unusedSimpArgs false
set_option linter.unusedVariables false
set_option maxHeartbeats 16000000
namespace Go.Proofs.YtibmaifoaajllaaGreatDoor
section
open Go Go.Sk Go.RowKit
attribute [local irreducible] Go.Calls
theorem St.front2 {w0 w:World}{N l:zH}{a:Nat × Obj}(H:St w0 (N++l) w)(hm:a∈l):∃ r,St w0 (a::r) w∧N⊆r:=by
 obtain⟨s,t,rfl⟩:=List.append_of_mem hm
 refine⟨N++(s++t),H.perm ?_,List.subset_append_left _ _⟩
 rw[← List.append_assoc,← List.append_assoc]
 exact List.perm_middle
theorem w_z:StaW zCt:=⟨zzD _,fun k hk=>absurd hk (zzE _),zzD _,fun k hk=>absurd hk (zzE _),fun k hk=>absurd hk (zzE _)⟩
theorem zz_sta {G:zH}:StaM G zCt SPt.n0:=⟨SlA.nil,SlA.nil,SlA.nil,SlA.nil,SlA.nil,fun j hj=>absurd hj (zzE _)⟩
theorem c_allG {G L:zH}{s:Sta}{p:SPt}{r:Sta × Int × Int}{b len:Nat}(l:List Evt)(hW:StaW s)(hr:zBL s l=r)(hT:∀ e∈l,zFq e)(w:World)(hG:Mem w G)(hP:PriM G)(hK:KinM G)(hs:StaM G s p)(hL:L⊆G)(hM:EvB G L b l)(hl:len=l.length:=by rfl)(hl2:l.length≤1000:=by decide) :
  Calls Tryz.prog 21 [.agg (s.cells p).toArray,.slice (some ⟨b,0,none⟩) len len].toArray w (zn (AllR r) w):=by
 subst hr
 subst hl
 obtain⟨q,hM⟩:=hM.m hL hl2
 exact zKV hW l q hT w hG hP hK hs hM
def nmC (y:Evt × Int)(q:EPt):List Value:=y.1.cells q++[.int .i64 y.2]
def nm_ (j:Nat):Evt × Int:=nmT.getD j (⟨0,0,[],[]⟩,0)
def eptX:List Value→List EPt
 | _::_::.slice a _ c::.slice a2 _ c2::_::r=>⟨a,c,a2,c2⟩::eptX r
 | _=>[]
theorem nm_flat {F:zH}:∀ {l:List (Evt × Int)} {qs:List EPt},EvL F (l.map (·.1)) qs→(l.zip qs).flatMap (fun x=>nmC x.1 x.2)=(List.range l.length).flatMap fun j=>nmC (l.getD j (⟨0,0,[],[]⟩,0)) (ept_ qs j)
 | [],[],_=>rfl
 | e::l,q::qs,h=>by
   rw[List.zip_cons_cons,List.flatMap_cons,nm_flat h.2,List.length_cons,List.range_succ_eq_map,List.flatMap_cons,List.flatMap_map]
   rfl
 | [],_::_,h=>h.elim
 | _::_,[],h=>h.elim
theorem nm_blk {F:zH}{b:Nat}{T:TypeId}{cs:List Value}(h:cb b cs T∈F)(hE:EvL F (nmT.map (·.1)) (eptX cs))(hx:cs=(nmT.zip (eptX cs)).flatMap (fun x=>nmC x.1 x.2))(hc:cs.length=nmT.length*5):∃ q:Nat→EPt,SlA F 5 (some ⟨b,0,none⟩) 54 54 (fun j=>nmC (nm_ j) (q j))∧∀ j,j<54→EvtM F (nm_ j).1 (q j):=by
 have o:=Go.Sk.Own.mk (g:=b) (cs:=cs) (E:=T) (size:=5) (zzC nmT.length) (by unfold maxLen;decide) hc
 rw[List.take_of_length_le (Nat.le_of_eq hc)] at o
 rw[hx,nm_flat hE] at o
 refine⟨ept_ (eptX cs),o.sl (by rw[← nm_flat hE,← hx];intro p hp;rw[List.mem_singleton.1 hp];exact h) (fun _ _=>rfl) (by decide),fun j hj=>?_⟩
 have:=zSl hE j (by rw[List.length_map];exact hj)
 have e:ev_ (nmT.map (·.1)) j=(nm_ j).1:=by
  unfold ev_ nm_
  rw[List.getD_eq_getElem?_getD,List.getD_eq_getElem?_getD,List.getElem?_map,List.getElem?_eq_getElem (show j<nmT.length from hj)]
  rfl
 rw[e] at this
 exact this
theorem nm_evt:∀ e∈nmT.map (·.1),zFq e:=evt_all (by decide +kernel)
theorem nm_in {j:Nat}(h:j<54):nm_ j∈nmT:=by
 unfold nm_
 rw[List.getD_eq_getElem?_getD,List.getElem?_eq_getElem (show j<nmT.length from h)]
 exact List.getElem_mem _
theorem joinT {w0 w w1:World}{L N M:zH}(H:St w0 (L++N) w)(hcl:Cl w0 w1)(hL:Mem w1 L)(hM:Mem w M)(hg:∀ p∈M,w1.heap.size≤p.1)(hn:(M.map (·.1)).Nodup):∃ N',St w0 (L++N') w∧N⊆N'∧M⊆N':=by
 obtain⟨N1,H,hs⟩:=H.join hcl hM hg hn
 rw[List.append_assoc] at H
 refine⟨N++N1,H,List.subset_append_left _ _,fun p hp=>?_⟩
 have h1:=hs hp
 rw[List.append_assoc] at h1
 rcases List.mem_append.1 h1 with h|h
 ·have:=zB5 (hL p h)
  have:=hg p hp
  omega
 ·exact h
def EvR (e:Evt)(M:zH)(v:Value):Prop:=∃ q:EPt,v=.agg (e.cells q).toArray∧EvtM M e q
def EvsR (l:List Evt)(M:zH)(v:Value):Prop:=∃ b,v=.slice (some ⟨b,0,none⟩) l.length l.length∧∃ q,EvsM M (some ⟨b,0,none⟩) l.length l q
def AnyR (s:Sta)(k e:Int)(_:zH)(v:Value):Prop:=∃ p,v=.tuple #[.agg (s.cells p).toArray,.int .i64 k,.int .i64 e]
def AnyS (s:Sta)(_:zH)(v:Value):Prop:=∃ p,v=.agg (s.cells p).toArray
def TwR (s:Sta)(k e:Int)(M:zH)(v:Value):Prop:=∃ p,v=.tuple #[.agg (s.cells p).toArray,.int .i64 k,.int .i64 e]∧StaM M s p
def TwS (s:Sta)(M:zH)(v:Value):Prop:=∃ p,v=.agg (s.cells p).toArray∧StaM M s p
def PtR (T:TypeId)(cs:List Value)(M:zH)(v:Value):Prop:=∃ b,M=[cb b cs T]∧v=.pointer (some ⟨b,0,none⟩)
theorem evs_row {F:zH}{b:Nat}{T:TypeId}{cs:List Value}(l:List Evt)(h:cb b cs T∈F)(hE:EvL F l (eptOf cs))(hx:cs=(l.zip (eptOf cs)).flatMap (fun x=>x.1.cells x.2))(hc:cs.length=l.length*4)(hl:l.length≤1000:=by decide):EvsR l F (.slice (some ⟨b,0,none⟩) l.length l.length):=⟨b,rfl,_,evs_blk l h hE hx hc hl⟩
set_option maxRecDepth 20000 in
theorem c_lNames {F:zH}(w0:World)(hF:Mem w0 F)(hP:PriM F)(hK:KinM F):Calls Tryz.prog 5 [].toArray w0 (Ret (.bool true) w0):=by
 obtain⟨s,l,n,i,x,E⟩:=nm_f
 obtain⟨_,gs⟩:=all_good E.start
 obtain⟨_,gl⟩:=all_good E.late
 have haw:=fun w (hG:Mem w F)=>zFO w hG hP hK
 have hed:=fun w (hG:Mem w F)=>c_edge w hG hP hK
 refine enter [.tmp 0] Tryz.func5 rfl Tryz.ntmps5 rfl rfl ?_
 have H:=zB w0
 repeat' (first|refine yT ?_|(refine y10 sg H ?_;intro b w H)|(refine y11 sg H ?_;intro w H)|(refine' y30 zAb ?_ ?_;rotate_left;exact haw _ (H.memF hF);intro w hcl;replace H:=H.ext hcl;clear hcl)|(refine' y30 ent20 ?_ ?_;rotate_left;exact hed _ (H.memF hF);intro w hcl;replace H:=H.ext hcl;clear hcl)|(refine' y30 ent22 ?_ ?_;rotate_left;exact c_rEmpty _;intro w hcl;replace H:=H.ext hcl;clear hcl)|(refine' y32 ent23 ?_ ?_;rotate_left;exact zUN _;intro v M w hR hS;replace H:=H.addR hS;clear hS;(try simp only[List.cons_append,List.nil_append] at H);obtain⟨b0,b1,b2,b3,b4,b5,t1,t2,t3,rfl,rfl⟩:=hR)|(refine' y32 zNW ?_ ?_;rotate_left;exact c_allG zRN (zG4 good_e) E.start (evt_all (by decide +kernel)) _ (H.all hF) (hP.mono (zz8 _ _)) (hK.mono (zz8 _ _)) z_sta (List.subset_append_left _ _) (by apply Exists.intro;apply Exists.intro;apply And.intro;(repeat (first|exact zz2 _|refine zz5 _ ?_));exact⟨⟨zKI 1 _ [1] (by decide) (zz6 _ qC) (zz6 _ qC),zKI 3 _ [1,100] (by decide) (zz6 _ qC) (zz6 _ qC),zKI 1 _ [2] (by decide) (zz6 _ qC) (zz6 _ qC),zEV 8 [1,1,5] (by decide) (zz6 _ qC),zEV 6 [2,1000] (by decide) (zz6 _ qC),trivial⟩,rfl,rfl⟩);intro v M w hR hS;replace H:=H.addR hS;clear hS;(try simp only[List.cons_append,List.nil_append] at H);obtain⟨p1,rfl,hs1⟩:=AllR.sta hR (zDf gs))|refine yU ?_|fail)
 refine CW.named (fun en1 w=>∃ b1 N en',en1=ovl [(1,.pointer (some ⟨b1,0,none⟩)),(3,.int .i64 0)] en'∧St w0 N w∧cb b1 (s.cells p1) 28∈N∧StaM N s p1) ⟨_,_,_,zSV rfl rfl,H,qC,hs1.mono qS⟩ ?_
 clear H hs1
 rintro _ w ⟨b1,N,_,rfl,H,hb1,hss⟩
 have cAL:=fun w (G:zH) (hG:Mem w (G++(N++F))) {b:Nat} (q:Nat→EPt) (hM:EvsM G (some ⟨b,0,none⟩) nmEarly.length nmEarly q)=>zKV (zG4 gs) nmEarly q (evt_all (by decide +kernel)) w hG (hP.mono fun x hx=>zz3 _ (zz3 _ hx)) (hK.mono fun x hx=>zz3 _ (zz3 _ hx)) (hss.mono fun x hx=>zz3 _ (zz6 _ hx)) (hM.mono (List.subset_append_left _ _))
 rw[E.no] at cAL
 have H0:=H
 have hN1:=H.mem
 have hF1:=H.memF hF
 clear H
 obtain⟨w1,rfl⟩:∃ w1,w1=w:=⟨w,rfl⟩
 have H:=zB w1
 (try with_reducible apply zBW)
 refine CW.cutT (fun en1 w=>∃ b4 px N' en',en1=ovl [(1,.pointer (some ⟨b1,0,none⟩)),(3,.int .i64 47),(4,.pointer (some ⟨b4,0,none⟩))] en'∧St w0 (cb b4 (x.cells px) 28::N') w∧N⊆N') ?_ ?_
 ·repeat' (first|(refine zMw mixed 21 (hN1.ext H.cl) ?_ ?_;exact rfl;intro w hcl;replace H:=H.ext hcl;clear hcl)|(refine' z1 0 ((hN1.ext H.cl).sub qT) ?_ ?_;rotate_left;first|exact z4 sg|exact(fun w hM=>zG sg rfl rfl hM hb1 rfl rfl))|fail)
  have hF2:=hF1.ext H.cl
  refine RH.knowThenU [(4,4),(31,31),(33,47)]
   [⟨1,33,[],.box 1 [.int .i64 3] 2⟩,⟨2,34,[33],.mem (EvR (evN 1 ⟨#[99,108,111,115,101,100]⟩ [3]))⟩,⟨3,35,[],.box 1 [.int .i64 3] 2⟩,⟨4,36,[35],.mem (EvR (evF 2 [3]))⟩,⟨5,37,[],.box 1 [.int .i64 1] 2⟩,⟨6,38,[37],.mem (EvR (evF 4 [1]))⟩,⟨7,39,[],.box 2 [.int .i64 2,.int .i64 10] 2⟩,⟨8,40,[39],.mem (EvR (evN 3 ⟨#[121]⟩ [2,10]))⟩,⟨9,41,[],.box 7 [.int .i64 1,.int .i64 1,.int .i64 2,.int .i64 1,.int .i64 10,.int .i64 5,.int .i64 9] 2⟩,⟨10,42,[41],.mem (EvR (evF 14 [1,1,2,1,10,5,9]))⟩,⟨11,43,[34,36,38,40,42],.mem (EvsR nmEarly)⟩,⟨12,44,[43],.mem (AnyR x i 47)⟩,⟨13,31,[44],.mem (AnyR x i 47)⟩,⟨14,45,[31],.mem (AnyS x)⟩,⟨17,4,[],.rel (PtR 28 zIX) w.heap.size⟩]
   [⟨15,46,[31],.val (.int .i64 i)⟩,⟨16,47,[31],.val (.int .i64 47)⟩]
   [⟨1,33,[],.val undef⟩,⟨2,34,[33],.val undef⟩,⟨3,35,[],.val undef⟩,⟨4,36,[35],.val undef⟩,⟨5,37,[],.val undef⟩,⟨6,38,[37],.val undef⟩,⟨7,39,[],.val undef⟩,⟨8,40,[39],.val undef⟩,⟨9,41,[],.val undef⟩,⟨10,42,[41],.val undef⟩,⟨11,43,[34,36,38,40,42],.val undef⟩,⟨12,44,[43],.val undef⟩,⟨13,31,[44],.val undef⟩,⟨14,45,[31],.val undef⟩,⟨17,4,[],.val undef⟩]
   [⟨15,46,[31],.val undef⟩,⟨16,47,[31],.val undef⟩]
   [31,45,4] 3 (hN1.ext H.cl) rfl rfl (by decide +kernel) (KSu.cons rfl ?_ (KSu.cons rfl ?_ (KSu.cons rfl ?_ (KSu.cons rfl ?_ (KSu.cons rfl ?_ (KSu.cons rfl ?_ (KSu.cons rfl ?_ (KSu.cons rfl ?_ (KSu.cons rfl ?_ (KSu.cons rfl ?_ (KSu.cons rfl ?_ (KSu.cons rfl ?_ (KSu.cons rfl ?_ (KSu.cons rfl ?_ (KSu.cons rfl ?_ (KSu.cons rfl ?_ (KSu.cons rfl ?_ (KSu.nil)))))))))))))))))) ?_
  ·intro g w1 hcl1 hM0
   dsimp only[Know]
   have H:=zB w1
   repeat' (first|refine yT ?_|(refine z14 sg H ?_;intro b w H)|refine yU ?_|fail)
   exact⟨_,rfl,H.cl,⟨_,rfl,H.mem⟩⟩
  ·intro g w1 hcl1 hM0
   dsimp only[Know]
   rintro _ ⟨b1,rfl,hb1⟩
   have H:=zB w1
   repeat' (first|refine yT ?_|(refine' y32 ent24 ?_ ?_;rotate_left;exact zRt _;intro v M w hR hS;replace H:=H.addR hS;clear hS;(try simp only[List.cons_append,List.nil_append] at H);obtain⟨t1,rfl,rfl⟩:=hR)|refine yU ?_|fail)
   exact⟨_,rfl,H.cl,⟨[_,_],⟨_,rfl,zKI 1 _ [3] (by decide) (zz2 _) (zz5 _ (zz2 _))⟩,(hb1.ext H.cl).app H.mem⟩⟩
  ·intro g w1 hcl1 hM0
   dsimp only[Know]
   have H:=zB w1
   repeat' (first|refine yT ?_|(refine z14 sg H ?_;intro b w H)|refine yU ?_|fail)
   exact⟨_,rfl,H.cl,⟨_,rfl,H.mem⟩⟩
  ·intro g w1 hcl1 hM0
   dsimp only[Know]
   rintro _ ⟨b1,rfl,hb1⟩
   have H:=zB w1
   repeat' (first|refine yT ?_|(refine' y30 zBJ ?_ ?_;rotate_left;exact zAA _;intro w hcl;replace H:=H.ext hcl;clear hcl)|refine yU ?_|fail)
   exact⟨_,rfl,H.cl,⟨_,⟨_,rfl,zEV 2 [3] (by decide) (zz2 _)⟩,hb1.ext H.cl⟩⟩
  ·intro g w1 hcl1 hM0
   dsimp only[Know]
   have H:=zB w1
   repeat' (first|refine yT ?_|(refine z14 sg H ?_;intro b w H)|refine yU ?_|fail)
   exact⟨_,rfl,H.cl,⟨_,rfl,H.mem⟩⟩
  ·intro g w1 hcl1 hM0
   dsimp only[Know]
   rintro _ ⟨b1,rfl,hb1⟩
   have H:=zB w1
   repeat' (first|refine yT ?_|(refine' y30 zBJ ?_ ?_;rotate_left;exact zAA _;intro w hcl;replace H:=H.ext hcl;clear hcl)|refine yU ?_|fail)
   exact⟨_,rfl,H.cl,⟨_,⟨_,rfl,zEV 4 [1] (by decide) (zz2 _)⟩,hb1.ext H.cl⟩⟩
  ·intro g w1 hcl1 hM0
   dsimp only[Know]
   have H:=zB w1
   repeat' (first|refine yT ?_|(refine z14 sg H ?_;intro b w H)|refine yU ?_|fail)
   exact⟨_,rfl,H.cl,⟨_,rfl,H.mem⟩⟩
  ·intro g w1 hcl1 hM0
   dsimp only[Know]
   rintro _ ⟨b1,rfl,hb1⟩
   have H:=zB w1
   repeat' (first|refine yT ?_|(refine' y32 ent24 ?_ ?_;rotate_left;exact zRt _;intro v M w hR hS;replace H:=H.addR hS;clear hS;(try simp only[List.cons_append,List.nil_append] at H);obtain⟨t1,rfl,rfl⟩:=hR)|refine yU ?_|fail)
   exact⟨_,rfl,H.cl,⟨[_,_],⟨_,rfl,zKI 3 _ [2,10] (by decide) (zz2 _) (zz5 _ (zz2 _))⟩,(hb1.ext H.cl).app H.mem⟩⟩
  ·intro g w1 hcl1 hM0
   dsimp only[Know]
   have H:=zB w1
   repeat' (first|refine yT ?_|(refine z14 sg H ?_;intro b w H)|refine yU ?_|fail)
   exact⟨_,rfl,H.cl,⟨_,rfl,H.mem⟩⟩
  ·intro g w1 hcl1 hM0
   dsimp only[Know]
   rintro _ ⟨b1,rfl,hb1⟩
   have H:=zB w1
   repeat' (first|refine yT ?_|(refine' y30 zBJ ?_ ?_;rotate_left;exact zAA _;intro w hcl;replace H:=H.ext hcl;clear hcl)|refine yU ?_|fail)
   exact⟨_,rfl,H.cl,⟨_,⟨_,rfl,zEV 14 [1,1,2,1,10,5,9] (by decide) (zz2 _)⟩,hb1.ext H.cl⟩⟩
  ·intro g w1 hcl1 hM0
   dsimp only[Know]
   rintro _ ⟨M1,⟨q1,rfl,he1⟩,hM1⟩ _ ⟨M2,⟨q2,rfl,he2⟩,hM2⟩ _ ⟨M3,⟨q3,rfl,he3⟩,hM3⟩ _ ⟨M4,⟨q4,rfl,he4⟩,hM4⟩ _ ⟨M5,⟨q5,rfl,he5⟩,hM5⟩
   have H:=zB w1
   repeat' (first|refine yT ?_|((with_reducible apply OX.buildA sg H);exact rfl;exact rfl;exact rfl;exact rfl;exact rfl;exact rfl;exact rfl;exact rfl;exact rfl;exact rfl;exact rfl;exact rfl;intro b w H _)|refine yU ?_|fail)
   refine⟨_,rfl,H.cl,⟨_,?_,H.mem.app ((hM1.ext H.cl).app ((hM2.ext H.cl).app ((hM3.ext H.cl).app ((hM4.ext H.cl).app (hM5.ext H.cl)))))⟩⟩
   exact evs_row nmEarly (zz2 _) ⟨he1.mono qS,he2.mono qS,he3.mono qS,he4.mono qS,he5.mono qS,trivial⟩ rfl rfl
  ·intro g w1 hcl1 hM0
   dsimp only[Know]
   rintro _ ⟨M1,⟨b1,rfl,q1,he1⟩,hM1⟩
   have hm1:=hM1.app (hM0.app (hF2.ext hcl1))
   have H:=zB w1
   repeat' (first|refine yT ?_|(refine' y32 zNW ?_ ?_;rotate_left;exact cAL _ _ hm1 q1 he1;intro v M w hR hS;replace H:=H.addR hS;clear hS;(try simp only[List.cons_append,List.nil_append] at H))|refine yU ?_|fail)
   obtain⟨p,Ma,Mi,Mu,R,rfl,_,_⟩:=hR
   exact⟨_,rfl,H.cl,⟨[],⟨p,rfl⟩,fun p hp=>nomatch hp⟩⟩
  ·intro g w1 hcl1 hM0
   dsimp only[Know]
   rintro _ ⟨M1,⟨p2,rfl⟩,hM1⟩
   have H:=zB w1
   repeat' (first|refine yT ?_|refine yU ?_|fail)
   exact⟨_,rfl,H.cl,⟨[],⟨p2,rfl⟩,fun p hp=>nomatch hp⟩⟩
  ·intro g w1 hcl1 hM0
   dsimp only[Know]
   rintro _ ⟨M1,⟨p2,rfl⟩,hM1⟩
   have H:=zB w1
   repeat' (first|refine yT ?_|refine yU ?_|fail)
   exact⟨_,rfl,H.cl,⟨[],⟨p2,rfl⟩,fun p hp=>nomatch hp⟩⟩
  ·intro g w1 hcl1 hM0
   dsimp only[Know]
   have H:=zB w1
   repeat' (first|refine yT ?_|(refine y10 sg H ?_;intro b w H)|refine yU ?_|fail)
   exact⟨_,rfl,H.cl,Go.Sk.KQ.rel_of hcl1 H ⟨_,rfl,rfl⟩⟩
  ·intro g w1 hcl1 hM0
   dsimp only[Know]
   rintro _ ⟨M1,⟨p2,rfl⟩,hM1⟩
   have H:=zB w1
   repeat' (first|refine yT ?_|refine yU ?_|fail)
   exact⟨_,rfl,H.cl,rfl⟩
  ·intro g w1 hcl1 hM0
   dsimp only[Know]
   rintro _ ⟨M1,⟨p2,rfl⟩,hM1⟩
   have H:=zB w1
   repeat' (first|refine yT ?_|refine yU ?_|fail)
   exact⟨_,rfl,H.cl,rfl⟩
  intro q g w2 m' hcl
  cases h1:q 15<;>cases h2:q 16<;>simp only[List.filter_cons,List.filter_nil,h1,h2,Bool.not_true,Bool.not_false,if_true,if_false,Bool.false_eq_true,List.map_cons,List.map_nil,List.append_nil,List.cons_append,List.nil_append,List.length_cons,List.length_nil]<;>dsimp only[Know]
  all_goals
   rintro _ ⟨M1,⟨p2,rfl⟩,hM1⟩ _ ⟨M2,⟨p3,rfl⟩,hM2⟩ _ ⟨M3,⟨b4,rfl,rfl⟩,hM3,hg3,hn3⟩
   (repeat (rintro _ rfl))
   have hc9:=H.cl
   obtain⟨N3,H,hs3⟩:=St.join (H.ext hcl) hc9 hM3 hg3 hn3
   obtain⟨r3,H,_⟩:=St.front2 (N:=[]) H (hs3 (zz2 _))
   repeat' (first|refine yT ?_|(refine y11 sg H ?_;intro w H)|((with_reducible apply RH.nil);exact((hN1.ext H.cl).sub qT);decide +kernel)|(refine' z1 15 ((hN1.ext H.cl).sub qT) ?_ ?_;rotate_left;first|exact z4 sg|exact(fun w hM=>fail))|(refine' z1 16 ((hN1.ext H.cl).sub qT) ?_ ?_;rotate_left;first|exact z4 sg|exact(fun w hM=>fail))|(refine' z1 19 ((hN1.ext H.cl).sub qT) ?_ ?_;rotate_left;first|exact z4 sg|exact(fun w hM=>fail))|(refine' z1 20 ((hN1.ext H.cl).sub qT) ?_ ?_;rotate_left;first|exact z4 sg|exact(fun w hM=>fail))|refine z12 18 ((hN1.ext H.cl).sub qT) ?_|refine yU ?_|fail)
   obtain⟨r4,h1,h2⟩:=St.front2 (a:=cb _ (x.cells p3) 28) (H0.addR H) (zz2 _)
   exact⟨_,p3,r4,_,zAZ rfl rfl rfl,h1,h2⟩
 clear H H0 hF1 hN1 cAL
 rintro _ w ⟨b4,px,N',_,rfl,H,hsub⟩
 replace hb1:=hsub hb1
 replace hss:=hss.mono hsub
 clear hsub
 obtain⟨N,rfl⟩:∃ N,N=N':=⟨N',rfl⟩
 repeat' (first|refine yT ?_|refine yU ?_|fail)
 have cAL:=fun w (G:zH) (hG:Mem w (G++(N++F))) {b:Nat} (q:Nat→EPt) (hM:EvsM G (some ⟨b,0,none⟩) nmLate.length nmLate q)=>zKV (zG4 gs) nmLate q (evt_all (by decide +kernel)) w hG (hP.mono fun x hx=>zz3 _ (zz3 _ hx)) (hK.mono fun x hx=>zz3 _ (zz3 _ hx)) (hss.mono fun x hx=>zz3 _ (zz6 _ hx)) (hM.mono (List.subset_append_left _ _))
 rw[E.late] at cAL
 have H0:=H
 have hN1:Mem w N:=H.mem.sub qS
 have hF1:=H.memF hF
 clear H
 obtain⟨w1,rfl⟩:∃ w1,w1=w:=⟨w,rfl⟩
 have H:=zB w1
 (try with_reducible apply zBW)
 refine CW.cutT (fun en1 w=>∃ pl N' en',en1=ovl [(3,.int .i64 0),(4,.pointer (some ⟨b4,0,none⟩)),(6,.int .i64 8)] en'∧St w0 N' w∧cb b4 (l.cells pl) 28∈N'∧StaM N' l pl) ?_ ?_
 ·repeat' (first|(refine zMw mixed 26 (hN1.ext H.cl) ?_ ?_;exact rfl;intro w hcl;replace H:=H.ext hcl;clear hcl)|(refine' z1 0 ((hN1.ext H.cl).sub qT) ?_ ?_;rotate_left;first|exact z4 sg|exact(fun w hM=>zG sg rfl rfl hM hb1 rfl rfl))|fail)
  have hF2:=hF1.ext H.cl
  have hc9:=H0.cl.trans H.cl
  have hb9:Mem w [cb b4 (x.cells px) 28]:=(H0.ext H.cl).mem.sub (by intro q hq;rw[List.mem_singleton] at hq;subst hq;exact zz2 _)
  refine RH.knowThenU [(50,50),(52,72)]
   [⟨1,52,[],.box 1 [.int .i64 3] 2⟩,⟨2,53,[52],.mem (EvR (evN 1 ⟨#[99,108,111,115,101,100]⟩ [3]))⟩,⟨3,54,[],.box 1 [.int .i64 3] 2⟩,⟨4,55,[54],.mem (EvR (evF 2 [3]))⟩,⟨5,56,[],.box 2 [.int .i64 2,.int .i64 10] 2⟩,⟨6,57,[56],.mem (EvR (evN 3 ⟨#[121]⟩ [2,10]))⟩,⟨7,58,[],.box 3 [.int .i64 1,.int .i64 2,.int .i64 9] 2⟩,⟨8,59,[58],.mem (EvR (evF 8 [1,2,9]))⟩,⟨9,60,[],.box 7 [.int .i64 1,.int .i64 1,.int .i64 2,.int .i64 1,.int .i64 10,.int .i64 5,.int .i64 9] 2⟩,⟨10,61,[60],.mem (EvR (evF 14 [1,1,2,1,10,5,9]))⟩,⟨11,62,[],.box 6 [.int .i64 2,.int .i64 1,.int .i64 2,.int .i64 1,.int .i64 10,.int .i64 9] 2⟩,⟨12,63,[62],.mem (EvR (evF 16 [2,1,2,1,10,9]))⟩,⟨13,64,[],.box 3 [.int .i64 2,.int .i64 2,.int .i64 20] 2⟩,⟨14,65,[64],.mem (EvR (evF 17 [2,2,20]))⟩,⟨15,66,[],.box 1 [.int .i64 1] 2⟩,⟨16,67,[66],.mem (EvR (evF 4 [1]))⟩,⟨17,68,[53,55,57,59,61,63,65,67],.mem (EvsR nmLate)⟩,⟨18,69,[68],.rel (TwR l 8 0) w.heap.size⟩,⟨19,50,[69],.rel (TwR l 8 0) w.heap.size⟩,⟨20,70,[50],.rel (TwS l) w.heap.size⟩]
   [⟨21,71,[50],.val (.int .i64 8)⟩,⟨22,72,[50],.val (.int .i64 0)⟩]
   [⟨1,52,[],.val undef⟩,⟨2,53,[52],.val undef⟩,⟨3,54,[],.val undef⟩,⟨4,55,[54],.val undef⟩,⟨5,56,[],.val undef⟩,⟨6,57,[56],.val undef⟩,⟨7,58,[],.val undef⟩,⟨8,59,[58],.val undef⟩,⟨9,60,[],.val undef⟩,⟨10,61,[60],.val undef⟩,⟨11,62,[],.val undef⟩,⟨12,63,[62],.val undef⟩,⟨13,64,[],.val undef⟩,⟨14,65,[64],.val undef⟩,⟨15,66,[],.val undef⟩,⟨16,67,[66],.val undef⟩,⟨17,68,[53,55,57,59,61,63,65,67],.val undef⟩,⟨18,69,[68],.val undef⟩,⟨19,50,[69],.val undef⟩,⟨20,70,[50],.val undef⟩]
   [⟨21,71,[50],.val undef⟩,⟨22,72,[50],.val undef⟩]
   [50,70] 3 (hN1.ext H.cl) rfl rfl (by decide +kernel) (KSu.cons rfl ?_ (KSu.cons rfl ?_ (KSu.cons rfl ?_ (KSu.cons rfl ?_ (KSu.cons rfl ?_ (KSu.cons rfl ?_ (KSu.cons rfl ?_ (KSu.cons rfl ?_ (KSu.cons rfl ?_ (KSu.cons rfl ?_ (KSu.cons rfl ?_ (KSu.cons rfl ?_ (KSu.cons rfl ?_ (KSu.cons rfl ?_ (KSu.cons rfl ?_ (KSu.cons rfl ?_ (KSu.cons rfl ?_ (KSu.cons rfl ?_ (KSu.cons rfl ?_ (KSu.cons rfl ?_ (KSu.cons rfl ?_ (KSu.cons rfl ?_ (KSu.nil))))))))))))))))))))))) ?_
  ·intro g w1 hcl1 hM0
   dsimp only[Know]
   have H:=zB w1
   repeat' (first|refine yT ?_|(refine z14 sg H ?_;intro b w H)|refine yU ?_|fail)
   exact⟨_,rfl,H.cl,⟨_,rfl,H.mem⟩⟩
  ·intro g w1 hcl1 hM0
   dsimp only[Know]
   rintro _ ⟨b1,rfl,hb1⟩
   have H:=zB w1
   repeat' (first|refine yT ?_|(refine' y32 ent24 ?_ ?_;rotate_left;exact zRt _;intro v M w hR hS;replace H:=H.addR hS;clear hS;(try simp only[List.cons_append,List.nil_append] at H);obtain⟨t1,rfl,rfl⟩:=hR)|refine yU ?_|fail)
   exact⟨_,rfl,H.cl,⟨[_,_],⟨_,rfl,zKI 1 _ [3] (by decide) (zz2 _) (zz5 _ (zz2 _))⟩,(hb1.ext H.cl).app H.mem⟩⟩
  ·intro g w1 hcl1 hM0
   dsimp only[Know]
   have H:=zB w1
   repeat' (first|refine yT ?_|(refine z14 sg H ?_;intro b w H)|refine yU ?_|fail)
   exact⟨_,rfl,H.cl,⟨_,rfl,H.mem⟩⟩
  ·intro g w1 hcl1 hM0
   dsimp only[Know]
   rintro _ ⟨b1,rfl,hb1⟩
   have H:=zB w1
   repeat' (first|refine yT ?_|(refine' y30 zBJ ?_ ?_;rotate_left;exact zAA _;intro w hcl;replace H:=H.ext hcl;clear hcl)|refine yU ?_|fail)
   exact⟨_,rfl,H.cl,⟨_,⟨_,rfl,zEV 2 [3] (by decide) (zz2 _)⟩,hb1.ext H.cl⟩⟩
  ·intro g w1 hcl1 hM0
   dsimp only[Know]
   have H:=zB w1
   repeat' (first|refine yT ?_|(refine z14 sg H ?_;intro b w H)|refine yU ?_|fail)
   exact⟨_,rfl,H.cl,⟨_,rfl,H.mem⟩⟩
  ·intro g w1 hcl1 hM0
   dsimp only[Know]
   rintro _ ⟨b1,rfl,hb1⟩
   have H:=zB w1
   repeat' (first|refine yT ?_|(refine' y32 ent24 ?_ ?_;rotate_left;exact zRt _;intro v M w hR hS;replace H:=H.addR hS;clear hS;(try simp only[List.cons_append,List.nil_append] at H);obtain⟨t1,rfl,rfl⟩:=hR)|refine yU ?_|fail)
   exact⟨_,rfl,H.cl,⟨[_,_],⟨_,rfl,zKI 3 _ [2,10] (by decide) (zz2 _) (zz5 _ (zz2 _))⟩,(hb1.ext H.cl).app H.mem⟩⟩
  ·intro g w1 hcl1 hM0
   dsimp only[Know]
   have H:=zB w1
   repeat' (first|refine yT ?_|(refine z14 sg H ?_;intro b w H)|refine yU ?_|fail)
   exact⟨_,rfl,H.cl,⟨_,rfl,H.mem⟩⟩
  ·intro g w1 hcl1 hM0
   dsimp only[Know]
   rintro _ ⟨b1,rfl,hb1⟩
   have H:=zB w1
   repeat' (first|refine yT ?_|(refine' y30 zBJ ?_ ?_;rotate_left;exact zAA _;intro w hcl;replace H:=H.ext hcl;clear hcl)|refine yU ?_|fail)
   exact⟨_,rfl,H.cl,⟨_,⟨_,rfl,zEV 8 [1,2,9] (by decide) (zz2 _)⟩,hb1.ext H.cl⟩⟩
  ·intro g w1 hcl1 hM0
   dsimp only[Know]
   have H:=zB w1
   repeat' (first|refine yT ?_|(refine z14 sg H ?_;intro b w H)|refine yU ?_|fail)
   exact⟨_,rfl,H.cl,⟨_,rfl,H.mem⟩⟩
  ·intro g w1 hcl1 hM0
   dsimp only[Know]
   rintro _ ⟨b1,rfl,hb1⟩
   have H:=zB w1
   repeat' (first|refine yT ?_|(refine' y30 zBJ ?_ ?_;rotate_left;exact zAA _;intro w hcl;replace H:=H.ext hcl;clear hcl)|refine yU ?_|fail)
   exact⟨_,rfl,H.cl,⟨_,⟨_,rfl,zEV 14 [1,1,2,1,10,5,9] (by decide) (zz2 _)⟩,hb1.ext H.cl⟩⟩
  ·intro g w1 hcl1 hM0
   dsimp only[Know]
   have H:=zB w1
   repeat' (first|refine yT ?_|(refine z14 sg H ?_;intro b w H)|refine yU ?_|fail)
   exact⟨_,rfl,H.cl,⟨_,rfl,H.mem⟩⟩
  ·intro g w1 hcl1 hM0
   dsimp only[Know]
   rintro _ ⟨b1,rfl,hb1⟩
   have H:=zB w1
   repeat' (first|refine yT ?_|(refine' y30 zBJ ?_ ?_;rotate_left;exact zAA _;intro w hcl;replace H:=H.ext hcl;clear hcl)|refine yU ?_|fail)
   exact⟨_,rfl,H.cl,⟨_,⟨_,rfl,zEV 16 [2,1,2,1,10,9] (by decide) (zz2 _)⟩,hb1.ext H.cl⟩⟩
  ·intro g w1 hcl1 hM0
   dsimp only[Know]
   have H:=zB w1
   repeat' (first|refine yT ?_|(refine z14 sg H ?_;intro b w H)|refine yU ?_|fail)
   exact⟨_,rfl,H.cl,⟨_,rfl,H.mem⟩⟩
  ·intro g w1 hcl1 hM0
   dsimp only[Know]
   rintro _ ⟨b1,rfl,hb1⟩
   have H:=zB w1
   repeat' (first|refine yT ?_|(refine' y30 zBJ ?_ ?_;rotate_left;exact zAA _;intro w hcl;replace H:=H.ext hcl;clear hcl)|refine yU ?_|fail)
   exact⟨_,rfl,H.cl,⟨_,⟨_,rfl,zEV 17 [2,2,20] (by decide) (zz2 _)⟩,hb1.ext H.cl⟩⟩
  ·intro g w1 hcl1 hM0
   dsimp only[Know]
   have H:=zB w1
   repeat' (first|refine yT ?_|(refine z14 sg H ?_;intro b w H)|refine yU ?_|fail)
   exact⟨_,rfl,H.cl,⟨_,rfl,H.mem⟩⟩
  ·intro g w1 hcl1 hM0
   dsimp only[Know]
   rintro _ ⟨b1,rfl,hb1⟩
   have H:=zB w1
   repeat' (first|refine yT ?_|(refine' y30 zBJ ?_ ?_;rotate_left;exact zAA _;intro w hcl;replace H:=H.ext hcl;clear hcl)|refine yU ?_|fail)
   exact⟨_,rfl,H.cl,⟨_,⟨_,rfl,zEV 4 [1] (by decide) (zz2 _)⟩,hb1.ext H.cl⟩⟩
  ·intro g w1 hcl1 hM0
   dsimp only[Know]
   rintro _ ⟨M1,⟨q1,rfl,he1⟩,hM1⟩ _ ⟨M2,⟨q2,rfl,he2⟩,hM2⟩ _ ⟨M3,⟨q3,rfl,he3⟩,hM3⟩ _ ⟨M4,⟨q4,rfl,he4⟩,hM4⟩ _ ⟨M5,⟨q5,rfl,he5⟩,hM5⟩ _ ⟨M6,⟨q6,rfl,he6⟩,hM6⟩ _ ⟨M7,⟨q7,rfl,he7⟩,hM7⟩ _ ⟨M8,⟨q8,rfl,he8⟩,hM8⟩
   have H:=zB w1
   repeat' (first|refine yT ?_|((with_reducible apply OX.buildA sg H);exact rfl;exact rfl;exact rfl;exact rfl;exact rfl;exact rfl;exact rfl;exact rfl;exact rfl;exact rfl;exact rfl;exact rfl;intro b w H _)|refine yU ?_|fail)
   refine⟨_,rfl,H.cl,⟨_,?_,H.mem.app ((hM1.ext H.cl).app ((hM2.ext H.cl).app ((hM3.ext H.cl).app ((hM4.ext H.cl).app ((hM5.ext H.cl).app ((hM6.ext H.cl).app ((hM7.ext H.cl).app (hM8.ext H.cl))))))))⟩⟩
   exact evs_row nmLate (zz2 _) ⟨he1.mono qS,he2.mono qS,he3.mono qS,he4.mono qS,he5.mono qS,he6.mono qS,he7.mono qS,he8.mono qS,trivial⟩ rfl rfl
  ·intro g w1 hcl1 hM0
   dsimp only[Know]
   rintro _ ⟨M1,⟨b1,rfl,q1,he1⟩,hM1⟩
   have hm1:=hM1.app (hM0.app (hF2.ext hcl1))
   have H:=zB w1
   repeat' (first|refine yT ?_|(refine' y32 zNW ?_ ?_;rotate_left;exact cAL _ _ hm1 q1 he1;intro v M w hR hS;replace H:=H.addR hS;clear hS;(try simp only[List.cons_append,List.nil_append] at H))|refine yU ?_|fail)
   obtain⟨p,rfl,hs9⟩:=AllR.sta hR (zDf gl)
   exact⟨_,rfl,H.cl,Go.Sk.KQ.rel_of hcl1 H ⟨p,rfl,hs9⟩⟩
  ·intro g w1 hcl1 hM0
   dsimp only[Know]
   rintro _ ⟨M1,⟨p2,rfl,hs2⟩,hM1,hg1,hn1⟩
   have H:=zB w1
   repeat' (first|refine yT ?_|refine yU ?_|fail)
   exact⟨_,rfl,H.cl,⟨M1,⟨p2,rfl,hs2⟩,hM1.ext H.cl,hg1,hn1⟩⟩
  ·intro g w1 hcl1 hM0
   dsimp only[Know]
   rintro _ ⟨M1,⟨p2,rfl,hs2⟩,hM1,hg1,hn1⟩
   have H:=zB w1
   repeat' (first|refine yT ?_|refine yU ?_|fail)
   exact⟨_,rfl,H.cl,⟨M1,⟨p2,rfl,hs2⟩,hM1.ext H.cl,hg1,hn1⟩⟩
  ·intro g w1 hcl1 hM0
   dsimp only[Know]
   rintro _ ⟨M1,⟨p2,rfl,hs2⟩,hM1,hg1,hn1⟩
   have H:=zB w1
   repeat' (first|refine yT ?_|refine yU ?_|fail)
   exact⟨_,rfl,H.cl,rfl⟩
  ·intro g w1 hcl1 hM0
   dsimp only[Know]
   rintro _ ⟨M1,⟨p2,rfl,hs2⟩,hM1,hg1,hn1⟩
   have H:=zB w1
   repeat' (first|refine yT ?_|refine yU ?_|fail)
   exact⟨_,rfl,H.cl,rfl⟩
  intro q g w2 m' hcl
  cases h1:q 21<;>cases h2:q 22<;>simp only[List.filter_cons,List.filter_nil,h1,h2,Bool.not_true,Bool.not_false,if_true,if_false,Bool.false_eq_true,List.map_cons,List.map_nil,List.append_nil,List.cons_append,List.nil_append,List.length_cons,List.length_nil]<;>dsimp only[Know]
  all_goals
   rintro _ ⟨M1,⟨p2,rfl,_⟩,_⟩ _ ⟨M2,⟨p3,rfl,hs3⟩,hM2,hg2,hn2⟩
   (repeat (rintro _ rfl))
   obtain⟨N3,H,hs4,hs5⟩:=joinT (L:=[cb b4 (x.cells px) 28]) (N:=N) (H0.ext (H.ext hcl).cl) hc9 hb9 hM2 hg2 hn2
   simp only[List.cons_append,List.nil_append] at H
   have hN9:∀ w,Mem w N3→Mem w N:=fun w h=>h.sub hs4
   repeat' (first|refine yT ?_|(refine y11 sg H ?_;intro w H)|((with_reducible apply RH.nil);exact((hN9 _ (H.mem.sub qS)).sub qT);decide +kernel)|(refine' z1 21 ((hN9 _ (H.mem.sub qS)).sub qT) ?_ ?_;rotate_left;first|exact z4 sg|exact(fun w hM=>fail))|(refine' z1 22 ((hN9 _ (H.mem.sub qS)).sub qT) ?_ ?_;rotate_left;first|exact z4 sg|exact(fun w hM=>fail))|(refine' z1 24 ((hN9 _ (H.mem.sub qS)).sub qT) ?_ ?_;rotate_left;first|exact z4 sg|exact(fun w hM=>fail))|(refine' z1 25 ((hN9 _ (H.mem.sub qS)).sub qT) ?_ ?_;rotate_left;first|exact z4 sg|exact(fun w hM=>fail))|refine z12 23 ((hN9 _ (H.mem.sub qS)).sub qT) ?_|refine yU ?_|fail)
   exact⟨p3,_,_,zAZ rfl rfl rfl,H,zz2 _,hs3.mono (fun y hy=>zz4 _ (hs5 hy))⟩
 clear H H0 hF1 hN1 cAL hb1 hss
 rintro _ w ⟨pl,N,_,rfl,H,hb4,hsl⟩
 repeat' (first|refine yT ?_|((with_reducible apply OX.buildA sg H);exact rfl;exact rfl;exact rfl;exact rfl;exact rfl;exact rfl;exact rfl;exact rfl;exact rfl;exact rfl;exact rfl;exact rfl;intro b w H _)|(refine z14 sg H ?_;intro b w H)|(refine' y30 zBJ ?_ ?_;rotate_left;exact zAA _;intro w hcl;replace H:=H.ext hcl;clear hcl)|(refine' y32 ent24 ?_ ?_;rotate_left;exact zRt _;intro v M w hR hS;replace H:=H.addR hS;clear hS;(try simp only[List.cons_append,List.nil_append] at H);obtain⟨t1,rfl,rfl⟩:=hR)|refine yU ?_|with_reducible apply zA|fail)
 refine CW.named (fun en1 w=>∃ bt N' en',en1=ovl [(4,.pointer (some ⟨b4,0,none⟩)),(241,.slice (some ⟨bt,0,none⟩) 54 54),(242,.int .i64 54),(243,.int .i64 ((0:Nat):Int))] en'∧St w0 N' w∧N⊆N'∧∃ q:Nat→EPt,SlA N' 5 (some ⟨bt,0,none⟩) 54 54 (fun j=>nmC (nm_ j) (q j))∧∀ j,j<54→EvtM N' (nm_ j).1 (q j)) ⟨_,_,_,za rfl (zAZ rfl rfl rfl),H,by intro q hq;simp[hq],by
  refine nm_blk (cs:=?qcs) (T:=?qT) ?qh ?qe ?qx ?qc
  case qh=>repeat (first|exact zz2 _|refine zz5 _ ?_)
  case qe=>exact⟨⟨(zEV 2 [1] (by decide) qC).nums,(zEV 2 [1] (by decide) qC).texts⟩,zEV 20 [0] (by decide) qC,zKI 1 _ [5] (by decide) qC (by repeat (first|exact zz2 _|exact zz3 _ (zz2 _)|apply List.mem_append_left|refine zz5 _ ?_)),zKI 1 _ [4] (by decide) qC (by repeat (first|exact zz2 _|exact zz3 _ (zz2 _)|apply List.mem_append_left|refine zz5 _ ?_)),zEV 2 [3] (by decide) qC,zEV 2 [4] (by decide) qC,zEV 2 [1] (by decide) qC,zKI 3 _ [4,1] (by decide) qC (by repeat (first|exact zz2 _|exact zz3 _ (zz2 _)|apply List.mem_append_left|refine zz5 _ ?_)),zKI 3 _ [3,1] (by decide) qC (by repeat (first|exact zz2 _|exact zz3 _ (zz2 _)|apply List.mem_append_left|refine zz5 _ ?_)),zEV 4 [3] (by decide) qC,zEV 4 [1] (by decide) qC,zEV 5 [2] (by decide) qC,zEV 6 [3,1] (by decide) qC,zEV 6 [2,1125899906842624] (by decide) qC,zEV 7 [3,1] (by decide) qC,zEV 7 [2,981] (by decide) qC,zEV 7 [2,980] (by decide) qC,zEV 8 [1,3,1] (by decide) qC,zEV 9 [3,1,1] (by decide) qC,zEV 9 [2,1,1] (by decide) qC,zEV 11 [2,3,1,1,150,1] (by decide) qC,zEV 11 [1,3,1,1,150,1] (by decide) qC,zEV 11 [1,1,3,1,150,1] (by decide) qC,zEV 11 [1,1,1,1,150,1] (by decide) qC,zEV 11 [1,1,2,1,15,1] (by decide) qC,zEV 11 [1,1,2,1,10,1] (by decide) qC,zEV 11 [1,2,2,1,10,98] (by decide) qC,zEV 12 [1] (by decide) qC,zEV 13 [1,2,1,1,0] (by decide) qC,zEV 14 [4,3,1,1,1,1,9] (by decide) qC,zEV 14 [3,3,1,1,1,1,1] (by decide) qC,zEV 16 [3,2,1,1,1,1] (by decide) qC,zEV 16 [3,2,2,1,1,1] (by decide) qC,zEV 15 [2,3,1] (by decide) qC,zEV 15 [1,3,1] (by decide) qC,zEV 15 [1,1,1] (by decide) qC,zEV 15 [1,2,9] (by decide) qC,zEV 15 [1,2,981] (by decide) qC,zEV 15 [1,2,980] (by decide) qC,zEV 17 [1,2,1] (by decide) qC,zEV 17 [2,3,1] (by decide) qC,zEV 17 [2,1,1] (by decide) qC,zEV 17 [2,2,1] (by decide) qC,zEV 18 [3,2,10,0] (by decide) qC,zEV 18 [2,2,10,0] (by decide) qC,zEV 19 [3] (by decide) qC,zEV 19 [1] (by decide) qC,zEV 21 [1,3,1] (by decide) qC,zEV 21 [1,1,1] (by decide) qC,zEV 21 [2,1,981] (by decide) qC,zKI 22 _ [3] (by decide) qC (by repeat (first|exact zz2 _|exact zz3 _ (zz2 _)|apply List.mem_append_left|refine zz5 _ ?_)),zKI 22 _ [1] (by decide) qC (by repeat (first|exact zz2 _|exact zz3 _ (zz2 _)|apply List.mem_append_left|refine zz5 _ ?_)),zEV 23 [3,1] (by decide) qC,zEV 23 [2,7] (by decide) qC,trivial⟩
  case qx=>exact rfl
  case qc=>exact rfl⟩ ?_
 clear H
 rintro _ w ⟨bt,N',_,rfl,H,hsub,q,hst,hev⟩
 replace hb4:=hsub hb4
 replace hsl:=hsl.mono hsub
 clear hsub
 obtain⟨N,rfl⟩:∃ N,N=N':=⟨N',rfl⟩
 obtain⟨_,_,bt2,offt,cst,Tt,frt,hst⟩:=hst
 refine zM [(0,0),(8,10),(243,258)] (fun k:Nat=>[(243,.int .i64 (k:Int))]) (fun k w=>St w0 N w∧k≤54) (fun k=>54 - k) 0 ⟨rfl,trivial⟩ ⟨H,zzD _⟩ ?_
 clear H
 rintro k gh w ⟨H,hk⟩
 by_cases hkl:k<54
 ·have d2:decide ((k:Int)<54)=true:=decide_eq_true (by omega)
  obtain⟨⟨y,r⟩,hr⟩:∃ z,zk l (nm_ k).1=z:=⟨_,rfl⟩
  have hr2:=E.tab _ (nm_in hkl)
  rw[hr] at hr2
  simp only at hr2
  subst hr2
  have d3:((nm_ k).2 != (nm_ k).2)=false:=by simp
  have hTk:=nm_evt _ (List.mem_map.2 ⟨_,nm_in hkl,rfl⟩)
  have cE:=fun w (G:zH) (hG:Mem w (G++F)) (h:N⊆G)=>zDS (zG4 gl) (nm_ k).1 (q k) hTk w hG (hP.mono (zz8 _ _)) (hK.mono (zz8 _ _)) (hsl.mono fun x hx=>zz6 _ (h hx)) ((hev k hkl).mono fun x hx=>zz6 _ (h hx))
  rw[hr] at cE
  repeat' (first|refine yT ?_|refine y7 sg H ?_|(refine y10 sg H ?_;intro b w H)|(refine y11 sg H ?_;intro w H)|(refine y40 sg (hst) ?_ ?_ ?_;(omega);(omega))|(refine y42 sg (hst) ((H.mem.sub qS)) ?_ ?_;(omega))|refine z13 (zG sg rfl rfl (H.mem.sub qS) hb4 rfl rfl) ?_|(refine' y32 zBr ?_ ?_;rotate_left;exact cE _ _ (H.all hF) qS;intro v M w hR hS;replace H:=H.addR hS;clear hS;(try simp only[List.cons_append,List.nil_append] at H);obtain⟨py,rfl⟩:=StC.any hR)|refine yU ?_|with_reducible apply zA|(refine y23 ?_ ?_;all_goals(intro h;try (exfalso;first|((cases d2.symm.trans h);done)|((cases d3.symm.trans h);done))))|fail)
  exact zK (k+1) rfl ⟨zZ (by omega),trivial⟩ ⟨H.sub (by repeat (first|exact List.Sublist.refl _|exact List.sublist_append_left _ _|apply List.Sublist.cons)),hkl⟩ (by omega)
 ·obtain rfl:k=54:=by omega
  obtain⟨z1,hz1⟩:∃ x,zk zCt (evF 20 [1])=(x,4):=⟨_,Prod.ext rfl E.z1⟩
  obtain⟨z2,hz2⟩:∃ x,zBL zCt []=(x,0,4):=⟨_,Prod.ext rfl E.z2⟩
  have cZ:=fun w (G:zH) (hG:Mem w (G++F))=>zKV (s:=zCt) (p:=SPt.n0) (a:=none) (cap:=0) w_z [] (fun _=>⟨none,0,none,0⟩) (fun e he=>nomatch he) w hG (hP.mono (zz8 _ _)) (hK.mono (zz8 _ _)) zz_sta ⟨SlA.nil,fun j hj=>absurd hj (zzE _)⟩
  rw[hz2] at cZ
  have d2:decide (((54:Nat):Int)<54)=false:=rfl
  repeat' (first|refine yT ?_|(refine y10 sg H ?_;intro b w H)|(refine y11 sg H ?_;intro w H)|(refine z14 sg H ?_;intro b w H)|(refine' y30 zBJ ?_ ?_;rotate_left;exact zAA _;intro w hcl;replace H:=H.ext hcl;clear hcl)|(refine' y32 zBr ?_ ?_;rotate_left;exact zLy (L:=[_]) (N:=N) w_z zz_sta 20 [1] hz1 (by decide) (by decide) hP hK _ (H.all hF) qC;intro v M w hR hS;replace H:=H.addR hS;clear hS;(try simp only[List.cons_append,List.nil_append] at H);obtain⟨py,rfl⟩:=StC.any hR)|(refine' y32 zNW ?_ ?_;rotate_left;exact cZ _ _ (H.all hF);intro v M w hR hS;replace H:=H.addR hS;clear hS;(try simp only[List.cons_append,List.nil_append] at H);obtain⟨pz,rfl⟩:=AllR.any hR)|refine yU ?_|fail)
  exact zQ rfl H.cl rfl
end
end Go.Proofs.YtibmaifoaajllaaGreatDoor
