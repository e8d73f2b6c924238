/- Steps of the proof. -/
import Derived.OrdersHeld
import Derived.Test.YtejhijhnlogikaaGreatDoorMe18
set_option linter.all false
set_option maxHeartbeats 16000000
namespace Go.Proofs.YtejhijhnlogikaaGreatDoor
open Go Go.Sk Go.RowKit Tryz
attribute [local irreducible] Go.Calls
theorem zR7 {w0 w:World}{g n cap i:Nat}{j:Int}{G:zA}{cs:List Value}{el:Nat->List Value}(H:St w0 (cb g cs 45::G) w)(he:Els cs 6 n el)(hel:∀ j,j<n->(el j).length=6)(h1:∀ j,j<n->∀ u∈el j,u.oneCell'=true)(hi:i<n)(hj:j=((i+1:Nat):Int))(hn:n<=1000000)(hnc:n<=cap) :
  Calls prog 260 [.slice (some ⟨g,0,none⟩) n cap,.int .i64 (i:Int),.int .i64 j].toArray w
   (zZ (fun M v=>v=.slice (some ⟨g,0,none⟩) (n - 1) cap/\∃ cs',M=cb g cs' 45::G/\cs'.length=cs.length/\Els cs' 6 (n - 1) (fun j=>if j<i then el j else el (j+1))) w0):=by{
subst hj;have d1:(((i:Nat):Int)==((i+1:Nat):Int))=false:=beq_eq_false_iff_ne.2 qO;have hcut:=he.cut hel hi;have hlast:=(he (n - 1) qO).1;have hX:i+(n - (i+1))=n - 1:=by omega
have hsl:SlB [cb g cs 45] 6 (some ⟨g,0+(i+1)*6,none⟩) (n - (i+1)) g (0+(i+1)*6) cs 45 (0,0) (fun t=>el (i+1+t)):=fun _=>⟨rfl,zz2 _,fun t ht=>by
 have:=he (i+1+t) qO
 rw[show 0+(i+1)*6+t*6=(i+1+t)*6 by omega];exact this⟩
have hfl:((List.range (n - (i+1))).flatMap fun t=>el (i+1+t)).length=(n - (i+1))*6:=Go.Sk.flat_len _ fun t ht=>hel _ qO;have hsrc:∀ w,Mem w (cb g cs 45::G)->Src w (.slice (if cap=i+1 then(some ⟨g,0,none⟩:OA) else Option.map (fun x:Addr=>x.add ((i+1)*6)) (some ⟨g,0,none⟩)) (n - (i+1)) (cap - (i+1))) (n - (i+1)) ((List.range (n - (i+1))).flatMap fun t=>el (i+1+t)):=by
 intro w hM;by_cases h:cap=i+1
 .have h0:n - (i+1)=0:=by{omega};rw[if_pos h,h0]
  exact .inl ⟨_,_,rfl,fun j u hj=>by cases hj⟩
 .rw[if_neg h,Option.map_some,zAA];exact zJL hsl (fun t ht=>hel _ qO) (hM.sub (by intro p hp;rw[yyd] at hp;exact hp ▸ zz2 _))
have hfit:i*6+((List.range (n - (i+1))).flatMap fun t=>el (i+1+t)).length<=cs.length:=by rw[hfl];omega
have hwl:=zCC hfit;refine eN func260 ntmps260 ?_;(repeat' first|refine yS ?_|refine y12 ?_|refine z13 (Yq.sliceLHM sg rfl rfl rfl rfl rfl rfl rfl rfl qO qO qO qO) ?_|(refine CW.regionR mixed ?_;refine wQ H ?_;clear H;intro w H;(with_reducible apply RW.quiet 6);exact rfl;decide +kernel;simp only[List.append_eq,List.cons_append,List.nil_append,List.take_succ_cons,List.take_zero,List.drop_zero])|refine zq (Yq.sliceHi sg rfl rfl rfl rfl rfl rfl (zz1 _) qO qO) ?_|refine zq (Yq.sliceLo sg rfl rfl rfl rfl rfl rfl (zz1 _) qO qO) ?_|(refine OX.appendR sg 6 H rfl rfl rfl rfl rfl rfl rfl rfl rfl (hsrc _ H.mem) hfl (zG3 fun t ht=>h1 _ qO) qO hfit ?_;clear H;intro w H;rw[hX])|refine z13 (Yq.sliceLH sg rfl rfl rfl rfl rfl rfl rfl (zz1 _) (zz1 _) qO qO qO qO) ?_|(refine OX.clearP sg H qO rfl rfl rfl rfl rfl rfl rfl rfl rfl (by rw[hwl];show 0+(n - 1)*6+(n - (n - 1))*6<=_;omega) ?_;clear H;intro cs3 w hl3 hk3 H)|refine yFe ?_|refine yU ?_|(refine qN H ?_;clear H;intro w H)|fail);exact zc (vs:=[_]) (M:=_) ⟨zP rfl,trivial⟩ H ⟨rfl,cs3,rfl,hl3.trans hwl,hcut.keep (zzC _) hl3 (fun q hq=>hk3 q (by show q<0+(n - 1)*6;omega))⟩}
theorem zR8 {w0 w:World}{g n cap i:Nat}{j:Int}{G:zA}{cs:List Value}{el:Nat->List Value}(H:St w0 (cb g cs 86::G) w)(he:Els cs 9 n el)(hel:∀ j,j<n->(el j).length=9)(h1:∀ j,j<n->∀ u∈el j,u.oneCell'=true)(hi:i<n)(hj:j=((i+1:Nat):Int))(hn:n<=1000000)(hnc:n<=cap) :
  Calls prog 264 [.slice (some ⟨g,0,none⟩) n cap,.int .i64 (i:Int),.int .i64 j].toArray w
   (zZ (fun M v=>v=.slice (some ⟨g,0,none⟩) (n - 1) cap/\∃ cs',M=cb g cs' 86::G/\cs'.length=cs.length/\Els cs' 9 (n - 1) (fun j=>if j<i then el j else el (j+1))) w0):=by{
subst hj;have d1:(((i:Nat):Int)==((i+1:Nat):Int))=false:=beq_eq_false_iff_ne.2 qO;have hcut:=he.cut hel hi;have hlast:=(he (n - 1) qO).1;have hX:i+(n - (i+1))=n - 1:=by omega
have hsl:SlB [cb g cs 86] 9 (some ⟨g,0+(i+1)*9,none⟩) (n - (i+1)) g (0+(i+1)*9) cs 86 (0,0) (fun t=>el (i+1+t)):=fun _=>⟨rfl,zz2 _,fun t ht=>by
 have:=he (i+1+t) qO
 rw[show 0+(i+1)*9+t*9=(i+1+t)*9 by omega];exact this⟩
have hfl:((List.range (n - (i+1))).flatMap fun t=>el (i+1+t)).length=(n - (i+1))*9:=Go.Sk.flat_len _ fun t ht=>hel _ qO;have hsrc:∀ w,Mem w (cb g cs 86::G)->Src w (.slice (if cap=i+1 then(some ⟨g,0,none⟩:OA) else Option.map (fun x:Addr=>x.add ((i+1)*9)) (some ⟨g,0,none⟩)) (n - (i+1)) (cap - (i+1))) (n - (i+1)) ((List.range (n - (i+1))).flatMap fun t=>el (i+1+t)):=by
 intro w hM;by_cases h:cap=i+1
 .have h0:n - (i+1)=0:=by{omega};rw[if_pos h,h0]
  exact .inl ⟨_,_,rfl,fun j u hj=>by cases hj⟩
 .rw[if_neg h,Option.map_some,zAA];exact zJL hsl (fun t ht=>hel _ qO) (hM.sub (by intro p hp;rw[yyd] at hp;exact hp ▸ zz2 _))
have hfit:i*9+((List.range (n - (i+1))).flatMap fun t=>el (i+1+t)).length<=cs.length:=by rw[hfl];omega
have hwl:=zCC hfit;refine eN func264 ntmps264 ?_;(repeat' first|refine yS ?_|refine y12 ?_|refine z13 (Yq.sliceLHM sg rfl rfl rfl rfl rfl rfl rfl rfl qO qO qO qO) ?_|(refine CW.regionR mixed ?_;refine wQ H ?_;clear H;intro w H;(with_reducible apply RW.quiet 6);exact rfl;decide +kernel;simp only[List.append_eq,List.cons_append,List.nil_append,List.take_succ_cons,List.take_zero,List.drop_zero])|refine zq (Yq.sliceHi sg rfl rfl rfl rfl rfl rfl (zz1 _) qO qO) ?_|refine zq (Yq.sliceLo sg rfl rfl rfl rfl rfl rfl (zz1 _) qO qO) ?_|(refine OX.appendR sg 9 H rfl rfl rfl rfl rfl rfl rfl rfl rfl (hsrc _ H.mem) hfl (zG3 fun t ht=>h1 _ qO) qO hfit ?_;clear H;intro w H;rw[hX])|refine z13 (Yq.sliceLH sg rfl rfl rfl rfl rfl rfl rfl (zz1 _) (zz1 _) qO qO qO qO) ?_|(refine OX.clearP sg H qO rfl rfl rfl rfl rfl rfl rfl rfl rfl (by rw[hwl];show 0+(n - 1)*9+(n - (n - 1))*9<=_;omega) ?_;clear H;intro cs3 w hl3 hk3 H)|refine yFe ?_|refine yU ?_|(refine qN H ?_;clear H;intro w H)|fail);exact zc (vs:=[_]) (M:=_) ⟨zP rfl,trivial⟩ H ⟨rfl,cs3,rfl,hl3.trans hwl,hcut.keep (zzC _) hl3 (fun q hq=>hk3 q (by show q<0+(n - 1)*9;omega))⟩}
theorem zBF {α:Type}(f:α->List Value)(l:List α)(d:α):((List.range l.length).flatMap fun j=>f (l.getD j d))=l.flatMap f:=by{
have:∀ k,k<=l.length->((List.range k).flatMap fun j=>f (l.getD j d))=(l.take k).flatMap f:=by
 intro k;induction k with
 | zero=>intro _;rfl
 | succ k ih =>
   intro hk;rw[yys,yy9,ih qO,yya,yyj qO,yy9,yya];simp[yy1 (show k<l.length by omega)]
rw[this _ (Nat.le_refl _),List.take_length]}
theorem zGd {α β:Type}{f g:α->List β}:∀ {l:List α},(∀ x∈l,f x=g x)->l.flatMap f=l.flatMap g
 | [],_=>rfl
 | a::l,h=>by rw[List.flatMap_cons,List.flatMap_cons,h a (List.Mem.head _),zGd fun x hx=>h x (List.Mem.tail _ hx)]
def zUu (r:List Odr × Int)(M:zA)(v:Value):Prop:=∃ a1 c1,v=.tuple #[.slice a1 r.1.length c1,.int .i64 r.2]/\SlA M 6 a1 r.1.length c1 (odl r.1)
theorem Src.full {w:World}{size n:Nat}{a:OA}{xs:List Value}{cap:Nat}(h:Src w (.slice a n cap) n xs)(hl:xs.length=n*size):Full w size a n xs:=by{
refine⟨hl,fun h0=>?_⟩;rcases h with ⟨b,c,e,hb⟩|⟨c,e,h⟩
.cases e;exact⟨b,rfl,hb⟩
.omega}
theorem c_Add_ {a:OA}{cap:Nat}(l:List Odr)(o:Odr){F:zA}(w0:World)(hF:Mem w0 F)(hs0:SlA F 6 a l.length cap (odl l)) :
  Cf 221 [.slice a l.length cap,.agg o.cells.toArray] (zUu (zFY l o)) w0:=by{
by_cases hg:zb l=true/\zt o=true
.obtain⟨hm,ho⟩:=hg;have hl:=(zAk.1 hm).1;have hr:=zL7 hm;obtain⟨i,hi⟩:=zUp l hr o.id;have hfa:=zNT hm hi;have hs1:=hs0;obtain⟨hn,hc,b0,off,cs,T,fr,hs⟩:=hs1;cases hb:(decide (i<l.length)&&(od_ l i).id==o.id) with
 | true =>
   have e:zFY l o=([],6):=by unfold zFY;rw[if_pos ⟨hm,ho⟩,hfa,if_pos hb];rfl
   have hp:=fun w h1=>zF4 l o.id qO hr i hi (F:=F) w h1 hs0;rw[hb] at hp;refine eS func221 ntmps221 fun H=>?_;(repeat' first|refine yW ?_|(refine yB ?_;intro b w H)|(refine c0 zC0 ?_;refine⟨_,zAo l _ (H.memF hF) hs0,?_⟩;clear H;intro w H)|(refine c0 zFA ?_;refine⟨_,zBa o _,?_⟩;clear H;intro w H)|(refine c0 zFR ?_;refine⟨_,hp _ (H.memF hF),?_⟩;clear H;intro w H)|((first|refine y17 ?_ ?_|refine y23 ?_ ?_);all_goals(intro h;try (exfalso;first|((rw[hm] at h;cases h);done)|((rw[ho] at h;cases h);done)|((exact absurd h (by decide));done))))|fail);exact zBH (M:=[]) rfl rfl (H.sub (zz9 _)) ⟨none,0,by rw[e];rfl,by rw[e];exact SlA.nil⟩
 | false =>
   have hp:=fun w h1=>zF4 l o.id qO hr i hi (F:=F) w h1 hs0;rw[hb] at hp hfa;rw[if_neg (by decide)] at hfa;by_cases h128:l.length=128
   .have e:zFY l o=([],40):=by unfold zFY;rw[if_pos ⟨hm,ho⟩,hfa,if_neg (by decide),if_pos h128]
    have d1:((l.length:Int)==128)=true:=by rw[h128];rfl
    refine eS func221 ntmps221 fun H=>?_;(repeat' first|refine yW ?_|(refine yB ?_;intro b w H)|(refine c0 zC0 ?_;refine⟨_,zAo l _ (H.memF hF) hs0,?_⟩;clear H;intro w H)|(refine c0 zFA ?_;refine⟨_,zBa o _,?_⟩;clear H;intro w H)|(refine c0 zFR ?_;refine⟨_,hp _ (H.memF hF),?_⟩;clear H;intro w H)|((first|refine y17 ?_ ?_|refine y23 ?_ ?_);all_goals(intro h;try (exfalso;first|((rw[hm] at h;cases h);done)|((rw[ho] at h;cases h);done)|((exact absurd h (by decide));done)|((rw[d1] at h;cases h);done))))|fail);exact zBH (M:=[]) rfl rfl (H.sub (zz9 _)) ⟨none,0,by rw[e];rfl,by rw[e];exact SlA.nil⟩
   .have hno:i<l.length->(od_ l i).id≠o.id:=fun hil he=>by
     rw[Bool.and_eq_false_iff] at hb;rcases hb with h|h
     .exact absurd hil (zzB h)
     .rw[he] at h;simp at h
    obtain⟨f1,f2⟩:=zR4 hr hi hno;have e:zFY l o=(l.take i++o::l.drop i,0):=by unfold zFY;rw[if_pos ⟨hm,ho⟩,hfa,if_neg (by decide),if_neg h128,f1,f2]
    have d1:((l.length:Int)==128)=false:=beq_eq_false_iff_ne.2 qO;have hil:i<=l.length:=hi.1;have hpre:∀ w,Mem w F->Full w 6 a i ((List.range i).flatMap (odl l)):=fun w hM=>by have hsp:SlB F 6 a i b0 off cs T fr (odl l):=fun h0=>⟨(hs qO).1,(hs qO).2.1,fun j hj=>(hs qO).2.2 j qO⟩;exact Src.full (zJL (cap:=i) hsp (fun j _=>rfl) hM) (zEp fun j _=>rfl)
    have hsuf:∀ w,Mem w F->Src w (.slice (if cap=i then a else a.map (·.add (i*6))) (l.length - i) (cap - i)) (l.length - i) ((List.range (l.length - i)).flatMap fun t=>odl l (i+t)):=fun w hM=>by
     by_cases h0:i<l.length
     .obtain⟨rfl,hmm,hel⟩:=hs qO;rw[if_neg qO,Option.map_some,zAA];refine zJL (size:=6) (n:=l.length - i) (el:=fun t=>odl l (i+t)) (F:=F) (b:=b0) (off:=off+i*6) (cs:=cs) (T:=T) (fr:=fr) (fun _=>⟨rfl,hmm,fun t ht=>?_⟩) (fun _ _=>rfl) hM;have:=hel (i+t) qO;rw[show off+i*6+t*6=off+(i+t)*6 by omega];exact this
     .have hz:l.length - i=0:=by{omega};rw[hz]
      cases (if cap=i then a else a.map (·.add (i*6))) with
      | none=>exact .inr ⟨_,rfl,rfl⟩
      | some x=>exact .inl ⟨x,_,rfl,fun j u hj=>by cases hj⟩
    have hcells:(List.range i).flatMap (odl l)++o.cells++((List.range (l.length - i)).flatMap fun t=>odl l (i+t))=(List.range (l.take i++o::l.drop i).length).flatMap (odl (l.take i++o::l.drop i)):=by
     have h1:=zBF Odr.cells (l.take i++o::l.drop i) default;have h2:=zBF Odr.cells (l.take i) default;have h3:=zBF Odr.cells (l.drop i) default;rw[List.length_take,Nat.min_eq_left hil] at h2;rw[List.length_drop] at h3;have h4:(List.range i).flatMap (odl l)=(l.take i).flatMap Odr.cells:=by rw[<- h2];exact zGd fun j hj=>by have:=List.mem_range.1 hj;show(od_ l j).cells=_;rw[show(l.take i).getD j default=od_ l j by simp[od_,List.getElem?_take,this]]
     have h5:((List.range (l.length - i)).flatMap fun t=>odl l (i+t))=(l.drop i).flatMap Odr.cells:=by rw[<- h3];exact zGd fun j hj=>by show(od_ l (i+j)).cells=_;rw[show(l.drop i).getD j default=od_ l (i+j) by simp[od_]]
     rw[h4,h5];refine Eq.trans ?_ h1.symm;simp[yy9,List.flatMap_cons]
    refine eS func221 ntmps221 fun H=>?_;(repeat' first|refine yW ?_|(refine yB ?_;intro b w H)|(refine c0 zC0 ?_;refine⟨_,zAo l _ (H.memF hF) hs0,?_⟩;clear H;intro w H)|(refine c0 zFA ?_;refine⟨_,zBa o _,?_⟩;clear H;intro w H)|(refine c0 zFR ?_;refine⟨_,hp _ (H.memF hF),?_⟩;clear H;intro w H)|(refine zBD mixed 13 ?_ ?_;exact rfl;refine wQ H ?_;clear H;intro w H)|((with_reducible apply zFM);decide +kernel)|(refine' z8 0 ?_ ?_;rotate_left;first|exact z9 sg|exact(fun w=>Yq.sliceHM sg rfl rfl rfl rfl rfl rfl rfl (zz1 _) qO qO)|exact(fun w=>Yq.sliceLo sg rfl rfl rfl rfl rfl rfl (zz1 _) qO qO))|(refine' z8 1 ?_ ?_;rotate_left;first|exact z9 sg|exact(fun w=>Yq.sliceHM sg rfl rfl rfl rfl rfl rfl rfl (zz1 _) qO qO)|exact(fun w=>Yq.sliceLo sg rfl rfl rfl rfl rfl rfl (zz1 _) qO qO))|(refine' z8 2 ?_ ?_;rotate_left;first|exact z9 sg|exact(fun w=>Yq.sliceHM sg rfl rfl rfl rfl rfl rfl rfl (zz1 _) qO qO)|exact(fun w=>Yq.sliceLo sg rfl rfl rfl rfl rfl rfl (zz1 _) qO qO))|(refine' z8 3 ?_ ?_;rotate_left;first|exact z9 sg|exact(fun w=>Yq.sliceHM sg rfl rfl rfl rfl rfl rfl rfl (zz1 _) qO qO)|exact(fun w=>Yq.sliceLo sg rfl rfl rfl rfl rfl rfl (zz1 _) qO qO))|(refine' z8 7 ?_ ?_;rotate_left;first|exact z9 sg|exact(fun w=>Yq.sliceHM sg rfl rfl rfl rfl rfl rfl rfl (zz1 _) qO qO)|exact(fun w=>Yq.sliceLo sg rfl rfl rfl rfl rfl rfl (zz1 _) qO qO))|(refine' z8 8 ?_ ?_;rotate_left;first|exact z9 sg|exact(fun w=>Yq.sliceHM sg rfl rfl rfl rfl rfl rfl rfl (zz1 _) qO qO)|exact(fun w=>Yq.sliceLo sg rfl rfl rfl rfl rfl rfl (zz1 _) qO qO))|(refine' z8 9 ?_ ?_;rotate_left;first|exact z9 sg|exact(fun w=>Yq.sliceHM sg rfl rfl rfl rfl rfl rfl rfl (zz1 _) qO qO)|exact(fun w=>Yq.sliceLo sg rfl rfl rfl rfl rfl rfl (zz1 _) qO qO))|refine z10 4 ?_|refine z10 5 ?_|refine z10 6 ?_|refine z10 10 ?_|refine z10 11 ?_|refine z10 12 ?_|(refine zBA sg H ?_;intro b w H _)|(refine OX.appendF sg 6 48 (k:=i) (xs:=(List.range i).flatMap (odl l)) (news:=o.cells) (m:=1) H rfl rfl rfl rfl rfl rfl rfl rfl rfl rfl rfl (hpre _ (H.memF hF)) (zh H.mem (zz2 _)) qO rfl (Odr.cone o) (by unfold maxLen;omega) qO ?_;intro a1 c1 M1 w O1 H)|(refine zY sg 6 48 (M:=M1) (m:=l.length - i) H rfl rfl rfl rfl rfl rfl rfl rfl rfl rfl rfl O1 (hsuf _ (H.memF hF)) (zEp fun _ _=>rfl) (zG3 fun j _=>Odr.cone _) (by unfold maxLen;omega) qO ?_;clear H O1;intro a2 c2 M2 w O2 H)|((first|refine y17 ?_ ?_|refine y23 ?_ ?_);all_goals(intro h;try (exfalso;first|((rw[hm] at h;cases h);done)|((rw[ho] at h;cases h);done)|((exact absurd h (by decide));done)|((rw[d1] at h;cases h);done))))|fail);have hlen:(l.take i++o::l.drop i).length=i+1+(l.length - i):=by simp[Nat.min_eq_left hil];omega
    rw[hcells,<- hlen] at O2;refine zBH (M:=M2) rfl rfl (H.sub (yyt _ _)) ⟨a2,c2,by rw[e,<- hlen],?_⟩;rw[e];exact O2.sl (fun _ h=>h) (fun _ _=>rfl) (by rw[hlen];omega)
.have e:zFY l o=([],4):=by unfold zFY;rw[if_neg hg]
 refine eS func221 ntmps221 fun H=>?_;(repeat' first|refine yW ?_|(refine yB ?_;intro b w H)|(refine c0 zC0 ?_;refine⟨_,zAo l _ (H.memF hF) hs0,?_⟩;clear H;intro w H)|(refine c0 zFA ?_;refine⟨_,zBa o _,?_⟩;clear H;intro w H)|((first|refine y17 ?_ ?_|refine y23 ?_ ?_);all_goals(intro h;try (exfalso;first|((exact hg ⟨by simpa using h_1,by simpa using h⟩);done))))|fail)
 all_goals first
  | exact zBH (M:=[]) rfl rfl (H.sub (zz9 _)) ⟨none,0,by rw[e];rfl,by rw[e];exact SlA.nil⟩
  | (exfalso;simp_all;done)}
theorem zL9 {l:List Odr}{x:Odr}{k j:Nat}(hk:k<l.length):od_ (l.set k x) j=if j=k then x else od_ l j:=by{
unfold od_;simp only[yy2,List.getElem?_set];by_cases h:j=k
.subst h;simp[hk]
.simp[h,Ne.symm h]}
theorem zUv {l:List Odr}{k j:Nat}:od_ (l.eraseIdx k) j=if j<k then od_ l j else od_ l (j+1):=by unfold od_;simp only[yy2,List.getElem?_eraseIdx];split<;>rfl
theorem zIk {a:OA}{cap:Nat}(l:List Odr)(id q:Int){F:zA}(w0:World)(hF:Mem w0 F)(hs0:SlA F 6 a l.length cap (odl l)) :
  Cf 225 [.slice a l.length cap,.int .i64 id,.int .i64 q] (zUu (zA1 l id q)) w0:=by{
by_cases hm:zb l=true
.have hl:=(zAk.1 hm).1;have hr:=zL7 hm;obtain⟨i,hi⟩:=zUp l hr id;have hfa:=zNT hm hi;have hs1:=hs0;obtain⟨hn,hc,b0,off,cs,T,fr,hs⟩:=hs1;cases hb:(decide (i<l.length)&&(od_ l i).id==id) with
 | false =>
   have hp:=fun w h1=>zF4 l id qO hr i hi (F:=F) w h1 hs0;rw[hb] at hp hfa;rw[if_neg (by decide)] at hfa;have e:zA1 l id q=([],5):=by unfold zA1;rw[if_pos hm,hfa];rfl
   refine eS func225 ntmps225 fun H=>?_;(repeat' first|refine yW ?_|(refine c0 zC0 ?_;refine⟨_,zAo l _ (H.memF hF) hs0,?_⟩;clear H;intro w H)|(refine c0 zFR ?_;refine⟨_,hp _ (H.memF hF),?_⟩;clear H;intro w H)|(refine y23 ?_ ?_;all_goals(intro h;try (exfalso;first|((rw[hm] at h;cases h);done)|((exact absurd h (by decide));done))))|fail);exact zBH (M:=[]) rfl rfl (H.sub (zz9 _)) ⟨none,0,by rw[e];rfl,by rw[e];exact SlA.nil⟩
 | true =>
   have hp:=fun w h1=>zF4 l id qO hr i hi (F:=F) w h1 hs0;rw[hb] at hp hfa;rw[if_pos rfl] at hfa;rw[yy3,decide_eq_true_eq,beq_iff_eq] at hb;obtain⟨hil,rfl⟩:=hb;have hmo:=(zAK.1 hm).2.1 _ (show od_ l i∈l from zAP _ hil);by_cases hq:q<1\/q>(od_ l i).left
   .have e:zA1 l (od_ l i).id q=([],1):=by unfold zA1;rw[if_pos hm,hfa,if_pos rfl,if_pos hq]
    refine eS func225 ntmps225 fun H=>?_;(repeat' first|refine yW ?_|(refine c0 zC0 ?_;refine⟨_,zAo l _ (H.memF hF) hs0,?_⟩;clear H;intro w H)|(refine c0 zFR ?_;refine⟨_,hp _ (H.memF hF),?_⟩;clear H;intro w H)|refine x40 sg hs ?_|refine x44 sg hs (H.memF hF) ?_|((first|refine y17 ?_ ?_|refine y23 ?_ ?_);all_goals(intro h;try (exfalso;first|((rw[hm] at h;cases h);done)|((exact absurd h (by decide));done))))|fail)
    all_goals first
     | exact zBH (M:=[]) rfl rfl (H.sub (zz9 _)) ⟨none,0,by rw[e];rfl,by rw[e];exact SlA.nil⟩
     | (exfalso;simp only[decide_eq_true_eq,yyy] at *;omega)
   .have hq1:1<=q/\q<=(od_ l i).left:=by{omega};have e:zA1 l (od_ l i).id q=(zBi l (od_ l i).id q,0):=by unfold zA1;rw[if_pos hm,hfa,if_pos rfl,if_neg hq]
    have hta:=zXA hm hil q;have d1:decide (q<1)=false:=yyc qO;have d2:decide (q>(od_ l i).left)=false:=yyc qO;have hleft:=hmo.2.2.2.2.2;refine eS func225 ntmps225 fun H=>?_;(repeat' first|refine yW ?_|(refine c0 zC0 ?_;refine⟨_,zAo l _ (H.memF hF) hs0,?_⟩;clear H;intro w H)|(refine c0 zFR ?_;refine⟨_,hp _ (H.memF hF),?_⟩;clear H;intro w H)|refine x40 sg hs ?_|refine x44 sg hs (H.memF hF) ?_|(refine f0 zS6 ?_;refine⟨_,zGb _ (H.memF hF) hs0 (fun j _=>Odr.cone _) (fun j _=>rfl) qO,?_⟩;clear H;intro v M w hR H;(try simp only[zca,zcb] at H);obtain⟨a',cap',rfl,hO⟩:=hR)|(refine y23 ?_ ?_;all_goals(intro h;try (exfalso;first|((rw[hm] at h;cases h);done)|((exact absurd h (by decide));done)|((rw[d1] at h;cases h);done)|((rw[d2] at h;cases h);done))))|fail);obtain⟨g,cs2,rfl,rfl,hnc2,he⟩:=hO.els qO (fun j _=>rfl);clear hO;have hs2:=he.slb (F:=[cb g cs2 45]) (T:=45) (zz2 _);have hfit:=(he i hil).1;have hw:IntKind.i64.wrap ((od_ l i).left - q)=(od_ l i).left - q:=w64 qO qO;have hE2:Els (wr cs2 (0+i*6+5) [.int .i64 (IntKind.i64.wrap ((od_ l i).left - q))]) 6 l.length (odl (l.set i (zBr (od_ l i) q))):=by
     rw[yyv];refine(zGm (vs:=[.int .i64 (IntKind.i64.wrap ((od_ l i).left - q))]) (f:=5) he hil (Nat.le_refl 6)).congr fun j hj=>?_;show _=(od_ (l.set i (zBr (od_ l i) q)) j).cells;rw[zL9 hil];by_cases hji:j=i
     .subst hji;rw[if_pos rfl,if_pos rfl,hw];rfl
     .rw[if_neg hji,if_neg hji];rfl
    have hmi:(od_ (l.set i (zBr (od_ l i) q)) i).left=(od_ l i).left - q:=by rw[zL9 hil,if_pos rfl];rfl
    have hm2:∀ {w:World} {cs:List Value},St w0 [cb g cs 45] w->Mem w [cb g cs 45]:=fun H=>H.mem;(repeat' first|refine yX ?_|refine x40 sg hs2 ?_|refine x44 sg hs2 H.mem ?_|(refine OX.storeX sg (v:=.int .i64 (IntKind.i64.wrap ((od_ l i).left - q))) (vs:=[.int .i64 (IntKind.i64.wrap ((od_ l i).left - q))]) H rfl rfl rfl rfl rfl rfl rfl Up.here (by simp only[yyo];omega) (zx rfl) ?_;clear H;intro w H)|fail);have hs3:=hE2.slb (F:=[cb g (wr cs2 (0+i*6+5) [.int .i64 (IntKind.i64.wrap ((od_ l i).left - q))]) 45]) (T:=45) (zz2 _);by_cases h0:(od_ l i).left - q=0
    .have d3:((od_ (l.set i (zBr (od_ l i) q)) i).left==0)=true:=by rw[hmi,h0];rfl
     rw[if_pos h0] at hta;have hlen:(l.eraseIdx i).length=l.length - 1:=List.length_eraseIdx_of_lt hil;(repeat' first|refine yW ?_|refine x44 sg hs3 H.mem ?_|(refine zW rfl rfl (En.fn ent260 rfl rfl) (zR7 H hE2 (fun _ _=>rfl) (fun j _=>Odr.cone _) hil (by rw[w64 qO qO];omega) qO hnc2) ?_;rintro _ _ w ⟨rfl,cs3,rfl,hl3,he3⟩ H2;clear H;have H:=H2;clear H2)|fail);refine zBH (M:=[cb g cs3 45]) rfl rfl H ⟨some ⟨g,0,none⟩,cap',by rw[e,hta,hlen],?_⟩;rw[e,hta,hlen];refine⟨by omega,by omega,g,0,cs3,_,(0,0),Els.slb (he3.congr fun j hj=>?_) (zz2 _)⟩;show _=(od_ (l.eraseIdx i) j).cells;rw[zUv];by_cases hji:j<i
     .rw[if_pos hji,if_pos hji];show(od_ (l.set i _) j).cells=_;rw[zL9 hil,if_neg qO]
     .rw[if_neg hji,if_neg hji];show(od_ (l.set i _) (j+1)).cells=_;rw[zL9 hil,if_neg qO]
    .have d3:((od_ (l.set i (zBr (od_ l i) q)) i).left==0)=false:=by rw[hmi];exact beq_eq_false_iff_ne.2 h0
     rw[if_neg h0] at hta;have hlen:(l.set i (zBr (od_ l i) q)).length=l.length:=List.length_set;(repeat' first|refine yW ?_|refine x44 sg hs3 H.mem ?_|fail);refine zBH (M:=[_]) rfl rfl H ⟨some ⟨g,0,none⟩,cap',by rw[e,hta,hlen],?_⟩;rw[e,hta,hlen];exact⟨by omega,by omega,g,0,_,_,(0,0),hE2.slb (zz2 _)⟩
.have hm:zb l=false:=by simpa using hm
 have e:zA1 l id q=([],4):=by unfold zA1;rw[hm];rfl
 refine eS func225 ntmps225 fun H=>?_;(repeat' first|refine yW ?_|(refine c0 zC0 ?_;refine⟨_,zAo l _ (H.memF hF) hs0,?_⟩;clear H;intro w H)|(refine y23 ?_ ?_;all_goals(intro h;try (exfalso;first|((rw[hm] at h;cases h);done))))|fail);exact zBH (M:=[]) rfl rfl (H.sub (zz9 _)) ⟨none,0,by rw[e];rfl,by rw[e];exact SlA.nil⟩}
theorem c_Drop {a:OA}{cap:Nat}(l:List Odr)(id:Int){F:zA}(w0:World)(hF:Mem w0 F)(hs0:SlA F 6 a l.length cap (odl l)) :
  Cf 222 [.slice a l.length cap,.int .i64 id] (zUu (zDP l id)) w0:=by{
by_cases hg:(zO l id).2=false/\zb l=true
.have e:zDP l id=([],5):=by unfold zDP zA1;rw[if_pos hg.2,hg.1];rfl
 refine eS func222 ntmps222 fun H=>?_;(repeat' first|refine yW ?_|(refine yB ?_;intro b w H)|(refine y11 sg H ?_;intro w H)|(refine c0 zEV ?_;refine⟨_,zGc l id _ (H.memF hF) hs0,?_⟩;clear H;intro w H)|(refine c0 zC0 ?_;refine⟨_,zAo l _ (H.memF hF) hs0,?_⟩;clear H;intro w H)|((first|refine y17 ?_ ?_|refine y23 ?_ ?_);all_goals(intro h;try (exfalso;first|((rw[hg.1] at h;cases h);done)|((rw[hg.2] at h;cases h);done))))|fail);exact zBH (M:=[]) rfl rfl (H.sub (zz9 _)) ⟨none,0,by rw[e];rfl,by rw[e];exact SlA.nil⟩
.cases hf:(zO l id).2 with
 | false =>
   have hm:zb l=false:=by rw[<- Bool.not_eq_true];exact fun h=>hg ⟨hf,h⟩
   refine eS func222 ntmps222 fun H=>?_;(repeat' first|refine yW ?_|(refine yB ?_;intro b w H)|(refine y11 sg H ?_;intro w H)|(refine c0 zEV ?_;refine⟨_,zGc l id _ (H.memF hF) hs0,?_⟩;clear H;intro w H)|(refine c0 zC0 ?_;refine⟨_,zAo l _ (H.memF hF) hs0,?_⟩;clear H;intro w H)|(refine f0 zLO ?_;refine⟨_,zIk l id (zO l id).1.left _ (H.memF hF) hs0,?_⟩;clear H;intro v M w hR H;(try simp only[zca,zcb] at H);obtain⟨a1,c1,rfl,hsl⟩:=hR)|(refine y17 ?_ ?_;all_goals(intro h;try (exfalso;first|((rw[hf] at h;cases h);done)|((rw[hm] at h;cases h);done))))|fail);exact zBH (M:=M) rfl rfl (H.sub (zz7 _ _)) ⟨a1,c1,rfl,hsl⟩
 | true =>
   refine eS func222 ntmps222 fun H=>?_;(repeat' first|refine yW ?_|(refine yB ?_;intro b w H)|(refine y11 sg H ?_;intro w H)|(refine c0 zEV ?_;refine⟨_,zGc l id _ (H.memF hF) hs0,?_⟩;clear H;intro w H)|(refine f0 zLO ?_;refine⟨_,zIk l id (zO l id).1.left _ (H.memF hF) hs0,?_⟩;clear H;intro v M w hR H;(try simp only[zca,zcb] at H);obtain⟨a1,c1,rfl,hsl⟩:=hR)|(refine y17 ?_ ?_;all_goals(intro h;try (exfalso;first|((rw[hf] at h;cases h);done))))|fail);exact zBH (M:=M) rfl rfl (H.sub (zz7 _ _)) ⟨a1,c1,rfl,hsl⟩}
theorem chkL (b:Bool)(x y:Int)(w:World):(Instr.checkKey b 10000 278 (.agg #[.int .i64 x,.int .i64 y])).run prog w=.ok () w:=by
 have h3:∀ (v:Value) (w:World),(Instr.checkKey b 9999 3 v).run prog w=.ok () w:=by intro v w;show(Instr.checkKey b (9998+1) 3 v).run prog w=_;rw[Instr.checkKey];simp only[Sem.run_bind,run_underlying (show prog.underlying 3=some (.int .i64) from sg.und (t:=3) rfl),Result.andThen_ok];rfl
 have hp:∀ (o:Nat) (v:Value),(#[Value.int .i64 x,Value.int .i64 y]:Array Value).toList[o]?=some v->(part 3 #[Value.int .i64 x,Value.int .i64 y] o).run prog w=.ok v w:=fun o v h=>zC3 sg (t:=3) rfl _ o h w;show(Instr.checkKey b (9999+1) 278 _).run prog w=_;rw[Instr.checkKey];simp only[Sem.run_bind,run_underlying (sg.und (t:=278) rfl),Result.andThen_ok];rw[<- Array.forIn_toList];simp[Sem.run_bind,hp 0 (.int .i64 x) rfl,hp 1 (.int .i64 y) rfl,h3]
def KL:KeyT prog 278 (Int × Int) where
 v:=pv2
 eq x y w:=by
  have:=zLR sg (t:=278) rfl rfl (by kernel_rfl) (by decide +kernel) (cs:=[.int .i64 x.1,.int .i64 x.2]) (ds:=[.int .i64 y.1,.int .i64 y.2]) (r:=x.1==y.1&&(x.2==y.2&&true)) rfl w
  refine this.trans (congrArg (fun b=>Result.ok b w) ?_)
  rw[Bool.eq_iff_iff,Bool.and_true,yy3,beq_iff_eq,beq_iff_eq,decide_eq_true_eq]
  exact Prod.ext_iff.symm
 chk b x w:=chkL b x.1 x.2 w
 same x:=by
  show Instr.sameBits (9999+1) _ _=true
  simp[Instr.sameBits,pv2]
 d:=_
 und:=sg.und (t:=278) rfl
 now x y:=.inl rfl
def rv4 (r:Row4):Value:=.agg r.cells.toArray
abbrev MR:=List (ME (Int × Int) Row4)
def RowsR (r:List Row4 × Int)(M:zA)(v:Value):Prop:=∃ a1 c1,v=.tuple #[.slice a1 r.1.length c1,.int .i64 r.2]/\SlA M 4 a1 r.1.length c1 (rwl r.1)
theorem rowC (l:List Row4):(List.range l.length).flatMap (rwl l)=l.flatMap Row4.cells:=zBF Row4.cells l default
def uOf (v:MR):List Row4:=(v.map (·.2.1)).filter nzR
theorem zNV (es:MR)(c:Nat)(x:Int × Int)(v:Row4):(zFT es c x v).length<=es.length+1:=by{
unfold zFT;split
.rw[List.length_modify];omega
.rw[yy4];exact zzC _}
structure Pr3 where
 seen:Array Nat
 todo:MR
 vis:MR
 a:OA
 cap:Nat
 M:zA
theorem c_Post {a ap:OA}{cap cp:Nat}(l:List Row4)(hl:l.length<=100000)(hw:∀ j,j<l.length->(rw_ l j).wf)(p:List Pst){F:zA}(w0:World)(hF:Mem w0 F)(hs0:zP2 F a cap l)(hp0:SlA F 4 ap p.length cp (qsl p)) :
  Cf 259 [.slice a l.length cap,.slice ap p.length cp] (RowsR (zBR l p)) w0:=by{
obtain⟨hn,hc,b0,off,cs,T,fr,hs⟩:=id hs0;obtain⟨hn2,hc2,b2,off2,cs2,T2,fr2,hs2⟩:=id hp0;cases hm:zAZ l with
| false =>
  have e:zBR l p=([],4):=by unfold zBR;rw[hm];rfl
  refine eS func259 ntmps259 fun H=>?_;(repeat' first|refine yW ?_|(refine c0 zLK ?_;refine⟨_,zLW l hw _ (H.memF hF) hs0,?_⟩;clear H;intro w H)|(refine y23 ?_ ?_;all_goals(intro h;try (exfalso;first|((rw[hm] at h;cases h);done))))|fail);exact zBH (M:=[]) rfl rfl (H.sub (zz9 _)) ⟨none,0,by rw[e];rfl,by rw[e];exact SlA.nil⟩
| true =>
by_cases hq:zA5 p=0
.obtain⟨q1,q2,q3⟩:=zJJ hq;have hbt:∀ q∈p,zCw q=false:=fun q hqm=>by rw[List.any_eq_false] at q2;simpa using q2 q hqm
 have hd0:((zA5 p != 0):Bool)=false:=by rw[hq];rfl
 have hpo:=zQR hm hq;have hz:∀ w:World,(zeroValue 281).run prog w=.ok (rv4 ⟨0,0,0,0⟩) w:=fun w=>zeroValue281 w;refine eS func259 ntmps259 fun H=>?_;(repeat' first|refine yS ?_|(refine c0 zLK ?_;refine⟨_,zLW l hw _ (H.memF hF) hs0,?_⟩;clear H;intro w H)|(refine c0 zTX ?_;refine⟨_,zQU p _ (H.memF hF) hp0,?_⟩;clear H;intro w H)|(refine m1 H ?_;intro bm w H)|refine yFe ?_|refine yU ?_|(refine y23 ?_ ?_;all_goals(intro h;try (exfalso;first|((rw[hm] at h;cases h);done)|((rw[hd0] at h;cases h);done))))|fail);refine zAT ?_
 refine zD [(9,10),(34,51)] (fun x:Nat × MR × Nat=>[(34,.int .i64 (x.1:Int))])
  (fun x w=>x.1<=l.length/\x.2.1.length<=x.1/\MI x.2.1 x.2.2/\(∀ s,atM x.2.1 s=(l.take x.1).find? fun r=>decide (zAD r=s))/\St w0 [(bm,mo KL rv4 x.2.1 x.2.2)] w) (fun x=>l.length - x.1) (0,[],0) ⟨rfl,trivial⟩ ⟨zzD _,zzC _,MI.nil,fun s=>rfl,H⟩ ?_
 clear H;rintro⟨k,es,clock⟩ gh w ⟨hk,hle,hMI,hat,H⟩;simp only at hk hle hMI hat H ⊢;(repeat' first|refine yX ?_|fail);refine zB rfl (fun h=>?_) (fun h=>?_)
 .have hlt:k<l.length:=by have:=zzA h;omega
  clear h;(repeat' first|refine yX ?_|(refine yB ?_;intro b w H)|(refine y11 sg H ?_;intro w H)|refine x40 sg hs ?_|refine x42 sg hs (H.memF hF) ?_|(refine m3 sg KL rv4 es (zAD (rw_ l k)) (rw_ l k) H (Up.there (Up.there Up.here)) rfl rfl ?_;intro w H)|fail);exact zC (k+1,_,_) rfl ⟨zU qO,trivial⟩ ⟨hlt,Nat.le_trans (zNV _ _ _ _) (Nat.succ_le_succ hle),zI7 hMI _ _,fun s=>by show atM (zFT _ _ _ _) s=_;rw[zIY,zR2 hm hlt,hat],(H.sub (zz7 _ _)).sub (zz7 _ _)⟩ (by show l.length - (k+1)<l.length - k;omega)
 obtain rfl:k=l.length:=by have:=zzB h;omega
 clear h hk;rw[List.take_length] at hat;have hat2:∀ s,atM es s=zFf l (p.take 0) s:=fun s=>by rw[hat];exact zW7 hm s
 (repeat' first|refine yS ?_|refine yU ?_|fail);refine zAT ?_
 refine zD [(12,14),(54,80)] (fun x:Nat × MR × Nat=>[(54,.int .i64 (x.1:Int))])
  (fun x w=>x.1<=p.length/\x.2.1.length<=l.length+x.1/\MI x.2.1 x.2.2/\(∀ s,atM x.2.1 s=zFf l (p.take x.1) s)/\St w0 [(bm,mo KL rv4 x.2.1 x.2.2)] w) (fun x=>p.length - x.1) (0,es,clock) ⟨rfl,trivial⟩ ⟨zzD _,hle,hMI,hat2,H⟩ ?_
 clear H hat hat2 hMI hle;rintro⟨k,es,clock⟩ gh w ⟨hk,hle,hMI,hat,H⟩;simp only at hk hle hMI hat H ⊢;(repeat' first|refine yX ?_|fail);refine zB rfl (fun h=>?_) (fun h=>?_)
 .have hlt:k<p.length:=by have:=zzA h;omega
  clear h;have hok:∀ q∈p.take k,PstOk q:=fun q hqm=>zEx.1 (hbt q (List.mem_of_mem_take hqm));have hqk:=zEx.1 (hbt (qs_ p k) (zAP _ hlt));obtain⟨⟨d1,d2⟩,d3,d4⟩:=dl_bd hok ((qs_ p k).acct,(qs_ p k).asset);obtain⟨⟨r1,r2⟩,r3,r4⟩:=zJZ hm ((qs_ p k).acct,(qs_ p k).asset);have hlen:(p.take k).length<=64:=by rw[List.length_take];omega
  obtain⟨g1,g2⟩:=zUl l (p.take k) ((qs_ p k).acct,(qs_ p k).asset);rw[<- hat] at g1 g2;have f1:=hqk.f;have f2:=hqk.h;have w1:IntKind.i64.wrap (((atM es ((qs_ p k).acct,(qs_ p k).asset)).getD ⟨0,0,0,0⟩).free+(qs_ p k).free)=(zAH l (p.take k) ((qs_ p k).acct,(qs_ p k).asset)).1+(qs_ p k).free:=by rw[g1];unfold zAH;exact w64 (by simp only;omega) (by simp only;omega)
  have w2:IntKind.i64.wrap (((atM es ((qs_ p k).acct,(qs_ p k).asset)).getD ⟨0,0,0,0⟩).held+(qs_ p k).held)=(zAH l (p.take k) ((qs_ p k).acct,(qs_ p k).asset)).2+(qs_ p k).held:=by rw[g2];unfold zAH;exact w64 (by simp only;omega) (by simp only;omega)
  (repeat' first|refine yX ?_|(refine yB ?_;intro b w H)|(refine y11 sg H ?_;intro w H)|refine x40 sg hs2 ?_|refine x42 sg hs2 (H.memF hF) ?_|(refine za rfl rfl (Yq.lookM sg KL rv4 es ((qs_ p k).acct,(qs_ p k).asset) ⟨0,0,0,0⟩ hz H.mem qC rfl rfl rfl rfl rfl) ?_)|(refine m3 sg KL rv4 es ((qs_ p k).acct,(qs_ p k).asset) ⟨(qs_ p k).acct,(qs_ p k).asset,IntKind.i64.wrap (((atM es ((qs_ p k).acct,(qs_ p k).asset)).getD ⟨0,0,0,0⟩).free+(qs_ p k).free),IntKind.i64.wrap (((atM es ((qs_ p k).acct,(qs_ p k).asset)).getD ⟨0,0,0,0⟩).held+(qs_ p k).held)⟩ H (Up.there (Up.there (Up.there Up.here))) rfl rfl ?_;intro w H)|fail);exact zC (k+1,_,_) rfl ⟨zU qO,trivial⟩ ⟨hlt,Nat.le_trans (zNV _ _ _ _) (Nat.succ_le_succ hle),zI7 hMI _ _,fun s=>by show atM (zFT _ _ _ _) s=_;rw[zIY,w1,w2,zL5 hlt,zUm,hat],((H.sub (zz7 _ _)).sub (zz7 _ _)).sub (zz7 _ _)⟩ (by show p.length - (k+1)<p.length - k;omega)
 obtain rfl:k=p.length:=by have:=zzB h;omega
 clear h hk;rw[List.take_length] at hat;(repeat' first|refine yS ?_|(refine m8 sg KL rv4 es H (zz2 _) ?_;intro r w H)|refine yU ?_|fail);refine zAT ?_;have hgood:∀ e∈es,e.2.1=zGN l p e.1:=fun e he=>by
  have h:=zL6 hMI he;rw[hat] at h;unfold zFf at h;split at h
  .exact(Option.some.inj h).symm
  .cases h
 have hok:∀ q∈p,PstOk q:=fun q hqm=>zEx.1 (hbt q hqm);have hbd:∀ e∈es,(-9223372036854775808<=e.2.1.free/\e.2.1.free<=9223372036854775807)/\-9223372036854775808<=e.2.1.held/\e.2.1.held<=9223372036854775807:=fun e he=>by rw[hgood e he];obtain⟨⟨d1,d2⟩,d3,d4⟩:=dl_bd hok e.1;obtain⟨⟨r1,r2⟩,r3,r4⟩:=zJZ hm e.1;unfold zGN zAH;simp only;omega
 refine zD [(15,16),(18,19),(83,107)] (fun x:Pr3=>[(15,.int .i64 (wOf (x.vis.map (·.2.1)))),(16,.slice x.a (uOf x.vis).length x.cap)])
  (fun x w=>(x.vis++x.todo).Perm es/\Todo es x.seen x.todo/\Go.Sk.Own x.M 281 4 x.a (uOf x.vis).length x.cap ((uOf x.vis).flatMap Row4.cells)/\St w0 ((r,Obj.mapIter (some bm) clock x.seen clock)::(bm,mo KL rv4 es clock)::x.M) w) (fun x=>x.todo.length) ⟨#[],es,[],none,0,[]⟩ ⟨rfl,rfl,trivial⟩ ⟨List.Perm.refl _,Todo.start es,zWD _ _ _,H⟩ ?_
 clear H;rintro⟨seen,todo,vis,ao,co,M⟩ gh w ⟨hP,hT,hO,H⟩;simp only at hP hT hO H ⊢;have hvl:(uOf vis).length<=es.length:=by
  have h1:=hP.length_eq;rw[yy4] at h1;have h2:(uOf vis).length<=vis.length:=by unfold uOf;exact Nat.le_trans (List.length_filter_le _ _) (by rw[yyp];exact zzC _)
  omega
 (repeat' first|refine yX ?_|(refine m9 KL rv4 es H (zz5 _ (zz2 _)) (zz2 _) hMI (zzC _) hT ?_ ?_)|fail)
 .intro h0;subst h0;rw[List.append_nil] at hP;have hv:∀ x,x∈vis.map (·.2.1)↔zFf l p (zAD x)=some x:=fun x=>by
   rw[yyk];constructor
   .rintro⟨e,he,rfl⟩;have he:=hP.mem_iff.1 he;have h:=zL6 hMI he;rw[hat] at h;have hk:zAD e.2.1=e.1:=by rw[hgood e he];rfl
    rw[hk];exact h
   .intro h;rw[<- hat] at h;obtain⟨e,he,_,h2⟩:=zNR h;exact⟨e,hP.mem_iff.2 he,h2⟩
  obtain⟨hwo,hmem⟩:=zW8 hm hbt hv;rw[hwo];by_cases hw0:zBV (zAH l p)=0
  .have d0:(zBV (zAH l p) != 0)=false:=by rw[hw0];rfl
   rw[if_pos hw0] at hpo;have hkeys:((uOf vis).map zAD).Nodup:=by
    have h1:(vis.map (·.1)).Nodup:=(hP.map _).nodup_iff.2 hMI.keys;have h2:(vis.map (·.2.1)).map zAD=vis.map (·.1):=by rw[List.map_map];exact List.map_congr_left fun e he=>by show zAD e.2.1=e.1;rw[hgood e (hP.mem_iff.1 he)];rfl
    unfold uOf;exact((List.filter_sublist (l:=vis.map (·.2.1)) (p:=nzR)).map zAD).nodup (h2 ▸ h1)
   have huniq:∀ m:List Row4,m.Perm (uOf vis)->m.Pairwise (fun a b=>ltOf cfE b a=false)->m=mkR (zAH l p):=fun m h1 h2=>zPB h1 h2 hkeys (zIg _) fun x=>hmem x;have hO1:=hO;obtain⟨u,hu⟩:∃ u,uOf vis=u:=⟨_,rfl⟩;rw[hu] at hO huniq hkeys hvl ⊢;rcases yyn u.length with hz0|hz0
   .obtain rfl:=List.length_eq_zero_iff.1 hz0;have hmk:=huniq [] (List.Perm.refl _) List.Pairwise.nil;have e:zBR l p=([],0):=by{rw[hpo,<- hmk]};(repeat' first|refine yS ?_|refine yU ?_|fail)
    refine CW.condF (congrArg Value.bool d0) ?_;(repeat' first|refine yS ?_|(refine c0 zTY ?_;refine⟨_,zPA (a:=ao) (cap:=co),?_⟩;clear H;intro w H)|refine yU ?_|fail);refine zAT ?_;refine zD [(20,20),(22,22),(115,133)] (fun _:Unit=>[(115,.int .i64 0),(20,.slice none 0 0)]) (fun _ w=>St w0 [] w) (fun _=>0) () ⟨rfl,rfl,trivial⟩ (H.sub (zz9 _)) ?_;clear H;rintro _ gh w H;have d1:decide ((0:Int)<((([]:List Row4).length:Nat):Int))=false:=rfl;(repeat' first|refine yW ?_|fail);exact zBH (M:=[]) rfl rfl H ⟨none,0,by rw[e];rfl,by rw[e];exact SlA.nil⟩
   .have hel:u.flatMap Row4.cells=(List.range u.length).flatMap (rwl u):=(rowC u).symm;rw[hel] at hO;obtain⟨g,cs3,rfl,rfl,hcap3,hE3⟩:=hO.els hz0 (fun j _=>rfl);clear hO;replace H:=H.perm (yyg (l₁:=[_,_]) (l₂:=[_]));simp only[zca,zcb] at H;have hcl3:u.length*4<=cs3.length:=by have:=(hE3 (u.length - 1) qO).1;omega
    (repeat' first|refine yX ?_|fail);refine CW.condF (congrArg Value.bool d0) ?_;(repeat' first|refine yS ?_|(refine zW rfl rfl (En.fn zTY rfl rfl) (zR5 u qO H hE3 hcl3) ?_;rintro _ _ w ⟨rfl,cs4,m,rfl,hl4,hp4,hs4,he4⟩ H2;clear H;have H:=H2;clear H2)|refine yU ?_|fail);have hmk:=huniq m hp4 hs4;have hml:=hp4.length_eq;have e:zBR l p=(m,0):=by{rw[hpo,<- hmk]};replace he4:Els cs4 4 m.length (rwl m):=he4
    have hs5:=he4.slb (F:=[cb g cs4 281]) (T:=281) (zz2 _);replace H:St w0 [cb g cs4 281] w:=H.sub (yy5 _ (zz9 _));rw[<- hml];refine zAT ?_;refine zD [(20,20),(22,22),(115,133)] (fun x:Gr=>[(115,.int .i64 (x.k:Int)),(20,.slice x.a x.k x.cap)]) (fun x w=>x.k<=m.length/\Go.Sk.Own x.M 104 4 x.a x.k x.cap ((m.take x.k).flatMap Row4.cells)/\St w0 (cb g cs4 281::x.M) w) (fun x=>m.length - x.k) ⟨0,none,0,[]⟩ ⟨rfl,rfl,trivial⟩ ⟨zzD _,zWD _ _ _,H⟩ ?_;clear H;rintro⟨k,ao,co,M⟩ gh w ⟨hk,hO,H⟩;simp only at hk hO H ⊢;(repeat' first|refine yX ?_|fail);refine zB rfl (fun h=>?_) (fun h=>?_)
    .have hlt:k<m.length:=by have:=zzA h;omega
     clear h;have htk:m.take (k+1)=m.take k++[rw_ m k]:=by rw[yyj hlt];simp[rw_,yy1 hlt]
     (repeat' first|refine yX ?_|(refine yB ?_;intro b w H)|(refine y11 sg H ?_;intro w H)|refine x40 sg hs5 ?_|(refine y42 sg (hs5) ((H.mem.sub (by intro p hp;simp only[yyd] at hp;subst hp;exact qC))) ?_ ?_;(omega))|(refine zBA sg H ?_;intro b w H _)|(have hp:=H.perm (yyg (l₁:=[_,_,_]) (l₂:=M));refine zY sg 4 32 (M:=M) hp rfl rfl rfl rfl rfl rfl rfl rfl rfl rfl rfl hO (zh hp.mem (zz3 _ (zz2 _))) rfl (zx rfl) (by unfold maxLen;omega) qO ?_;clear hp hO;intro ao co M w hO H;replace H:=H.perm (yyg (l₁:=M) (l₂:=[_,_,_])))|fail);exact zC ⟨k+1,ao,co,M⟩ rfl ⟨zU qO,rfl,trivial⟩ ⟨hlt,by show Go.Sk.Own M _ 4 ao (k+1) co _;rw[htk,yy9,yya];exact hO,(H.sub (zz7 _ _)).sub (zz7 _ _)⟩ (by show m.length - (k+1)<m.length - k;omega)
    .obtain rfl:k=m.length:=by have:=zzB h;omega
     clear h;rw[List.take_length,<- rowC m] at hO;(repeat' first|refine yX ?_|fail);refine zBH (M:=M) rfl rfl (H.sub (zz7 _ _)) ⟨ao,co,by rw[e],?_⟩;rw[e];exact hO.sl (fun _ h=>h) (fun _ _=>rfl) qO
  .have d0:(zBV (zAH l p) != 0)=true:=by{simpa using hw0};rw[if_neg hw0] at hpo
   (repeat' first|refine yX ?_|fail);refine CW.condT (congrArg Value.bool d0) ?_;(repeat' first|refine yX ?_|fail);exact zBH (M:=[]) rfl rfl (H.sub (zz9 _)) ⟨none,0,by rw[hpo];rfl,by rw[hpo];exact SlA.nil⟩
 .intro e todo2 w hperm he hT2 hH;have H2:=hH _ Up.here;clear H hH;have H:=H2;clear H2;obtain⟨⟨b1,b2⟩,b3,b4⟩:=hbd e he;have hws:=zUo (vis.map (·.2.1)) e.2.1;have hms:(vis++[e]).map (·.2.1)=vis.map (·.2.1)++[e.2.1]:=by rw[List.map_append];rfl
  have hP2:((vis++[e])++todo2).Perm es:=by refine List.Perm.trans ?_ hP;rw[yyh];exact List.Perm.append_left _ hperm.symm
  have hlt2:todo2.length<todo.length:=by have:=hperm.length_eq;simp only[List.length_cons] at this;omega
  have k1:(zAR e.2.1.acct e.2.1.free e.2.1.held==47)=true->wOf ((vis++[e]).map (·.2.1))=zAR e.2.1.acct e.2.1.free e.2.1.held:=fun h=>by rw[hms,hws,if_pos (.inl (eq_of_beq h))];rfl
  have k2:(zAR e.2.1.acct e.2.1.free e.2.1.held==47)=false->(wOf (vis.map (·.2.1))==0)=true->wOf ((vis++[e]).map (·.2.1))=zAR e.2.1.acct e.2.1.free e.2.1.held:=fun _ h=>by rw[hms,hws,if_pos (.inr (eq_of_beq h))];rfl
  have k3:(zAR e.2.1.acct e.2.1.free e.2.1.held==47)=false->(wOf (vis.map (·.2.1))==0)=false->wOf ((vis++[e]).map (·.2.1))=wOf (vis.map (·.2.1)):=fun h h'=>by
   rw[hms,hws,if_neg];rintro(g|g)
   .rw[yyq] at h;exact h g
   .rw[yyq] at h';exact h' g
  have n1:(e.2.1.free != 0)=true->uOf (vis++[e])=uOf vis++[e.2.1]:=fun h=>by unfold uOf;rw[hms,List.filter_append,List.filter_cons_of_pos (by unfold nzR;rw[h];rfl),List.filter_nil]
  have n2:(e.2.1.free != 0)=false->(e.2.1.held != 0)=true->uOf (vis++[e])=uOf vis++[e.2.1]:=fun h h'=>by unfold uOf;rw[hms,List.filter_append,List.filter_cons_of_pos (by unfold nzR;rw[h,h'];rfl),List.filter_nil]
  have n3:(e.2.1.free != 0)=false->(e.2.1.held != 0)=false->uOf (vis++[e])=uOf vis:=fun h h'=>by unfold uOf;rw[hms,List.filter_append,List.filter_cons_of_neg (by unfold nzR;rw[h,h'];decide),List.filter_nil,List.append_nil]
  (repeat' first|refine yW ?_|(refine yB ?_;intro b w H)|(refine y11 sg H ?_;intro w H)|refine z13 (Yq.entryM KL rv4 es H.mem (zz2 _) (zz5 _ (zz2 _)) he hMI.stamps rfl rfl) ?_|(refine c0 zTR ?_;refine⟨_,zPz _ _ _ _ _ b1 b2 b3 b4,?_⟩;clear H;intro w H)|(refine zBA sg H ?_;intro b w H _)|(have hp:=H.perm (yyg (l₁:=[_,_,_,_]) (l₂:=M));refine zY sg 4 32 (M:=M) hp rfl rfl rfl rfl rfl rfl rfl rfl rfl rfl rfl hO (zh hp.mem (zz3 _ (zz2 _))) rfl (zx rfl) (by unfold maxLen;omega) qO ?_;clear hp hO;intro ao co M w hO H;replace H:=H.perm (yyg (l₁:=M) (l₂:=[_,_,_,_])))|(refine y17 ?_ ?_;all_goals intro h)|(refine y23 ?_ ?_;all_goals intro h)|fail)
  .have hU:=n1 (by assumption);refine zC ⟨seen.push e.2.2,todo2,vis++[e],ao,co,M⟩ rfl ⟨congrArg (Value.int .i64) (k1 (by assumption)).symm,?_,trivial⟩ ⟨hP2,hT2,?_,?_⟩ hlt2
   .show Value.slice ao _ co=Value.slice ao (uOf (vis++[e])).length co;rw[hU,yy4];rfl
   .show Go.Sk.Own M _ 4 ao (uOf (vis++[e])).length co ((uOf (vis++[e])).flatMap Row4.cells);rw[hU,yy4,yy9,yya];exact hO
   .exact(H.sub (zz7 _ _)).sub (zz7 _ _)
  .have hU:=n2 (by assumption) (by assumption);refine zC ⟨seen.push e.2.2,todo2,vis++[e],ao,co,M⟩ rfl ⟨congrArg (Value.int .i64) (k1 (by assumption)).symm,?_,trivial⟩ ⟨hP2,hT2,?_,?_⟩ hlt2
   .show Value.slice ao _ co=Value.slice ao (uOf (vis++[e])).length co;rw[hU,yy4];rfl
   .show Go.Sk.Own M _ 4 ao (uOf (vis++[e])).length co ((uOf (vis++[e])).flatMap Row4.cells);rw[hU,yy4,yy9,yya];exact hO
   .exact(H.sub (zz7 _ _)).sub (zz7 _ _)
  .have hU:=n3 (by assumption) (by assumption);refine zC ⟨seen.push e.2.2,todo2,vis++[e],ao,co,M⟩ rfl ⟨congrArg (Value.int .i64) (k1 (by assumption)).symm,?_,trivial⟩ ⟨hP2,hT2,?_,?_⟩ hlt2
   .show Value.slice ao _ co=Value.slice ao (uOf (vis++[e])).length co;rw[hU]
   .show Go.Sk.Own M _ 4 ao (uOf (vis++[e])).length co ((uOf (vis++[e])).flatMap Row4.cells);rw[hU];exact hO
   .exact H.sub (zz7 _ _)
  .have hU:=n1 (by assumption);refine zC ⟨seen.push e.2.2,todo2,vis++[e],ao,co,M⟩ rfl ⟨congrArg (Value.int .i64) (k2 (by assumption) (by assumption)).symm,?_,trivial⟩ ⟨hP2,hT2,?_,?_⟩ hlt2
   .show Value.slice ao _ co=Value.slice ao (uOf (vis++[e])).length co;rw[hU,yy4];rfl
   .show Go.Sk.Own M _ 4 ao (uOf (vis++[e])).length co ((uOf (vis++[e])).flatMap Row4.cells);rw[hU,yy4,yy9,yya];exact hO
   .exact(H.sub (zz7 _ _)).sub (zz7 _ _)
  .have hU:=n2 (by assumption) (by assumption);refine zC ⟨seen.push e.2.2,todo2,vis++[e],ao,co,M⟩ rfl ⟨congrArg (Value.int .i64) (k2 (by assumption) (by assumption)).symm,?_,trivial⟩ ⟨hP2,hT2,?_,?_⟩ hlt2
   .show Value.slice ao _ co=Value.slice ao (uOf (vis++[e])).length co;rw[hU,yy4];rfl
   .show Go.Sk.Own M _ 4 ao (uOf (vis++[e])).length co ((uOf (vis++[e])).flatMap Row4.cells);rw[hU,yy4,yy9,yya];exact hO
   .exact(H.sub (zz7 _ _)).sub (zz7 _ _)
  .have hU:=n3 (by assumption) (by assumption);refine zC ⟨seen.push e.2.2,todo2,vis++[e],ao,co,M⟩ rfl ⟨congrArg (Value.int .i64) (k2 (by assumption) (by assumption)).symm,?_,trivial⟩ ⟨hP2,hT2,?_,?_⟩ hlt2
   .show Value.slice ao _ co=Value.slice ao (uOf (vis++[e])).length co;rw[hU]
   .show Go.Sk.Own M _ 4 ao (uOf (vis++[e])).length co ((uOf (vis++[e])).flatMap Row4.cells);rw[hU];exact hO
   .exact H.sub (zz7 _ _)
  .have hU:=n1 (by assumption);refine zC ⟨seen.push e.2.2,todo2,vis++[e],ao,co,M⟩ rfl ⟨congrArg (Value.int .i64) (k3 (by assumption) (by assumption)).symm,?_,trivial⟩ ⟨hP2,hT2,?_,?_⟩ hlt2
   .show Value.slice ao _ co=Value.slice ao (uOf (vis++[e])).length co;rw[hU,yy4];rfl
   .show Go.Sk.Own M _ 4 ao (uOf (vis++[e])).length co ((uOf (vis++[e])).flatMap Row4.cells);rw[hU,yy4,yy9,yya];exact hO
   .exact(H.sub (zz7 _ _)).sub (zz7 _ _)
  .have hU:=n2 (by assumption) (by assumption);refine zC ⟨seen.push e.2.2,todo2,vis++[e],ao,co,M⟩ rfl ⟨congrArg (Value.int .i64) (k3 (by assumption) (by assumption)).symm,?_,trivial⟩ ⟨hP2,hT2,?_,?_⟩ hlt2
   .show Value.slice ao _ co=Value.slice ao (uOf (vis++[e])).length co;rw[hU,yy4];rfl
   .show Go.Sk.Own M _ 4 ao (uOf (vis++[e])).length co ((uOf (vis++[e])).flatMap Row4.cells);rw[hU,yy4,yy9,yya];exact hO
   .exact(H.sub (zz7 _ _)).sub (zz7 _ _)
  .have hU:=n3 (by assumption) (by assumption);refine zC ⟨seen.push e.2.2,todo2,vis++[e],ao,co,M⟩ rfl ⟨congrArg (Value.int .i64) (k3 (by assumption) (by assumption)).symm,?_,trivial⟩ ⟨hP2,hT2,?_,?_⟩ hlt2
   .show Value.slice ao _ co=Value.slice ao (uOf (vis++[e])).length co;rw[hU]
   .show Go.Sk.Own M _ 4 ao (uOf (vis++[e])).length co ((uOf (vis++[e])).flatMap Row4.cells);rw[hU];exact hO
   .exact H.sub (zz7 _ _)
.have e:zBR l p=([],zA5 p):=by unfold zBR;rw[if_pos hm,if_neg hq]
 have hd0:((zA5 p != 0):Bool)=true:=by simpa using hq
 refine eS func259 ntmps259 fun H=>?_;(repeat' first|refine yW ?_|(refine c0 zLK ?_;refine⟨_,zLW l hw _ (H.memF hF) hs0,?_⟩;clear H;intro w H)|(refine c0 zTX ?_;refine⟨_,zQU p _ (H.memF hF) hp0,?_⟩;clear H;intro w H)|(refine y23 ?_ ?_;all_goals(intro h;try (exfalso;first|((rw[hm] at h;cases h);done)|((rw[hd0] at h;cases h);done))))|fail);exact zBH (M:=[]) rfl rfl (H.sub (zz9 _)) ⟨none,0,by rw[e];rfl,by rw[e];exact SlA.nil⟩}
end Go.Proofs.YtejhijhnlogikaaGreatDoor
namespace Go.Sk
section
open Go Go.RowKit
attribute [local semireducible] CW OW OX QW QX Yq RA
def RH (P:Program)(n:Nw)(l:List Oper)(F0:zA)(s:Array Bool)(m:Nat)(Q:zAM)(e:Env)(w:World):Prop :=
 Mem w F0/\∀ a,Fits n a e->wpAnyH P .any l.toArray (nrm n Q) (fun w=>Mem w F0) m s a w
section
variable {P:Program}{n:Nw}{id:Nat}{Q:zAM}{e:Env}{w:World}{l:List Oper}{s:Array Bool}{m:Nat}{F0:zA}
theorem zPC (hm:P.follows .mixedOrders=true)(N:Nat)(_hM0:Mem w F0)(hN:Nat.beq l.length N=true)(h:∀ w',Cl w w'->RH P n l F0 (Array.replicate N false) N Q e w')(hnd:zCq l=true:=by exact rfl):CW P n (.region id l.toArray true) Q e w :=
 zBD hm N hN (fun w' hw a ha=>wpAny_of_held _ _ _ _ ((h w' hw).2 a ha)) hnd
theorem RH.nil (hM:Mem w F0)(hr:(Region.ready .any l.toArray s).isEmpty=true)(h:Q .normal e w):RH P n l F0 s m Q e w :=
 ⟨hM,fun a ha=>wpAnyH_done (by simpa using hr) ⟨rfl,nofun,e,ha,h⟩ m⟩
theorem RH.take {L:List (Nat × Value)}{b0:Env}(i:Nat){o:Oper}{d:Nat}{v:Value}(hM:Mem w F0)(hB:((Region.noSelect l.toArray&&Region.free .any l.toArray s i)&&(Region.ready .any l.toArray s).contains i)=true)
  (ho:l[i]?=some o) (hg:o.guard=none) (hd:o.dst=some d) (hlt:Nat.blt d n.n=true) (hy:∀ w,Mem w F0->Yq P o (ovl L b0) w v)
  {m':Nat} (hm:m'=m+1) (h:RH P n l F0 (s.setIfInBounds i true) m Q (ovl ((d,v)::L) b0) w):RH P n l F0 s m' Q (ovl L b0) w:=by{
subst hm;refine⟨hM,fun a ha=>?_⟩;simp only[yy3] at hB;obtain⟨⟨h1,h2⟩,h3⟩:=hB;refine wpAnyH_take (oi:=o) (v:=v) (by simpa using ho) h1 h2 h3 (fun c a w hq=>absurd hq.1 (by simp)) (.inl ⟨by simp[Region.wanted,hg],fun w' hw'=>?_⟩) hM ?_
.rw[ha.eval];exact hy w' hw' w' (Cl.refl w')
.rw[hd];exact h.2 _ (ha.put hlt v)}
theorem RH.c1 (i:Nat){o:Oper}{m':Nat}(hM:Mem w F0)(hm:m'=m+1)(hB:(Region.ready .any l.toArray s==[i])=true)(ho:l[i]?=some o)
  (h:OW P n l.toArray (thn (fun e' w'=>RH P n l F0 (s.setIfInBounds i true) m Q e' w') (fun _ _ _=>False)) [o] e w):RH P n l F0 s m' Q e w:=by subst hm;refine⟨hM,fun a ha=>wpAnyH_all (rs:=[i]) (by simpa using hB) (by simp) (fun j hj=>?_)⟩;simp only[yyd] at hj;subst hj;exact zBI ho (fun a e w hf hk=>⟨hk.1,hk.2 a hf⟩) h a ha
theorem RH.c2 (i j:Nat){o o':Oper}{m':Nat}(hM:Mem w F0)(hm:m'=m+1)(hB:(Region.ready .any l.toArray s==[i,j])=true)(ho:l[i]?=some o)(ho':l[j]?=some o')
  (h:OW P n l.toArray (thn (fun e' w'=>RH P n l F0 (s.setIfInBounds i true) m Q e' w') (fun _ _ _=>False)) [o] e w)
  (h':OW P n l.toArray (thn (fun e' w'=>RH P n l F0 (s.setIfInBounds j true) m Q e' w') (fun _ _ _=>False)) [o'] e w):RH P n l F0 s m' Q e w:=by{
subst hm;refine⟨hM,fun a ha=>wpAnyH_all (rs:=[i,j]) (by simpa using hB) (by simp) (fun k hk=>?_)⟩;simp only[List.mem_cons,List.not_mem_nil,or_false] at hk;rcases hk with rfl|rfl
.exact zBI ho (fun a e w hf hk=>⟨hk.1,hk.2 a hf⟩) h a ha
.exact zBI ho' (fun a e w hf hk=>⟨hk.1,hk.2 a hf⟩) h' a ha}
theorem RH.c3 (i j r:Nat){o o' o'':Oper}{m':Nat}(hM:Mem w F0)(hm:m'=m+1)(hB:(Region.ready .any l.toArray s==[i,j,r])=true)(ho:l[i]?=some o)(ho':l[j]?=some o')(ho'':l[r]?=some o'')
  (h:OW P n l.toArray (thn (fun e' w'=>RH P n l F0 (s.setIfInBounds i true) m Q e' w') (fun _ _ _=>False)) [o] e w)
  (h':OW P n l.toArray (thn (fun e' w'=>RH P n l F0 (s.setIfInBounds j true) m Q e' w') (fun _ _ _=>False)) [o'] e w)
  (h'':OW P n l.toArray (thn (fun e' w'=>RH P n l F0 (s.setIfInBounds r true) m Q e' w') (fun _ _ _=>False)) [o''] e w):RH P n l F0 s m' Q e w:=by{
subst hm;refine⟨hM,fun a ha=>wpAnyH_all (rs:=[i,j,r]) (by simpa using hB) (by simp) (fun k hk=>?_)⟩;simp only[List.mem_cons,List.not_mem_nil,or_false] at hk;rcases hk with rfl|rfl|rfl
.exact zBI ho (fun a e w hf hk=>⟨hk.1,hk.2 a hf⟩) h a ha
.exact zBI ho' (fun a e w hf hk=>⟨hk.1,hk.2 a hf⟩) h' a ha
.exact zBI ho'' (fun a e w hf hk=>⟨hk.1,hk.2 a hf⟩) h'' a ha}
end
theorem z3 {P:Program}(S:Sig P){o:Oper}{e:Env}{F0:zA}{v:Value}{t:TypeId}{x:Operand}{b' off:Nat}{cs:List Value}{T:TypeId}{fr:Nat × Nat}{ti:TI}(ho:o.op=.load t x:=by exact rfl)(hx:ev e x=.pointer (some ⟨b',off,none⟩):=by exact rfl)
  (hm:(b',Obj.cells cs.toArray T fr)∈F0:=by repeat (first|exact zz2 _|refine zz5 _ ?_)) (ht:lk S.tab t=some ti:=by exact rfl) (hl:ldS ti cs off=some v:=by exact rfl):∀ w,Mem w F0->Yq P o e w v:=fun _ hM=>zF S ho hx hM hm ht hl
theorem z4 {P:Program}(S:Sig P){o:Oper}{e:Env}{F0:zA}{v:Value}(h:pvn S.tab e o.op=some v:=by exact rfl):∀ w,Mem w F0->Yq P o e w v:=fun w _=>zCS S h w
theorem z6 {w0 w:World}{L F:zA}{x y:Nat × Obj}(H:St w0 L w)(hF:Mem w0 F)(hx:x∈L:=by repeat (first|exact zz2 _|refine zz5 _ ?_))(hy:y∈L:=by repeat (first|exact zz2 _|refine zz5 _ ?_)):Mem w (x::y::F):=fun p hp=>by{
rcases List.mem_cons.1 hp with rfl|hp
.exact H.mem _ hx
.rcases List.mem_cons.1 hp with rfl|hp
 .exact H.mem _ hy
 .exact H.memF hF _ hp}
theorem z7 {w0 w:World}{L:zA}{x:Nat × Obj}(H:St w0 L w)(hx:x∈L:=by repeat (first|exact zz2 _|refine zz5 _ ?_)):Mem w [x]:=H.mem.sub (by intro p hp;rw[yyd] at hp;exact hp ▸ hx)
section
variable {P:Program}{n:Nw}{Q:zAM}{e:Env}{w:World}{l:List Oper}{s:Array Bool}{m:Nat}{F0:zA}{o:Oper}
theorem z1 {L:List (Nat × Value)}{b0:Env}(i:Nat){d:Nat}{v:Value}(hM:Mem w F0)(hy:∀ w,Mem w F0->Yq P o (ovl L b0) w v)(h:RH P n l F0 (s.setIfInBounds i true) m Q (ovl ((d,v)::L) b0) w){m':Nat}(hB:((Region.noSelect l.toArray&&Region.free .any l.toArray s i)&&(Region.ready .any l.toArray s).contains i)=true:=by decide +kernel)
  (ho:l[i]?=some o:=by exact rfl) (hg:o.guard=none:=by exact rfl) (hd:o.dst=some d:=by exact rfl) (hlt:Nat.blt d n.n=true:=by exact rfl) (hm:m'=m+1:=by exact rfl):RH P n l F0 s m' Q (ovl L b0) w:=RH.take i hM hB ho hg hd hlt hy hm h
theorem z12 (i:Nat)(hM:Mem w F0)(h:OW P n l.toArray (thn (fun e' w'=>RH P n l F0 (s.setIfInBounds i true) m Q e' w') (fun _ _ _=>False)) [o] e w){m':Nat}(hB:(Region.ready .any l.toArray s==[i])=true:=by decide +kernel)(ho:l[i]?=some o:=by exact rfl)(hm:m'=m+1:=by exact rfl):RH P n l F0 s m' Q e w:=RH.c1 i hM hm hB ho h
end
attribute [irreducible] RH
end
section
open Go Go.RowKit
inductive KQ where
 | val (V:Value)
 | box (n:Nat) (cs:List Value) (T:TypeId)
 | rel (R:zA->Value->Prop) (z:Nat)
 | nul
 | mem (R:zA->Value->Prop)
theorem St.join {w0 w w1:World}{L M:zA}(H:St w0 L w)(hcl:Cl w0 w1)(hM:Mem w M)(hg:∀ p∈M,w1.heap.size<=p.1)(hn:(M.map (·.1)).Nodup):∃ N,St w0 (L++N) w/\M⊆L++N:=by{
refine⟨M.filter fun p=>!(L.any fun q=>Nat.beq q.1 p.1),⟨H.below,H.mem.app fun p hp=>hM p (List.mem_filter.1 hp).1,fun p hp=>?_,?_⟩,fun p hp=>?_⟩
.rcases List.mem_append.1 hp with h|h
 .exact H.ge p h
 .exact Nat.le_trans hcl.size (hg p (List.mem_filter.1 h).1)
.rw[List.map_append,List.nodup_append];refine⟨H.nodup,(List.filter_sublist.map _).nodup hn,fun a ha b hb he=>?_⟩;obtain⟨p,hp,rfl⟩:=List.mem_map.1 ha;obtain⟨q,hq,rfl⟩:=List.mem_map.1 hb;have:=(List.mem_filter.1 hq).2;simp only[Bool.not_eq_true',List.any_eq_false] at this;exact this p hp (by rw[he];exact Nat.beq_refl _)
.cases h:L.any fun q=>Nat.beq q.1 p.1 with
 | false=>exact zz3 _ (List.mem_filter.2 ⟨hp,by rw[h];rfl⟩)
 | true =>
   obtain⟨q,hq,hqp⟩:=List.any_eq_true.1 h;have he:q.1=p.1:=Nat.eq_of_beq_eq_true hqp;have h1:=H.mem q hq;have h2:=hM p hp;rw[he,h2] at h1;have:p=q:=Prod.ext he.symm (Option.some.inj h1);exact zz6 _ (this ▸ hq)}
structure KF where
 i:Nat
 d:Nat
 deps:List Nat
 k:KQ
def Know (p:Nat->Value->World->Prop):List Nat->World->(List (Nat × Value)->Prop)->Prop
 | [],_,k=>k []
 | d::t,w,k=>∀ v,p d v w->Know p t w (fun l=>k ((d,v)::l))
theorem Know.at {p:Nat->Value->World->Prop}{e:Env}{w:World}:∀ {ds:List Nat} {k:List (Nat × Value)->Prop},Know p ds w k->(∀ d,d∈ds->p d (e d) w)->∃ L,k L/\zMV e L
 | [],k,h,_=>⟨[],h,trivial⟩
 | d::t,k,h,hp=>by
   obtain⟨L,h1,h2⟩:=Know.at (h (e d) (hp d (List.mem_cons_self ..))) (fun d hd=>hp d (zz4 _ hd))
   exact⟨(d,e d)::L,h1,rfl,h2⟩
inductive KSu (l:List Oper) (C:KF->Oper->Prop):List KF->Prop
 | nil:KSu l C []
 | cons {x:KF} {o:Oper} {t:List KF} (ho:l[x.i]?=some o) (h:C x o) (ht:KSu l C t):KSu l C (x::t)
theorem KSu.get {l:List Oper}{C:KF->Oper->Prop}{T:List KF}(h:KSu l C T){x:KF}(hx:x∈T){o:Oper}(ho:l[x.i]?=some o):C x o:=by{
induction h with
| nil=>cases hx
| cons ho' hc _ ih =>
  rcases List.mem_cons.1 hx with rfl|hx
  .obtain rfl:=Option.some.inj (ho'.symm.trans ho);exact hc
  .exact ih hx}
attribute [local semireducible] CW OW OX QW QX Yq RA RH
section
variable {P:Program}{n:Nw}{Q:zAM}{w:World}{l:List Oper}{s:Array Bool}{m:Nat}{F0:zA}
end
end
section
open Go Go.RowKit
attribute [local semireducible] CW OW OX QW QX Yq RA RH
section
variable {P:Program}{n:Nw}{Q:zAM}{w:World}{l:List Oper}{s:Array Bool}{m:Nat}{F0:zA}
end
theorem memS {w:World}{L F:zA}{x y:Nat × Obj}(h:Mem w L)(hx:x∈L)(hy:y∈L)(hF:Mem w F):Mem w (x::y::F):=fun p hp=>by{
rcases List.mem_cons.1 hp with rfl|hp
.exact h _ hx
.rcases List.mem_cons.1 hp with rfl|hp
 .exact h _ hy
 .exact hF _ hp}
end
end Go.Sk
namespace Go.Proofs.YtejhijhnlogikaaGreatDoor
open Go Go.Sk Go.RowKit Tryz
attribute [local irreducible] Go.Calls
def zJe:List Value:=zBg.cells SPt.n0
structure Cps (s:Sta)(p:SPt)(Ma Mi Mu R:zA):Prop where
 ac:Go.Sk.Own Ma 97 2 p.acA s.accts.length p.acC ((List.range s.accts.length).flatMap (acl s.accts))
 ins:Go.Sk.Own Mi 99 3 p.inA s.insts.length p.inC ((List.range s.insts.length).flatMap (ing s.insts))
 rw:zP2 R p.rwA p.rwC s.rows
 od:Ords R p.odA p.odC s.orders
 au:Go.Sk.Own Mu 86 9 p.auA s.aucs.length p.auC ((List.range s.aucs.length).flatMap (ael s.aucs p.ad))
 bd:∀ j,j<s.aucs.length->Bids R (p.ad j).1 (p.ad j).2 (s.aucs.getD j default).bids
structure LtS (s:Sta):Prop where
 ac:s.accts.length<=100000
 ins:s.insts.length<=100000
 rw:s.rows.length<=100000
 od:s.orders.length<=100000
 au:s.aucs.length<=100000
 bd:∀ k,k<s.aucs.length->(s.aucs.getD k default).bids.length<=100000
theorem Cps.sta {s:Sta}{p:SPt}{Ma Mi Mu R:zA}(h:Cps s p Ma Mi Mu R)(hL:LtS s):StaM (Ma++(Mi++(Mu++R))) s p :=
 ⟨h.ac.sl qS (fun _ _=>rfl) (by have:=hL.ac;omega),h.ins.sl qS (fun _ _=>rfl) (by have:=hL.ins;omega),SlA.mono h.rw qS,SlA.mono h.od qS,h.au.sl qS (fun _ _=>rfl) (by have:=hL.au;omega),fun j hj=>SlA.mono (h.bd j hj) qS⟩
structure I2 where
 a1:OA
 c1:Nat
 M1:zA
 a2:OA
 c2:Nat
 M2:zA
def CopyR (s:Sta)(M:zA)(v:Value):Prop:=∃ p Ma Mi Mu R,v=.agg (s.cells p).toArray/\M=Ma++(Mi++(Mu++R))/\Cps s p Ma Mi Mu R
theorem sub2 {A B:Nat × Obj}{M:zA}:M.Sublist (A::B::M):=(zz7 _ _).trans (zz7 _ _)
theorem zUw {A B:Nat × Obj}(M:zA)(x:Nat × Obj):(A::B::(M++[x])).Perm (x::A::B::M):=by have:=yyg (l₁:=A::B::M) (l₂:=[x]);simpa only[List.cons_append,List.nil_append] using this
theorem zR9 {A B:Nat × Obj}(x:Nat × Obj)(M1 M2 M3 M4 N:zA):(x::A::B::(M1++M2++M3++M4++N)).Perm (A::B::(M1++(M2++([x]++(M3++M4++N))))):=by
 refine List.Perm.trans (List.Perm.swap A x _) (List.Perm.cons A (List.Perm.trans (List.Perm.swap B x _) (List.Perm.cons B ?_)));have h1:(x::(M1++M2++M3++M4++N)).Perm ((M1++M2)++x::(M3++M4++N)):=by have:=(List.perm_middle (a:=x) (l₁:=M1++M2) (l₂:=M3++M4++N)).symm;simpa only[yyh] using this
 simpa only[yyh,List.cons_append,List.nil_append] using h1
theorem zSA (M1 M2 M3 M4 M5:zA):(M1++M2++M3++M4++M5).Perm (M1++(M2++(M5++(M3++M4)))):=by have:=(yyg (l₁:=M3++M4) (l₂:=M5)).append_left (M1++M2);simpa only[yyh] using this
theorem Els.flat {cs:List Value}{size:Nat}{el:Nat->List Value}:∀ {n:Nat},Els cs size n el->cs.take (n*size)=(List.range n).flatMap el
 | 0,_=>by simp
 | n+1,h=>by
   have ih:=Els.flat (n:=n) fun j hj=>h j qO
   rw[Nat.add_mul,Nat.one_mul,List.take_add,ih,yys,yy9,yya,(h n qO).2]
theorem Els.own {cs:List Value}{size n cap g:Nat}{T:TypeId}{el:Nat->List Value}(h:Els cs size n el)(hel:∀ j,j<n->(el j).length=size)(h1:n<=cap)(h2:cap<=maxLen)(h3:cs.length=cap*size):Go.Sk.Own [cb g cs T] T size (some ⟨g,0,none⟩) n cap ((List.range n).flatMap el) :=
 ⟨Go.Sk.flat_len _ hel,.inr ⟨g,cs,rfl,rfl,h1,h2,h3,Els.flat h⟩⟩
theorem zXF {l:List Auc}{ad:Nat->OA × Nat}{k:Nat}{a:OA}{c:Nat}:(fun j=>if j=k then wr (ael l ad k) 8 [.slice a (l.getD k default).bids.length c] else ael l ad j)=ael l (fun j=>if j=k then(a,c) else ad j):=by{
funext j;by_cases h:j=k
.subst h;simp only[if_true];simp only[ael,if_true];rfl
.simp only[ael,if_neg h]}
theorem Ac.cone (r:Ac):∀ u∈r.cells,u.oneCell'=true:=zx rfl
theorem Ins.cone (r:Ins):∀ u∈r.cells,u.oneCell'=true:=zx rfl
theorem zUx (l:List Auc)(ad:Nat->OA × Nat)(j:Nat):∀ u∈ael l ad j,u.oneCell'=true:=zx rfl
set_option maxRecDepth 20000 in
theorem zJf {F:zA}(s:Sta)(p:SPt)(hL:LtS s)(w0:World)(hF:Mem w0 F)(hs:StaM F s p) :
  Cf 40 [.agg (s.cells p).toArray] (CopyR s) w0:=by{
obtain⟨l1,l2,l3,l4,l5,l6⟩:=hL;refine eS func40 ntmps40 fun H=>?_;(repeat' first|refine yX ?_|(refine yB ?_;intro b w H)|fail);rename_i b1 wx Hx
refine CW.mid [(5,12)] (fun _:I2=>[]) (fun y w=>Go.Sk.Own y.M1 97 2 y.a1 s.accts.length y.c1 ((List.range s.accts.length).flatMap (acl s.accts))/\Go.Sk.Own y.M2 99 3 y.a2 s.insts.length y.c2 ((List.range s.insts.length).flatMap (ing s.insts)) /\
 St w0 (cb b zJe 40::cb b1 (s.cells { p with acA:=y.a1,acC:=y.c1,inA:=y.a2,inC:=y.c2 }) 40::(y.M1++y.M2)) w) (fun g=>?_) ?_
·(repeat' first|refine yX ?_|(refine y11 sg H ?_;intro w H)|(refine zBD mixed 10 ?_ ?_;exact rfl;refine wQ H ?_;clear H;intro w H)|((with_reducible apply zFM);decide +kernel)|(refine' z8 0 ?_ ?_;rotate_left;first|exact z9 sg)|(refine' z8 3 ?_ ?_;rotate_left;first|exact z9 sg)|(refine' z8 6 ?_ ?_;rotate_left;first|exact z9 sg)|(refine' z8 8 ?_ ?_;rotate_left;first|exact z9 sg)|refine z10 1 ?_|refine z10 2 ?_|refine z10 4 ?_|refine z10 5 ?_|refine z10 7 ?_|refine z10 9 ?_|refine z11 1 4 ?_ ?_|refine z11 2 4 ?_ ?_|(refine f0 ent81 ?_;refine⟨_,zOn _ (H.memF hF) hs.ac (fun j _=>Ac.cone _) (fun j _=>rfl) qO,?_⟩;clear H;intro v M1 w hR H;(try simp only[zca,zcb] at H);obtain⟨a1,c1,rfl,O1⟩:=hR)|(refine f0 ent82 ?_;refine⟨_,zOo _ (H.memF hF) hs.ins (fun j _=>Ins.cone _) (fun j _=>rfl) qO,?_⟩;clear H;intro v M2 w hR H;(try simp only[zca,zcb] at H);obtain⟨a2,c2,rfl,O2⟩:=hR)|fail);all_goals exact zC ⟨a1,c1,M1,a2,c2,M2⟩ rfl trivial ⟨O1,O2,H⟩ (Nat.lt_succ_self 0)
clear H;rintro⟨a1,c1,M1,a2,c2,M2⟩ g w ⟨O1,O2,H⟩;simp only at O1 O2 H ⊢;refine zCQ ?_
refine CW.mid [(13,20)] (fun _:I2=>[]) (fun y w=>Go.Sk.Own y.M1 104 4 y.a1 s.rows.length y.c1 ((List.range s.rows.length).flatMap (rwl s.rows))/\Go.Sk.Own y.M2 45 6 y.a2 s.orders.length y.c2 ((List.range s.orders.length).flatMap (odl s.orders)) /\
 St w0 (cb b zJe 40::cb b1 (s.cells { p with acA:=a1,acC:=c1,inA:=a2,inC:=c2,rwA:=y.a1,rwC:=y.c1,odA:=y.a2,odC:=y.c2 }) 40::(M1++M2++y.M1++y.M2)) w) (fun g=>?_) ?_
·(repeat' first|refine yX ?_|(refine y11 sg H ?_;intro w H)|(refine zBD mixed 10 ?_ ?_;exact rfl;refine wQ H ?_;clear H;intro w H)|((with_reducible apply zFM);decide +kernel)|(refine' z8 0 ?_ ?_;rotate_left;first|exact z9 sg)|(refine' z8 3 ?_ ?_;rotate_left;first|exact z9 sg)|(refine' z8 6 ?_ ?_;rotate_left;first|exact z9 sg)|(refine' z8 8 ?_ ?_;rotate_left;first|exact z9 sg)|refine z10 1 ?_|refine z10 2 ?_|refine z10 4 ?_|refine z10 5 ?_|refine z10 7 ?_|refine z10 9 ?_|refine z11 1 4 ?_ ?_|refine z11 2 4 ?_ ?_|(refine f0 ent83 ?_;refine⟨_,zJH _ (H.memF hF) hs.rw (fun j _=>Row4.cone _) (fun j _=>rfl) qO,?_⟩;clear H;intro v M3 w hR H;(try simp only[zca,zcb] at H);obtain⟨a3,c3,rfl,O3⟩:=hR)|(refine f0 zS6 ?_;refine⟨_,zGb _ (H.memF hF) hs.od (fun j _=>Odr.cone _) (fun j _=>rfl) qO,?_⟩;clear H;intro v M4 w hR H;(try simp only[zca,zcb] at H);obtain⟨a4,c4,rfl,O4⟩:=hR)|fail);all_goals exact zC ⟨a3,c3,M3,a4,c4,M4⟩ rfl trivial ⟨O3,O4,H⟩ (Nat.lt_succ_self 0)
clear H;rintro⟨a3,c3,M3,a4,c4,M4⟩ g w ⟨O3,O4,H⟩;simp only at O3 O4 H ⊢;(repeat' first|refine yS ?_|(refine y11 sg H ?_;intro w H)|(refine f0 zS4 ?_;refine⟨_,zGV _ (H.memF hF) hs.au.1 (fun j _=>zUx _ _ _) (fun j _=>rfl) qO,?_⟩;clear H;intro v M5 w hR H;(try simp only[zca,zcb] at H);obtain⟨a5,c5,rfl,O5⟩:=hR)|refine yU ?_|fail);refine zAT ?_;rcases yyn s.aucs.length with h0|h0
.refine zD [(3,4),(28,41)] (fun _:Unit=>[(28,.int .i64 0)]) (fun _ w=>St w0 (cb b zJe 40::cb b1 (s.cells ⟨a1,c1,a2,c2,a3,c3,a4,c4,a5,c5,p.ad⟩) 40::(M1++M2++M3++M4++M5)) w) (fun _=>0) () ⟨rfl,trivial⟩ H ?_;clear H;rintro _ gh w H;have d1:decide ((0:Int)<(s.aucs.length:Int))=false:=yyc qO;(repeat' first|refine yW ?_|(refine y11 sg H ?_;intro w H)|fail);refine zc (vs:=[_]) ⟨zg sg rfl H.mem qB rfl rfl,trivial⟩ ((H.sub sub2).perm (zSA M1 M2 M3 M4 M5)) ⟨⟨a1,c1,a2,c2,a3,c3,a4,c4,a5,c5,p.ad⟩,M1,M2,M5,M3++M4,rfl,rfl,?_⟩
 .exact⟨O1,O2,O3.sl (yyi _ _) (fun _ _=>rfl) qO,O4.sl (zz8 _ _) (fun _ _=>rfl) qO,O5,fun j hj=>absurd hj qO⟩
.have O5b:=O5;obtain⟨g0,cs0,rfl,rfl,hcap,hE⟩:=O5.els h0 (fun j _=>rfl);obtain⟨hcm,hcl0⟩:c5<=maxLen/\cs0.length=c5*9:=by
  rcases O5b.2 with ⟨h,_⟩|⟨g',cs',h1,h2,h3,h4,h5,h6⟩
  .omega
  .cases h2;exact⟨h4,h5⟩
 replace H:=H.perm (zUw (A:=cb b zJe 40) (B:=cb b1 (s.cells ⟨a1,c1,a2,c2,a3,c3,a4,c4,some ⟨g0,0,none⟩,c5,p.ad⟩) 40) (M1++M2++M3++M4) (cb g0 cs0 86));have hFs:Mem w0 F:=hF;refine zD [(3,4),(28,41)] (fun y:Nat × (Nat->OA × Nat) × List Value × zA=>[(28,.int .i64 (y.1:Int))]) (fun y w=>St w0 (cb g0 y.2.2.1 86::cb b zJe 40::cb b1 (s.cells ⟨a1,c1,a2,c2,a3,c3,a4,c4,some ⟨g0,0,none⟩,c5,p.ad⟩) 40::(M1++M2++M3++M4++y.2.2.2)) w/\y.1<=s.aucs.length/\Els y.2.2.1 9 s.aucs.length (ael s.aucs y.2.1)/\(∀ j,y.1<=j->y.2.1 j=p.ad j)/\y.2.2.1.length=c5*9/\∀ j,j<y.1->Bids y.2.2.2 (y.2.1 j).1 (y.2.1 j).2 (s.aucs.getD j default).bids) (fun y=>s.aucs.length - y.1) (0,p.ad,cs0,[]) ⟨rfl,trivial⟩ ⟨by rw[List.append_nil];exact H,zzD _,hE,fun _ _=>rfl,hcl0,fun j hj=>absurd hj (zzE j)⟩ ?_;clear H hE;rintro⟨k,ad,cs1,N⟩ gh w ⟨H,hk,hE1,hsm,hcl1,hB⟩;simp only at H hk hE1 hsm hcl1 hB ⊢;by_cases hlt:k<s.aucs.length
 .have d1:decide ((k:Int)<(s.aucs.length:Int))=true:=yyb qO;have hbn:=l6 k hlt;have hbk:=hs.au.2 k hlt;rw[<- hsm k (Nat.le_refl _)] at hbk;have hek:=(hE1 k hlt).1;have hsg:=hE1.slb (F:=[cb g0 cs1 86]) (T:=86) (zz2 _);(repeat' first|refine yX ?_|fail);refine zB rfl (fun h=>?_) (fun h=>absurd d1 (by rw[h];decide));clear h;(repeat' first|refine yX ?_|(refine yB ?_;intro b w H)|(refine y11 sg H ?_;intro w H)|refine x40 sg hsg ?_|refine x42 sg hsg (z7 H) ?_|fail);(repeat' first|refine yX ?_|(refine f0 zS7 ?_;refine⟨_,zGU _ (H.memF hF) hbk (fun j _=>zLi _ _) (fun j _=>zFz _ _) qO,?_⟩;clear H;intro v M6 w hR H;(try simp only[zca,zcb] at H);obtain⟨a6,c6,rfl,O6⟩:=hR)|(refine OX.storeX sg (v:=.slice a6 (s.aucs.getD k default).bids.length c6) (vs:=[.slice a6 (s.aucs.getD k default).bids.length c6]) H rfl rfl rfl rfl rfl rfl rfl (Up.there Up.here) (by simp only[yyo];omega) (zx rfl) ?_;intro w H)|(refine zPC mixed 9 (memS (x:=cb b1 (s.cells ⟨a1,c1,a2,c2,a3,c3,a4,c4,some ⟨g0,0,none⟩,c5,p.ad⟩) 40) (y:=cb b (ael s.aucs ad k) 86) H.mem qC qC (H.memF hF)) ?_ ?_;exact rfl;refine wQ H ?_;clear H;intro w H)|((with_reducible apply RH.nil);exact((memS (x:=cb b1 (s.cells ⟨a1,c1,a2,c2,a3,c3,a4,c4,some ⟨g0,0,none⟩,c5,p.ad⟩) 40) (y:=cb b (ael s.aucs ad k) 86) H.mem qC qC (H.memF hF)).sub qT);decide +kernel)|(refine' z1 0 (z6 H hF) ?_ ?_;rotate_left;first|exact z4 sg|exact(fun w hM=>zF sg rfl rfl hM qC rfl rfl)|exact(fun w hM=>zJ sg hsg))|(refine' z1 1 (z6 H hF) ?_ ?_;rotate_left;first|exact z4 sg|exact(fun w hM=>zF sg rfl rfl hM qC rfl rfl)|exact(fun w hM=>zJ sg hsg))|(refine' z1 2 (z6 H hF) ?_ ?_;rotate_left;first|exact z4 sg|exact(fun w hM=>zF sg rfl rfl hM qC rfl rfl)|exact(fun w hM=>zJ sg hsg))|(refine' z1 3 (z6 H hF) ?_ ?_;rotate_left;first|exact z4 sg|exact(fun w hM=>zF sg rfl rfl hM qC rfl rfl)|exact(fun w hM=>zJ sg hsg))|(refine' z1 4 (z6 H hF) ?_ ?_;rotate_left;first|exact z4 sg|exact(fun w hM=>zF sg rfl rfl hM qC rfl rfl)|exact(fun w hM=>zJ sg hsg))|(refine' z1 6 (z6 H hF) ?_ ?_;rotate_left;first|exact z4 sg|exact(fun w hM=>zF sg rfl rfl hM qC rfl rfl)|exact(fun w hM=>zJ sg hsg))|(refine' z1 7 (z6 H hF) ?_ ?_;rotate_left;first|exact z4 sg|exact(fun w hM=>zF sg rfl rfl hM qC rfl rfl)|exact(fun w hM=>zJ sg hsg))|refine z12 5 (z6 H hF) ?_|refine z12 8 (z6 H hF) ?_|fail);have hE2:=zGm (vs:=[.slice a6 (s.aucs.getD k default).bids.length c6]) (f:=8) hE1 hlt (Nat.le_refl 9);rw[zXF] at hE2;refine zC (k+1,(fun j=>if j=k then(a6,c6) else ad j),wr cs1 (k*9+8) [.slice a6 (s.aucs.getD k default).bids.length c6],N++M6) rfl ⟨zU qO,trivial⟩ ⟨by simpa only[yyv,yyh] using H.sub (zz7 _ _),hlt,hE2,fun j hj=>?_,?_,fun j hj=>?_⟩ (by simp only;omega)
  .simp only;rw[if_neg (by have:k+1<=j:=hj;omega)];exact hsm j (by have:k+1<=j:=hj;omega)
  .simp only;rw[zCC (by simp only[yyo];omega)];exact hcl1
  by_cases hjk:j=k
  .subst hjk;simp only[if_true];exact O6.sl (zz8 _ _) (fun _ _=>rfl) qO
  .simp only[if_neg hjk];exact SlA.mono (hB j (by have:j<k+1:=hj;omega)) (yyi _ _)
 .obtain rfl:k=s.aucs.length:=by{omega};have d1:decide ((s.aucs.length:Int)<(s.aucs.length:Int))=false:=yyc qO
  (repeat' first|refine yW ?_|(refine y11 sg H ?_;intro w H)|fail);refine zc (vs:=[_]) ⟨zg sg rfl H.mem qB rfl rfl,trivial⟩ (H.perm (zR9 _ M1 M2 M3 M4 N) |>.sub sub2) ⟨⟨a1,c1,a2,c2,a3,c3,a4,c4,some ⟨g0,0,none⟩,c5,ad⟩,M1,M2,[cb g0 cs1 86],M3++M4++N,rfl,rfl,?_⟩;refine⟨O1,O2,O3.sl qS (fun _ _=>rfl) qO,O4.sl qS (fun _ _=>rfl) qO,Els.own hE1 (fun _ _=>rfl) hcap hcm hcl1,fun j hj=>SlA.mono (hB j hj) qS⟩}
end Go.Proofs.YtejhijhnlogikaaGreatDoor
