/- Texts of ours, joined: the steps of the proof, or the claim's theorem. -/
import Derived.Test.YtibmaifoaajllaaGreatDoorQa32
set_option linter.unusedSimpArgs false
set_option linter.unusedVariables false
set_option maxHeartbeats 16000000
namespace Go.Proofs.YtibmaifoaajllaaGreatDoor
section
open Go Go.Sk Go.RowKit
open Go.Sort (SWO)
attribute [local irreducible] Go.Calls
theorem zT9 (x y:Row4)(w0:World):Calls Tryz.prog 219 [.agg x.cells.toArray,.agg y.cells.toArray].toArray w0 (Ret (.int .i64 (zMH x.acct x.asset y.acct y.asset)) w0):=by
 refine enter [.tmp 4] Tryz.func219 rfl Tryz.ntmps219 rfl rfl ?_
 have H:=zB w0
 repeat' (first|refine yT ?_|refine y7 sg H ?_|(refine y9 H ?_;intro b w H)|(refine' y30 zQj ?_ ?_;rotate_left;exact zQy _ _ _ _ _;intro w hcl;replace H:=H.ext hcl;clear hcl)|refine yU ?_|fail)
 exact zQ rfl H.cl rfl
theorem zUA (x y:Odr)(h1:x.side=1){F:zH}(w0:World)(hF:Mem w0 F)(hP:PriM F) :
  Calls Tryz.prog 70 [.agg x.cells.toArray,.agg y.cells.toArray].toArray w0 (Ret (.int .i64 (zGz x y)) w0):=by
 obtain⟨cs,T,fr,hs⟩:=hP
 obtain⟨xi,xa,xn,xs,xp,xl⟩:=x
 simp only at h1;subst h1
 refine enter [.tmp 4] Tryz.func70 rfl Tryz.ntmps70 rfl rfl ?_
 have H:=zB w0
 repeat' (first|refine yT ?_|refine y8 sg H ?_|(refine y9 H ?_;intro b w H)|refine y12 ?_|(refine CW.regionR mixed ?_;intro w hcl;replace H:=H.ext hcl;clear hcl;(with_reducible apply RW.quiet 12);exact rfl;decide +kernel;simp only[List.append_eq,List.cons_append,List.nil_append,List.take_succ_cons,List.take_zero,List.drop_zero])|((with_reducible apply zP);exact rfl;exact rfl;exact Yq.ixP sg (n:=3) (j:=1) rfl (by show(0:Int)≤1;decide) (by show(1:Int)<3;decide) rfl rfl rfl rfl rfl rfl)|((with_reducible apply zP);exact rfl;exact rfl;exact Yq.loadB1 sg hs (H.memF hF) rfl rfl rfl rfl (j:=1) (by decide) rfl)|(refine' y35 zQp ?_ ?_;rotate_left;exact(fun _ hcl=>zJK _ _ _))|(refine' y31 zQM ?_ ?_;rotate_left;exact(fun _ hcl=>zMG ⟨xi,xa,xn,1,xp,xl⟩ y _))|(refine z14 sg H ?_;intro b w H)|(refine' y30 zL6 ?_ ?_;rotate_left;exact zQx _ _ _ (H.mem) (zz2 _);intro w hcl;replace H:=H.ext hcl;clear hcl)|refine yU ?_|(with_reducible apply zL;intro w hcl;replace H:=H.ext hcl;clear hcl)|fail)
 exact zQ rfl H.cl rfl
theorem zUB (x y:Odr)(h1:x.side=2){F:zH}(w0:World)(hF:Mem w0 F)(hP:PriM F) :
  Calls Tryz.prog 70 [.agg x.cells.toArray,.agg y.cells.toArray].toArray w0 (Ret (.int .i64 (zGz x y)) w0):=by
 obtain⟨cs,T,fr,hs⟩:=hP
 obtain⟨xi,xa,xn,xs,xp,xl⟩:=x
 simp only at h1;subst h1
 refine enter [.tmp 4] Tryz.func70 rfl Tryz.ntmps70 rfl rfl ?_
 have H:=zB w0
 repeat' (first|refine yT ?_|refine y8 sg H ?_|(refine y9 H ?_;intro b w H)|refine y12 ?_|(refine CW.regionR mixed ?_;intro w hcl;replace H:=H.ext hcl;clear hcl;(with_reducible apply RW.quiet 12);exact rfl;decide +kernel;simp only[List.append_eq,List.cons_append,List.nil_append,List.take_succ_cons,List.take_zero,List.drop_zero])|((with_reducible apply zP);exact rfl;exact rfl;exact Yq.ixP sg (n:=3) (j:=2) rfl (by show(0:Int)≤2;decide) (by show(2:Int)<3;decide) rfl rfl rfl rfl rfl rfl)|((with_reducible apply zP);exact rfl;exact rfl;exact Yq.loadB1 sg hs (H.memF hF) rfl rfl rfl rfl (j:=2) (by decide) rfl)|(refine' y35 zQq ?_ ?_;rotate_left;exact(fun _ hcl=>zJL _ _ _))|(refine' y31 zQM ?_ ?_;rotate_left;exact(fun _ hcl=>zMG ⟨xi,xa,xn,2,xp,xl⟩ y _))|(refine z14 sg H ?_;intro b w H)|(refine' y30 zL6 ?_ ?_;rotate_left;exact zQx _ _ _ (H.mem) (zz2 _);intro w hcl;replace H:=H.ext hcl;clear hcl)|refine yU ?_|(with_reducible apply zL;intro w hcl;replace H:=H.ext hcl;clear hcl)|fail)
 exact zQ rfl H.cl rfl
theorem c_brow (x y:Odr)(h1:x.side=1∨x.side=2){F:zH}(w0:World)(hF:Mem w0 F)(hP:PriM F) :
  Calls Tryz.prog 70 [.agg x.cells.toArray,.agg y.cells.toArray].toArray w0 (Ret (.int .i64 (zGz x y)) w0):=by
 rcases h1 with h|h
 ·exact zUA x y h w0 hF hP
 ·exact zUB x y h w0 hF hP
def cfE (x y:Row4):Int:=zMH x.acct x.asset y.acct y.asset
theorem zE1 (x y:Row4):ltOf cfE x y=true↔LtR x y:=by
 unfold ltOf cfE LtR
 rw[decide_eq_true_eq,zNb]
theorem swoE:SWO (ltOf cfE) where
 irrefl x:=by rw[← Bool.not_eq_true,zE1];exact LtR.irr x
 trans x y z:=by rw[zE1,zE1,zE1];exact fun h k=>h.tr k
 ntrans x y z:=by
  rw[← Bool.not_eq_true,← Bool.not_eq_true,← Bool.not_eq_true,zE1,zE1,zE1]
  unfold LtR;omega
theorem zPa {w0 w:World}{G:zH}{g cap:Nat}{cs:List Value}(l:List Row4)(hl:l.length≤1000000000000)(H:St w0 (cb g cs 254::G) w)(he:Els cs 4 l.length (rwl l))(hcl:l.length*4≤cs.length) :
  Calls Tryz.prog 218 [.slice (some ⟨g,0,none⟩) l.length cap,.func (.func 219) #[] #[]].toArray w (zn (zOB Row4.cells 4 cfE g 254 G cs.length l) w0) :=
 sortK layFE Tryz.isAgg254 Tryz.sizeOf254 Row4.cells (fun _=>rfl) Row4.cone cfE swoE (caps:=[]) (enters_of Tryz.func219 (by kernel_rfl) rfl) l hl H he hcl fun _ W x y _=>zT9 x y W
theorem zMu {w:World}{a:Option Addr}{cap:Nat}{fv:Value}:Calls Tryz.prog 218 [.slice a 0 cap,fv].toArray w (Ret (.tuple #[]) w) :=
 Calls.mono (AnyF.slices_SortFunc_none layFE a cap fv w) fun _ _ ⟨h1,h2⟩=>⟨h1,h2 ▸ Cl.refl _⟩
theorem zMv {l m n:List Row4}(hp:m.Perm l)(hs:m.Pairwise fun a b=>ltOf cfE b a=false)(hk:(l.map zAD).Nodup)(hn:n.Pairwise LtR)(he:∀ r,r∈n↔r∈l):m=n:=by
 have hk2:(m.map zAD).Nodup:=(hp.map _).nodup_iff.2 hk
 rw[List.nodup_iff_pairwise_ne,List.pairwise_map] at hk2
 have hm:m.Pairwise LtR:=(hs.and hk2).imp fun{a b} h=>by
  have h1:¬ LtR b a:=fun g=>by rw[(zE1 b a).2 g] at h;cases h.1
  have h2:=h.2
  unfold LtR at *
  unfold zAD at h2
  by_cases e:a.acct=b.acct
  ·have:a.asset≠b.asset:=fun e2=>h2 (by rw[e,e2])
   omega
  ·omega
 exact zHV LtR.irr LtR.asy hm hn fun r=>by rw[hp.mem_iff,he]
abbrev OdrS (s:Int):={ o:Odr // o.side=s }
instance (s:Int):Inhabited (OdrS s):=⟨⟨{ (default:Odr) with side:=s },rfl⟩⟩
def cfO (s:Int)(x y:OdrS s):Int:=zGz x.1 y.1
theorem zE2 {s:Int}(x y:OdrS s):ltOf (cfO s) x y=zAE x.1 y.1:=by
 unfold ltOf cfO
 rw[Bool.eq_iff_iff,decide_eq_true_eq,zR2]
theorem swoO (s:Int):SWO (ltOf (cfO s)) where
 irrefl x:=by rw[zE2];unfold zAE;simp
 trans x y z:=by
  rw[zE2,zE2,zE2]
  unfold zAE
  rw[x.2,y.2]
  by_cases hs:s=1
  ·simp only[if_pos hs];repeat' split
   all_goals simp only[decide_eq_true_eq];omega
  ·simp only[if_neg hs];repeat' split
   all_goals simp only[decide_eq_true_eq];omega
 ntrans x y z:=by
  rw[zE2,zE2,zE2]
  exact fun h k=>zIT z.2 y.2 x.2 k h
theorem zPb {w0 w:World}{G F:zH}{g cap:Nat}{cs:List Value}(l:List Odr)(s:Int)(h12:s=1∨s=2)(hside:∀ o∈l,o.side=s)(hl:l.length≤1000000000000)(H:St w0 (cb g cs 43::G) w)(he:Els cs 6 l.length (odl l))(hcl:l.length*6≤cs.length)(hF:Mem w0 F)(hP:PriM F) :
  Calls Tryz.prog 69 [.slice (some ⟨g,0,none⟩) l.length cap,.func (.func 70) #[] #[]].toArray w
   (zn (fun M v=>v=.tuple #[]∧∃ cs' m,M=cb g cs' 43::G∧cs'.length=cs.length∧m.Perm l∧m.Pairwise (fun a b=>zAE b a=false)∧Els cs' 6 m.length (odl m)) w0):=by
 obtain⟨l',hl'⟩:∃ l':List (OdrS s),l'.map (·.1)=l:=⟨l.pmap Subtype.mk hside,by rw[List.map_pmap];simp⟩
 have hlen:l'.length=l.length:=by rw[← hl',List.length_map]
 have hgd:∀ (q:List (OdrS s)) j,j<q.length→(q.getD j default).1=od_ (q.map (·.1)) j:=fun q j hj=>by
  simp[od_,List.getElem?_eq_getElem hj]
 have he':Els cs 6 l'.length fun j=>(l'.getD j default).1.cells:=by
  rw[hlen]
  exact he.congr fun j hj=>by show(od_ l j).cells=_;rw[hgd l' j (by omega),hl']
 have:=sortK (enc:=fun o:OdrS s=>o.1.cells) layFO Tryz.isAgg43 Tryz.sizeOf43 (k:=6) (fun _=>rfl) (fun x=>Odr.cone x.1) (cfO s) (swoO s) (f:=70) (caps:=[]) (cap:=cap) (enters_of Tryz.func70 (by kernel_rfl) rfl) l' (by omega) H he' (by rw[hlen];exact hcl)
  (fun cs' W x y HW=>c_brow x.1 y.1 (by rw[x.2];exact h12) W (HW.memF hF) hP)
 rw[hlen] at this
 refine Calls.mono this ?_
 rintro e w' ⟨v,M,rfl,⟨rfl,cs',m,rfl,h1,h2,h3,h4⟩,h5⟩
 refine⟨_,_,rfl,⟨rfl,cs',m.map (·.1),rfl,h1,hl' ▸ h2.map _,?_,?_⟩,h5⟩
 ·rw[List.pairwise_map];exact h3.imp fun{a b} h=>by rw[zE2] at h;exact h
 ·rw[List.length_map]
  exact h4.congr fun j hj=>by show(m.getD j default).1.cells=(od_ _ j).cells;rw[hgd m j hj]
theorem zIW {w:World}{a:Option Addr}{cap:Nat}{fv:Value}:Calls Tryz.prog 69 [.slice a 0 cap,fv].toArray w (Ret (.tuple #[]) w) :=
 Calls.mono (AnyF.slices_SortFunc_none layFO a cap fv w) fun _ _ ⟨h1,h2⟩=>⟨h1,h2 ▸ Cl.refl _⟩
end
section
open Go Go.Sk Go.RowKit
attribute [local irreducible] Go.Calls
theorem ofS_no (i s:Int)(l:List Odr):(l.filter fun x=>!(x.inst != i||x.side != s))=l.filter (ofS i s):=by
 refine List.filter_congr fun x _=>?_
 unfold ofS
 simp[bne]
theorem SlA.nil {F:zH}{size:Nat}{a:Option Addr}{cap:Nat}{el:Nat→List Value}:SlA F size a 0 cap el:=⟨zzD _,zzD _,0,0,[],0,(0,0),fun h=>absurd h (Nat.lt_irrefl 0)⟩
theorem zUC {a:Option Addr}{cap:Nat}(l:List Odr)(i s:Int){F:zH}(w0:World)(hF:Mem w0 F)(hP:PriM F)(hs0:SlA F 6 a l.length cap (odl l)) :
  Calls Tryz.prog 39 [.slice a l.length cap,.int .i64 i,.int .u8 s].toArray w0 (zn (fun M v=>∃ a1 c1,v=.slice a1 (zCT l i s).length c1∧SlA M 6 a1 (zCT l i s).length c1 (odl (zCT l i s))) w0):=by
 by_cases hm:zd l=true
 ·have hl:=(zAk.1 hm).1
  refine enter [.tmp 6] Tryz.func39 rfl Tryz.ntmps39 rfl rfl ?_
  have H:=zB w0
  repeat' (first|refine yT ?_|(refine y9 H ?_;intro b w H)|(refine' y30 zCx ?_ ?_;rotate_left;exact zAo l _ (H.memF hF) hs0;intro w hcl;replace H:=H.ext hcl;clear hcl)|(refine' y32 zQN ?_ ?_;rotate_left;exact zFr _ (H.memF hF) hs0 (fun j _=>Odr.cone _) (fun j _=>rfl) (by omega);intro v M w hR hS;replace H:=H.addR hS;clear hS;(try simp only[List.cons_append,List.nil_append] at H);obtain⟨a',cap',rfl,hO⟩:=hR)|refine yU ?_|(refine y23 ?_ ?_;all_goals(intro h;try (exfalso;first|((rw[hm] at h;cases h);done))))|fail)
  rcases Nat.eq_zero_or_pos l.length with h0|h0
  ·obtain rfl:=List.length_eq_zero_iff.1 h0
   have e:zCT [] i s=[]:=List.perm_nil.1 (zC5 (l:=[]) hm)
   repeat' (first|refine yT ?_|(refine' y30 ent66 ?_ ?_;rotate_left;exact zPC (a:=a') (cap:=cap') (caps:=[.pointer (some ⟨_,0,none⟩),.pointer (some ⟨_,0,none⟩)]) ent68;intro w hcl;replace H:=H.ext hcl;clear hcl)|(refine' y30 zQO ?_ ?_;rotate_left;exact zIW (a:=a') (cap:=cap');intro w hcl;replace H:=H.ext hcl;clear hcl)|refine yU ?_|fail)
   exact zU (M:=[]) rfl (H.sub (zz9 _)) ⟨a',cap',by rw[e];rfl,by rw[e];exact SlA.nil⟩
  ·obtain⟨g,cs,rfl,rfl,hnc,he⟩:=hO.els h0 (fun j _=>rfl)
   clear hO
   replace H:=H.perm (List.perm_append_comm (l₁:=[_,_]) (l₂:=[_]))
   simp only[List.cons_append,List.nil_append] at H
   repeat' (first|refine yT ?_|(refine zc rfl rfl (En.fn ent66 rfl rfl) (zPA (n:=l.length) (d:=od_ l) (caps:=[.pointer (some ⟨_,0,none⟩),.pointer (some ⟨_,0,none⟩)]) (fun j=>(od_ l j).inst != i||(od_ l j).side != s) H he (by omega) hnc ent68 (fun j hj L cs' w' H'=>zT7 (od_ l j) i s _ _ w' H'.mem (zz3 _ (zz5 _ (zz5 _ (zz2 _)))) (zz3 _ (zz5 _ (zz2 _))))) ?_;rintro _ _ w ⟨rfl,cs2,rfl,hl2,he2⟩ H2;clear H;have H:=H2;clear H2)|refine yU ?_|fail)
   obtain⟨hk1,hk2⟩:=zHG l (fun x=>x.inst != i||x.side != s) default
   rw[ofS_no] at hk1 hk2
   have hk1':(kp (fun j=>(od_ l j).inst != i||(od_ l j).side != s) l.length).length=(l.filter (ofS i s)).length:=hk1
   rw[hk1'] at he2 ⊢
   replace he2:Els cs2 6 (l.filter (ofS i s)).length (odl (l.filter (ofS i s))):=he2.congr fun t ht=>by
    have:=hk2 t ht
    show(zCM _ l.length (od_ l) t).cells=(od_ _ t).cells
    exact congrArg Odr.cells this
   obtain⟨m,hmm⟩:∃ m,l.filter (ofS i s)=m:=⟨_,rfl⟩
   have hperm:=zC5 (i:=i) (s:=s) hm
   have hside:∀ o∈m,o.side=s:=by rw[← hmm];exact zDQ
   have hmem:∀ o∈m,o∈l:=by rw[← hmm];exact fun o ho=>(List.mem_filter.1 ho).1
   have hml:m.length≤l.length:=by rw[← hmm];exact List.length_filter_le _ _
   have hun:=fun n=>zPX (m:=n) (i:=i) (s:=s) hm
   rw[hmm] at hperm he2 hun ⊢
   have hcl:l.length*6≤cs.length:=by
    have:=(he (l.length - 1) (by omega)).1
    omega
   rcases Nat.eq_zero_or_pos m.length with h1|h1
   ·obtain rfl:=List.length_eq_zero_iff.1 h1
    have e:zCT l i s=[]:=List.perm_nil.1 hperm
    repeat' (first|refine yT ?_|(refine' y30 zQO ?_ ?_;rotate_left;exact zIW (a:=some ⟨g,0,none⟩) (cap:=cap');intro w hcl;replace H:=H.ext hcl;clear hcl)|refine yU ?_|fail)
    exact zU (M:=[]) rfl (H.sub (zz9 _)) ⟨_,cap',by rw[e],by rw[e];exact SlA.nil⟩
   ·have h12:s=1∨s=2:=by
     have ho:od_ m 0∈m:=zAK _ h1
     rw[← hside _ ho]
     exact((zAP.1 hm).2.1 _ (hmem _ ho)).2.2.2.1
    repeat' (first|refine yT ?_|(refine zc rfl rfl (En.fn zQO rfl rfl) (zPb m s h12 hside (by omega) H he2 (by omega) hF hP) ?_;rintro _ _ w ⟨rfl,cs3,n,rfl,hl3,hp3,hs3,he3⟩ H2;clear H;have H:=H2;clear H2)|refine yU ?_|fail)
    obtain⟨rfl,_⟩:=hun n hp3 hs3
    rw[hp3.length_eq] at he3
    refine zU (M:=[cb g cs3 43]) rfl (H.sub (List.Sublist.cons_cons _ (zz9 _))) ⟨some ⟨g,0,none⟩,cap',by rw[hp3.length_eq],?_⟩
    rw[hp3.length_eq]
    exact⟨by omega,by omega,g,0,cs3,_,(0,0),he3.slb (zz2 _)⟩
 ·have hm:zd l=false:=by simpa using hm
  have e:zCT l i s=[]:=by unfold zCT;rw[hm];rfl
  refine enter [.tmp 6] Tryz.func39 rfl Tryz.ntmps39 rfl rfl ?_
  have H:=zB w0
  repeat' (first|refine yT ?_|(refine y9 H ?_;intro b w H)|(refine' y30 zCx ?_ ?_;rotate_left;exact zAo l _ (H.memF hF) hs0;intro w hcl;replace H:=H.ext hcl;clear hcl)|refine yU ?_|(refine y23 ?_ ?_;all_goals(intro h;try (exfalso;first|((rw[hm] at h;cases h);done))))|fail)
  exact zU (M:=[]) rfl (H.sub (zz9 _)) ⟨none,0,by rw[e];rfl,by rw[e];exact SlA.nil⟩
theorem zOC {a:Option Addr}{cap:Nat}(l:List Odr)(i s:Int){F:zH}(w0:World)(hF:Mem w0 F)(hP:PriM F)(hs0:SlA F 6 a l.length cap (odl l)) :
  Calls Tryz.prog 17 [.slice a l.length cap,.int .i64 i,.int .u8 s].toArray w0 (Ret (.tuple #[.agg (zDF l i s).1.cells.toArray,.bool (zDF l i s).2]) w0):=by
 have hf:=zIU (l:=l) (i:=i) (s:=s)
 refine enter [.cell 6 43,.tmp 7] Tryz.func17 rfl Tryz.ntmps17 rfl rfl ?_
 have H:=zB w0
 repeat' (first|refine yT ?_|(refine y10 sg H ?_;intro b w H)|(refine' y32 ent39 ?_ ?_;rotate_left;exact zUC l i s _ (H.memF hF) hP hs0;intro v M w hR hS;replace H:=H.addR hS;clear hS;(try simp only[List.cons_append,List.nil_append] at H);obtain⟨a1,c1,rfl,hs1⟩:=hR)|refine yU ?_|fail)
 generalize zCT l i s=m at hf hs1 ⊢
 cases m with
 | nil =>
   repeat' (first|refine yT ?_|(refine y11 sg H ?_;intro w H)|refine yU ?_|fail)
   refine zBT (vs:=[_,_]) ⟨zAf sg rfl H.mem qB rfl rfl,zh rfl,trivial⟩ H.cl ?_
   rw[hf];rfl
 | cons o m =>
   obtain⟨hn,hc,b0,off,cs,T,fr,hs⟩:=hs1
   have hln:(o::m).length=m.length+1:=rfl
   have d1:(((o::m).length:Int)==0)=false:=beq_eq_false_iff_ne.2 (by omega)
   repeat' (first|refine yT ?_|(refine y11 sg H ?_;intro w H)|(refine y40 sg (hs) ?_ ?_ ?_;(omega);(omega))|(refine y42 sg (hs) ((H.mem.sub qS)) ?_ ?_;(omega))|refine yU ?_|fail)
   refine zBT (vs:=[_,_]) ⟨zAf sg rfl H.mem qB rfl rfl,zh rfl,trivial⟩ H.cl ?_
   rw[hf];rfl
theorem zPc {w0 w:World}{g n cap i:Nat}{j:Int}{G:zH}{cs:List Value}{el:Nat→List Value}(H:St w0 (cb g cs 43::G) w)(he:Els cs 6 n el)(hel:∀ j,j<n→(el j).length=6)(h1:∀ j,j<n→∀ u∈el j,u.oneCell'=true)(hi:i<n)(hj:j=((i+1:Nat):Int))(hn:n≤1000000)(hnc:n≤cap) :
  Calls Tryz.prog 194 [.slice (some ⟨g,0,none⟩) n cap,.int .i64 (i:Int),.int .i64 j].toArray w
   (zn (fun M v=>v=.slice (some ⟨g,0,none⟩) (n - 1) cap∧∃ cs',M=cb g cs' 43::G∧cs'.length=cs.length∧Els cs' 6 (n - 1) (fun j=>if j<i then el j else el (j+1))) w0):=by
 subst hj
 have d1:(((i:Nat):Int)==((i+1:Nat):Int))=false:=beq_eq_false_iff_ne.2 (by omega)
 have hcut:=he.cut hel hi
 have hlast:=(he (n - 1) (by omega)).1
 have hX:i+(n - (i+1))=n - 1:=by omega
 have hsl:SlB [cb g cs 43] 6 (some ⟨g,0+(i+1)*6,none⟩) (n - (i+1)) g (0+(i+1)*6) cs 43 (0,0) (fun t=>el (i+1+t)):=fun _=>⟨rfl,zz2 _,fun t ht=>by
  have:=he (i+1+t) (by omega)
  rw[show 0+(i+1)*6+t*6=(i+1+t)*6 by omega];exact this⟩
 have hfl:((List.range (n - (i+1))).flatMap fun t=>el (i+1+t)).length=(n - (i+1))*6:=Go.Sk.flat_len _ fun t ht=>hel _ (by omega)
 have hsrc:∀ w,Mem w (cb g cs 43::G)→Src w (.slice (if cap=i+1 then(some ⟨g,0,none⟩:Option Addr) else Option.map (fun x:Addr=>x.add ((i+1)*6)) (some ⟨g,0,none⟩)) (n - (i+1)) (cap - (i+1))) (n - (i+1)) ((List.range (n - (i+1))).flatMap fun t=>el (i+1+t)):=by
  intro w hM
  by_cases h:cap=i+1
  ·have h0:n - (i+1)=0:=by omega
   rw[if_pos h,h0]
   exact .inl ⟨_,_,rfl,fun j u hj=>by cases hj⟩
  ·rw[if_neg h,Option.map_some,zz]
   exact zKC hsl (fun t ht=>hel _ (by omega)) (hM.sub (by intro p hp;rw[List.mem_singleton] at hp;exact hp ▸ zz2 _))
 have hfit:i*6+((List.range (n - (i+1))).flatMap fun t=>el (i+1+t)).length≤cs.length:=by rw[hfl];omega
 have hwl:=zB0 hfit
 refine enter [.tmp 6] Tryz.func194 rfl Tryz.ntmps194 rfl rfl ?_
 repeat' (first|refine yT ?_|refine y12 ?_|refine z13 (Yq.sliceLHM sg rfl rfl rfl rfl rfl rfl rfl rfl (by omega) (by omega) (by omega) (by omega)) ?_|(refine CW.regionR mixed ?_;intro w hcl;replace H:=H.ext hcl;clear hcl;(with_reducible apply RW.quiet 6);exact rfl;decide +kernel;simp only[List.append_eq,List.cons_append,List.nil_append,List.take_succ_cons,List.take_zero,List.drop_zero])|((with_reducible apply zP);exact rfl;exact rfl;exact Yq.sliceHi sg rfl rfl rfl rfl rfl rfl (zz1 _) (by omega) (by omega))|((with_reducible apply zP);exact rfl;exact rfl;exact Yq.sliceLo sg rfl rfl rfl rfl rfl rfl (zz1 _) (by omega) (by omega))|(refine OX.appendR sg 6 H rfl rfl rfl rfl rfl rfl rfl rfl rfl (hsrc _ H.mem) hfl (zID fun t ht=>h1 _ (by omega)) (by omega) hfit ?_;clear H;intro w H;rw[hX])|refine z13 (Yq.sliceLH sg rfl rfl rfl rfl rfl rfl rfl (zz1 _) (zz1 _) (by omega) (by omega) (by omega) (by omega)) ?_|(refine OX.clearP sg H (by omega) rfl rfl rfl rfl rfl rfl rfl rfl rfl (by rw[hwl];show 0+(n - 1)*6+(n - (n - 1))*6≤_;omega) ?_;clear H;intro cs3 w hl3 hk3 H)|refine yU ?_|(with_reducible apply zL;intro w hcl;replace H:=H.ext hcl;clear hcl)|(refine y23 ?_ ?_;all_goals(intro h;try (exfalso;first|((rw[d1] at h;cases h);done))))|fail)
 exact zAY (vs:=[_]) (M:=_) ⟨zh rfl,trivial⟩ H ⟨rfl,cs3,rfl,hl3.trans hwl,hcut.keep (zzC _) hl3 (fun q hq=>hk3 q (by show q<0+(n - 1)*6;omega))⟩
theorem zPd {w0 w:World}{g n cap i:Nat}{j:Int}{G:zH}{cs:List Value}{el:Nat→List Value}(H:St w0 (cb g cs 62::G) w)(he:Els cs 9 n el)(hel:∀ j,j<n→(el j).length=9)(h1:∀ j,j<n→∀ u∈el j,u.oneCell'=true)(hi:i<n)(hj:j=((i+1:Nat):Int))(hn:n≤1000000)(hnc:n≤cap) :
  Calls Tryz.prog 198 [.slice (some ⟨g,0,none⟩) n cap,.int .i64 (i:Int),.int .i64 j].toArray w
   (zn (fun M v=>v=.slice (some ⟨g,0,none⟩) (n - 1) cap∧∃ cs',M=cb g cs' 62::G∧cs'.length=cs.length∧Els cs' 9 (n - 1) (fun j=>if j<i then el j else el (j+1))) w0):=by
 subst hj
 have d1:(((i:Nat):Int)==((i+1:Nat):Int))=false:=beq_eq_false_iff_ne.2 (by omega)
 have hcut:=he.cut hel hi
 have hlast:=(he (n - 1) (by omega)).1
 have hX:i+(n - (i+1))=n - 1:=by omega
 have hsl:SlB [cb g cs 62] 9 (some ⟨g,0+(i+1)*9,none⟩) (n - (i+1)) g (0+(i+1)*9) cs 62 (0,0) (fun t=>el (i+1+t)):=fun _=>⟨rfl,zz2 _,fun t ht=>by
  have:=he (i+1+t) (by omega)
  rw[show 0+(i+1)*9+t*9=(i+1+t)*9 by omega];exact this⟩
 have hfl:((List.range (n - (i+1))).flatMap fun t=>el (i+1+t)).length=(n - (i+1))*9:=Go.Sk.flat_len _ fun t ht=>hel _ (by omega)
 have hsrc:∀ w,Mem w (cb g cs 62::G)→Src w (.slice (if cap=i+1 then(some ⟨g,0,none⟩:Option Addr) else Option.map (fun x:Addr=>x.add ((i+1)*9)) (some ⟨g,0,none⟩)) (n - (i+1)) (cap - (i+1))) (n - (i+1)) ((List.range (n - (i+1))).flatMap fun t=>el (i+1+t)):=by
  intro w hM
  by_cases h:cap=i+1
  ·have h0:n - (i+1)=0:=by omega
   rw[if_pos h,h0]
   exact .inl ⟨_,_,rfl,fun j u hj=>by cases hj⟩
  ·rw[if_neg h,Option.map_some,zz]
   exact zKC hsl (fun t ht=>hel _ (by omega)) (hM.sub (by intro p hp;rw[List.mem_singleton] at hp;exact hp ▸ zz2 _))
 have hfit:i*9+((List.range (n - (i+1))).flatMap fun t=>el (i+1+t)).length≤cs.length:=by rw[hfl];omega
 have hwl:=zB0 hfit
 refine enter [.tmp 6] Tryz.func198 rfl Tryz.ntmps198 rfl rfl ?_
 repeat' (first|refine yT ?_|refine y12 ?_|refine z13 (Yq.sliceLHM sg rfl rfl rfl rfl rfl rfl rfl rfl (by omega) (by omega) (by omega) (by omega)) ?_|(refine CW.regionR mixed ?_;intro w hcl;replace H:=H.ext hcl;clear hcl;(with_reducible apply RW.quiet 6);exact rfl;decide +kernel;simp only[List.append_eq,List.cons_append,List.nil_append,List.take_succ_cons,List.take_zero,List.drop_zero])|((with_reducible apply zP);exact rfl;exact rfl;exact Yq.sliceHi sg rfl rfl rfl rfl rfl rfl (zz1 _) (by omega) (by omega))|((with_reducible apply zP);exact rfl;exact rfl;exact Yq.sliceLo sg rfl rfl rfl rfl rfl rfl (zz1 _) (by omega) (by omega))|(refine OX.appendR sg 9 H rfl rfl rfl rfl rfl rfl rfl rfl rfl (hsrc _ H.mem) hfl (zID fun t ht=>h1 _ (by omega)) (by omega) hfit ?_;clear H;intro w H;rw[hX])|refine z13 (Yq.sliceLH sg rfl rfl rfl rfl rfl rfl rfl (zz1 _) (zz1 _) (by omega) (by omega) (by omega) (by omega)) ?_|(refine OX.clearP sg H (by omega) rfl rfl rfl rfl rfl rfl rfl rfl rfl (by rw[hwl];show 0+(n - 1)*9+(n - (n - 1))*9≤_;omega) ?_;clear H;intro cs3 w hl3 hk3 H)|refine yU ?_|(with_reducible apply zL;intro w hcl;replace H:=H.ext hcl;clear hcl)|(refine y23 ?_ ?_;all_goals(intro h;try (exfalso;first|((rw[d1] at h;cases h);done))))|fail)
 exact zAY (vs:=[_]) (M:=_) ⟨zh rfl,trivial⟩ H ⟨rfl,cs3,rfl,hl3.trans hwl,hcut.keep (zzC _) hl3 (fun q hq=>hk3 q (by show q<0+(n - 1)*9;omega))⟩
theorem zA8 {α:Type}(f:α→List Value)(l:List α)(d:α):((List.range l.length).flatMap fun j=>f (l.getD j d))=l.flatMap f:=by
 have:∀ k,k≤l.length→((List.range k).flatMap fun j=>f (l.getD j d))=(l.take k).flatMap f:=by
  intro k
  induction k with
  | zero=>intro _;rfl
  | succ k ih =>
    intro hk
    rw[List.range_succ,List.flatMap_append,ih (by omega),List.flatMap_singleton,List.take_succ_eq_append_getElem (by omega),List.flatMap_append,List.flatMap_singleton]
    simp[List.getElem?_eq_getElem (show k<l.length by omega)]
 rw[this _ (Nat.le_refl _),List.take_length]
theorem zFv {α β:Type}{f g:α→List β}:∀ {l:List α},(∀ x∈l,f x=g x)→l.flatMap f=l.flatMap g
 | [],_=>rfl
 | a::l,h=>by rw[List.flatMap_cons,List.flatMap_cons,h a (List.Mem.head _),zFv fun x hx=>h x (List.Mem.tail _ hx)]
def zSA (r:List Odr × Int)(M:zH)(v:Value):Prop:=∃ a1 c1,v=.tuple #[.slice a1 r.1.length c1,.int .i64 r.2]∧SlA M 6 a1 r.1.length c1 (odl r.1)
theorem Src.full {w:World}{size n:Nat}{a:Option Addr}{xs:List Value}{cap:Nat}(h:Src w (.slice a n cap) n xs)(hl:xs.length=n*size):Full w size a n xs:=by
 refine⟨hl,fun h0=>?_⟩
 rcases h with ⟨b,c,e,hb⟩|⟨c,e,h⟩
 ·cases e;exact⟨b,rfl,hb⟩
 ·omega
theorem c_Add_ {a:Option Addr}{cap:Nat}(l:List Odr)(o:Odr){F:zH}(w0:World)(hF:Mem w0 F)(hs0:SlA F 6 a l.length cap (odl l)) :
  Calls Tryz.prog 147 [.slice a l.length cap,.agg o.cells.toArray].toArray w0 (zn (zSA (zFT l o)) w0):=by
 by_cases hg:zd l=true∧zu o=true
 ·obtain⟨hm,ho⟩:=hg
  have hl:=(zAk.1 hm).1
  have hr:=zKL hm
  obtain⟨i,hi⟩:=zR5 l hr o.id
  have hfa:=zLV hm hi
  have hs1:=hs0
  obtain⟨hn,hc,b0,off,cs,T,fr,hs⟩:=hs1
  cases hb:(decide (i<l.length)&&(od_ l i).id==o.id) with
  | true =>
    have e:zFT l o=([],6):=by unfold zFT;rw[if_pos ⟨hm,ho⟩,hfa,if_pos hb];rfl
    have hp:=fun w h1=>zFL l o.id (by omega) hr i hi (F:=F) w h1 hs0
    rw[hb] at hp
    refine enter [.tmp 4,.tmp 5] Tryz.func147 rfl Tryz.ntmps147 rfl rfl ?_
    have H:=zB w0
    repeat' (first|refine yT ?_|refine y7 sg H ?_|(refine y9 H ?_;intro b w H)|(refine' y30 zCx ?_ ?_;rotate_left;exact zAo l _ (H.memF hF) hs0;intro w hcl;replace H:=H.ext hcl;clear hcl)|(refine' y30 zEa ?_ ?_;rotate_left;exact zBK o _;intro w hcl;replace H:=H.ext hcl;clear hcl)|(refine' y30 zHB ?_ ?_;rotate_left;exact hp _ (H.memF hF);intro w hcl;replace H:=H.ext hcl;clear hcl)|refine yU ?_|(refine y17 ?_ ?_;all_goals(intro h;try (exfalso;first|((rw[hm] at h;cases h);done)|((rw[ho] at h;cases h);done)|((exact absurd h (by decide));done))))|with_reducible apply zA|(refine y23 ?_ ?_;all_goals(intro h;try (exfalso;first|((rw[hm] at h;cases h);done)|((rw[ho] at h;cases h);done)|((exact absurd h (by decide));done))))|fail)
    exact zCj (M:=[]) rfl rfl (H.sub (zz9 _)) ⟨none,0,by rw[e];rfl,by rw[e];exact SlA.nil⟩
  | false =>
    have hp:=fun w h1=>zFL l o.id (by omega) hr i hi (F:=F) w h1 hs0
    rw[hb] at hp hfa
    rw[if_neg (by decide)] at hfa
    by_cases h128:l.length=128
    ·have e:zFT l o=([],40):=by unfold zFT;rw[if_pos ⟨hm,ho⟩,hfa,if_neg (by decide),if_pos h128]
     have d1:((l.length:Int)==128)=true:=by rw[h128];rfl
     refine enter [.tmp 4,.tmp 5] Tryz.func147 rfl Tryz.ntmps147 rfl rfl ?_
     have H:=zB w0
     repeat' (first|refine yT ?_|refine y7 sg H ?_|(refine y9 H ?_;intro b w H)|(refine' y30 zCx ?_ ?_;rotate_left;exact zAo l _ (H.memF hF) hs0;intro w hcl;replace H:=H.ext hcl;clear hcl)|(refine' y30 zEa ?_ ?_;rotate_left;exact zBK o _;intro w hcl;replace H:=H.ext hcl;clear hcl)|(refine' y30 zHB ?_ ?_;rotate_left;exact hp _ (H.memF hF);intro w hcl;replace H:=H.ext hcl;clear hcl)|refine yU ?_|(refine y17 ?_ ?_;all_goals(intro h;try (exfalso;first|((rw[hm] at h;cases h);done)|((rw[ho] at h;cases h);done)|((exact absurd h (by decide));done)|((rw[d1] at h;cases h);done))))|with_reducible apply zA|(refine y23 ?_ ?_;all_goals(intro h;try (exfalso;first|((rw[hm] at h;cases h);done)|((rw[ho] at h;cases h);done)|((exact absurd h (by decide));done)|((rw[d1] at h;cases h);done))))|fail)
     exact zCj (M:=[]) rfl rfl (H.sub (zz9 _)) ⟨none,0,by rw[e];rfl,by rw[e];exact SlA.nil⟩
    ·have hno:i<l.length→(od_ l i).id≠o.id:=fun hil he=>by
      rw[Bool.and_eq_false_iff] at hb
      rcases hb with h|h
      ·exact absurd hil (zzB h)
      ·rw[he] at h;simp at h
     obtain⟨f1,f2⟩:=zPZ hr hi hno
     have e:zFT l o=(l.take i++o::l.drop i,0):=by unfold zFT;rw[if_pos ⟨hm,ho⟩,hfa,if_neg (by decide),if_neg h128,f1,f2]
     have d1:((l.length:Int)==128)=false:=beq_eq_false_iff_ne.2 (by omega)
     have hil:i≤l.length:=hi.1
     have hpre:∀ w,Mem w F→Full w 6 a i ((List.range i).flatMap (odl l)):=fun w hM=>by
      have hsp:SlB F 6 a i b0 off cs T fr (odl l):=fun h0=>⟨(hs (by omega)).1,(hs (by omega)).2.1,fun j hj=>(hs (by omega)).2.2 j (by omega)⟩
      exact Src.full (zKC (cap:=i) hsp (fun j _=>rfl) hM) (zFs fun j _=>rfl)
     have hsuf:∀ w,Mem w F→Src w (.slice (if cap=i then a else a.map (·.add (i*6))) (l.length - i) (cap - i)) (l.length - i) ((List.range (l.length - i)).flatMap fun t=>odl l (i+t)):=fun w hM=>by
      by_cases h0:i<l.length
      ·obtain⟨rfl,hmm,hel⟩:=hs (by omega)
       rw[if_neg (by omega),Option.map_some,zz]
       refine zKC (size:=6) (n:=l.length - i) (el:=fun t=>odl l (i+t)) (F:=F) (b:=b0) (off:=off+i*6) (cs:=cs) (T:=T) (fr:=fr) (fun _=>⟨rfl,hmm,fun t ht=>?_⟩) (fun _ _=>rfl) hM
       have:=hel (i+t) (by omega)
       rw[show off+i*6+t*6=off+(i+t)*6 by omega];exact this
      ·have hz:l.length - i=0:=by omega
       rw[hz]
       cases (if cap=i then a else a.map (·.add (i*6))) with
       | none=>exact .inr ⟨_,rfl,rfl⟩
       | some x=>exact .inl ⟨x,_,rfl,fun j u hj=>by cases hj⟩
     have hcells:(List.range i).flatMap (odl l)++o.cells++((List.range (l.length - i)).flatMap fun t=>odl l (i+t))=(List.range (l.take i++o::l.drop i).length).flatMap (odl (l.take i++o::l.drop i)):=by
      have h1:=zA8 Odr.cells (l.take i++o::l.drop i) default
      have h2:=zA8 Odr.cells (l.take i) default
      have h3:=zA8 Odr.cells (l.drop i) default
      rw[List.length_take,Nat.min_eq_left hil] at h2
      rw[List.length_drop] at h3
      have h4:(List.range i).flatMap (odl l)=(l.take i).flatMap Odr.cells:=by
       rw[← h2]
       exact zFv fun j hj=>by
        have:=List.mem_range.1 hj
        show(od_ l j).cells=_
        rw[show(l.take i).getD j default=od_ l j by simp[od_,List.getElem?_take,this]]
      have h5:((List.range (l.length - i)).flatMap fun t=>odl l (i+t))=(l.drop i).flatMap Odr.cells:=by
       rw[← h3]
       exact zFv fun j hj=>by
        show(od_ l (i+j)).cells=_
        rw[show(l.drop i).getD j default=od_ l (i+j) by simp[od_]]
      rw[h4,h5]
      refine Eq.trans ?_ h1.symm
      simp[List.flatMap_append,List.flatMap_cons]
     refine enter [.tmp 4,.tmp 5] Tryz.func147 rfl Tryz.ntmps147 rfl rfl ?_
     have H:=zB w0
     repeat' (first|refine yT ?_|refine y7 sg H ?_|(refine y9 H ?_;intro b w H)|(refine' y30 zCx ?_ ?_;rotate_left;exact zAo l _ (H.memF hF) hs0;intro w hcl;replace H:=H.ext hcl;clear hcl)|(refine' y30 zEa ?_ ?_;rotate_left;exact zBK o _;intro w hcl;replace H:=H.ext hcl;clear hcl)|(refine' y30 zHB ?_ ?_;rotate_left;exact hp _ (H.memF hF);intro w hcl;replace H:=H.ext hcl;clear hcl)|(refine zA5 mixed 13 ?_ ?_;exact rfl;intro w hcl;replace H:=H.ext hcl;clear hcl)|((with_reducible apply zEm);decide +kernel)|(refine' z8 0 ?_ ?_;rotate_left;first|exact z9 sg|exact(fun w=>Yq.sliceHM sg rfl rfl rfl rfl rfl rfl rfl (zz1 _) (by omega) (by omega))|exact(fun w=>Yq.sliceLo sg rfl rfl rfl rfl rfl rfl (zz1 _) (by omega) (by omega)))|(refine' z8 1 ?_ ?_;rotate_left;first|exact z9 sg|exact(fun w=>Yq.sliceHM sg rfl rfl rfl rfl rfl rfl rfl (zz1 _) (by omega) (by omega))|exact(fun w=>Yq.sliceLo sg rfl rfl rfl rfl rfl rfl (zz1 _) (by omega) (by omega)))|(refine' z8 2 ?_ ?_;rotate_left;first|exact z9 sg|exact(fun w=>Yq.sliceHM sg rfl rfl rfl rfl rfl rfl rfl (zz1 _) (by omega) (by omega))|exact(fun w=>Yq.sliceLo sg rfl rfl rfl rfl rfl rfl (zz1 _) (by omega) (by omega)))|(refine' z8 3 ?_ ?_;rotate_left;first|exact z9 sg|exact(fun w=>Yq.sliceHM sg rfl rfl rfl rfl rfl rfl rfl (zz1 _) (by omega) (by omega))|exact(fun w=>Yq.sliceLo sg rfl rfl rfl rfl rfl rfl (zz1 _) (by omega) (by omega)))|(refine' z8 7 ?_ ?_;rotate_left;first|exact z9 sg|exact(fun w=>Yq.sliceHM sg rfl rfl rfl rfl rfl rfl rfl (zz1 _) (by omega) (by omega))|exact(fun w=>Yq.sliceLo sg rfl rfl rfl rfl rfl rfl (zz1 _) (by omega) (by omega)))|(refine' z8 8 ?_ ?_;rotate_left;first|exact z9 sg|exact(fun w=>Yq.sliceHM sg rfl rfl rfl rfl rfl rfl rfl (zz1 _) (by omega) (by omega))|exact(fun w=>Yq.sliceLo sg rfl rfl rfl rfl rfl rfl (zz1 _) (by omega) (by omega)))|(refine' z8 9 ?_ ?_;rotate_left;first|exact z9 sg|exact(fun w=>Yq.sliceHM sg rfl rfl rfl rfl rfl rfl rfl (zz1 _) (by omega) (by omega))|exact(fun w=>Yq.sliceLo sg rfl rfl rfl rfl rfl rfl (zz1 _) (by omega) (by omega)))|refine z10 4 ?_|refine z10 5 ?_|refine z10 6 ?_|refine z10 10 ?_|refine z10 11 ?_|refine z10 12 ?_|((with_reducible apply OX.buildA sg H);exact rfl;exact rfl;exact rfl;exact rfl;exact rfl;exact rfl;exact rfl;exact rfl;exact rfl;exact rfl;exact rfl;exact rfl;intro b w H _)|(refine OX.appendF sg 6 48 (k:=i) (xs:=(List.range i).flatMap (odl l)) (news:=o.cells) (m:=1) H rfl rfl rfl rfl rfl rfl rfl rfl rfl rfl rfl (hpre _ (H.memF hF)) (zAM H.mem (zz2 _)) (by omega) rfl (Odr.cone o) (by unfold maxLen;omega) (by omega) ?_;intro a1 c1 M1 w O1 H)|(refine zo sg 6 48 (M:=M1) (m:=l.length - i) H rfl rfl rfl rfl rfl rfl rfl rfl rfl rfl rfl O1 (hsuf _ (H.memF hF)) (zFs fun _ _=>rfl) (zID fun j _=>Odr.cone _) (by unfold maxLen;omega) (by omega) ?_;clear H O1;intro a2 c2 M2 w O2 H)|refine yU ?_|(refine y17 ?_ ?_;all_goals(intro h;try (exfalso;first|((rw[hm] at h;cases h);done)|((rw[ho] at h;cases h);done)|((exact absurd h (by decide));done)|((rw[d1] at h;cases h);done))))|with_reducible apply zA|(refine y23 ?_ ?_;all_goals(intro h;try (exfalso;first|((rw[hm] at h;cases h);done)|((rw[ho] at h;cases h);done)|((exact absurd h (by decide));done)|((rw[d1] at h;cases h);done))))|fail)
     have hlen:(l.take i++o::l.drop i).length=i+1+(l.length - i):=by simp[Nat.min_eq_left hil];omega
     rw[hcells,← hlen] at O2
     refine zCj (M:=M2) rfl rfl (H.sub (List.sublist_append_left _ _)) ⟨a2,c2,by rw[e,← hlen],?_⟩
     rw[e]
     exact O2.sl (fun _ h=>h) (fun _ _=>rfl) (by rw[hlen];omega)
 ·have e:zFT l o=([],4):=by unfold zFT;rw[if_neg hg]
  refine enter [.tmp 4,.tmp 5] Tryz.func147 rfl Tryz.ntmps147 rfl rfl ?_
  have H:=zB w0
  repeat' (first|refine yT ?_|refine y7 sg H ?_|(refine y9 H ?_;intro b w H)|(refine' y30 zCx ?_ ?_;rotate_left;exact zAo l _ (H.memF hF) hs0;intro w hcl;replace H:=H.ext hcl;clear hcl)|(refine' y30 zEa ?_ ?_;rotate_left;exact zBK o _;intro w hcl;replace H:=H.ext hcl;clear hcl)|refine yU ?_|(refine y17 ?_ ?_;all_goals(intro h;try (exfalso;first|((exact hg ⟨by simpa using h_1,by simpa using h⟩);done))))|(refine y23 ?_ ?_;all_goals(intro h;try (exfalso;first|((exact hg ⟨by simpa using h_1,by simpa using h⟩);done))))|fail)
  all_goals first
   | exact zCj (M:=[]) rfl rfl (H.sub (zz9 _)) ⟨none,0,by rw[e];rfl,by rw[e];exact SlA.nil⟩
   | (exfalso;simp_all;done)
theorem zKN {l:List Odr}{x:Odr}{k j:Nat}(hk:k<l.length):od_ (l.set k x) j=if j=k then x else od_ l j:=by
 unfold od_
 simp only[List.getD_eq_getElem?_getD,List.getElem?_set]
 by_cases h:j=k
 ·subst h;simp[hk]
 ·simp[h,Ne.symm h]
theorem zSB {l:List Odr}{k j:Nat}:od_ (l.eraseIdx k) j=if j<k then od_ l j else od_ l (j+1):=by
 unfold od_
 simp only[List.getD_eq_getElem?_getD,List.getElem?_eraseIdx]
 split<;>rfl
theorem zHd {a:Option Addr}{cap:Nat}(l:List Odr)(id q:Int){F:zH}(w0:World)(hF:Mem w0 F)(hs0:SlA F 6 a l.length cap (odl l)) :
  Calls Tryz.prog 151 [.slice a l.length cap,.int .i64 id,.int .i64 q].toArray w0 (zn (zSA (zAx l id q)) w0):=by
 by_cases hm:zd l=true
 ·have hl:=(zAk.1 hm).1
  have hr:=zKL hm
  obtain⟨i,hi⟩:=zR5 l hr id
  have hfa:=zLV hm hi
  have hs1:=hs0
  obtain⟨hn,hc,b0,off,cs,T,fr,hs⟩:=hs1
  cases hb:(decide (i<l.length)&&(od_ l i).id==id) with
  | false =>
    have hp:=fun w h1=>zFL l id (by omega) hr i hi (F:=F) w h1 hs0
    rw[hb] at hp hfa
    rw[if_neg (by decide)] at hfa
    have e:zAx l id q=([],5):=by unfold zAx;rw[if_pos hm,hfa];rfl
    refine enter [.tmp 6,.tmp 7] Tryz.func151 rfl Tryz.ntmps151 rfl rfl ?_
    have H:=zB w0
    repeat' (first|refine yT ?_|(refine' y30 zCx ?_ ?_;rotate_left;exact zAo l _ (H.memF hF) hs0;intro w hcl;replace H:=H.ext hcl;clear hcl)|(refine' y30 zHB ?_ ?_;rotate_left;exact hp _ (H.memF hF);intro w hcl;replace H:=H.ext hcl;clear hcl)|refine yU ?_|with_reducible apply zA|(refine y23 ?_ ?_;all_goals(intro h;try (exfalso;first|((rw[hm] at h;cases h);done)|((exact absurd h (by decide));done))))|fail)
    exact zCj (M:=[]) rfl rfl (H.sub (zz9 _)) ⟨none,0,by rw[e];rfl,by rw[e];exact SlA.nil⟩
  | true =>
    have hp:=fun w h1=>zFL l id (by omega) hr i hi (F:=F) w h1 hs0
    rw[hb] at hp hfa
    rw[if_pos rfl] at hfa
    rw[Bool.and_eq_true,decide_eq_true_eq,beq_iff_eq] at hb
    obtain⟨hil,rfl⟩:=hb
    have hmo:=(zAP.1 hm).2.1 _ (show od_ l i∈l from zAK _ hil)
    by_cases hq:q<1∨q>(od_ l i).left
    ·have e:zAx l (od_ l i).id q=([],1):=by unfold zAx;rw[if_pos hm,hfa,if_pos rfl,if_pos hq]
     refine enter [.tmp 6,.tmp 7] Tryz.func151 rfl Tryz.ntmps151 rfl rfl ?_
     have H:=zB w0
     repeat' (first|refine yT ?_|(refine' y30 zCx ?_ ?_;rotate_left;exact zAo l _ (H.memF hF) hs0;intro w hcl;replace H:=H.ext hcl;clear hcl)|(refine' y30 zHB ?_ ?_;rotate_left;exact hp _ (H.memF hF);intro w hcl;replace H:=H.ext hcl;clear hcl)|(refine y40 sg (hs) ?_ ?_ ?_;(omega);(omega))|(refine y44 sg (hs) ((H.memF hF)) ?_ ?_;(omega))|refine yU ?_|(refine y17 ?_ ?_;all_goals(intro h;try (exfalso;first|((rw[hm] at h;cases h);done)|((exact absurd h (by decide));done))))|with_reducible apply zA|(refine y23 ?_ ?_;all_goals(intro h;try (exfalso;first|((rw[hm] at h;cases h);done)|((exact absurd h (by decide));done))))|fail)
     all_goals first
      | exact zCj (M:=[]) rfl rfl (H.sub (zz9 _)) ⟨none,0,by rw[e];rfl,by rw[e];exact SlA.nil⟩
      | (exfalso;simp only[decide_eq_true_eq,decide_eq_false_iff_not] at *;omega)
    ·have hq1:1≤q∧q≤(od_ l i).left:=by omega
     have e:zAx l (od_ l i).id q=(zBs l (od_ l i).id q,0):=by unfold zAx;rw[if_pos hm,hfa,if_pos rfl,if_neg hq]
     have hta:=zT8 hm hil q
     have d1:decide (q<1)=false:=decide_eq_false (by omega)
     have d2:decide (q>(od_ l i).left)=false:=decide_eq_false (by omega)
     have hleft:=hmo.2.2.2.2.2
     refine enter [.tmp 6,.tmp 7] Tryz.func151 rfl Tryz.ntmps151 rfl rfl ?_
     have H:=zB w0
     repeat' (first|refine yT ?_|(refine' y30 zCx ?_ ?_;rotate_left;exact zAo l _ (H.memF hF) hs0;intro w hcl;replace H:=H.ext hcl;clear hcl)|(refine' y30 zHB ?_ ?_;rotate_left;exact hp _ (H.memF hF);intro w hcl;replace H:=H.ext hcl;clear hcl)|(refine y40 sg (hs) ?_ ?_ ?_;(omega);(omega))|(refine y44 sg (hs) ((H.memF hF)) ?_ ?_;(omega))|(refine' y32 zQN ?_ ?_;rotate_left;exact zFr _ (H.memF hF) hs0 (fun j _=>Odr.cone _) (fun j _=>rfl) (by omega);intro v M w hR hS;replace H:=H.addR hS;clear hS;(try simp only[List.cons_append,List.nil_append] at H);obtain⟨a',cap',rfl,hO⟩:=hR)|refine yU ?_|(refine y17 ?_ ?_;all_goals(intro h;try (exfalso;first|((rw[hm] at h;cases h);done)|((exact absurd h (by decide));done)|((rw[d1] at h;cases h);done)|((rw[d2] at h;cases h);done))))|with_reducible apply zA|(refine y23 ?_ ?_;all_goals(intro h;try (exfalso;first|((rw[hm] at h;cases h);done)|((exact absurd h (by decide));done)|((rw[d1] at h;cases h);done)|((rw[d2] at h;cases h);done))))|fail)
     obtain⟨g,cs2,rfl,rfl,hnc2,he⟩:=hO.els (by omega) (fun j _=>rfl)
     clear hO
     have hs2:=he.slb (F:=[cb g cs2 43]) (T:=43) (zz2 _)
     have hfit:=(he i hil).1
     have hw:IntKind.i64.wrap ((od_ l i).left - q)=(od_ l i).left - q:=w64 (by omega) (by omega)
     have hE2:Els (wr cs2 (0+i*6+5) [.int .i64 (IntKind.i64.wrap ((od_ l i).left - q))]) 6 l.length (odl (l.set i (zBM (od_ l i) q))):=by
      rw[Nat.zero_add]
      refine(zF2 (vs:=[.int .i64 (IntKind.i64.wrap ((od_ l i).left - q))]) (f:=5) he hil (Nat.le_refl 6)).congr fun j hj=>?_
      show _=(od_ (l.set i (zBM (od_ l i) q)) j).cells
      rw[zKN hil]
      by_cases hji:j=i
      ·subst hji
       rw[if_pos rfl,if_pos rfl,hw];rfl
      ·rw[if_neg hji,if_neg hji];rfl
     have hmi:(od_ (l.set i (zBM (od_ l i) q)) i).left=(od_ l i).left - q:=by rw[zKN hil,if_pos rfl];rfl
     have hm2:∀ {w:World} {cs:List Value},St w0 [cb g cs 43] w→Mem w [cb g cs 43]:=fun H=>H.mem
     repeat' (first|refine yT ?_|(refine y40 sg (hs2) ?_ ?_ ?_;(omega);(omega))|(refine y44 sg (hs2) (H.mem) ?_ ?_;(omega))|(refine OX.storeX sg (v:=.int .i64 (IntKind.i64.wrap ((od_ l i).left - q))) (vs:=[.int .i64 (IntKind.i64.wrap ((od_ l i).left - q))]) H rfl rfl rfl rfl rfl rfl rfl Up.here (by simp only[List.length_singleton];omega) (zAh rfl) ?_;clear H;intro w H)|refine yU ?_|fail)
     have hs3:=hE2.slb (F:=[cb g (wr cs2 (0+i*6+5) [.int .i64 (IntKind.i64.wrap ((od_ l i).left - q))]) 43]) (T:=43) (zz2 _)
     by_cases h0:(od_ l i).left - q=0
     ·have d3:((od_ (l.set i (zBM (od_ l i) q)) i).left==0)=true:=by rw[hmi,h0];rfl
      rw[if_pos h0] at hta
      have hlen:(l.eraseIdx i).length=l.length - 1:=List.length_eraseIdx_of_lt hil
      repeat' (first|refine yT ?_|(refine y44 sg (hs3) (H.mem) ?_ ?_;(omega))|(refine zc rfl rfl (En.fn ent194 rfl rfl) (zPc H hE2 (fun _ _=>rfl) (fun j _=>Odr.cone _) hil (by rw[w64 (by omega) (by omega)];omega) (by omega) hnc2) ?_;rintro _ _ w ⟨rfl,cs3,rfl,hl3,he3⟩ H2;clear H;have H:=H2;clear H2)|refine yU ?_|(refine y23 ?_ ?_;all_goals(intro h;try (exfalso;first|((rw[d3] at h;cases h);done))))|fail)
      refine zCj (M:=[cb g cs3 43]) rfl rfl H ⟨some ⟨g,0,none⟩,cap',by rw[e,hta,hlen],?_⟩
      rw[e,hta,hlen]
      refine⟨by omega,by omega,g,0,cs3,_,(0,0),Els.slb (he3.congr fun j hj=>?_) (zz2 _)⟩
      show _=(od_ (l.eraseIdx i) j).cells
      rw[zSB]
      by_cases hji:j<i
      ·rw[if_pos hji,if_pos hji]
       show(od_ (l.set i _) j).cells=_
       rw[zKN hil,if_neg (by omega)]
      ·rw[if_neg hji,if_neg hji]
       show(od_ (l.set i _) (j+1)).cells=_
       rw[zKN hil,if_neg (by omega)]
     ·have d3:((od_ (l.set i (zBM (od_ l i) q)) i).left==0)=false:=by rw[hmi];exact beq_eq_false_iff_ne.2 h0
      rw[if_neg h0] at hta
      have hlen:(l.set i (zBM (od_ l i) q)).length=l.length:=List.length_set
      repeat' (first|refine yT ?_|(refine y44 sg (hs3) (H.mem) ?_ ?_;(omega))|refine yU ?_|(refine y23 ?_ ?_;all_goals(intro h;try (exfalso;first|((rw[d3] at h;cases h);done))))|fail)
      refine zCj (M:=[_]) rfl rfl H ⟨some ⟨g,0,none⟩,cap',by rw[e,hta,hlen],?_⟩
      rw[e,hta,hlen]
      exact⟨by omega,by omega,g,0,_,_,(0,0),hE2.slb (zz2 _)⟩
 ·have hm:zd l=false:=by simpa using hm
  have e:zAx l id q=([],4):=by unfold zAx;rw[hm];rfl
  refine enter [.tmp 6,.tmp 7] Tryz.func151 rfl Tryz.ntmps151 rfl rfl ?_
  have H:=zB w0
  repeat' (first|refine yT ?_|(refine' y30 zCx ?_ ?_;rotate_left;exact zAo l _ (H.memF hF) hs0;intro w hcl;replace H:=H.ext hcl;clear hcl)|refine yU ?_|(refine y23 ?_ ?_;all_goals(intro h;try (exfalso;first|((rw[hm] at h;cases h);done))))|fail)
  exact zCj (M:=[]) rfl rfl (H.sub (zz9 _)) ⟨none,0,by rw[e];rfl,by rw[e];exact SlA.nil⟩
theorem c_Drop {a:Option Addr}{cap:Nat}(l:List Odr)(id:Int){F:zH}(w0:World)(hF:Mem w0 F)(hs0:SlA F 6 a l.length cap (odl l)) :
  Calls Tryz.prog 148 [.slice a l.length cap,.int .i64 id].toArray w0 (zn (zSA (zCy l id)) w0):=by
 by_cases hg:(zV l id).2=false∧zd l=true
 ·have e:zCy l id=([],5):=by unfold zCy zAx;rw[if_pos hg.2,hg.1];rfl
  refine enter [.tmp 4,.tmp 5] Tryz.func148 rfl Tryz.ntmps148 rfl rfl ?_
  have H:=zB w0
  repeat' (first|refine yT ?_|(refine y10 sg H ?_;intro b w H)|(refine y11 sg H ?_;intro w H)|(refine' y30 zFV ?_ ?_;rotate_left;exact zFu l id _ (H.memF hF) hs0;intro w hcl;replace H:=H.ext hcl;clear hcl)|(refine' y30 zCx ?_ ?_;rotate_left;exact zAo l _ (H.memF hF) hs0;intro w hcl;replace H:=H.ext hcl;clear hcl)|refine yU ?_|(refine y17 ?_ ?_;all_goals(intro h;try (exfalso;first|((rw[hg.1] at h;cases h);done)|((rw[hg.2] at h;cases h);done))))|(refine y23 ?_ ?_;all_goals(intro h;try (exfalso;first|((rw[hg.1] at h;cases h);done)|((rw[hg.2] at h;cases h);done))))|fail)
  exact zCj (M:=[]) rfl rfl (H.sub (zz9 _)) ⟨none,0,by rw[e];rfl,by rw[e];exact SlA.nil⟩
 ·cases hf:(zV l id).2 with
  | false =>
    have hm:zd l=false:=by
     rw[← Bool.not_eq_true];exact fun h=>hg ⟨hf,h⟩
    refine enter [.tmp 4,.tmp 5] Tryz.func148 rfl Tryz.ntmps148 rfl rfl ?_
    have H:=zB w0
    repeat' (first|refine yT ?_|refine y7 sg H ?_|(refine y10 sg H ?_;intro b w H)|(refine y11 sg H ?_;intro w H)|(refine' y30 zFV ?_ ?_;rotate_left;exact zFu l id _ (H.memF hF) hs0;intro w hcl;replace H:=H.ext hcl;clear hcl)|(refine' y30 zCx ?_ ?_;rotate_left;exact zAo l _ (H.memF hF) hs0;intro w hcl;replace H:=H.ext hcl;clear hcl)|(refine' y32 zJd ?_ ?_;rotate_left;exact zHd l id (zV l id).1.left _ (H.memF hF) hs0;intro v M w hR hS;replace H:=H.addR hS;clear hS;(try simp only[List.cons_append,List.nil_append] at H);obtain⟨a1,c1,rfl,hsl⟩:=hR)|refine yU ?_|(refine y17 ?_ ?_;all_goals(intro h;try (exfalso;first|((rw[hf] at h;cases h);done)|((rw[hm] at h;cases h);done))))|(refine y23 ?_ ?_;all_goals(intro h;try (exfalso;first|((rw[hf] at h;cases h);done)|((rw[hm] at h;cases h);done))))|fail)
    exact zCj (M:=M) rfl rfl (H.sub (zz7 _ _)) ⟨a1,c1,rfl,hsl⟩
  | true =>
    refine enter [.tmp 4,.tmp 5] Tryz.func148 rfl Tryz.ntmps148 rfl rfl ?_
    have H:=zB w0
    repeat' (first|refine yT ?_|refine y7 sg H ?_|(refine y10 sg H ?_;intro b w H)|(refine y11 sg H ?_;intro w H)|(refine' y30 zFV ?_ ?_;rotate_left;exact zFu l id _ (H.memF hF) hs0;intro w hcl;replace H:=H.ext hcl;clear hcl)|(refine' y32 zJd ?_ ?_;rotate_left;exact zHd l id (zV l id).1.left _ (H.memF hF) hs0;intro v M w hR hS;replace H:=H.addR hS;clear hS;(try simp only[List.cons_append,List.nil_append] at H);obtain⟨a1,c1,rfl,hsl⟩:=hR)|refine yU ?_|(refine y17 ?_ ?_;all_goals(intro h;try (exfalso;first|((rw[hf] at h;cases h);done))))|fail)
    exact zCj (M:=M) rfl rfl (H.sub (zz7 _ _)) ⟨a1,c1,rfl,hsl⟩
end
end Go.Proofs.YtibmaifoaajllaaGreatDoor
