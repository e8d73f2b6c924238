/- Texts of ours, joined: the steps of the proof, or the claim's theorem. -/
import Derived.Test.YtibmaifoaajllaaGreatDoorQa06
import Derived.Test.YtibmaifoaajllaaGreatDoorQa07
set_option linter.unusedSimpArgs false
set_option linter.unusedVariables false
set_option maxHeartbeats 16000000
namespace Go.Proofs.YtibmaifoaajllaaGreatDoor
open Go Go.Sk Go.RowKit
attribute [local irreducible] Go.Calls
def zNf (F:zH)(a:Option Addr)(cap:Nat)(l:List Row4):Prop:=SlA F 4 a l.length cap (rwl l)
def Z64 (x:Int):Prop:=-9223372036854775808≤x∧x≤9223372036854775807
def Row4.wf (r:Row4):Prop:=Z64 r.free∧Z64 r.held
theorem eg294:Tryz.prog.eqGuardType Tryz.prog.depth 252=false:=by kernel_rfl
def zIx (l:List Row4)(k:Nat):Int:=if k=0 then -1 else(rw_ l (k - 1)).acct
def zIy (l:List Row4)(k:Nat):Int:=if k=0 then 0 else(rw_ l (k - 1)).asset
theorem zQ3 {l:List Row4}{k:Nat}(h:zEb (rw_ l k)):zMH (zIx l k) (zIy l k) (rw_ l k).acct (rw_ l k).asset<0↔(k=0∨LtR (rw_ l (k - 1)) (rw_ l k)):=by
 rw[zNb]
 unfold zIx zIy LtR
 have:=h.1.1
 split
 ·rename_i h0;subst h0;simp;omega
 ·rename_i h0;simp[h0]
theorem Ints3 {F:zH}{b:Nat}{x y z:Int}{T:TypeId}{fr:Nat × Nat}(h:(b,Obj.cells [Value.int .i64 x,Value.int .i64 y,Value.int .i64 z].toArray T fr)∈F):Ints F (some ⟨b,0,none⟩) 3 [x,y,z] :=
 ⟨zzC _,(by show 3≤140737488355328;omega),b,0,_,T,fr,fun _=>⟨rfl,h,fun j hj=>by
  have:j=0∨j=1∨j=2:=by simp at hj;omega
  rcases this with rfl|rfl|rfl<;>exact⟨by simp,rfl⟩⟩⟩
theorem zF7 (l:List Row4)(a:Int)(k:Nat):smR l a (k+1)=if (rw_ l k).asset=a then smR l a k+((rw_ l k).free+(rw_ l k).held) else smR l a k:=by
 simp only[smR]
 split<;>omega
theorem zMJ {r:Row4}(h:zEb r):zAN r.acct r.free r.held=0:=by
 obtain⟨h1,h2,h3,h4⟩:=h
 unfold zAN
 (repeat' split)<;>omega
theorem zTP {r:Row4}(h1:zCX r.acct r.asset=true)(h2:zAN r.acct r.free r.held=0)(h3:¬ (r.free=0∧r.held=0))(h4:r.acct=0→r.held=0):zEb r:=by
 refine⟨(zC9 _ _).1 h1,h3,h4,fun h0=>?_⟩
 unfold zAN at h2
 rw[if_neg h0] at h2
 split at h2
 ·omega
 ·split at h2<;>omega
theorem zNg {l:List Row4}(h:zAJ l=true→False):false=zAJ l:=by
 cases hq:zAJ l with
 | false=>rfl
 | true=>exact(h hq).elim
set_option maxRecDepth 20000 in
theorem zJq {a:Option Addr}{cap:Nat}(l:List Row4)(hw:∀ j,j<l.length→(rw_ l j).wf){F:zH}(w0:World)(hF:Mem w0 F)(hs:zNf F a cap l) :
  Calls Tryz.prog 175 [.slice a l.length cap].toArray w0 (Ret (.bool (zAJ l)) w0):=by
 obtain⟨hnc,hcb,b0,off,cs,T,fr,hs⟩:=hs
 refine enter [.tmp 2] Tryz.func175 rfl Tryz.ntmps175 rfl rfl ?_
 have H:=zB w0
 repeat' (first|refine yT ?_|(refine y10 sg H ?_;intro b w H)|(refine y11 sg H ?_;intro w H)|refine yU ?_|with_reducible apply zA|fail)
 have H:=(show St w0 [cb _ (zEi .i64 17 fun _=>0) 252,cb _ (plc2 (-1) 0) 251] w from H)
 refine zM [(2,2),(6,9),(13,89)] (fun k:Nat=>[(13,.int .i64 (k:Int))])
  (fun k w=>k≤l.length∧RowsP l k∧(∀ j,j<k→(rw_ l j).acct=0→(rw_ l j).free≤0)∧(∀ j:Nat,j<17→-4611686018427387904≤smR l j k∧smR l j k≤4611686018427387904) ∧
   St w0 [cb _ (zEi .i64 17 fun j=>smR l (j:Nat) k) 252,cb _ (plc2 (zIx l k) (zIy l k)) 251] w) (fun k=>l.length - k) 0 ⟨rfl,trivial⟩
  ⟨zzD _,fun j hj=>absurd hj (zzE _),fun j hj=>absurd hj (zzE _),fun j _=>by simp[smR],H⟩ ?_
 clear H
 rintro k gh w ⟨hk,hP,hz,hb,H⟩
 repeat' (first|refine yT ?_|refine yU ?_|fail)
 refine zJ rfl (fun h=>?_) (fun h=>?_)
 ·have hlt:k<l.length:=by have:=zzA h;omega
  clear h
  obtain⟨⟨hf1,hf2⟩,hd1,hd2⟩:=hw k hlt
  have hgd:=zIv (rw_ l k)
  have hcmp:=zQ3 (l:=l) (k:=k)
  have hgi:=zC9 (rw_ l k).acct (rw_ l k).asset
  have hfacts:zAJ l=true→zEb (rw_ l k)∧zMH (zIx l k) (zIy l k) (rw_ l k).acct (rw_ l k).asset<0∧zCX (rw_ l k).acct (rw_ l k).asset=true∧zAN (rw_ l k).acct (rw_ l k).free (rw_ l k).held=0∧((rw_ l k).acct=0→(rw_ l k).free≤0):=fun q=>by
   obtain⟨g,o⟩:=(zBN.1 q).1 k hlt
   exact⟨g,(hcmp g).2 o,hgi.2 g.1,zMJ g,fun h0=>(zOr q hlt h0).2⟩
  generalize hq:(rw_ l k).asset.toNat=q
  have sum:∀ {F:zH} {b:Nat} {w:World},(rw_ l k).asset=(q:Int)→q<17→Mem w (cb b [.int .i64 (smR l q k),.int .i64 (rw_ l k).free,.int .i64 (rw_ l k).held] 2::F) →
    Calls Tryz.prog 55 [.slice (some ⟨b,0,none⟩) 3 3].toArray w (Ret (.tuple #[.int .i64 (zBj (smR l q (k+1))).1,.int .i64 (zBj (smR l q (k+1))).2]) w):=fun hqa hq hM=>by
   have:=zQ2 [smR l q k,(rw_ l k).free,(rw_ l k).held] (fun j=>by
    have:=hb q hq
    rcases j with _|_|_|j
    ·exact⟨by show _≤smR l q k;omega,by show smR l q k≤_;omega⟩
    ·exact⟨hf1,hf2⟩
    ·exact⟨hd1,hd2⟩
    ·simp) (by show 3≤1048576;omega) _ hM (Ints3 (zz2 _))
   have e:zCS [smR l q k,(rw_ l k).free,(rw_ l k).held] [smR l q k,(rw_ l k).free,(rw_ l k).held].length=smR l q (k+1):=by
    rw[zF7,if_pos hqa];simp[zCS];omega
   rw[e] at this
   exact this
  repeat' (first|refine yT ?_|refine y7 sg H ?_|(refine y10 sg H ?_;intro b w H)|(refine y11 sg H ?_;intro w H)|(refine y40 sg (hs) ?_ ?_ ?_;(omega);(omega))|(refine y42 sg (hs) ((H.memF hF)) ?_ ?_;(omega))|(refine' y30 zJj ?_ ?_;rotate_left;exact zJn (rw_ l k).acct (rw_ l k).asset _;intro w hcl;replace H:=H.ext hcl;clear hcl)|(refine' y30 zQj ?_ ?_;rotate_left;exact zQy (zIx l k) (zIy l k) (rw_ l k).acct (rw_ l k).asset _;intro w hcl;replace H:=H.ext hcl;clear hcl)|(refine' y30 zQk ?_ ?_;rotate_left;exact zNc (rw_ l k).acct (rw_ l k).asset (rw_ l k).free (rw_ l k).held _ hf1 hf2 hd1 hd2;intro w hcl;replace H:=H.ext hcl;clear hcl)|refine yU ?_|(refine y17 ?_ ?_;all_goals intro h)|with_reducible apply zA|(refine y23 ?_ ?_;all_goals intro h)|fail)
  all_goals simp only[Bool.not_eq_true',Bool.not_eq_false',decide_eq_true_eq,decide_eq_false_iff_not,beq_iff_eq,beq_eq_false_iff_ne,bne_iff_ne,ne_eq,bne_eq_false_iff_eq] at *
  all_goals try exact zQ rfl H.cl (congrArg Value.bool (zNg fun q=>by
   obtain⟨g,f2,f3,f4,f5⟩:=hfacts q
   first
    | omega
    | (cases f3.symm.trans ‹zCX _ _=false›)
    | (obtain⟨g1,g2,g3,g4⟩:=g;omega)))
  all_goals try (exfalso;omega)
  all_goals
   have hthere:=hgi.1 ‹zCX (rw_ l k).acct (rw_ l k).asset=true›
   have hG:zEb (rw_ l k):=zTP ‹_› ‹_› (by omega) (fun h0=>by omega)
   have hL:=(hcmp hG).1 (by omega)
   have hz0:(rw_ l k).acct=0→(rw_ l k).free≤0:=fun h0=>by omega
   have hqa:(rw_ l k).asset=(q:Int):=by omega
   have hq17:q<17:=by omega
   clear hfacts hcmp hgi
   have hS:¬ (zBj (smR l q (k+1))).2=0→zAJ l=true→False:=fun h0 hr=>by
    have:=zTO hr hq17 (k:=k+1) (by omega)
    unfold zBj at h0
    rw[if_neg (by omega)] at h0
    exact h0 rfl
   have hT:(zBj (smR l q (k+1))).2=0→(zBj (smR l q (k+1))).1=smR l q (k+1)∧-4611686018427387904≤smR l q (k+1)∧smR l q (k+1)≤4611686018427387904:=fun h0=>by
    unfold zBj at h0 ⊢
    split at h0
    ·exact absurd h0 (by decide)
    ·rename_i hn
     rw[if_neg hn]
     exact⟨rfl,by omega,by omega⟩
   repeat' (first|refine yT ?_|refine y8 sg H ?_|refine y12 ?_|(refine CW.regionR mixed ?_;intro w hcl;replace H:=H.ext hcl;clear hcl;(with_reducible apply RW.quiet 8);exact rfl;decide +kernel;simp only[List.append_eq,List.cons_append,List.nil_append,List.take_succ_cons,List.take_zero,List.drop_zero])|((with_reducible apply RW.quiet (k:=10) 15);exact rfl;decide +kernel;simp only[List.append_eq,List.cons_append,List.nil_append,List.take_succ_cons,List.take_zero,List.drop_succ_cons,List.drop_zero])|(refine zP rfl rfl (Yq.ixP sg (n:=17) hq (by omega) (by omega) rfl rfl rfl rfl rfl rfl) ?_)|(refine zP rfl rfl (Yq.loadA sg (f:=fun j=>smR l (j:Nat) k) H.mem (by repeat (first|exact zz2 _|apply zz5)) hq17 rfl rfl rfl rfl) ?_)|(refine z14 sg H ?_;intro b w H)|(refine' y30 zQL ?_ ?_;rotate_left;exact sum hqa hq17 H.mem;intro w hcl;replace H:=H.ext hcl;clear hcl)|refine yU ?_|(with_reducible apply zL;intro w hcl;replace H:=H.ext hcl;clear hcl)|fail)
   refine zJ rfl (fun h=>?_) (fun h=>?_)
   ·repeat' (first|refine yT ?_|refine yU ?_|fail)
    exact zQ rfl H.cl (congrArg Value.bool (zNg (hS (by simpa using h))))
   ·obtain⟨t1,t2,t3⟩:=hT (by simpa using h)
    rw[t1]
    repeat' (first|refine yT ?_|refine y7 sg H ?_|(refine zf rfl rfl (Yq.ixP sg (n:=17) hq (by omega) (by omega) rfl rfl rfl rfl rfl rfl) ?_)|(refine OX.storeA sg (m:=17) (f:=fun j=>smR l (j:Nat) k) H hq17 (by repeat (first|exact Up.here|apply Up.there)) ?_;intro w H)|refine yU ?_|fail)
    have ea:zEi .i64 17 (updI (fun j=>smR l (j:Nat) k) q (smR l q (k+1)))=zEi .i64 17 (fun j=>smR l (j:Nat) (k+1)):=List.map_congr_left fun j hj=>by
     show Value.int _ (if j=q then _ else _)=_
     by_cases hj2:j=q
     ·subst hj2;rw[if_pos rfl]
     ·rw[if_neg hj2]
      show Value.int .i64 (smR l (j:Nat) k)=Value.int .i64 (smR l (j:Nat) (k+1))
      rw[zF7,if_neg (by omega)]
    rw[ea] at H
    have el:plc2 (zIx l (k+1)) (zIy l (k+1))=[.int .i64 (rw_ l k).acct,.int .i64 (rw_ l k).asset]:=rfl
    refine zK (k+1) rfl ⟨zZ (by omega),trivial⟩ ⟨hlt,hP.succ hG hL,fun j hj=>?_,fun j hj=>?_,?_⟩ (by omega)
    ·rcases(show j<k∨j=k by omega) with g|rfl
     ·exact hz j g
     ·exact hz0
    ·rw[zF7]
     split
     ·rename_i he
      obtain rfl:j=q:=by omega
      rw[zF7,if_pos he] at t2 t3
      exact⟨t2,t3⟩
     ·exact hb j hj
    ·rw[el]
     exact H.sub (List.Sublist.cons _ (List.Sublist.cons _ (List.Sublist.cons _ (List.Sublist.refl _))))
 ·obtain rfl:k=l.length:=by have:=zzB h;omega
  clear h
  repeat' (first|refine yT ?_|refine y7 sg H ?_|(refine zf rfl rfl (Yq.build0 sg rfl rfl rfl rfl) ?_)|(refine zf rfl rfl (Yq.eqlA sg (n:=17) (f:=fun j=>smR l (j:Nat) l.length) (g:=fun _=>0) eg294 rfl rfl rfl rfl rfl rfl rfl rfl) ?_)|refine yU ?_|fail)
  refine zQ rfl H.cl (congrArg Value.bool ?_)
  unfold zAJ
  rw[(List.all_eq_true.2 fun j hj=>zIw.2 (hP j (List.mem_range.1 hj)):(List.range l.length).all (fun k=>zNd l k)=true),Bool.true_and]
end Go.Proofs.YtibmaifoaajllaaGreatDoor
