/- Texts of ours, joined: the steps of the proof, or the claim's theorem. -/
import Derived.Test.YtibmaifoaajllaaGreatDoorQa20
set_option linter.unusedSimpArgs false
set_option linter.unusedVariables false
set_option maxHeartbeats 16000000
namespace Go.Proofs.YtibmaifoaajllaaGreatDoor
open Go Go.Sk Go.RowKit
abbrev AE:=Auc × Option Addr × Nat
def AE.c (p:AE):List Value:=p.1.cells p.2.1 p.2.2
theorem AE.c_len (p:AE):p.c.length=9:=rfl
theorem AE.c_one (p:AE):∀ u∈p.c,u.oneCell'=true:=by
 intro u hu
 simp only[AE.c,Auc.cells,List.mem_cons,List.not_mem_nil,or_false] at hu
 rcases hu with rfl|rfl|rfl|rfl|rfl|rfl|rfl|rfl|rfl<;>rfl
def altb (x y:AE):Bool:=decide (x.1.fin<y.1.fin)
theorem zJ7 (x y:AE)(w:World):Calls Tryz.prog 202 [.agg x.c.toArray,.agg y.c.toArray].toArray w (Ret (.int .i64 (zCB x.1.fin y.1.fin)) w):=by
 obtain⟨x,a,cap⟩:=x
 obtain⟨y,a',cap'⟩:=y
 refine enter [.tmp 4] Tryz.func202 rfl Tryz.ntmps202 rfl rfl ?_
 have H:=zB w
 repeat' (first|refine yT ?_|refine y7 sg H ?_|(refine y9 H ?_;intro b w H)|(refine' y30 zKn ?_ ?_;rotate_left;exact zDu _ _ _;intro w hcl;replace H:=H.ext hcl;clear hcl)|refine yU ?_|fail)
 exact zQ rfl H.cl rfl
def sw (d:Nat→AE)(i j:Nat):Nat→AE:=fun k=>if k=i then d j else if k=j then d i else d k
def zBH (a:Nat):Nat→(Nat→AE)→(Nat→AE)
 | 0,d=>d
 | j+1,d=>if a<j+1∧altb (d (j+1)) (d j)=true then zBH a j (sw d (j+1) j) else d
def zBP (a:Nat):Nat→Nat→(Nat→AE)→(Nat→AE)
 | 0,_,d=>d
 | m+1,i,d=>zBP a m (i+1) (zBH a i d)
def zEe (a b:Nat)(d:Nat→AE):Nat→AE:=zBP a (b - (a+1)) (a+1) d
structure Arr (w0:World)(g:Nat)(len n:Nat)(G:zH)(d:Nat→AE)(cs:List Value)(w:World):Prop where
 st:St w0 (cb g cs 62::G) w
 len:cs.length=len
 els:Els cs 9 n (fun j=>(d j).c)
theorem Arr.slb {w0 w:World}{g len n:Nat}{G:zH}{d:Nat→AE}{cs:List Value}(h:Arr w0 g len n G d cs w):SlB (cb g cs 62::G) 9 (some ⟨g,0,none⟩) n g 0 cs 62 (0,0) (fun j=>(d j).c):=h.els.slb (zz2 _)
theorem Arr.ext {w0 w w':World}{g len n:Nat}{G:zH}{d:Nat→AE}{cs:List Value}(h:Arr w0 g len n G d cs w)(k:Cl w w'):Arr w0 g len n G d cs w':=⟨h.st.ext k,h.len,h.els⟩
def upd (d:Nat→AE)(k:Nat)(v:AE):Nat→AE:=fun t=>if t=k then v else d t
theorem Arr.fit {w0 w:World}{g len n k:Nat}{G:zH}{d:Nat→AE}{cs:List Value}(h:Arr w0 g len n G d cs w)(hk:k<n)(v:AE):0+k*9+v.c.length≤cs.length:=by
 have:=(h.els k hk).1
 rw[AE.c_len];omega
theorem Arr.put {w0 w w':World}{g len n k:Nat}{G:zH}{d:Nat→AE}{cs:List Value}{v:AE}(h:Arr w0 g len n G d cs w)(hk:k<n)(hs:St w0 (cb g (wr cs (0+k*9) v.c) 62::G) w') :
  Arr w0 g len n G (upd d k v) (wr cs (0+k*9) v.c) w' :=
 ⟨hs,by rw[zB0 (h.fit hk v)];exact h.len,by rw[Nat.zero_add];exact(h.els.wr hk (AE.c_len v)).congr (fun j _=>by unfold upd;split<;>rfl)⟩
theorem zJ8 {d:Nat→AE}{i j:Nat}(h:i≠j):upd (upd d i (d j)) j (d i)=sw d i j:=by
 funext k
 unfold upd sw
 by_cases h1:k=j
 ·subst h1;rw[if_pos rfl,if_neg (Ne.symm h),if_pos rfl]
 ·rw[if_neg h1,if_neg h1]
theorem zJ9 {w0 w:World}{g len n cap a e:Nat}{G:zH}{d:Nat→AE}{cs:List Value}(hA:Arr w0 g len n G d cs w)(hae:a≤e)(hen:e≤n)(hn:n<4611686018427387904) :
  Calls Tryz.prog 228 [.slice (some ⟨g,0,none⟩) n cap,.int .i64 (a:Int),.int .i64 (e:Int),.func (.func 202) #[] #[]].toArray w
   (zn (fun M v=>v=.tuple #[]∧∃ cs',M=cb g cs' 62::G∧cs'.length=len∧Els cs' 9 n (fun j=>(zEe a e d j).c)) w0):=by
 refine enter [] Tryz.func228 rfl Tryz.ntmps228 rfl rfl ?_
 have H:=hA
 repeat' (first|refine yT ?_|refine yU ?_|with_reducible apply zA|fail)
 refine zM [(8,9),(12,52)] (fun x:Nat × (Nat→AE) × List Value=>[(8,.int .i64 (x.1:Int))]) (fun x w=>a+1≤x.1∧(x.1≤e∨x.1=a+1)∧zBP a (e - x.1) x.1 x.2.1=zEe a e d∧Arr w0 g len n G x.2.1 x.2.2 w) (fun x=>e - x.1) (a+1,d,cs) ⟨zZ (by omega),trivial⟩ ⟨zzC _,.inr rfl,rfl,H⟩ ?_
 clear H hA
 rintro⟨i,d1,cs1⟩ gh w ⟨hi1,hi2,hi3,H⟩
 simp only at hi1 hi2 hi3 H ⊢
 repeat' (first|refine yT ?_|refine yU ?_|fail)
 refine zJ rfl (fun h=>?_) (fun h=>?_)
 ·have hie:i<e:=by simpa using h
  repeat' (first|refine yT ?_|refine yU ?_|with_reducible apply zA|fail)
  refine zM [(9,9),(18,52)] (fun x:Nat × (Nat→AE) × List Value=>[(9,.int .i64 (x.1:Int))]) (fun x w=>x.1≤i∧a≤x.1∧zBH a x.1 x.2.1=zBH a i d1∧Arr w0 g len n G x.2.1 x.2.2 w) (fun x=>x.1) (i,d1,cs1) ⟨rfl,trivial⟩ ⟨zzC _,by omega,rfl,H⟩ ?_
  clear H
  rintro⟨j,d2,cs2⟩ gh2 w ⟨hj1,hj2,hj3,H⟩
  simp only at hj1 hj2 hj3 H ⊢
  rcases Nat.lt_or_ge a j with hja|hja
  ·repeat' (first|refine yT ?_|(refine y41 sg (H.slb) ?_ ?_ ?_;(first|omega|(rw[w64 (by omega) (by omega)];omega));(first|omega|(rw[w64 (by omega) (by omega)];omega)))|(refine y43 sg (H.slb) (H.st.mem) ?_ ?_;(omega))|(refine' y35 zJi ?_ ?_;rotate_left;exact(fun _ hcl=>zJ7 (d2 j) (d2 (j - 1)) _))|refine yU ?_|(refine y18 ?_ ?_;all_goals intro h)|(with_reducible apply zL;intro w hcl;replace H:=H.ext hcl;clear hcl)|refine y20 mixed ?_|fail)
   all_goals first|(exfalso;simp at h;omega)|skip
   obtain⟨jj,rfl⟩:∃ jj,j=jj+1:=⟨j - 1,by omega⟩
   simp only[Nat.add_sub_cancel] at *
   refine zJ rfl (fun h3=>?_) (fun h3=>?_)
   ·repeat' (first|refine yT ?_|(refine zA5 mixed 18 ?_ ?_;exact rfl;intro w hcl;replace H:=H.ext hcl;clear hcl)|((with_reducible apply zEm);decide +kernel)|(refine' z8 0 ?_ ?_;rotate_left;first|exact z9 sg|exact(fun w=>zF sg H.slb rfl rfl rfl rfl rfl rfl rfl (by first|with_reducible exact zz1 _|exact zD (by omega) (by omega)|with_reducible exact zI|exact zC _) (by first|omega|(rw[w64 (by omega) (by omega)];omega)) (by first|omega|(rw[w64 (by omega) (by omega)];omega))))|(refine' z8 1 ?_ ?_;rotate_left;first|exact z9 sg|exact(fun w=>zF sg H.slb rfl rfl rfl rfl rfl rfl rfl (by first|with_reducible exact zz1 _|exact zD (by omega) (by omega)|with_reducible exact zI|exact zC _) (by first|omega|(rw[w64 (by omega) (by omega)];omega)) (by first|omega|(rw[w64 (by omega) (by omega)];omega))))|(refine' z8 2 ?_ ?_;rotate_left;first|exact z9 sg|exact(fun w=>zF sg H.slb rfl rfl rfl rfl rfl rfl rfl (by first|with_reducible exact zz1 _|exact zD (by omega) (by omega)|with_reducible exact zI|exact zC _) (by first|omega|(rw[w64 (by omega) (by omega)];omega)) (by first|omega|(rw[w64 (by omega) (by omega)];omega))))|(refine' z8 3 ?_ ?_;rotate_left;first|exact z9 sg|exact(fun w=>zF sg H.slb rfl rfl rfl rfl rfl rfl rfl (by first|with_reducible exact zz1 _|exact zD (by omega) (by omega)|with_reducible exact zI|exact zC _) (by first|omega|(rw[w64 (by omega) (by omega)];omega)) (by first|omega|(rw[w64 (by omega) (by omega)];omega))))|(refine' z8 4 ?_ ?_;rotate_left;first|exact z9 sg|exact(fun w=>zF sg H.slb rfl rfl rfl rfl rfl rfl rfl (by first|with_reducible exact zz1 _|exact zD (by omega) (by omega)|with_reducible exact zI|exact zC _) (by first|omega|(rw[w64 (by omega) (by omega)];omega)) (by first|omega|(rw[w64 (by omega) (by omega)];omega))))|(refine' z8 5 ?_ ?_;rotate_left;first|exact z9 sg|exact(fun w=>zF sg H.slb rfl rfl rfl rfl rfl rfl rfl (by first|with_reducible exact zz1 _|exact zD (by omega) (by omega)|with_reducible exact zI|exact zC _) (by first|omega|(rw[w64 (by omega) (by omega)];omega)) (by first|omega|(rw[w64 (by omega) (by omega)];omega))))|(refine' z8 6 ?_ ?_;rotate_left;first|exact z9 sg|exact(fun w=>zF sg H.slb rfl rfl rfl rfl rfl rfl rfl (by first|with_reducible exact zz1 _|exact zD (by omega) (by omega)|with_reducible exact zI|exact zC _) (by first|omega|(rw[w64 (by omega) (by omega)];omega)) (by first|omega|(rw[w64 (by omega) (by omega)];omega))))|(refine' z8 7 ?_ ?_;rotate_left;first|exact z9 sg|exact(fun w=>zF sg H.slb rfl rfl rfl rfl rfl rfl rfl (by first|with_reducible exact zz1 _|exact zD (by omega) (by omega)|with_reducible exact zI|exact zC _) (by first|omega|(rw[w64 (by omega) (by omega)];omega)) (by first|omega|(rw[w64 (by omega) (by omega)];omega))))|(refine' z8 8 ?_ ?_;rotate_left;first|exact z9 sg|exact(fun w=>zF sg H.slb rfl rfl rfl rfl rfl rfl rfl (by first|with_reducible exact zz1 _|exact zD (by omega) (by omega)|with_reducible exact zI|exact zC _) (by first|omega|(rw[w64 (by omega) (by omega)];omega)) (by first|omega|(rw[w64 (by omega) (by omega)];omega))))|(refine' z8 10 ?_ ?_;rotate_left;first|exact z9 sg|exact(fun w=>zF sg H.slb rfl rfl rfl rfl rfl rfl rfl (by first|with_reducible exact zz1 _|exact zD (by omega) (by omega)|with_reducible exact zI|exact zC _) (by first|omega|(rw[w64 (by omega) (by omega)];omega)) (by first|omega|(rw[w64 (by omega) (by omega)];omega))))|(refine' z8 11 ?_ ?_;rotate_left;first|exact z9 sg|exact(fun w=>zF sg H.slb rfl rfl rfl rfl rfl rfl rfl (by first|with_reducible exact zz1 _|exact zD (by omega) (by omega)|with_reducible exact zI|exact zC _) (by first|omega|(rw[w64 (by omega) (by omega)];omega)) (by first|omega|(rw[w64 (by omega) (by omega)];omega))))|(refine' z8 12 ?_ ?_;rotate_left;first|exact z9 sg|exact(fun w=>zF sg H.slb rfl rfl rfl rfl rfl rfl rfl (by first|with_reducible exact zz1 _|exact zD (by omega) (by omega)|with_reducible exact zI|exact zC _) (by first|omega|(rw[w64 (by omega) (by omega)];omega)) (by first|omega|(rw[w64 (by omega) (by omega)];omega))))|(refine' z8 14 ?_ ?_;rotate_left;first|exact z9 sg|exact(fun w=>zF sg H.slb rfl rfl rfl rfl rfl rfl rfl (by first|with_reducible exact zz1 _|exact zD (by omega) (by omega)|with_reducible exact zI|exact zC _) (by first|omega|(rw[w64 (by omega) (by omega)];omega)) (by first|omega|(rw[w64 (by omega) (by omega)];omega))))|(refine' z8 16 ?_ ?_;rotate_left;first|exact z9 sg|exact(fun w=>zF sg H.slb rfl rfl rfl rfl rfl rfl rfl (by first|with_reducible exact zz1 _|exact zD (by omega) (by omega)|with_reducible exact zI|exact zC _) (by first|omega|(rw[w64 (by omega) (by omega)];omega)) (by first|omega|(rw[w64 (by omega) (by omega)];omega))))|refine z10 9 ?_|refine z10 13 ?_|refine z10 15 ?_|refine z10 17 ?_|refine z11 9 13 ?_ ?_|(refine y42 sg (H.slb) (H.st.mem) ?_ ?_;(omega))|(refine OX.storeB sg H.st rfl rfl rfl rfl rfl (AE.c_len _) (H.fit (by omega) _) (AE.c_one _) ?_;intro w HS;replace H:=H.put (by omega) HS;clear HS)|refine yU ?_|with_reducible apply zA|fail)
    all_goals
     rw[show jj+1 - 1=jj from rfl,zJ8 (by omega)] at H
     have hlt:altb (d2 (jj+1)) (d2 jj)=true:=by unfold altb;rw[← zF3];exact h3
     exact zK (jj,sw d2 (jj+1) jj,_) rfl ⟨vint (by omega) (by omega) (by omega),trivial⟩ ⟨by show jj≤i;omega,by show a≤jj;omega,by rw[← hj3,zBH,if_pos ⟨hja,hlt⟩],H⟩ (by show jj<jj+1;omega)
   ·repeat' (first|refine yT ?_|refine yU ?_|fail)
    have hlt:altb (d2 (jj+1)) (d2 jj)=false:=by unfold altb;rw[← zF3];exact h3
    have hd:zBH a i d1=d2:=by rw[← hj3,zBH,if_neg (fun hh=>by rw[hlt] at hh;exact absurd hh.2 (by simp))]
    exact zE8 (i+1,d2,cs2) rfl ⟨zZ (by omega),trivial⟩ ⟨by show a+1≤i+1;omega,.inl hie,by rw[← hi3,show e - i=(e - (i+1))+1 by omega,zBP,hd],H⟩ (by show e - (i+1)<e - i;omega)
  ·repeat' (first|refine yT ?_|refine yU ?_|(refine y18 ?_ ?_;all_goals intro h)|(with_reducible apply zL;intro w hcl;replace H:=H.ext hcl;clear hcl)|refine y20 mixed ?_|fail)
   all_goals first|(exfalso;simp at h;omega)|skip
   have hd:zBH a i d1=d2:=by
    rw[← hj3]
    cases j with
    | zero=>rfl
    | succ j=>rw[zBH,if_neg (fun hh=>by omega)]
   exact zE8 (i+1,d2,cs2) rfl ⟨zZ (by omega),trivial⟩ ⟨by show a+1≤i+1;omega,.inl hie,by rw[← hi3,show e - i=(e - (i+1))+1 by omega,zBP,hd],H⟩ (by show e - (i+1)<e - i;omega)
 ·repeat' (first|refine yU ?_|fail)
  have h0:e - i=0:=by simp at h;omega
  rw[h0] at hi3
  exact zCD (vs:=[]) (M:=_) trivial H.st ⟨rfl,cs1,rfl,H.len,by rw[← hi3];exact H.els⟩
end Go.Proofs.YtibmaifoaajllaaGreatDoor
