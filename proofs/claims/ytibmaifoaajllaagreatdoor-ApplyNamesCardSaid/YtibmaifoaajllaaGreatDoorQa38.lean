/- Texts of ours, joined: the steps of the proof, or the claim's theorem. -/
import Derived.Test.YtibmaifoaajllaaGreatDoorQa26
import Derived.Test.YtibmaifoaajllaaGreatDoorQa37
set_option linter.unusedSimpArgs false
set_option linter.unusedVariables false
set_option maxHeartbeats 16000000
namespace Go.Proofs.YtibmaifoaajllaaGreatDoor
section
open Go Go.Sk Go.RowKit
def slt (x y:AE):Prop:=x.1.fin<y.1.fin∨(x.1.fin=y.1.fin∧x.1.id<y.1.id)
def Seg (d:Nat→AE)(a b:Nat):Prop:=∀ i j,a≤i→i<j→j<b→slt (d i) (d j)
def zIc (d:Nat→AE)(a m b:Nat):Prop:=∀ i j,a≤i→i<m→m≤j→j<b→(d i).1.fin=(d j).1.fin→(d i).1.id<(d j).1.id
def Out (d d':Nat→AE)(a b:Nat):Prop:=∀ k,(k<a∨b≤k)→d' k=d k
def seg (d:Nat→AE)(a b:Nat):List AE:=(List.range (b - a)).map fun t=>d (a+t)
def Pm (d d':Nat→AE)(a b:Nat):Prop:=(seg d' a b).Perm (seg d a b)
theorem zCi {d:Nat→AE}{a b:Nat}{x:AE}:x∈seg d a b↔∃ k,a≤k∧k<b∧d k=x:=by
 simp only[seg,List.mem_map,List.mem_range]
 constructor
 ·rintro⟨t,ht,rfl⟩;exact⟨a+t,by omega,by omega,rfl⟩
 ·rintro⟨k,h1,h2,rfl⟩;exact⟨k - a,by omega,by congr 1;omega⟩
theorem zFM {d:Nat→AE}{a m b:Nat}(h1:a≤m)(h2:m≤b):seg d a b=seg d a m++seg d m b:=by
 unfold seg
 rw[show b - a=(m - a)+(b - m) by omega,List.range_add,List.map_append,List.map_map]
 congr 1
 refine List.map_congr_left fun t _=>?_
 show d (a+(m - a+t))=d (m+t)
 congr 1;omega
theorem zJO {d d':Nat→AE}{a b:Nat}(h:∀ k,a≤k→k<b→d' k=d k):seg d' a b=seg d a b:=by
 unfold seg
 exact List.map_congr_left fun t ht=>h _ (by omega) (by have:=List.mem_range.1 ht;omega)
theorem zKQ {d:Nat→AE}{a m b:Nat}(h1:a≤m)(h2:m≤b):Pm d (zAg d a m b) a b:=by
 unfold Pm
 rw[zFM (m:=a+(b - m)) (by omega) (by omega),zFM (d:=d) h1 h2]
 have e1:seg (zAg d a m b) a (a+(b - m))=seg d m b:=by
  unfold seg
  rw[show a+(b - m) - a=b - m by omega]
  refine List.map_congr_left fun t ht=>?_
  have:=List.mem_range.1 ht
  unfold zAg
  rw[if_pos (by omega)]
  congr 1;omega
 have e2:seg (zAg d a m b) (a+(b - m)) b=seg d a m:=by
  unfold seg
  rw[show b - (a+(b - m))=m - a by omega]
  refine List.map_congr_left fun t ht=>?_
  have:=List.mem_range.1 ht
  unfold zAg
  rw[if_neg (by omega),if_pos (by omega)]
  congr 1;omega
 rw[e1,e2]
 exact List.perm_append_comm
theorem zFN {d:Nat→AE}{a m b:Nat}(h1:a≤m)(h2:m≤b):Out d (zAg d a m b) a b:=by
 intro k hk
 unfold zAg
 rw[if_neg (by omega),if_neg (by omega)]
theorem Pm.refl (d:Nat→AE)(a b:Nat):Pm d d a b:=List.Perm.refl _
theorem Pm.trans {d d' d'':Nat→AE}{a b:Nat}(h:Pm d d' a b)(k:Pm d' d'' a b):Pm d d'' a b:=List.Perm.trans k h
theorem Pm.wide {d d':Nat→AE}{a b p q:Nat}(h:Pm d d' p q)(ho:Out d d' p q)(h1:a≤p)(h2:p≤q)(h3:q≤b):Pm d d' a b:=by
 unfold Pm
 rw[zFM (m:=p) h1 (by omega),zFM (d:=d') (m:=q) h2 h3,zFM (d:=d) (m:=p) h1 (by omega),zFM (d:=d) (m:=q) h2 h3,
  zJO (d:=d) (d':=d') (a:=a) (b:=p) (fun k _ hk=>ho k (.inl hk)),zJO (d:=d) (d':=d') (a:=q) (b:=b) (fun k hk _=>ho k (.inr hk))]
 exact(List.Perm.append_right _ h).append_left _
theorem Seg.join {d:Nat→AE}{a m b:Nat}(h1:Seg d a m)(h2:Seg d m b)(h:∀ i j,a≤i→i<m→m≤j→j<b→slt (d i) (d j)):Seg d a b:=by
 intro i j hi hij hj
 by_cases h3:j<m
 ·exact h1 i j hi hij h3
 ·by_cases h4:i<m
  ·exact h i j hi h4 (by omega) hj
  ·exact h2 i j (by omega) hij hj
theorem Seg.halves {d dl dr:Nat→AE}{a m b:Nat}(ham:a≤m)(hmb:m≤b)(h:∀ i j,a≤i→i<m→m≤j→j<b→slt (d i) (d j))
  (l1:Seg dl a m) (l2:Out d dl a m) (l3:Pm d dl a m) (r1:Seg dr m b) (r2:Out dl dr m b) (r3:Pm dl dr m b):Seg dr a b∧Out d dr a b∧Pm d dr a b:=by
 have el:∀ k,k<m→dr k=dl k:=fun k hk=>r2 k (.inl hk)
 refine⟨Seg.join (m:=m) (fun i j hi hij hj=>by rw[el i (by omega),el j hj];exact l1 i j hi hij hj) r1 (fun i j hi him hj hjb=>?_),fun k hk=>?_,?_⟩
 ·rw[el i him]
  have h1:dl i∈seg d a m:=l3.mem_iff.1 (zCi.2 ⟨i,hi,him,rfl⟩)
  have h2:dr j∈seg dl m b:=r3.mem_iff.1 (zCi.2 ⟨j,hj,hjb,rfl⟩)
  obtain⟨i',q1,q2,q3⟩:=zCi.1 h1
  obtain⟨j',p1,p2,p3⟩:=zCi.1 h2
  rw[← q3,← p3,l2 j' (.inr p1)]
  exact h i' j' q1 q2 p1 p2
 ·rw[r2 k (by omega),l2 k (by omega)]
 ·exact(l3.wide l2 (zzC _) ham hmb).trans (r3.wide r2 ham hmb (zzC _))
theorem zPk {d:Nat→AE}{a m b mid start stop:Nat}(ham:a<m)(hmb:m<b)(hmid:mid=(a+b) / 2)(hstop:stop+start=mid+m)(h1:a≤start)(h2:start≤m)(h3:m≤stop)(h4:stop≤b)
  (s1:Seg d a m) (s2:Seg d m b) (hc:zIc d a m b)
  (lo:a<start→stop<b→(d (start - 1)).1.fin≤(d stop).1.fin) (hi:start<m→m<stop→(d (stop - 1)).1.fin<(d start).1.fin) :
  ∀ i j,a≤i→i<mid→mid≤j→j<b→slt (zAg d start m stop i) (zAg d start m stop j):=by
 intro i j hi1 hi2 hj1 hj2
 have hle:∀ p q,a≤p→p≤q→q<m→(d p).1.fin≤(d q).1.fin:=fun p q g1 g2 g3=>by
  rcases Nat.lt_or_ge p q with g|g
  ·rcases s1 p q g1 g g3 with k|k<;>omega
  ·obtain rfl:p=q:=by omega
   exact Int.le_refl _
 have hle2:∀ p q,m≤p→p≤q→q<b→(d p).1.fin≤(d q).1.fin:=fun p q g1 g2 g3=>by
  rcases Nat.lt_or_ge p q with g|g
  ·rcases s2 p q g1 g g3 with k|k<;>omega
  ·obtain rfl:p=q:=by omega
   exact Int.le_refl _
 have hm2:start+(stop - m)=mid:=by omega
 unfold zAg
 rw[hm2]
 by_cases ci:start≤i∧i<mid
 ·rw[if_pos ci]
  rw[if_neg (by omega)]
  by_cases cj:mid≤j∧j<stop
  ·rw[if_pos cj]
   left
   have k1:=hi (by omega) (by omega)
   have k2:=hle2 (m+(i - start)) (stop - 1) (by omega) (by omega) (by omega)
   have k3:=hle start (j - (stop - m)) h1 (by omega) (by omega)
   omega
  ·rw[if_neg cj]
   exact s2 _ _ (by omega) (by omega) hj2
 ·rw[if_neg ci,if_neg (by omega),if_neg (by omega)]
  by_cases cj:mid≤j∧j<stop
  ·rw[if_pos cj]
   exact s1 _ _ hi1 (by omega) (by omega)
  ·rw[if_neg cj]
   have k1:=lo (by omega) (by omega)
   have k2:=hle i (start - 1) hi1 (by omega) (by omega)
   have k3:=hle2 stop j h3 (by omega) hj2
   rcases Int.lt_or_eq_of_le (show(d i).1.fin≤(d j).1.fin by omega) with k|k
   ·exact .inl k
   ·exact .inr ⟨k,hc i j hi1 (by omega) (by omega) hj2 k⟩
end
section
open Go Go.Sk Go.RowKit
attribute [local irreducible] Go.Calls
def SM (w0:World)(g len n:Nat)(G:zH)(d:Nat→AE)(a b:Nat):Ending→World→Prop :=
 zn (fun M v=>v=.tuple #[]∧∃ d' cs',M=cb g cs' 62::G∧cs'.length=len∧Els cs' 9 n (fun j=>(d' j).c)∧Seg d' a b∧Out d d' a b∧Pm d d' a b) w0
theorem zLb {d:Nat→AE}{a k:Nat}:sw (zAg d a (a+1) (a+1+k)) (a+k) (a+k+1)=zAg d a (a+1) (a+1+(k+1)):=by
 funext t
 unfold sw zAg
 repeat' split
 all_goals first|omega|rfl|(congr 1;omega)|(subst_vars;congr 1;omega)
theorem zLc {d:Nat→AE}{a m:Nat}:zAg d a m m=d:=by
 funext t
 unfold zAg
 rw[if_neg (by omega)]
 split
 ·rw[Nat.sub_self,Nat.sub_zero]
 ·rfl
theorem zG1 {d:Nat→AE}{m b:Nat}:zAg d m m b=d:=by
 funext t
 unfold zAg
 split
 ·congr 1;omega
 ·rw[if_neg (by omega)]
theorem zFa {d:Nat→AE}{i m:Nat}(h:i<m):sw (zAg d (i+1) m (m+1)) (i+1) i=zAg d i m (m+1):=by
 funext t
 unfold sw zAg
 repeat' split
 all_goals first|omega|rfl|(congr 1;omega)|(subst_vars;congr 1;omega)
theorem zM2 {d:Nat→AE}{a i b:Nat}(h1:a+1≤i)(h2:i≤b)(s2:Seg d (a+1) b)(hc:zIc d a (a+1) b)(lo:∀ k,a+1≤k→k<i→(d k).1.fin<(d a).1.fin)(hi:∀ k,i≤k→k<b→(d a).1.fin≤(d k).1.fin) :
  Seg (zAg d a (a+1) i) a b:=by
 have r1:∀ k,a≤k→k<i - 1→zAg d a (a+1) i k=d (k+1):=fun k g1 g2=>by unfold zAg;rw[if_pos (by omega)];congr 1;omega
 have r2:zAg d a (a+1) i (i - 1)=d a:=by unfold zAg;rw[if_neg (by omega),if_pos (by omega)];congr 1;omega
 have r3:∀ k,i≤k→zAg d a (a+1) i k=d k:=fun k g1=>by unfold zAg;rw[if_neg (by omega),if_neg (by omega)]
 have top:∀ k,i≤k→k<b→slt (d a) (d k):=fun k g1 g2=>by
  rcases Int.lt_or_eq_of_le (hi k g1 g2) with g|g
  ·exact .inl g
  ·exact .inr ⟨g,hc a k (zzC _) (Nat.lt_succ_self _) (by omega) g2 g⟩
 intro p q hp hpq hq
 rcases(show p<i - 1∨p=i - 1∨i≤p by omega) with hp1|hp1|hp1
 ·rw[r1 p hp hp1]
  rcases(show q<i - 1∨q=i - 1∨i≤q by omega) with hq1|hq1|hq1
  ·rw[r1 q (by omega) hq1];exact s2 _ _ (by omega) (by omega) (by omega)
  ·rw[hq1,r2];exact .inl (lo _ (by omega) (by omega))
  ·rw[r3 q hq1];exact s2 _ _ (by omega) (by omega) hq
 ·rw[hp1,r2,r3 q (by omega)];exact top q (by omega) hq
 ·rw[r3 p hp1,r3 q (by omega)];exact s2 _ _ (by omega) hpq hq
theorem zKR {d:Nat→AE}{a i m:Nat}(h1:a≤i)(h2:i≤m)(s1:Seg d a m)(hc:zIc d a m (m+1))(lo:∀ k,a≤k→k<i→(d k).1.fin≤(d m).1.fin)(hi:∀ k,i≤k→k<m→(d m).1.fin<(d k).1.fin) :
  Seg (zAg d i m (m+1)) a (m+1):=by
 have r1:∀ k,k<i→zAg d i m (m+1) k=d k:=fun k g1=>by unfold zAg;rw[if_neg (by omega),if_neg (by omega)]
 have r2:zAg d i m (m+1) i=d m:=by unfold zAg;rw[if_pos (by omega)];congr 1;omega
 have r3:∀ k,i<k→k<m+1→zAg d i m (m+1) k=d (k - 1):=fun k g1 g2=>by unfold zAg;rw[if_neg (by omega),if_pos (by omega)];congr 1;omega
 have bot:∀ k,a≤k→k<i→slt (d k) (d m):=fun k g1 g2=>by
  rcases Int.lt_or_eq_of_le (lo k g1 g2) with g|g
  ·exact .inl g
  ·exact .inr ⟨g,hc k m g1 (by omega) (zzC _) (Nat.lt_succ_self _) g⟩
 intro p q hp hpq hq
 rcases(show p<i∨p=i∨i<p by omega) with hp1|hp1|hp1
 ·rw[r1 p hp1]
  rcases(show q<i∨q=i∨i<q by omega) with hq1|hq1|hq1
  ·rw[r1 q hq1];exact s1 _ _ hp hpq (by omega)
  ·rw[hq1,r2];exact bot p hp hp1
  ·rw[r3 q hq1 hq];exact s1 _ _ hp (by omega) (by omega)
 ·rw[hp1,r2,r3 q (by omega) hq];exact .inl (hi _ (by omega) (by omega))
 ·rw[r3 p hp1 (by omega),r3 q (by omega) hq];exact s1 _ _ (by omega) (by omega) (by omega)
theorem half (x y:Nat)(h:x+y<4294967296):IntKind.i64.wrap ((IntKind.u64.wrap (IntKind.i64.wrap ((x:Int)+y))).fdiv (2 ^ min 1 IntKind.u64.bits))=(((x+y) / 2:Nat):Int):=by
 rw[w64 (x:=(x:Int)+y) (by omega) (by omega),zJZ (by omega) (by omega)]
 show IntKind.i64.wrap (Int.fdiv ((x:Int)+y) 2)=_
 rw[Int.fdiv_eq_ediv_of_nonneg _ (by decide),w64 (by omega) (by omega)]
 omega
theorem zM3 {w0:World}{g len n cap:Nat}{G:zH}(hn:n<1073741824):∀ (s:Nat) {a m b:Nat} {d:Nat→AE} {cs:List Value} {w:World},b - a≤s→a<m→m<b→b≤n→Arr w0 g len n G d cs w→Seg d a m→Seg d m b→zIc d a m b →
  Calls Tryz.prog 229 [.slice (some ⟨g,0,none⟩) n cap,.int .i64 (a:Int),.int .i64 (m:Int),.int .i64 (b:Int),.func (.func 202) #[] #[]].toArray w (SM w0 g len n G d a b):=by
 intro s
 induction s with
 | zero=>intro a m b d cs w hs h1 h2;omega
 | succ s ih =>
 intro a m b d cs w hs ham hmb hbn hA s1 s2 hc
 refine enter [] Tryz.func229 rfl Tryz.ntmps229 rfl rfl ?_
 have H:=hA
 clear hA
 have e1:IntKind.i64.wrap ((m:Int) - a)=((m - a:Nat):Int):=by rw[w64 (by omega) (by omega)];omega
 have e2:IntKind.i64.wrap ((b:Int) - m)=((b - m:Nat):Int):=by rw[w64 (by omega) (by omega)];omega
 repeat' (first|refine yT ?_|refine yU ?_|fail)
 rw[e1]
 refine zJ rfl (fun h=>?_) (fun h=>?_)
 ·have hma:m=a+1:=by simp at h;omega
  repeat' (first|refine yT ?_|refine yU ?_|with_reducible apply zA|fail)
  refine zM [(10,12),(31,53)] (fun x:Nat × Nat=>[(10,.int .i64 (x.1:Int)),(11,.int .i64 (x.2:Int))])
   (fun x w=>m≤x.1∧x.1≤x.2∧x.2≤b∧(∀ k,m≤k→k<x.1→(d k).1.fin<(d a).1.fin)∧(∀ k,x.2≤k→k<b→(d a).1.fin≤(d k).1.fin)∧Arr w0 g len n G d cs w) (fun x=>x.2 - x.1) (m,b)
   ⟨rfl,rfl,trivial⟩ ⟨zzC _,by show m≤b;omega,zzC _,fun k g1 g2=>by have:k<m:=g2;omega,fun k g1 g2=>by have:b≤k:=g1;omega,H⟩ ?_
  clear H
  rintro⟨i,j⟩ gh w ⟨l1,l2,l3,l4,l5,H⟩
  simp only at l1 l2 l3 l4 l5 ⊢
  repeat' (first|refine yT ?_|refine yU ?_|fail)
  refine zJ rfl (fun h2=>?_) (fun h2=>?_)
  ·have hij:i<j:=by have:=zzA h2;omega
   repeat' (first|refine yT ?_|refine yU ?_|with_reducible apply zA|fail)
   rw[half i j (by omega)]
   generalize hcc:(i+j) / 2=c
   have c1:i≤c:=by omega
   have c2:c<j:=by omega
   repeat' (first|refine yT ?_|(refine y41 sg (H.slb) ?_ ?_ ?_;(omega);(omega))|(refine y43 sg (H.slb) (H.st.mem) ?_ ?_;(omega))|(refine' y35 zJi ?_ ?_;rotate_left;exact(fun _ hcl=>zJ7 (d c) (d a) _))|(with_reducible apply zL;intro w hcl;replace H:=H.ext hcl;clear hcl)|refine yU ?_|refine y20 mixed ?_|fail)
   rw[zF3]
   refine zJ rfl (fun h3=>?_) (fun h3=>?_)
   ·have h3:=zzA h3
    repeat' (first|refine yT ?_|refine yU ?_|fail)
    refine zK (c+1,j) rfl ⟨zZ (by omega),rfl,trivial⟩ ⟨by show m≤c+1;omega,by show c+1≤j;omega,l3,fun k g1 g2=>?_,l5,H⟩ (by show j - (c+1)<j - i;omega)
    rcases Nat.lt_or_ge k c with g|g
    ·rcases s2 k c g1 g (by omega) with k1|k1<;>omega
    ·obtain rfl:k=c:=by have:k<c+1:=g2;omega
     exact h3
   ·have h3:=zzB h3
    repeat' (first|refine yT ?_|refine yU ?_|fail)
    refine zK (i,c) rfl ⟨rfl,rfl,trivial⟩ ⟨l1,c1,by show c≤b;omega,l4,fun k g1 g2=>?_,H⟩ (by show c - i<j - i;omega)
    have g1:c≤k:=g1
    rcases Nat.lt_or_ge c k with g|g
    ·rcases s2 c k (by omega) g g2 with k1|k1<;>omega
    ·obtain rfl:k=c:=by omega
     omega
  ·have hij:i=j:=by have:=zzB h2;omega
   subst hij
   subst hma
   have e3:IntKind.i64.wrap ((i:Int) - 1)=((i - 1:Nat):Int):=by rw[w64 (by omega) (by omega)];omega
   repeat' (first|refine yT ?_|refine yU ?_|with_reducible apply zA|fail)
   refine zM [(13,13),(55,76)] (fun x:Nat × List Value=>[(13,.int .i64 ((a+x.1:Nat):Int))])
    (fun x w=>a+x.1≤i - 1∧Arr w0 g len n G (zAg d a (a+1) (a+1+x.1)) x.2 w) (fun x=>i - x.1) (0,cs) ⟨rfl,trivial⟩ ⟨by show a+0≤i - 1;omega,by show Arr w0 g len n G (zAg d a (a+1) (a+1+0)) cs w;rw[Nat.add_zero,zLc];exact H⟩ ?_
   clear H
   rintro⟨t,cs1⟩ gh w ⟨ht,H⟩
   simp only at ht H ⊢
   repeat' (first|refine yT ?_|refine yU ?_|fail)
   rw[e3]
   refine zJ rfl (fun h5=>?_) (fun h5=>?_)
   ·have hlt:a+t<i - 1:=by have:=zzA h5;omega
    have hq:IntKind.i64.wrap (((a+t:Nat):Int)+1)=((a+t+1:Nat):Int):=by rw[w64 (by omega) (by omega)];omega
    generalize hd:zAg d a (a+1) (a+1+t)=d1 at H
    repeat' (first|refine yT ?_|(refine zA5 mixed 18 ?_ ?_;exact rfl;intro w hcl;replace H:=H.ext hcl;clear hcl)|((with_reducible apply zEm);decide +kernel)|(refine' z8 0 ?_ ?_;rotate_left;first|exact z9 sg|exact(fun w=>zF sg H.slb rfl rfl rfl rfl rfl rfl rfl ((congrArg Int.toNat hq).trans (zz1 _)) (by rw[hq];omega) (by rw[hq];omega))|exact(fun w=>zF sg H.slb rfl rfl rfl rfl rfl rfl rfl (by with_reducible exact zz1 _) (by omega) (by omega)))|(refine' z8 1 ?_ ?_;rotate_left;first|exact z9 sg|exact(fun w=>zF sg H.slb rfl rfl rfl rfl rfl rfl rfl ((congrArg Int.toNat hq).trans (zz1 _)) (by rw[hq];omega) (by rw[hq];omega))|exact(fun w=>zF sg H.slb rfl rfl rfl rfl rfl rfl rfl (by with_reducible exact zz1 _) (by omega) (by omega)))|(refine' z8 2 ?_ ?_;rotate_left;first|exact z9 sg|exact(fun w=>zF sg H.slb rfl rfl rfl rfl rfl rfl rfl ((congrArg Int.toNat hq).trans (zz1 _)) (by rw[hq];omega) (by rw[hq];omega))|exact(fun w=>zF sg H.slb rfl rfl rfl rfl rfl rfl rfl (by with_reducible exact zz1 _) (by omega) (by omega)))|(refine' z8 3 ?_ ?_;rotate_left;first|exact z9 sg|exact(fun w=>zF sg H.slb rfl rfl rfl rfl rfl rfl rfl ((congrArg Int.toNat hq).trans (zz1 _)) (by rw[hq];omega) (by rw[hq];omega))|exact(fun w=>zF sg H.slb rfl rfl rfl rfl rfl rfl rfl (by with_reducible exact zz1 _) (by omega) (by omega)))|(refine' z8 4 ?_ ?_;rotate_left;first|exact z9 sg|exact(fun w=>zF sg H.slb rfl rfl rfl rfl rfl rfl rfl ((congrArg Int.toNat hq).trans (zz1 _)) (by rw[hq];omega) (by rw[hq];omega))|exact(fun w=>zF sg H.slb rfl rfl rfl rfl rfl rfl rfl (by with_reducible exact zz1 _) (by omega) (by omega)))|(refine' z8 5 ?_ ?_;rotate_left;first|exact z9 sg|exact(fun w=>zF sg H.slb rfl rfl rfl rfl rfl rfl rfl ((congrArg Int.toNat hq).trans (zz1 _)) (by rw[hq];omega) (by rw[hq];omega))|exact(fun w=>zF sg H.slb rfl rfl rfl rfl rfl rfl rfl (by with_reducible exact zz1 _) (by omega) (by omega)))|(refine' z8 6 ?_ ?_;rotate_left;first|exact z9 sg|exact(fun w=>zF sg H.slb rfl rfl rfl rfl rfl rfl rfl ((congrArg Int.toNat hq).trans (zz1 _)) (by rw[hq];omega) (by rw[hq];omega))|exact(fun w=>zF sg H.slb rfl rfl rfl rfl rfl rfl rfl (by with_reducible exact zz1 _) (by omega) (by omega)))|(refine' z8 7 ?_ ?_;rotate_left;first|exact z9 sg|exact(fun w=>zF sg H.slb rfl rfl rfl rfl rfl rfl rfl ((congrArg Int.toNat hq).trans (zz1 _)) (by rw[hq];omega) (by rw[hq];omega))|exact(fun w=>zF sg H.slb rfl rfl rfl rfl rfl rfl rfl (by with_reducible exact zz1 _) (by omega) (by omega)))|(refine' z8 8 ?_ ?_;rotate_left;first|exact z9 sg|exact(fun w=>zF sg H.slb rfl rfl rfl rfl rfl rfl rfl ((congrArg Int.toNat hq).trans (zz1 _)) (by rw[hq];omega) (by rw[hq];omega))|exact(fun w=>zF sg H.slb rfl rfl rfl rfl rfl rfl rfl (by with_reducible exact zz1 _) (by omega) (by omega)))|(refine' z8 10 ?_ ?_;rotate_left;first|exact z9 sg|exact(fun w=>zF sg H.slb rfl rfl rfl rfl rfl rfl rfl ((congrArg Int.toNat hq).trans (zz1 _)) (by rw[hq];omega) (by rw[hq];omega))|exact(fun w=>zF sg H.slb rfl rfl rfl rfl rfl rfl rfl (by with_reducible exact zz1 _) (by omega) (by omega)))|(refine' z8 11 ?_ ?_;rotate_left;first|exact z9 sg|exact(fun w=>zF sg H.slb rfl rfl rfl rfl rfl rfl rfl ((congrArg Int.toNat hq).trans (zz1 _)) (by rw[hq];omega) (by rw[hq];omega))|exact(fun w=>zF sg H.slb rfl rfl rfl rfl rfl rfl rfl (by with_reducible exact zz1 _) (by omega) (by omega)))|(refine' z8 12 ?_ ?_;rotate_left;first|exact z9 sg|exact(fun w=>zF sg H.slb rfl rfl rfl rfl rfl rfl rfl ((congrArg Int.toNat hq).trans (zz1 _)) (by rw[hq];omega) (by rw[hq];omega))|exact(fun w=>zF sg H.slb rfl rfl rfl rfl rfl rfl rfl (by with_reducible exact zz1 _) (by omega) (by omega)))|(refine' z8 14 ?_ ?_;rotate_left;first|exact z9 sg|exact(fun w=>zF sg H.slb rfl rfl rfl rfl rfl rfl rfl ((congrArg Int.toNat hq).trans (zz1 _)) (by rw[hq];omega) (by rw[hq];omega))|exact(fun w=>zF sg H.slb rfl rfl rfl rfl rfl rfl rfl (by with_reducible exact zz1 _) (by omega) (by omega)))|(refine' z8 16 ?_ ?_;rotate_left;first|exact z9 sg|exact(fun w=>zF sg H.slb rfl rfl rfl rfl rfl rfl rfl ((congrArg Int.toNat hq).trans (zz1 _)) (by rw[hq];omega) (by rw[hq];omega))|exact(fun w=>zF sg H.slb rfl rfl rfl rfl rfl rfl rfl (by with_reducible exact zz1 _) (by omega) (by omega)))|refine z10 9 ?_|refine z10 13 ?_|refine z10 15 ?_|refine z10 17 ?_|refine z11 9 13 ?_ ?_|(refine y42 sg (H.slb) (H.st.mem) ?_ ?_;(omega))|(refine OX.storeB sg H.st rfl rfl rfl rfl rfl (AE.c_len _) (H.fit (by omega) _) (AE.c_one _) ?_;intro w HS;replace H:=H.put (by omega) HS;clear HS)|refine yU ?_|with_reducible apply zA|fail)
    all_goals
     rw[zJ8 (by omega),← hd,zLb] at H
     exact zK (t+1,_) rfl ⟨vint (by omega) (by omega) (by show((a+t:Nat):Int)+1=((a+(t+1):Nat):Int);omega),trivial⟩ ⟨by show a+(t+1)≤i - 1;omega,H⟩ (by show i - (t+1)<i - t;omega)
   ·have hlt:a+1+t=i:=by have:=zzB h5;omega
    rw[hlt] at H
    repeat' (first|refine yU ?_|fail)
    exact zCD (vs:=[]) (M:=_) trivial H.st ⟨rfl,_,_,rfl,H.len,H.els,zM2 l1 l3 s2 hc l4 l5,fun k hk=>zFN (Nat.le_succ a) l1 k (by omega),(zKQ (Nat.le_succ a) l1).wide (zFN (Nat.le_succ a) l1) (zzC _) (by omega) l3⟩
 ·have hma:¬ m=a+1:=by rintro rfl;simp at h
  repeat' (first|refine yT ?_|refine yU ?_|fail)
  rw[e2]
  refine zJ rfl (fun h=>?_) (fun h=>?_)
  ·have hmb1:b=m+1:=by simp at h;omega
   subst hmb1
   repeat' (first|refine yT ?_|refine yU ?_|with_reducible apply zA|fail)
   refine zM [(14,16),(83,106)] (fun x:Nat × Nat=>[(14,.int .i64 (x.1:Int)),(15,.int .i64 (x.2:Int))])
    (fun x w=>a≤x.1∧x.1≤x.2∧x.2≤m∧(∀ k,a≤k→k<x.1→(d k).1.fin≤(d m).1.fin)∧(∀ k,x.2≤k→k<m→(d m).1.fin<(d k).1.fin)∧Arr w0 g len n G d cs w) (fun x=>x.2 - x.1) (a,m)
    ⟨rfl,rfl,trivial⟩ ⟨zzC _,by show a≤m;omega,zzC _,fun k g1 g2=>by have:k<a:=g2;omega,fun k g1 g2=>by have:m≤k:=g1;omega,H⟩ ?_
   clear H
   rintro⟨i,j⟩ gh w ⟨l1,l2,l3,l4,l5,H⟩
   simp only at l1 l2 l3 l4 l5 ⊢
   repeat' (first|refine yT ?_|refine yU ?_|fail)
   refine zJ rfl (fun h2=>?_) (fun h2=>?_)
   ·have hij:i<j:=by have:=zzA h2;omega
    repeat' (first|refine yT ?_|refine yU ?_|with_reducible apply zA|fail)
    rw[half i j (by omega)]
    generalize hcc:(i+j) / 2=c
    have c1:i≤c:=by omega
    have c2:c<j:=by omega
    repeat' (first|refine yT ?_|(refine y41 sg (H.slb) ?_ ?_ ?_;(omega);(omega))|(refine y43 sg (H.slb) (H.st.mem) ?_ ?_;(omega))|(refine' y35 zJi ?_ ?_;rotate_left;exact(fun _ hcl=>zJ7 (d m) (d c) _))|(with_reducible apply zL;intro w hcl;replace H:=H.ext hcl;clear hcl)|refine yU ?_|refine y20 mixed ?_|fail)
    rw[zF3]
    refine zJ rfl (fun h3=>?_) (fun h3=>?_)
    ·have h3:¬ (d m).1.fin<(d c).1.fin:=by simpa using h3
     repeat' (first|refine yT ?_|refine yU ?_|fail)
     refine zK (c+1,j) rfl ⟨zZ (by omega),rfl,trivial⟩ ⟨by show a≤c+1;omega,by show c+1≤j;omega,l3,fun k g1 g2=>?_,l5,H⟩ (by show j - (c+1)<j - i;omega)
     rcases Nat.lt_or_ge k c with g|g
     ·rcases s1 k c g1 g (by omega) with k1|k1<;>omega
     ·obtain rfl:k=c:=by have:k<c+1:=g2;omega
      omega
    ·have h3:(d m).1.fin<(d c).1.fin:=by simpa using h3
     repeat' (first|refine yT ?_|refine yU ?_|fail)
     refine zK (i,c) rfl ⟨rfl,rfl,trivial⟩ ⟨l1,c1,by show c≤m;omega,l4,fun k g1 g2=>?_,H⟩ (by show c - i<j - i;omega)
     have g1:c≤k:=g1
     rcases Nat.lt_or_ge c k with g|g
     ·rcases s1 c k (by omega) g g2 with k1|k1<;>omega
     ·obtain rfl:k=c:=by omega
      exact h3
   ·have hij:i=j:=by have:=zzB h2;omega
    subst hij
    repeat' (first|refine yT ?_|refine yU ?_|with_reducible apply zA|fail)
    refine zM [(17,17),(108,128)] (fun x:Nat × List Value=>[(17,.int .i64 (x.1:Int))])
     (fun x w=>i≤x.1∧x.1≤m∧Arr w0 g len n G (zAg d x.1 m (m+1)) x.2 w) (fun x=>x.1 - i) (m,cs) ⟨rfl,trivial⟩ ⟨l3,zzC _,by show Arr w0 g len n G (zAg d m m (m+1)) cs w;rw[zG1];exact H⟩ ?_
    clear H
    rintro⟨k,cs1⟩ gh w ⟨k1,k2,H⟩
    simp only at k1 k2 H ⊢
    repeat' (first|refine yT ?_|refine yU ?_|fail)
    refine zJ rfl (fun h5=>?_) (fun h5=>?_)
    ·have hlt:i<k:=by have:=zzA h5;omega
     obtain⟨q,rfl⟩:∃ q,k=q+1:=⟨k - 1,by omega⟩
     have hq:IntKind.i64.wrap (((q+1:Nat):Int) - 1)=((q:Nat):Int):=by rw[w64 (by omega) (by omega)];omega
     generalize hd:zAg d (q+1) m (m+1)=d1 at H
     repeat' (first|refine yT ?_|(refine zA5 mixed 18 ?_ ?_;exact rfl;intro w hcl;replace H:=H.ext hcl;clear hcl)|((with_reducible apply zEm);decide +kernel)|(refine' z8 0 ?_ ?_;rotate_left;first|exact z9 sg|exact(fun w=>zF sg H.slb rfl rfl rfl rfl rfl rfl rfl ((congrArg Int.toNat hq).trans (zz1 _)) (by rw[hq];omega) (by rw[hq];omega))|exact(fun w=>zF sg H.slb rfl rfl rfl rfl rfl rfl rfl (by with_reducible exact zz1 _) (by omega) (by omega)))|(refine' z8 1 ?_ ?_;rotate_left;first|exact z9 sg|exact(fun w=>zF sg H.slb rfl rfl rfl rfl rfl rfl rfl ((congrArg Int.toNat hq).trans (zz1 _)) (by rw[hq];omega) (by rw[hq];omega))|exact(fun w=>zF sg H.slb rfl rfl rfl rfl rfl rfl rfl (by with_reducible exact zz1 _) (by omega) (by omega)))|(refine' z8 2 ?_ ?_;rotate_left;first|exact z9 sg|exact(fun w=>zF sg H.slb rfl rfl rfl rfl rfl rfl rfl ((congrArg Int.toNat hq).trans (zz1 _)) (by rw[hq];omega) (by rw[hq];omega))|exact(fun w=>zF sg H.slb rfl rfl rfl rfl rfl rfl rfl (by with_reducible exact zz1 _) (by omega) (by omega)))|(refine' z8 3 ?_ ?_;rotate_left;first|exact z9 sg|exact(fun w=>zF sg H.slb rfl rfl rfl rfl rfl rfl rfl ((congrArg Int.toNat hq).trans (zz1 _)) (by rw[hq];omega) (by rw[hq];omega))|exact(fun w=>zF sg H.slb rfl rfl rfl rfl rfl rfl rfl (by with_reducible exact zz1 _) (by omega) (by omega)))|(refine' z8 4 ?_ ?_;rotate_left;first|exact z9 sg|exact(fun w=>zF sg H.slb rfl rfl rfl rfl rfl rfl rfl ((congrArg Int.toNat hq).trans (zz1 _)) (by rw[hq];omega) (by rw[hq];omega))|exact(fun w=>zF sg H.slb rfl rfl rfl rfl rfl rfl rfl (by with_reducible exact zz1 _) (by omega) (by omega)))|(refine' z8 5 ?_ ?_;rotate_left;first|exact z9 sg|exact(fun w=>zF sg H.slb rfl rfl rfl rfl rfl rfl rfl ((congrArg Int.toNat hq).trans (zz1 _)) (by rw[hq];omega) (by rw[hq];omega))|exact(fun w=>zF sg H.slb rfl rfl rfl rfl rfl rfl rfl (by with_reducible exact zz1 _) (by omega) (by omega)))|(refine' z8 6 ?_ ?_;rotate_left;first|exact z9 sg|exact(fun w=>zF sg H.slb rfl rfl rfl rfl rfl rfl rfl ((congrArg Int.toNat hq).trans (zz1 _)) (by rw[hq];omega) (by rw[hq];omega))|exact(fun w=>zF sg H.slb rfl rfl rfl rfl rfl rfl rfl (by with_reducible exact zz1 _) (by omega) (by omega)))|(refine' z8 7 ?_ ?_;rotate_left;first|exact z9 sg|exact(fun w=>zF sg H.slb rfl rfl rfl rfl rfl rfl rfl ((congrArg Int.toNat hq).trans (zz1 _)) (by rw[hq];omega) (by rw[hq];omega))|exact(fun w=>zF sg H.slb rfl rfl rfl rfl rfl rfl rfl (by with_reducible exact zz1 _) (by omega) (by omega)))|(refine' z8 8 ?_ ?_;rotate_left;first|exact z9 sg|exact(fun w=>zF sg H.slb rfl rfl rfl rfl rfl rfl rfl ((congrArg Int.toNat hq).trans (zz1 _)) (by rw[hq];omega) (by rw[hq];omega))|exact(fun w=>zF sg H.slb rfl rfl rfl rfl rfl rfl rfl (by with_reducible exact zz1 _) (by omega) (by omega)))|(refine' z8 10 ?_ ?_;rotate_left;first|exact z9 sg|exact(fun w=>zF sg H.slb rfl rfl rfl rfl rfl rfl rfl ((congrArg Int.toNat hq).trans (zz1 _)) (by rw[hq];omega) (by rw[hq];omega))|exact(fun w=>zF sg H.slb rfl rfl rfl rfl rfl rfl rfl (by with_reducible exact zz1 _) (by omega) (by omega)))|(refine' z8 11 ?_ ?_;rotate_left;first|exact z9 sg|exact(fun w=>zF sg H.slb rfl rfl rfl rfl rfl rfl rfl ((congrArg Int.toNat hq).trans (zz1 _)) (by rw[hq];omega) (by rw[hq];omega))|exact(fun w=>zF sg H.slb rfl rfl rfl rfl rfl rfl rfl (by with_reducible exact zz1 _) (by omega) (by omega)))|(refine' z8 12 ?_ ?_;rotate_left;first|exact z9 sg|exact(fun w=>zF sg H.slb rfl rfl rfl rfl rfl rfl rfl ((congrArg Int.toNat hq).trans (zz1 _)) (by rw[hq];omega) (by rw[hq];omega))|exact(fun w=>zF sg H.slb rfl rfl rfl rfl rfl rfl rfl (by with_reducible exact zz1 _) (by omega) (by omega)))|(refine' z8 14 ?_ ?_;rotate_left;first|exact z9 sg|exact(fun w=>zF sg H.slb rfl rfl rfl rfl rfl rfl rfl ((congrArg Int.toNat hq).trans (zz1 _)) (by rw[hq];omega) (by rw[hq];omega))|exact(fun w=>zF sg H.slb rfl rfl rfl rfl rfl rfl rfl (by with_reducible exact zz1 _) (by omega) (by omega)))|(refine' z8 16 ?_ ?_;rotate_left;first|exact z9 sg|exact(fun w=>zF sg H.slb rfl rfl rfl rfl rfl rfl rfl ((congrArg Int.toNat hq).trans (zz1 _)) (by rw[hq];omega) (by rw[hq];omega))|exact(fun w=>zF sg H.slb rfl rfl rfl rfl rfl rfl rfl (by with_reducible exact zz1 _) (by omega) (by omega)))|refine z10 9 ?_|refine z10 13 ?_|refine z10 15 ?_|refine z10 17 ?_|refine z11 9 13 ?_ ?_|(refine y42 sg (H.slb) (H.st.mem) ?_ ?_;(omega))|(refine OX.storeB sg H.st rfl rfl rfl rfl rfl (AE.c_len _) (H.fit (by omega) _) (AE.c_one _) ?_;intro w HS;replace H:=H.put (by omega) HS;clear HS)|refine yU ?_|with_reducible apply zA|fail)
     all_goals
      rw[zJ8 (by omega),← hd,zFa (by omega)] at H
      exact zK (q,_) rfl ⟨vint (by omega) (by omega) (by show((q+1:Nat):Int) - 1=(q:Int);omega),trivial⟩ ⟨by show i≤q;omega,by show q≤m;omega,H⟩ (by show q - i<q+1 - i;omega)
    ·obtain rfl:k=i:=by have:=zzB h5;omega
     repeat' (first|refine yU ?_|fail)
     exact zCD (vs:=[]) (M:=_) trivial H.st ⟨rfl,_,_,rfl,H.len,H.els,zKR l1 l3 s1 hc l4 l5,fun q hk=>zFN k2 (Nat.le_succ m) q (by omega),(zKQ k2 (Nat.le_succ m)).wide (zFN k2 (Nat.le_succ m)) l1 (by omega) (zzC _)⟩
  ·have hmb2:¬ b=m+1:=by rintro rfl;simp at h
   repeat' (first|refine yT ?_|refine yU ?_|fail)
   rw[half a b (by omega)]
   generalize hmid:(a+b) / 2=mid
   have e5:IntKind.i64.wrap ((mid:Int)+m)=((mid+m:Nat):Int):=by rw[w64 (by omega) (by omega)];omega
   rw[e5]
   refine CW.mid [(20,21),(141,146)] (fun x:Nat × Nat=>[(20,.int .i64 (x.1:Int)),(21,.int .i64 (x.2:Int))])
    (fun x w=>Arr w0 g len n G d cs w∧a≤x.1∧x.1≤x.2∧x.2≤m∧x.2≤mid∧mid+m≤b+x.1∧(x.1=a∨mid+m=b+x.1)∧(x.2=m∨x.2=mid)) (fun g=>?_) ?_
   ·refine zJ rfl (fun h7=>?_) (fun h7=>?_)
    ·have h7:mid<m:=by have:=zzA h7;omega
     repeat' (first|refine yT ?_|refine yU ?_|fail)
     exact zK (mid+m - b,mid) rfl ⟨vint (by omega) (by omega) (by show((mid+m:Nat):Int) - b=((mid+m - b:Nat):Int);omega),rfl,trivial⟩ ⟨H,by show a≤mid+m - b;omega,by show mid+m - b≤mid;omega,by show mid≤m;omega,zzC _,by show mid+m≤b+(mid+m - b);omega,.inr (by show mid+m=b+(mid+m - b);omega),.inr rfl⟩ (Nat.lt_succ_self 0)
    ·have h7:m≤mid:=by have:=zzB h7;omega
     repeat' (first|refine yT ?_|refine yU ?_|fail)
     exact zK (a,m) rfl ⟨rfl,rfl,trivial⟩ ⟨H,zzC _,by show a≤m;omega,zzC _,h7,by show mid+m≤b+a;omega,.inl rfl,.inl rfl⟩ (Nat.lt_succ_self 0)
   clear H
   rintro⟨lo0,hi0⟩ gh w ⟨H,f1,f2,f3,f4,f5,f6,f7⟩
   simp only at f1 f2 f3 f4 f5 f6 f7 ⊢
   have e6:IntKind.i64.wrap (((mid+m:Nat):Int) - 1)=((mid+m - 1:Nat):Int):=by rw[w64 (by omega) (by omega)];omega
   repeat' (first|refine yT ?_|refine yU ?_|with_reducible apply zA|fail)
   rw[e6]
   refine zM [(20,21),(23,23),(149,174)] (fun x:Nat × Nat=>[(20,.int .i64 (x.1:Int)),(21,.int .i64 (x.2:Int))])
    (fun x w=>lo0≤x.1∧x.1≤x.2∧x.2≤hi0∧(∀ k,lo0≤k→k<x.1→(d k).1.fin≤(d (mid+m - 1 - k)).1.fin)∧(∀ k,x.2≤k→k<hi0→(d (mid+m - 1 - k)).1.fin<(d k).1.fin)∧Arr w0 g len n G d cs w) (fun x=>x.2 - x.1) (lo0,hi0)
    ⟨rfl,rfl,trivial⟩ ⟨zzC _,f2,zzC _,fun k g1 g2=>by have:k<lo0:=g2;omega,fun k g1 g2=>by have:hi0≤k:=g1;omega,H⟩ ?_
   clear H
   rintro⟨i,j⟩ gh w ⟨l1,l2,l3,l4,l5,H⟩
   simp only at l1 l2 l3 l4 l5 ⊢
   repeat' (first|refine yT ?_|refine yU ?_|fail)
   refine zJ rfl (fun h2=>?_) (fun h2=>?_)
   ·have hij:i<j:=by have:=zzA h2;omega
    repeat' (first|refine yT ?_|refine yU ?_|with_reducible apply zA|fail)
    rw[half i j (by omega)]
    generalize hcc:(i+j) / 2=c
    have c1:i≤c:=by omega
    have c2:c<j:=by omega
    have hq:IntKind.i64.wrap (((mid+m - 1:Nat):Int) - c)=((mid+m - 1 - c:Nat):Int):=by rw[w64 (by omega) (by omega)];omega
    repeat' (first|refine yT ?_|(refine zP rfl rfl (zF sg H.slb rfl rfl rfl rfl rfl rfl rfl ((congrArg Int.toNat hq).trans (zz1 _)) (by rw[hq];omega) (by rw[hq];omega)) ?_)|(refine zP rfl rfl (zF sg H.slb rfl rfl rfl rfl rfl rfl rfl (by with_reducible exact zz1 _) (by omega) (by omega)) ?_)|(refine y43 sg (H.slb) (H.st.mem) ?_ ?_;(omega))|(refine' y35 zJi ?_ ?_;rotate_left;exact(fun _ hcl=>zJ7 (d (mid+m - 1 - c)) (d c) _))|(with_reducible apply zL;intro w hcl;replace H:=H.ext hcl;clear hcl)|refine yU ?_|refine y20 mixed ?_|fail)
    rw[zF3]
    have mono1:∀ k,a≤k→k≤c→(d k).1.fin≤(d c).1.fin:=fun k g1 g2=>by
     rcases Nat.lt_or_ge k c with g|g
     ·rcases s1 k c g1 g (by omega) with k1|k1<;>omega
     ·obtain rfl:k=c:=by omega
      exact Int.le_refl _
    refine zJ rfl (fun h3=>?_) (fun h3=>?_)
    ·have h3:¬ (d (mid+m - 1 - c)).1.fin<(d c).1.fin:=by simpa using h3
     repeat' (first|refine yT ?_|refine yU ?_|fail)
     refine zK (c+1,j) rfl ⟨zZ (by omega),rfl,trivial⟩ ⟨by show lo0≤c+1;omega,by show c+1≤j;omega,l3,fun k g1 g2=>?_,l5,H⟩ (by show j - (c+1)<j - i;omega)
     have g2:k<c+1:=g2
     have k1:=mono1 k (by omega) (by omega)
     rcases Nat.lt_or_ge k c with g|g
     ·rcases s2 (mid+m - 1 - c) (mid+m - 1 - k) (by omega) (by omega) (by omega) with k2|k2<;>omega
     ·obtain rfl:k=c:=by omega
      omega
    ·have h3:(d (mid+m - 1 - c)).1.fin<(d c).1.fin:=by simpa using h3
     repeat' (first|refine yT ?_|refine yU ?_|fail)
     refine zK (i,c) rfl ⟨rfl,rfl,trivial⟩ ⟨l1,c1,by show c≤hi0;omega,l4,fun k g1 g2=>?_,H⟩ (by show c - i<j - i;omega)
     have g1:c≤k:=g1
     rcases Nat.lt_or_ge c k with g|g
     ·rcases s1 c k (by omega) g (by omega) with k1|k1<;>rcases s2 (mid+m - 1 - k) (mid+m - 1 - c) (by omega) (by omega) (by omega) with k2|k2<;>omega
     ·obtain rfl:k=c:=by omega
      exact h3
   ·have hij:i=j:=by have:=zzB h2;omega
    subst hij
    have e7:IntKind.i64.wrap (((mid+m:Nat):Int) - i)=((mid+m - i:Nat):Int):=by rw[w64 (by omega) (by omega)];omega
    have hlo:a<i→mid+m - i<b→(d (i - 1)).1.fin≤(d (mid+m - i)).1.fin:=fun g1 g2=>by
     have:=l4 (i - 1) (by omega) (by omega)
     rwa [show mid+m - 1 - (i - 1)=mid+m - i by omega] at this
    have hhi:i<m→m<mid+m - i→(d (mid+m - i - 1)).1.fin<(d i).1.fin:=fun g1 g2=>by
     have:=l5 i (zzC _) (by omega)
     rwa [show mid+m - 1 - i=mid+m - i - 1 by omega] at this
    have split:=zPk (stop:=mid+m - i) ham hmb hmid.symm (by omega) (by omega) (by omega) (by omega) (by omega) s1 s2 hc hlo hhi
    obtain⟨st,hst⟩:∃ st,st=mid+m - i:=⟨_,rfl⟩
    rw[← hst] at e7 split
    obtain⟨D,hD⟩:∃ D,D=zAg d i m st:=⟨_,rfl⟩
    rw[← hD] at split
    have him:i≤m:=by omega
    have hmst:m≤st:=by omega
    have d1:∀ k,k<i→D k=d k:=fun k g1=>by rw[hD];unfold zAg;rw[if_neg (by omega),if_neg (by omega)]
    have d2:∀ k,i≤k→k<mid→D k=d (m+(k - i)):=fun k g1 g2=>by rw[hD];unfold zAg;rw[if_pos (by omega)]
    have d3:∀ k,mid≤k→k<st→D k=d (k - (st - m)):=fun k g1 g2=>by rw[hD];unfold zAg;rw[if_neg (by omega),if_pos (by omega)]
    have d4:∀ k,st≤k→D k=d k:=fun k g1=>by rw[hD];unfold zAg;rw[if_neg (by omega),if_neg (by omega)]
    have t1:Seg D a i:=fun p q g1 g2 g3=>by rw[d1 p (by omega),d1 q g3];exact s1 _ _ g1 g2 (by omega)
    have t2:Seg D i mid:=fun p q g1 g2 g3=>by rw[d2 p g1 (by omega),d2 q (by omega) g3];exact s2 _ _ (by omega) (by omega) (by omega)
    have t3:Seg D mid st:=fun p q g1 g2 g3=>by rw[d3 p g1 (by omega),d3 q (by omega) g3];exact s1 _ _ (by omega) (by omega) (by omega)
    have t4:Seg D st b:=fun p q g1 g2 g3=>by rw[d4 p g1,d4 q (by omega)];exact s2 _ _ (by omega) g2 g3
    have x1:zIc D a i mid:=fun p q g1 g2 g3 g4 e=>by rw[d1 p g2,d2 q g3 g4] at *;exact hc _ _ g1 (by omega) (by omega) (by omega) e
    have x2:zIc D mid st b:=fun p q g1 g2 g3 g4 e=>by rw[d3 p g1 g2,d4 q g3] at *;exact hc _ _ (by omega) (by omega) (by omega) g4 e
    have rotC:∀ {cs:List Value} {w:World},Arr w0 g len n G d cs w→i<m→m<st→Calls Tryz.prog 248 [.slice (some ⟨g,0,none⟩) n cap,.int .i64 (i:Int),.int .i64 (m:Int),.int .i64 (IntKind.i64.wrap (((mid+m:Nat):Int) - i)),.func (.func 202) #[] #[]].toArray w (zM1 w0 g len n G D):=fun H g1 g2=>by
     rw[e7,hD];exact zSQ (f:=.nilFunc) H g1 g2 (by omega) (by omega)
    have symL:∀ {cs:List Value} {w:World},Arr w0 g len n G D cs w→a<i→i<mid→Calls Tryz.prog 229 [.slice (some ⟨g,0,none⟩) n cap,.int .i64 (a:Int),.int .i64 (i:Int),.int .i64 (mid:Int),.func (.func 202) #[] #[]].toArray w (SM w0 g len n G D a mid):=fun H g1 g2=>ih (by omega) g1 g2 (by omega) H t1 t2 x1
    have symR:∀ {dl:Nat→AE} {cs:List Value} {w:World},(∀ k,mid≤k→dl k=D k)→Arr w0 g len n G dl cs w→mid<st→st<b→Calls Tryz.prog 229 [.slice (some ⟨g,0,none⟩) n cap,.int .i64 (mid:Int),.int .i64 (IntKind.i64.wrap (((mid+m:Nat):Int) - i)),.int .i64 (b:Int),.func (.func 202) #[] #[]].toArray w (SM w0 g len n G dl mid b):=fun{dl} {cs} {w} hl H g1 g2=>by
     rw[e7]
     exact ih (by omega) g1 g2 hbn H (fun p q k1 k2 k3=>by rw[hl p k1,hl q (by omega)];exact t3 p q k1 k2 k3) (fun p q k1 k2 k3=>by rw[hl p (by omega),hl q (by omega)];exact t4 p q k1 k2 k3) (fun p q k1 k2 k3 k4 e=>by rw[hl p k1,hl q (by omega)] at *;exact x2 p q k1 k2 k3 k4 e)
    have rD:¬ (i<m∧m<st)→D=d:=fun r=>by
     rw[hD]
     rcases(show i=m∨st=m by omega) with r|r
     ·rw[r];exact zG1
     ·rw[r];exact zLc
    have fin:∀ {dl dr:Nat→AE},Seg dl a mid→Out D dl a mid→Pm D dl a mid→Seg dr mid b→Out dl dr mid b→Pm dl dr mid b→Seg dr a b∧Out d dr a b∧Pm d dr a b:=fun k1 k2 k3 k4 k5 k6=>by
     obtain⟨q1,q2,q3⟩:=Seg.halves (by omega) (by omega) split k1 k2 k3 k4 k5 k6
     have o1:Out d D i st:=by rw[hD];exact zFN him hmst
     have o2:Pm d D i st:=by rw[hD];exact zKQ him hmst
     exact⟨q1,fun k hk=>by rw[q2 k hk,o1 k (by omega)],(o2.wide o1 (by omega) (by omega) (by omega)).trans q3⟩
    have zl:¬ (a<i∧i<mid)→Seg D a mid:=fun r=>by
     rcases(show i=a∨i=mid by omega) with r|r
     ·rw[← r];exact t2
     ·rw[← r];exact t1
    have zr:¬ (mid<st∧st<b)→Seg D mid b:=fun r=>by
     rcases(show st=mid∨st=b by omega) with r|r
     ·rw[← r];exact t4
     ·rw[← r];exact t3
    clear d1 d2 d3 d4 t1 t2 t3 t4 x1 x2 split hlo hhi l4 l5 s1 s2 hc ih
    by_cases r1:i<m∧m<st
    all_goals by_cases r2:a<i∧i<mid
    all_goals by_cases r3:mid<st∧st<b
    all_goals try (have H:=(rD r1).symm ▸ H)
    all_goals repeat' (first|refine yT ?_|(refine zc rfl rfl (En.fn ent248 rfl rfl) (rotC H r1.1 r1.2) ?_;rintro _ _ w ⟨rfl,cs',rfl,hl,he⟩ HS;replace H:Arr w0 g len n G D cs' w:=⟨HS,hl,he⟩)|(refine zc rfl rfl (En.fn zJl rfl rfl) (symL H r2.1 r2.2) ?_;rintro _ _ w ⟨rfl,dl,cs',rfl,hl,he,q1,q2,q3⟩ HS;replace H:Arr w0 g len n G dl cs' w:=⟨HS,hl,he⟩)|(refine zc rfl rfl (En.fn zJl rfl rfl) (symR (fun k hk=>q2 k (.inr hk)) H r3.1 r3.2) ?_;rintro _ _ w ⟨rfl,dr,cs',rfl,hl,he,p1,p2,p3⟩ HS;replace H:Arr w0 g len n G dr cs' w:=⟨HS,hl,he⟩)|(refine zc rfl rfl (En.fn zJl rfl rfl) (symR (fun k hk=>rfl) H r3.1 r3.2) ?_;rintro _ _ w ⟨rfl,dr,cs',rfl,hl,he,p1,p2,p3⟩ HS;replace H:Arr w0 g len n G dr cs' w:=⟨HS,hl,he⟩)|refine yU ?_|(refine y17 ?_ ?_;all_goals(intro h;try (exfalso;first|((simp only[decide_eq_true_eq,decide_eq_false_iff_not,beq_iff_eq,beq_eq_false_iff_ne,bne_iff_ne,ne_eq,Bool.not_eq_true,Int.not_lt,Int.not_le,gt_iff_lt,ge_iff_le] at h;omega);done)|(rw[e7] at h;(simp only[decide_eq_true_eq,decide_eq_false_iff_not,beq_iff_eq,beq_eq_false_iff_ne,bne_iff_ne,ne_eq,Bool.not_eq_true,Int.not_lt,Int.not_le,gt_iff_lt,ge_iff_le] at h;omega);done))))|(refine y23 ?_ ?_;all_goals(intro h;try (exfalso;first|((simp only[decide_eq_true_eq,decide_eq_false_iff_not,beq_iff_eq,beq_eq_false_iff_ne,bne_iff_ne,ne_eq,Bool.not_eq_true,Int.not_lt,Int.not_le,gt_iff_lt,ge_iff_le] at h;omega);done)|(rw[e7] at h;(simp only[decide_eq_true_eq,decide_eq_false_iff_not,beq_iff_eq,beq_eq_false_iff_ne,bne_iff_ne,ne_eq,Bool.not_eq_true,Int.not_lt,Int.not_le,gt_iff_lt,ge_iff_le] at h;omega);done))))|fail)
    all_goals first
     | exact zCD (vs:=[]) (M:=_) trivial H.st ⟨rfl,_,_,rfl,H.len,H.els,fin q1 q2 q3 p1 p2 p3⟩
     | exact zCD (vs:=[]) (M:=_) trivial H.st ⟨rfl,_,_,rfl,H.len,H.els,fin (zl r2) (fun _ _=>rfl) (Pm.refl _ _ _) p1 p2 p3⟩
     | exact zCD (vs:=[]) (M:=_) trivial H.st ⟨rfl,_,_,rfl,H.len,H.els,fin q1 q2 q3 (fun p q k1 k2 k3=>by rw[q2 p (.inr k1),q2 q (.inr (by omega))];exact zr r3 p q k1 k2 k3) (fun _ _=>rfl) (Pm.refl _ _ _)⟩
     | exact zCD (vs:=[]) (M:=_) trivial H.st ⟨rfl,_,_,rfl,H.len,H.els,fin (zl r2) (fun _ _=>rfl) (Pm.refl _ _ _) (zr r3) (fun _ _=>rfl) (Pm.refl _ _ _)⟩
theorem slt.trans {x y z:AE}(h:slt x y)(k:slt y z):slt x z:=by
 unfold slt at *
 omega
theorem zSR {d:Nat→AE}{j:Nat}:sw d (j+1) j=zAg d j (j+1) (j+2):=by
 have:=zFa (d:=d) (i:=j) (m:=j+1) (Nat.lt_succ_self j)
 rwa [zG1] at this
theorem zFb {a e:Nat}:∀ (j:Nat) (d:Nat→AE),a≤j→j<e→Seg d a j→Seg d j e→(∀ p q,a≤p→p<j→j<q→q<e→slt (d p) (d q))→(∀ p,a≤p→p<j→(d p).1.id<(d j).1.id) →
  Seg (zBH a j d) a e∧Out d (zBH a j d) a e∧Pm d (zBH a j d) a e
 | 0,d,h1,_,_,s2,_,_=>by
   obtain rfl:a=0:=by omega
   exact⟨s2,fun _ _=>rfl,Pm.refl _ _ _⟩
 | j+1,d,h1,h2,s1,s2,hc,hi=>by
   rw[zBH]
   split
   ·rename_i hh
    obtain⟨ha,hlt⟩:=hh
    have hlt:(d (j+1)).1.fin<(d j).1.fin:=zzA hlt
    have e1:∀ k,k≠j→k≠j+1→sw d (j+1) j k=d k:=fun k g1 g2=>by unfold sw;rw[if_neg g2,if_neg g1]
    have e2:sw d (j+1) j j=d (j+1):=by unfold sw;rw[if_neg (by omega),if_pos rfl]
    have e3:sw d (j+1) j (j+1)=d j:=by unfold sw;rw[if_pos rfl]
    obtain⟨q1,q2,q3⟩:=zFb (a:=a) (e:=e) j (sw d (j+1) j) (by omega) (by omega)
     (fun p q g1 g2 g3=>by rw[e1 p (by omega) (by omega),e1 q (by omega) (by omega)];exact s1 p q g1 g2 (by omega))
     (fun p q g1 g2 g3=>by
      rcases(show p=j∨p=j+1∨j+1<p by omega) with rfl|rfl|g
      ·rw[e2]
       rcases(show q=p+1∨p+1<q by omega) with rfl|g4
       ·rw[e3];exact .inl hlt
       ·rw[e1 q (by omega) (by omega)];exact s2 _ _ (by omega) g4 g3
      ·rw[e3,e1 q (by omega) (by omega)];exact hc _ _ (by omega) (by omega) g2 g3
      ·rw[e1 p (by omega) (by omega),e1 q (by omega) (by omega)];exact s2 _ _ (by omega) g2 g3)
     (fun p q g1 g2 g3 g4=>by
      rw[e1 p (by omega) (by omega)]
      rcases(show q=j+1∨j+1<q by omega) with rfl|g5
      ·rw[e3];exact s1 _ _ g1 g2 (by omega)
      ·rw[e1 q (by omega) (by omega)];exact hc _ _ g1 (by omega) g5 g4)
     (fun p g1 g2=>by rw[e1 p (by omega) (by omega),e2];exact hi p g1 (by omega))
    have o1:Out d (sw d (j+1) j) j (j+2):=by rw[zSR];exact zFN (by omega) (by omega)
    have o2:Pm d (sw d (j+1) j) j (j+2):=by rw[zSR];exact zKQ (by omega) (by omega)
    exact⟨q1,fun k hk=>by rw[q2 k hk,o1 k (by omega)],(o2.wide o1 (by omega) (by omega) (by omega)).trans q3⟩
   ·rename_i hh
    refine⟨?_,fun _ _=>rfl,Pm.refl _ _ _⟩
    rcases Nat.lt_or_ge a (j+1) with ha|ha
    ·have hge:¬ (d (j+1)).1.fin<(d j).1.fin:=fun g=>hh ⟨ha,decide_eq_true g⟩
     have hx:slt (d j) (d (j+1)):=by
      have:=hi j (by omega) (Nat.lt_succ_self j)
      unfold slt;omega
     intro p q g1 g2 g3
     rcases(show q<j+1∨q=j+1∨j+1<q by omega) with g|rfl|g
     ·exact s1 p q g1 g2 g
     ·rcases(show p=j∨p<j by omega) with rfl|g4
      ·exact hx
      ·exact slt.trans (s1 p j g1 g4 (Nat.lt_succ_self j)) hx
     ·rcases(show p<j+1∨j+1≤p by omega) with g4|g4
      ·exact hc p q g1 g4 g g3
      ·exact s2 p q g4 g2 g3
    ·obtain rfl:a=j+1:=by omega
     exact s2
def Asc (d:Nat→AE)(a b:Nat):Prop:=∀ p q,a≤p→p<q→q<b→(d p).1.id<(d q).1.id
theorem zEf {a e:Nat}:∀ (m i:Nat) (d:Nat→AE),m=e - i→a+1≤i→i≤e→Seg d a i→(∀ p q,a≤p→p<i→i≤q→q<e→(d p).1.id<(d q).1.id)→Asc d i e →
  Seg (zBP a m i d) a e∧Out d (zBP a m i d) a e∧Pm d (zBP a m i d) a e
 | 0,i,d,hm,h1,h2,s,_,_=>by
   obtain rfl:i=e:=by omega
   exact⟨s,fun _ _=>rfl,Pm.refl _ _ _⟩
 | m+1,i,d,hm,h1,h2,s,hc,hi=>by
   rw[zBP]
   obtain⟨q1,q2,q3⟩:=zFb (a:=a) (e:=i+1) i d (by omega) (Nat.lt_succ_self i) s (fun p q g1 g2 g3=>by omega) (fun p q g1 g2 g3 g4=>by omega) (fun p g1 g2=>hc p i g1 g2 (zzC _) (by omega))
   obtain⟨p1,p2,p3⟩:=zEf (a:=a) (e:=e) m (i+1) (zBH a i d) (by omega) (by omega) (by omega) q1
    (fun p q g1 g2 g3 g4=>by
     rw[q2 q (by omega)]
     have:zBH a i d p∈seg d a (i+1):=q3.mem_iff.1 (zCi.2 ⟨p,g1,g2,rfl⟩)
     obtain⟨k,k1,k2,k3⟩:=zCi.1 this
     rw[← k3]
     rcases(show k=i∨k<i by omega) with rfl|k4
     ·exact hi _ _ (zzC _) (by omega) g4
     ·exact hc _ _ k1 k4 (by omega) g4)
    (fun p q g1 g2 g3=>by rw[q2 p (by omega),q2 q (by omega)];exact hi _ _ (by omega) g2 g3)
   exact⟨p1,fun k hk=>by rw[p2 k hk,q2 k (by omega)],(q3.wide q2 (zzC _) (by omega) (by omega)).trans p3⟩
theorem zE6 {a e:Nat}{d:Nat→AE}(h:a≤e)(hi:Asc d a e):Seg (zEe a e d) a e∧Out d (zEe a e d) a e∧Pm d (zEe a e d) a e:=by
 rcases Nat.lt_or_ge a e with h1|h1
 ·exact zEf _ _ d rfl (zzC _) h1 (fun p q g1 g2 g3=>by omega) (fun p q g1 g2 g3 g4=>hi p q g1 (by omega) g4) (fun p q g1 g2 g3=>hi p q (by omega) g2 g3)
 ·obtain rfl:a=e:=by omega
  unfold zEe
  rw[show a - (a+1)=0 by omega,zBP]
  exact⟨fun p q g1 g2 g3=>by omega,fun _ _=>rfl,Pm.refl _ _ _⟩
def zSS (w0:World)(g len n:Nat)(G:zH)(d:Nat→AE):Ending→World→Prop :=
 zn (fun M v=>v=.tuple #[]∧∃ d' cs',M=cb g cs' 62::G∧cs'.length=len∧Els cs' 9 n (fun j=>(d' j).c)∧Seg d' 0 n∧Out d d' 0 n∧Pm d d' 0 n) w0
theorem zPl {w0 w:World}{g len n cap:Nat}{G:zH}{d:Nat→AE}{cs:List Value}(hA:Arr w0 g len n G d cs w)(hn:n<40)(hi:Asc d 0 n) :
  Calls Tryz.prog 221 [.slice (some ⟨g,0,none⟩) n cap,.int .i64 (n:Int),.func (.func 202) #[] #[]].toArray w (zSS w0 g len n G d):=by
 rcases Nat.lt_or_ge n 20 with h20|h20
 ·obtain⟨q1,q2,q3⟩:=zE6 (zzD n) hi
  exact(zRZ hA h20).mono fun e w' ⟨v,M,he,⟨hv,cs',hM,hl,hels⟩,hs⟩=>⟨v,M,he,⟨hv,_,cs',hM,hl,hels,q1,q2,q3⟩,hs⟩
 obtain⟨a1,a2,a3⟩:=zE6 (a:=0) (e:=20) (Nat.zero_le 20) (fun p q g1 g2 g3=>hi p q g1 g2 (by omega))
 obtain⟨b1,b2,b3⟩:=zE6 (a:=20) (e:=n) (d:=zEe 0 20 d) h20 (fun p q g1 g2 g3=>by rw[a2 p (by omega),a2 q (by omega)];exact hi p q (zzD _) g2 g3)
 generalize hd1:zEe 0 20 d=d1 at *
 generalize hd2:zEe 20 n d1=d2 at *
 have m0:∀ k,k<20→∃ j,j<20∧d2 k=d j:=fun k hk=>by
  rw[b2 k (by omega)]
  obtain⟨j,j1,j2,j3⟩:=zCi.1 (a3.mem_iff.1 (zCi.2 ⟨k,zzD _,hk,rfl⟩))
  exact⟨j,j2,j3.symm⟩
 have m1:∀ k,20≤k→k<n→∃ j,20≤j∧j<n∧d2 k=d j:=fun k hk hk2=>by
  obtain⟨j,j1,j2,j3⟩:=zCi.1 (b3.mem_iff.1 (zCi.2 ⟨k,hk,hk2,rfl⟩))
  exact⟨j,j1,j2,by rw[← j3,a2 j (by omega)]⟩
 have hcr:zIc d2 0 20 n:=fun p q g1 g2 g3 g4 _=>by
  obtain⟨j,j1,j2⟩:=m0 p g2
  obtain⟨k,k1,k2,k3⟩:=m1 q g3 g4
  rw[j2,k3]
  exact hi _ _ (zzD _) (by omega) k2
 have s1:Seg d2 0 20:=fun p q g1 g2 g3=>by rw[b2 p (by omega),b2 q (by omega)];exact a1 p q g1 g2 g3
 have o2:Out d d2 0 n:=fun k hk=>by rw[b2 k (by omega),a2 k (by omega)]
 have p2:Pm d d2 0 n:=(a3.wide a2 (zzC _) (zzD _) h20).trans (b3.wide b2 (zzD _) h20 (zzC _))
 refine enter [] Tryz.func221 rfl Tryz.ntmps221 rfl rfl ?_
 have H:=hA
 clear hA
 repeat' (first|refine yT ?_|refine yU ?_|with_reducible apply zA|fail)
 refine zM [(7,8),(11,22)] (fun x:Nat × (Nat→AE) × List Value=>[(7,.int .i64 (x.1:Int)),(8,.int .i64 ((x.1+20:Nat):Int))]) (fun x w=>(x.1=0∧x.2.1=d∨x.1=20∧x.2.1=d1)∧Arr w0 g len n G x.2.1 x.2.2 w) (fun x=>20 - x.1) (0,d,cs) ⟨rfl,rfl,trivial⟩ ⟨.inl ⟨rfl,rfl⟩,H⟩ ?_
 clear H
 rintro⟨i,D,cs1⟩ gh w ⟨hi0,H⟩
 simp only at hi0 H ⊢
 repeat' (first|refine yT ?_|refine yU ?_|fail)
 refine zJ rfl (fun h=>?_) (fun h=>?_)
 ·obtain⟨rfl,rfl⟩:i=0∧D=d:=by
   rcases hi0 with h0|⟨rfl,_⟩
   ·exact h0
   ·exfalso;have:=zzA h;omega
  repeat' (first|refine yT ?_|(refine' y33 zJk ?_ ?_;rotate_left 2;exact zJ9 (a:=0) (e:=20) H (zzD _) h20 (by omega);rintro _ _ w ⟨rfl,cs',rfl,hl,he⟩ HS;have H':Arr w0 g len n G d1 cs' w:=⟨HS,hl,hd1 ▸ he⟩;clear H HS hl he;have H:=H';clear H')|refine yU ?_|with_reducible apply zA|fail)
  exact zK (20,d1,_) rfl ⟨rfl,rfl,trivial⟩ ⟨.inr ⟨rfl,rfl⟩,H⟩ (by show 20 - 20<20 - 0;omega)
 ·obtain⟨rfl,rfl⟩:i=20∧D=d1:=by
   rcases hi0 with ⟨rfl,_⟩|h0
   ·exfalso;have:=zzB h;omega
   ·exact h0
  repeat' (first|refine yT ?_|(refine' y33 zJk ?_ ?_;rotate_left 2;exact zJ9 (a:=20) (e:=n) H h20 (zzC _) (by omega);rintro _ _ w ⟨rfl,cs',rfl,hl,he⟩ HS;have H':Arr w0 g len n G d2 cs' w:=⟨HS,hl,hd2 ▸ he⟩;clear H HS hl he;have H:=H';clear H')|refine yU ?_|with_reducible apply zA|fail)
  refine zM [(6,9),(28,62)] (fun x:Nat × (Nat→AE) × List Value=>[(6,.int .i64 (x.1:Int))]) (fun x w=>(x.1=20∧x.2.1=d2∨x.1=40∧Seg x.2.1 0 n∧Out d x.2.1 0 n∧Pm d x.2.1 0 n)∧Arr w0 g len n G x.2.1 x.2.2 w) (fun x=>40 - x.1) (20,d2,_) ⟨rfl,trivial⟩ ⟨.inl ⟨rfl,rfl⟩,H⟩ ?_
  clear H
  rintro⟨i,D,cs2⟩ gh2 w ⟨hi0,H⟩
  simp only at hi0 H ⊢
  repeat' (first|refine yT ?_|refine yU ?_|fail)
  refine zJ rfl (fun h2=>?_) (fun h2=>?_)
  ·obtain⟨rfl,rfl⟩:i=20∧D=d2:=by
    rcases hi0 with h0|⟨rfl,_⟩
    ·exact h0
    ·exfalso;have:=zzA h2;omega
   have hlt:20<n:=by have:=zzA h2;omega
   repeat' (first|refine yT ?_|refine yU ?_|with_reducible apply zA|fail)
   refine zM [(7,8),(33,48)] (fun _:Unit=>[(7,.int .i64 0),(8,.int .i64 40)]) (fun _ w=>Arr w0 g len n G D cs2 w) (fun _=>0) () ⟨rfl,rfl,trivial⟩ H ?_
   clear H
   rintro _ gh3 w H
   repeat' (first|refine yT ?_|refine yU ?_|fail)
   refine zJ rfl (fun h3=>?_) (fun h3=>?_)
   ·exact absurd (zzA h3) (by omega)
   have hw20:decide ((20:Int)<n)=true:=decide_eq_true (by omega)
   repeat' (first|refine yT ?_|(refine' y33 zJl ?_ ?_;rotate_left 2;exact zM3 (by omega) n (a:=0) (m:=20) (b:=n) (by omega) (by omega) hlt (zzC _) H s1 b1 hcr;rintro _ _ w ⟨rfl,d3,cs',rfl,hl,he,q1,q2,q3⟩ HS;have H':Arr w0 g len n G d3 cs' w:=⟨HS,hl,he⟩;clear H HS hl he;have H:=H';clear H')|refine yU ?_|(refine y23 ?_ ?_;all_goals(intro h;try (exfalso;first|(rw[w64 (by omega) (by omega)] at h;(simp only[decide_eq_true_eq,decide_eq_false_iff_not,beq_iff_eq,beq_eq_false_iff_ne,bne_iff_ne,ne_eq,Bool.not_eq_true,Int.not_lt,Int.not_le,gt_iff_lt,ge_iff_le] at h;omega);done))))|fail)
   exact zE8 (40,d3,_) rfl ⟨rfl,trivial⟩ ⟨.inr ⟨rfl,q1,fun k hk=>(q2 k hk).trans (o2 k hk),p2.trans q3⟩,H⟩ (by show 40 - 40<40 - 20;omega)
  ·have h3:i=40∧Seg D 0 n∧Out d D 0 n∧Pm d D 0 n∨(i=20∧n=20∧D=d2):=by
    rcases hi0 with ⟨rfl,rfl⟩|h0
    ·right;exact⟨rfl,by have:=zzB h2;omega,rfl⟩
    ·exact .inl h0
   have h4:Seg D 0 n∧Out d D 0 n∧Pm d D 0 n:=by
    rcases h3 with ⟨_,q⟩|⟨_,rfl,rfl⟩
    ·exact q
    ·exact⟨s1,o2,p2⟩
   repeat' (first|refine yU ?_|fail)
   exact zCD (vs:=[]) (M:=_) trivial H.st ⟨rfl,D,_,rfl,H.len,H.els,h4.1,h4.2.1,h4.2.2⟩
theorem zIr {w0 w:World}{g len n cap:Nat}{G:zH}{d:Nat→AE}{cs:List Value}(hA:Arr w0 g len n G d cs w)(hn:n<40)(hi:Asc d 0 n) :
  Calls Tryz.prog 201 [.slice (some ⟨g,0,none⟩) n cap,.func (.func 202) #[] #[]].toArray w (zSS w0 g len n G d):=by
 refine enter [] Tryz.func201 rfl Tryz.ntmps201 rfl rfl ?_
 have H:=hA
 clear hA
 repeat' (first|refine yT ?_|(refine' y33 zQo ?_ ?_;rotate_left 2;exact zPl H hn hi;rintro _ _ w ⟨rfl,d',cs',rfl,hl,he,q⟩ HS)|refine yU ?_|fail)
 exact zCD (vs:=[]) (M:=_) trivial HS ⟨rfl,d',cs',rfl,hl,he,q⟩
end
end Go.Proofs.YtibmaifoaajllaaGreatDoor
