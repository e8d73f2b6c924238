/- Texts of ours, joined: the steps of the proof, or the claim's theorem. -/
import Derived.Test.YthbflajpdhgfiaaGreatDoorQd19
set_option linter.all false
set_option maxHeartbeats 16000000
namespace Go.Proofs.YthbflajpdhgfiaaGreatDoor
open Go Go.Sk Go.RowKit
attribute [local irreducible] Go.Calls
def SM (w0:World)(g len n:Nat)(G:zC)(d:Nat→AE)(a b:Nat):Ending→World→Prop :=
 zi (fun M v=>v=.tuple #[]∧∃ d' cs',M=cb g cs' 67::G∧cs'.length=len∧Els cs' 9 n (fun j=>(d' j).c)∧Seg d' a b∧Out d d' a b∧Pm d d' a b) w0
theorem zLk {d:Nat→AE}{a k:Nat}:sw (zAd d a (a+1) (a+1+k)) (a+k) (a+k+1)=zAd d a (a+1) (a+1+(k+1)):=by
 funext t
 unfold sw zAd
 repeat' split
 all_goals first|omega|rfl|(congr 1;omega)|(subst_vars;congr 1;omega)
theorem zLl {d:Nat→AE}{a m:Nat}:zAd d a m m=d:=by
 funext t
 unfold zAd
 rw[if_neg qO]
 split
 ·rw[Nat.sub_self,Nat.sub_zero]
 ·rfl
theorem zGm {d:Nat→AE}{m b:Nat}:zAd d m m b=d:=by
 funext t
 unfold zAd
 split
 ·congr 1;omega
 ·rw[if_neg qO]
theorem zFV {d:Nat→AE}{i m:Nat}(h:i<m):sw (zAd d (i+1) m (m+1)) (i+1) i=zAd d i m (m+1):=by
 funext t
 unfold sw zAd
 repeat' split
 all_goals first|omega|rfl|(congr 1;omega)|(subst_vars;congr 1;omega)
theorem zND {d:Nat→AE}{a i b:Nat}(h1:a+1≤i)(h2:i≤b)(s2:Seg d (a+1) b)(hc:zIR d a (a+1) b)(lo:∀ k,a+1≤k→k<i→(d k).1.fin<(d a).1.fin)(hi:∀ k,i≤k→k<b→(d a).1.fin≤(d k).1.fin) :
  Seg (zAd d a (a+1) i) a b:=by
 have r1:∀ k,a≤k→k<i - 1→zAd d a (a+1) i k=d (k+1):=fun k g1 g2=>by unfold zAd;rw[if_pos qO];congr 1;omega
 have r2:zAd d a (a+1) i (i - 1)=d a:=by unfold zAd;rw[if_neg qO,if_pos qO];congr 1;omega
 have r3:∀ k,i≤k→zAd d a (a+1) i k=d k:=fun k g1=>by unfold zAd;rw[if_neg qO,if_neg qO]
 have top:∀ k,i≤k→k<b→slt (d a) (d k):=fun k g1 g2=>by
  rcases Int.lt_or_eq_of_le (hi k g1 g2) with g|g
  ·exact .inl g
  ·exact .inr ⟨g,hc a k (zzC _) (Nat.lt_succ_self _) qO g2 g⟩
 intro p q hp hpq hq
 rcases(show p<i - 1∨p=i - 1∨i≤p by omega) with hp1|hp1|hp1
 ·rw[r1 p hp hp1]
  rcases(show q<i - 1∨q=i - 1∨i≤q by omega) with hq1|hq1|hq1
  ·rw[r1 q qO hq1];exact s2 _ _ qO qO qO
  ·rw[hq1,r2];exact .inl (lo _ qO qO)
  ·rw[r3 q hq1];exact s2 _ _ qO qO hq
 ·rw[hp1,r2,r3 q qO];exact top q qO hq
 ·rw[r3 p hp1,r3 q qO];exact s2 _ _ qO hpq hq
theorem zKQ {d:Nat→AE}{a i m:Nat}(h1:a≤i)(h2:i≤m)(s1:Seg d a m)(hc:zIR d a m (m+1))(lo:∀ k,a≤k→k<i→(d k).1.fin≤(d m).1.fin)(hi:∀ k,i≤k→k<m→(d m).1.fin<(d k).1.fin) :
  Seg (zAd d i m (m+1)) a (m+1):=by
 have r1:∀ k,k<i→zAd d i m (m+1) k=d k:=fun k g1=>by unfold zAd;rw[if_neg qO,if_neg qO]
 have r2:zAd d i m (m+1) i=d m:=by unfold zAd;rw[if_pos qO];congr 1;omega
 have r3:∀ k,i<k→k<m+1→zAd d i m (m+1) k=d (k - 1):=fun k g1 g2=>by unfold zAd;rw[if_neg qO,if_pos qO];congr 1;omega
 have bot:∀ k,a≤k→k<i→slt (d k) (d m):=fun k g1 g2=>by
  rcases Int.lt_or_eq_of_le (lo k g1 g2) with g|g
  ·exact .inl g
  ·exact .inr ⟨g,hc k m g1 qO (zzC _) (Nat.lt_succ_self _) g⟩
 intro p q hp hpq hq
 rcases(show p<i∨p=i∨i<p by omega) with hp1|hp1|hp1
 ·rw[r1 p hp1]
  rcases(show q<i∨q=i∨i<q by omega) with hq1|hq1|hq1
  ·rw[r1 q hq1];exact s1 _ _ hp hpq qO
  ·rw[hq1,r2];exact bot p hp hp1
  ·rw[r3 q hq1 hq];exact s1 _ _ hp qO qO
 ·rw[hp1,r2,r3 q qO hq];exact .inl (hi _ qO qO)
 ·rw[r3 p hp1 qO,r3 q qO hq];exact s1 _ _ qO qO qO
theorem half (x y:Nat)(h:x+y<4294967296):IntKind.i64.wrap ((IntKind.u64.wrap (IntKind.i64.wrap ((x:Int)+y))).fdiv (2 ^ min 1 IntKind.u64.bits))=(((x+y) / 2:Nat):Int):=by
 rw[w64 (x:=(x:Int)+y) qO qO,u64_id qO qO]
 show IntKind.i64.wrap (Int.fdiv ((x:Int)+y) 2)=_
 rw[Int.fdiv_eq_ediv_of_nonneg _ (by decide),w64 qO qO]
 omega
theorem zNE {w0:World}{g len n cap:Nat}{G:zC}(hn:n<1073741824):∀ (s:Nat) {a m b:Nat} {d:Nat→AE} {cs:List Value} {w:World},b - a≤s→a<m→m<b→b≤n→Arr w0 g len n G d cs w→Seg d a m→Seg d m b→zIR d a m b →
  Calls Tryz.prog 150 [.slice (some ⟨g,0,none⟩) n cap,.int .i64 (a:Int),.int .i64 (m:Int),.int .i64 (b:Int),.func (.func 62) #[] #[]].toArray w (SM w0 g len n G d a b):=by
 intro s
 induction s with
 | zero=>intro a m b d cs w hs h1 h2;omega
 | succ s ih =>
 intro a m b d cs w hs ham hmb hbn hA s1 s2 hc
 refine enter [] Tryz.func150 rfl Tryz.ntmps150 rfl rfl ?_
 have H:=hA
 clear hA
 have e1:IntKind.i64.wrap ((m:Int) - a)=((m - a:Nat):Int):=by rw[w64 qO qO];omega
 have e2:IntKind.i64.wrap ((b:Int) - m)=((b - m:Nat):Int):=by rw[w64 qO qO];omega
 repeat' (first|refine yT ?_|refine yU ?_|fail)
 rw[e1]
 refine zD rfl (fun h=>?_) (fun h=>?_)
 ·have hma:m=a+1:=by simp at h;omega
  repeat' (first|refine yT ?_|refine yU ?_|with_reducible apply zB|fail)
  refine zI [(10,12),(31,53)] (fun x:Nat × Nat=>[(10,.int .i64 (x.1:Int)),(11,.int .i64 (x.2:Int))])
   (fun x w=>m≤x.1∧x.1≤x.2∧x.2≤b∧(∀ k,m≤k→k<x.1→(d k).1.fin<(d a).1.fin)∧(∀ k,x.2≤k→k<b→(d a).1.fin≤(d k).1.fin)∧Arr w0 g len n G d cs w) (fun x=>x.2 - x.1) (m,b)
   ⟨rfl,rfl,trivial⟩ ⟨zzC _,by show m≤b;omega,zzC _,fun k g1 g2=>by have:k<m:=g2;omega,fun k g1 g2=>by have:b≤k:=g1;omega,H⟩ ?_
  clear H
  rintro⟨i,j⟩ gh w ⟨l1,l2,l3,l4,l5,H⟩
  simp only at l1 l2 l3 l4 l5 ⊢
  repeat' (first|refine yT ?_|refine yU ?_|fail)
  refine zD rfl (fun h2=>?_) (fun h2=>?_)
  ·have hij:i<j:=by have:=zzA h2;omega
   repeat' (first|refine yT ?_|refine yU ?_|with_reducible apply zB|fail)
   rw[half i j qO]
   generalize hcc:(i+j) / 2=c
   have c1:i≤c:=by omega
   have c2:c<j:=by omega
   repeat' (first|refine yT ?_|refine x41 sg H.slb ?_|refine x43 sg H.slb H.st.mem ?_|(refine' y35 zNj ?_ ?_;rotate_left;exact(fun _ hcl=>zJ1 (d c) (d a) _))|(with_reducible apply zO;intro w hcl;replace H:=H.ext hcl;clear hcl)|refine yU ?_|refine y20 mixed ?_|fail)
   rw[zFw]
   refine zD rfl (fun h3=>?_) (fun h3=>?_)
   ·have h3:=zzA h3
    repeat' (first|refine yT ?_|refine yU ?_|fail)
    refine zF (c+1,j) rfl ⟨zf qO,rfl,trivial⟩ ⟨by show m≤c+1;omega,by show c+1≤j;omega,l3,fun k g1 g2=>?_,l5,H⟩ (by show j - (c+1)<j - i;omega)
    rcases Nat.lt_or_ge k c with g|g
    ·rcases s2 k c g1 g qO with k1|k1<;>omega
    ·obtain rfl:k=c:=by have:k<c+1:=g2;omega
     exact h3
   ·have h3:=zzB h3
    repeat' (first|refine yT ?_|refine yU ?_|fail)
    refine zF (i,c) rfl ⟨rfl,rfl,trivial⟩ ⟨l1,c1,by show c≤b;omega,l4,fun k g1 g2=>?_,H⟩ (by show c - i<j - i;omega)
    have g1:c≤k:=g1
    rcases Nat.lt_or_ge c k with g|g
    ·rcases s2 c k qO g g2 with k1|k1<;>omega
    ·obtain rfl:k=c:=by omega
     omega
  ·have hij:i=j:=by have:=zzB h2;omega
   subst hij
   subst hma
   have e3:IntKind.i64.wrap ((i:Int) - 1)=((i - 1:Nat):Int):=by rw[w64 qO qO];omega
   repeat' (first|refine yT ?_|refine yU ?_|with_reducible apply zB|fail)
   refine zI [(13,13),(55,76)] (fun x:Nat × List Value=>[(13,.int .i64 ((a+x.1:Nat):Int))])
    (fun x w=>a+x.1≤i - 1∧Arr w0 g len n G (zAd d a (a+1) (a+1+x.1)) x.2 w) (fun x=>i - x.1) (0,cs) ⟨rfl,trivial⟩ ⟨by show a+0≤i - 1;omega,by show Arr w0 g len n G (zAd d a (a+1) (a+1+0)) cs w;rw[Nat.add_zero,zLl];exact H⟩ ?_
   clear H
   rintro⟨t,cs1⟩ gh w ⟨ht,H⟩
   simp only at ht H ⊢
   repeat' (first|refine yT ?_|refine yU ?_|fail)
   rw[e3]
   refine zD rfl (fun h5=>?_) (fun h5=>?_)
   ·have hlt:a+t<i - 1:=by have:=zzA h5;omega
    have hq:IntKind.i64.wrap (((a+t:Nat):Int)+1)=((a+t+1:Nat):Int):=by rw[w64 qO qO];omega
    generalize hd:zAd d a (a+1) (a+1+t)=d1 at H
    repeat' (first|refine yT ?_|(refine zA2 mixed 18 ?_ ?_;exact rfl;intro w hcl;replace H:=H.ext hcl;clear hcl)|((with_reducible apply zEg);decide +kernel)|(refine' z8 0 ?_ ?_;rotate_left;first|exact z9 sg|exact(fun w=>zG sg H.slb rfl rfl rfl rfl rfl rfl rfl ((congrArg Int.toNat hq).trans (zz1 _)) (by rw[hq];omega) (by rw[hq];omega))|exact(fun w=>zG sg H.slb rfl rfl rfl rfl rfl rfl rfl (by with_reducible exact zz1 _) qO qO))|(refine' z8 1 ?_ ?_;rotate_left;first|exact z9 sg|exact(fun w=>zG sg H.slb rfl rfl rfl rfl rfl rfl rfl ((congrArg Int.toNat hq).trans (zz1 _)) (by rw[hq];omega) (by rw[hq];omega))|exact(fun w=>zG sg H.slb rfl rfl rfl rfl rfl rfl rfl (by with_reducible exact zz1 _) qO qO))|(refine' z8 2 ?_ ?_;rotate_left;first|exact z9 sg|exact(fun w=>zG sg H.slb rfl rfl rfl rfl rfl rfl rfl ((congrArg Int.toNat hq).trans (zz1 _)) (by rw[hq];omega) (by rw[hq];omega))|exact(fun w=>zG sg H.slb rfl rfl rfl rfl rfl rfl rfl (by with_reducible exact zz1 _) qO qO))|(refine' z8 3 ?_ ?_;rotate_left;first|exact z9 sg|exact(fun w=>zG sg H.slb rfl rfl rfl rfl rfl rfl rfl ((congrArg Int.toNat hq).trans (zz1 _)) (by rw[hq];omega) (by rw[hq];omega))|exact(fun w=>zG sg H.slb rfl rfl rfl rfl rfl rfl rfl (by with_reducible exact zz1 _) qO qO))|(refine' z8 4 ?_ ?_;rotate_left;first|exact z9 sg|exact(fun w=>zG sg H.slb rfl rfl rfl rfl rfl rfl rfl ((congrArg Int.toNat hq).trans (zz1 _)) (by rw[hq];omega) (by rw[hq];omega))|exact(fun w=>zG sg H.slb rfl rfl rfl rfl rfl rfl rfl (by with_reducible exact zz1 _) qO qO))|(refine' z8 5 ?_ ?_;rotate_left;first|exact z9 sg|exact(fun w=>zG sg H.slb rfl rfl rfl rfl rfl rfl rfl ((congrArg Int.toNat hq).trans (zz1 _)) (by rw[hq];omega) (by rw[hq];omega))|exact(fun w=>zG sg H.slb rfl rfl rfl rfl rfl rfl rfl (by with_reducible exact zz1 _) qO qO))|(refine' z8 6 ?_ ?_;rotate_left;first|exact z9 sg|exact(fun w=>zG sg H.slb rfl rfl rfl rfl rfl rfl rfl ((congrArg Int.toNat hq).trans (zz1 _)) (by rw[hq];omega) (by rw[hq];omega))|exact(fun w=>zG sg H.slb rfl rfl rfl rfl rfl rfl rfl (by with_reducible exact zz1 _) qO qO))|(refine' z8 7 ?_ ?_;rotate_left;first|exact z9 sg|exact(fun w=>zG sg H.slb rfl rfl rfl rfl rfl rfl rfl ((congrArg Int.toNat hq).trans (zz1 _)) (by rw[hq];omega) (by rw[hq];omega))|exact(fun w=>zG sg H.slb rfl rfl rfl rfl rfl rfl rfl (by with_reducible exact zz1 _) qO qO))|(refine' z8 8 ?_ ?_;rotate_left;first|exact z9 sg|exact(fun w=>zG sg H.slb rfl rfl rfl rfl rfl rfl rfl ((congrArg Int.toNat hq).trans (zz1 _)) (by rw[hq];omega) (by rw[hq];omega))|exact(fun w=>zG sg H.slb rfl rfl rfl rfl rfl rfl rfl (by with_reducible exact zz1 _) qO qO))|(refine' z8 10 ?_ ?_;rotate_left;first|exact z9 sg|exact(fun w=>zG sg H.slb rfl rfl rfl rfl rfl rfl rfl ((congrArg Int.toNat hq).trans (zz1 _)) (by rw[hq];omega) (by rw[hq];omega))|exact(fun w=>zG sg H.slb rfl rfl rfl rfl rfl rfl rfl (by with_reducible exact zz1 _) qO qO))|(refine' z8 11 ?_ ?_;rotate_left;first|exact z9 sg|exact(fun w=>zG sg H.slb rfl rfl rfl rfl rfl rfl rfl ((congrArg Int.toNat hq).trans (zz1 _)) (by rw[hq];omega) (by rw[hq];omega))|exact(fun w=>zG sg H.slb rfl rfl rfl rfl rfl rfl rfl (by with_reducible exact zz1 _) qO qO))|(refine' z8 12 ?_ ?_;rotate_left;first|exact z9 sg|exact(fun w=>zG sg H.slb rfl rfl rfl rfl rfl rfl rfl ((congrArg Int.toNat hq).trans (zz1 _)) (by rw[hq];omega) (by rw[hq];omega))|exact(fun w=>zG sg H.slb rfl rfl rfl rfl rfl rfl rfl (by with_reducible exact zz1 _) qO qO))|(refine' z8 14 ?_ ?_;rotate_left;first|exact z9 sg|exact(fun w=>zG sg H.slb rfl rfl rfl rfl rfl rfl rfl ((congrArg Int.toNat hq).trans (zz1 _)) (by rw[hq];omega) (by rw[hq];omega))|exact(fun w=>zG sg H.slb rfl rfl rfl rfl rfl rfl rfl (by with_reducible exact zz1 _) qO qO))|(refine' z8 16 ?_ ?_;rotate_left;first|exact z9 sg|exact(fun w=>zG sg H.slb rfl rfl rfl rfl rfl rfl rfl ((congrArg Int.toNat hq).trans (zz1 _)) (by rw[hq];omega) (by rw[hq];omega))|exact(fun w=>zG sg H.slb rfl rfl rfl rfl rfl rfl rfl (by with_reducible exact zz1 _) qO qO))|refine z10 9 ?_|refine z10 13 ?_|refine z10 15 ?_|refine z10 17 ?_|refine z11 9 13 ?_ ?_|refine x42 sg H.slb H.st.mem ?_|(refine OX.storeB sg H.st rfl rfl rfl rfl rfl (AE.c_len _) (H.fit qO _) (AE.c_one _) ?_;intro w HS;replace H:=H.put qO HS;clear HS)|refine yU ?_|with_reducible apply zB|fail)
    all_goals
     rw[zJ2 qO,← hd,zLk] at H
     exact zF (t+1,_) rfl ⟨vint qO qO (by show((a+t:Nat):Int)+1=((a+(t+1):Nat):Int);omega),trivial⟩ ⟨by show a+(t+1)≤i - 1;omega,H⟩ (by show i - (t+1)<i - t;omega)
   ·have hlt:a+1+t=i:=by have:=zzB h5;omega
    rw[hlt] at H
    repeat' (first|refine yU ?_|fail)
    exact zBn (vs:=[]) (M:=_) trivial H.st ⟨rfl,_,_,rfl,H.len,H.els,zND l1 l3 s2 hc l4 l5,fun k hk=>zFN (Nat.le_succ a) l1 k qO,(zKP (Nat.le_succ a) l1).wide (zFN (Nat.le_succ a) l1) (zzC _) qO l3⟩
 ·have hma:¬ m=a+1:=by rintro rfl;simp at h
  repeat' (first|refine yT ?_|refine yU ?_|fail)
  rw[e2]
  refine zD rfl (fun h=>?_) (fun h=>?_)
  ·have hmb1:b=m+1:=by simp at h;omega
   subst hmb1
   repeat' (first|refine yT ?_|refine yU ?_|with_reducible apply zB|fail)
   refine zI [(14,16),(83,106)] (fun x:Nat × Nat=>[(14,.int .i64 (x.1:Int)),(15,.int .i64 (x.2:Int))])
    (fun x w=>a≤x.1∧x.1≤x.2∧x.2≤m∧(∀ k,a≤k→k<x.1→(d k).1.fin≤(d m).1.fin)∧(∀ k,x.2≤k→k<m→(d m).1.fin<(d k).1.fin)∧Arr w0 g len n G d cs w) (fun x=>x.2 - x.1) (a,m)
    ⟨rfl,rfl,trivial⟩ ⟨zzC _,by show a≤m;omega,zzC _,fun k g1 g2=>by have:k<a:=g2;omega,fun k g1 g2=>by have:m≤k:=g1;omega,H⟩ ?_
   clear H
   rintro⟨i,j⟩ gh w ⟨l1,l2,l3,l4,l5,H⟩
   simp only at l1 l2 l3 l4 l5 ⊢
   repeat' (first|refine yT ?_|refine yU ?_|fail)
   refine zD rfl (fun h2=>?_) (fun h2=>?_)
   ·have hij:i<j:=by have:=zzA h2;omega
    repeat' (first|refine yT ?_|refine yU ?_|with_reducible apply zB|fail)
    rw[half i j qO]
    generalize hcc:(i+j) / 2=c
    have c1:i≤c:=by omega
    have c2:c<j:=by omega
    repeat' (first|refine yT ?_|refine x41 sg H.slb ?_|refine x43 sg H.slb H.st.mem ?_|(refine' y35 zNj ?_ ?_;rotate_left;exact(fun _ hcl=>zJ1 (d m) (d c) _))|(with_reducible apply zO;intro w hcl;replace H:=H.ext hcl;clear hcl)|refine yU ?_|refine y20 mixed ?_|fail)
    rw[zFw]
    refine zD rfl (fun h3=>?_) (fun h3=>?_)
    ·have h3:¬ (d m).1.fin<(d c).1.fin:=by simpa using h3
     repeat' (first|refine yT ?_|refine yU ?_|fail)
     refine zF (c+1,j) rfl ⟨zf qO,rfl,trivial⟩ ⟨by show a≤c+1;omega,by show c+1≤j;omega,l3,fun k g1 g2=>?_,l5,H⟩ (by show j - (c+1)<j - i;omega)
     rcases Nat.lt_or_ge k c with g|g
     ·rcases s1 k c g1 g qO with k1|k1<;>omega
     ·obtain rfl:k=c:=by have:k<c+1:=g2;omega
      omega
    ·have h3:(d m).1.fin<(d c).1.fin:=by simpa using h3
     repeat' (first|refine yT ?_|refine yU ?_|fail)
     refine zF (i,c) rfl ⟨rfl,rfl,trivial⟩ ⟨l1,c1,by show c≤m;omega,l4,fun k g1 g2=>?_,H⟩ (by show c - i<j - i;omega)
     have g1:c≤k:=g1
     rcases Nat.lt_or_ge c k with g|g
     ·rcases s1 c k qO g g2 with k1|k1<;>omega
     ·obtain rfl:k=c:=by omega
      exact h3
   ·have hij:i=j:=by have:=zzB h2;omega
    subst hij
    repeat' (first|refine yT ?_|refine yU ?_|with_reducible apply zB|fail)
    refine zI [(17,17),(108,128)] (fun x:Nat × List Value=>[(17,.int .i64 (x.1:Int))])
     (fun x w=>i≤x.1∧x.1≤m∧Arr w0 g len n G (zAd d x.1 m (m+1)) x.2 w) (fun x=>x.1 - i) (m,cs) ⟨rfl,trivial⟩ ⟨l3,zzC _,by show Arr w0 g len n G (zAd d m m (m+1)) cs w;rw[zGm];exact H⟩ ?_
    clear H
    rintro⟨k,cs1⟩ gh w ⟨k1,k2,H⟩
    simp only at k1 k2 H ⊢
    repeat' (first|refine yT ?_|refine yU ?_|fail)
    refine zD rfl (fun h5=>?_) (fun h5=>?_)
    ·have hlt:i<k:=by have:=zzA h5;omega
     obtain⟨q,rfl⟩:∃ q,k=q+1:=⟨k - 1,by omega⟩
     have hq:IntKind.i64.wrap (((q+1:Nat):Int) - 1)=((q:Nat):Int):=by rw[w64 qO qO];omega
     generalize hd:zAd d (q+1) m (m+1)=d1 at H
     repeat' (first|refine yT ?_|(refine zA2 mixed 18 ?_ ?_;exact rfl;intro w hcl;replace H:=H.ext hcl;clear hcl)|((with_reducible apply zEg);decide +kernel)|(refine' z8 0 ?_ ?_;rotate_left;first|exact z9 sg|exact(fun w=>zG sg H.slb rfl rfl rfl rfl rfl rfl rfl ((congrArg Int.toNat hq).trans (zz1 _)) (by rw[hq];omega) (by rw[hq];omega))|exact(fun w=>zG sg H.slb rfl rfl rfl rfl rfl rfl rfl (by with_reducible exact zz1 _) qO qO))|(refine' z8 1 ?_ ?_;rotate_left;first|exact z9 sg|exact(fun w=>zG sg H.slb rfl rfl rfl rfl rfl rfl rfl ((congrArg Int.toNat hq).trans (zz1 _)) (by rw[hq];omega) (by rw[hq];omega))|exact(fun w=>zG sg H.slb rfl rfl rfl rfl rfl rfl rfl (by with_reducible exact zz1 _) qO qO))|(refine' z8 2 ?_ ?_;rotate_left;first|exact z9 sg|exact(fun w=>zG sg H.slb rfl rfl rfl rfl rfl rfl rfl ((congrArg Int.toNat hq).trans (zz1 _)) (by rw[hq];omega) (by rw[hq];omega))|exact(fun w=>zG sg H.slb rfl rfl rfl rfl rfl rfl rfl (by with_reducible exact zz1 _) qO qO))|(refine' z8 3 ?_ ?_;rotate_left;first|exact z9 sg|exact(fun w=>zG sg H.slb rfl rfl rfl rfl rfl rfl rfl ((congrArg Int.toNat hq).trans (zz1 _)) (by rw[hq];omega) (by rw[hq];omega))|exact(fun w=>zG sg H.slb rfl rfl rfl rfl rfl rfl rfl (by with_reducible exact zz1 _) qO qO))|(refine' z8 4 ?_ ?_;rotate_left;first|exact z9 sg|exact(fun w=>zG sg H.slb rfl rfl rfl rfl rfl rfl rfl ((congrArg Int.toNat hq).trans (zz1 _)) (by rw[hq];omega) (by rw[hq];omega))|exact(fun w=>zG sg H.slb rfl rfl rfl rfl rfl rfl rfl (by with_reducible exact zz1 _) qO qO))|(refine' z8 5 ?_ ?_;rotate_left;first|exact z9 sg|exact(fun w=>zG sg H.slb rfl rfl rfl rfl rfl rfl rfl ((congrArg Int.toNat hq).trans (zz1 _)) (by rw[hq];omega) (by rw[hq];omega))|exact(fun w=>zG sg H.slb rfl rfl rfl rfl rfl rfl rfl (by with_reducible exact zz1 _) qO qO))|(refine' z8 6 ?_ ?_;rotate_left;first|exact z9 sg|exact(fun w=>zG sg H.slb rfl rfl rfl rfl rfl rfl rfl ((congrArg Int.toNat hq).trans (zz1 _)) (by rw[hq];omega) (by rw[hq];omega))|exact(fun w=>zG sg H.slb rfl rfl rfl rfl rfl rfl rfl (by with_reducible exact zz1 _) qO qO))|(refine' z8 7 ?_ ?_;rotate_left;first|exact z9 sg|exact(fun w=>zG sg H.slb rfl rfl rfl rfl rfl rfl rfl ((congrArg Int.toNat hq).trans (zz1 _)) (by rw[hq];omega) (by rw[hq];omega))|exact(fun w=>zG sg H.slb rfl rfl rfl rfl rfl rfl rfl (by with_reducible exact zz1 _) qO qO))|(refine' z8 8 ?_ ?_;rotate_left;first|exact z9 sg|exact(fun w=>zG sg H.slb rfl rfl rfl rfl rfl rfl rfl ((congrArg Int.toNat hq).trans (zz1 _)) (by rw[hq];omega) (by rw[hq];omega))|exact(fun w=>zG sg H.slb rfl rfl rfl rfl rfl rfl rfl (by with_reducible exact zz1 _) qO qO))|(refine' z8 10 ?_ ?_;rotate_left;first|exact z9 sg|exact(fun w=>zG sg H.slb rfl rfl rfl rfl rfl rfl rfl ((congrArg Int.toNat hq).trans (zz1 _)) (by rw[hq];omega) (by rw[hq];omega))|exact(fun w=>zG sg H.slb rfl rfl rfl rfl rfl rfl rfl (by with_reducible exact zz1 _) qO qO))|(refine' z8 11 ?_ ?_;rotate_left;first|exact z9 sg|exact(fun w=>zG sg H.slb rfl rfl rfl rfl rfl rfl rfl ((congrArg Int.toNat hq).trans (zz1 _)) (by rw[hq];omega) (by rw[hq];omega))|exact(fun w=>zG sg H.slb rfl rfl rfl rfl rfl rfl rfl (by with_reducible exact zz1 _) qO qO))|(refine' z8 12 ?_ ?_;rotate_left;first|exact z9 sg|exact(fun w=>zG sg H.slb rfl rfl rfl rfl rfl rfl rfl ((congrArg Int.toNat hq).trans (zz1 _)) (by rw[hq];omega) (by rw[hq];omega))|exact(fun w=>zG sg H.slb rfl rfl rfl rfl rfl rfl rfl (by with_reducible exact zz1 _) qO qO))|(refine' z8 14 ?_ ?_;rotate_left;first|exact z9 sg|exact(fun w=>zG sg H.slb rfl rfl rfl rfl rfl rfl rfl ((congrArg Int.toNat hq).trans (zz1 _)) (by rw[hq];omega) (by rw[hq];omega))|exact(fun w=>zG sg H.slb rfl rfl rfl rfl rfl rfl rfl (by with_reducible exact zz1 _) qO qO))|(refine' z8 16 ?_ ?_;rotate_left;first|exact z9 sg|exact(fun w=>zG sg H.slb rfl rfl rfl rfl rfl rfl rfl ((congrArg Int.toNat hq).trans (zz1 _)) (by rw[hq];omega) (by rw[hq];omega))|exact(fun w=>zG sg H.slb rfl rfl rfl rfl rfl rfl rfl (by with_reducible exact zz1 _) qO qO))|refine z10 9 ?_|refine z10 13 ?_|refine z10 15 ?_|refine z10 17 ?_|refine z11 9 13 ?_ ?_|refine x42 sg H.slb H.st.mem ?_|(refine OX.storeB sg H.st rfl rfl rfl rfl rfl (AE.c_len _) (H.fit qO _) (AE.c_one _) ?_;intro w HS;replace H:=H.put qO HS;clear HS)|refine yU ?_|with_reducible apply zB|fail)
     all_goals
      rw[zJ2 qO,← hd,zFV qO] at H
      exact zF (q,_) rfl ⟨vint qO qO (by show((q+1:Nat):Int) - 1=(q:Int);omega),trivial⟩ ⟨by show i≤q;omega,by show q≤m;omega,H⟩ (by show q - i<q+1 - i;omega)
    ·obtain rfl:k=i:=by have:=zzB h5;omega
     repeat' (first|refine yU ?_|fail)
     exact zBn (vs:=[]) (M:=_) trivial H.st ⟨rfl,_,_,rfl,H.len,H.els,zKQ l1 l3 s1 hc l4 l5,fun q hk=>zFN k2 (Nat.le_succ m) q qO,(zKP k2 (Nat.le_succ m)).wide (zFN k2 (Nat.le_succ m)) l1 qO (zzC _)⟩
  ·have hmb2:¬ b=m+1:=by rintro rfl;simp at h
   repeat' (first|refine yT ?_|refine yU ?_|fail)
   rw[half a b qO]
   generalize hmid:(a+b) / 2=mid
   have e5:IntKind.i64.wrap ((mid:Int)+m)=((mid+m:Nat):Int):=by rw[w64 qO qO];omega
   rw[e5]
   refine CW.mid [(20,21),(141,146)] (fun x:Nat × Nat=>[(20,.int .i64 (x.1:Int)),(21,.int .i64 (x.2:Int))])
    (fun x w=>Arr w0 g len n G d cs w∧a≤x.1∧x.1≤x.2∧x.2≤m∧x.2≤mid∧mid+m≤b+x.1∧(x.1=a∨mid+m=b+x.1)∧(x.2=m∨x.2=mid)) (fun g=>?_) ?_
   ·refine zD rfl (fun h7=>?_) (fun h7=>?_)
    ·have h7:mid<m:=by have:=zzA h7;omega
     repeat' (first|refine yT ?_|refine yU ?_|fail)
     exact zF (mid+m - b,mid) rfl ⟨vint qO qO (by show((mid+m:Nat):Int) - b=((mid+m - b:Nat):Int);omega),rfl,trivial⟩ ⟨H,by show a≤mid+m - b;omega,by show mid+m - b≤mid;omega,by show mid≤m;omega,zzC _,by show mid+m≤b+(mid+m - b);omega,.inr (by show mid+m=b+(mid+m - b);omega),.inr rfl⟩ (Nat.lt_succ_self 0)
    ·have h7:m≤mid:=by have:=zzB h7;omega
     repeat' (first|refine yT ?_|refine yU ?_|fail)
     exact zF (a,m) rfl ⟨rfl,rfl,trivial⟩ ⟨H,zzC _,by show a≤m;omega,zzC _,h7,by show mid+m≤b+a;omega,.inl rfl,.inl rfl⟩ (Nat.lt_succ_self 0)
   clear H
   rintro⟨lo0,hi0⟩ gh w ⟨H,f1,f2,f3,f4,f5,f6,f7⟩
   simp only at f1 f2 f3 f4 f5 f6 f7 ⊢
   have e6:IntKind.i64.wrap (((mid+m:Nat):Int) - 1)=((mid+m - 1:Nat):Int):=by rw[w64 qO qO];omega
   repeat' (first|refine yT ?_|refine yU ?_|with_reducible apply zB|fail)
   rw[e6]
   refine zI [(20,21),(23,23),(149,174)] (fun x:Nat × Nat=>[(20,.int .i64 (x.1:Int)),(21,.int .i64 (x.2:Int))])
    (fun x w=>lo0≤x.1∧x.1≤x.2∧x.2≤hi0∧(∀ k,lo0≤k→k<x.1→(d k).1.fin≤(d (mid+m - 1 - k)).1.fin)∧(∀ k,x.2≤k→k<hi0→(d (mid+m - 1 - k)).1.fin<(d k).1.fin)∧Arr w0 g len n G d cs w) (fun x=>x.2 - x.1) (lo0,hi0)
    ⟨rfl,rfl,trivial⟩ ⟨zzC _,f2,zzC _,fun k g1 g2=>by have:k<lo0:=g2;omega,fun k g1 g2=>by have:hi0≤k:=g1;omega,H⟩ ?_
   clear H
   rintro⟨i,j⟩ gh w ⟨l1,l2,l3,l4,l5,H⟩
   simp only at l1 l2 l3 l4 l5 ⊢
   repeat' (first|refine yT ?_|refine yU ?_|fail)
   refine zD rfl (fun h2=>?_) (fun h2=>?_)
   ·have hij:i<j:=by have:=zzA h2;omega
    repeat' (first|refine yT ?_|refine yU ?_|with_reducible apply zB|fail)
    rw[half i j qO]
    generalize hcc:(i+j) / 2=c
    have c1:i≤c:=by omega
    have c2:c<j:=by omega
    have hq:IntKind.i64.wrap (((mid+m - 1:Nat):Int) - c)=((mid+m - 1 - c:Nat):Int):=by rw[w64 qO qO];omega
    repeat' (first|refine yT ?_|(refine zT rfl rfl (zG sg H.slb rfl rfl rfl rfl rfl rfl rfl ((congrArg Int.toNat hq).trans (zz1 _)) (by rw[hq];omega) (by rw[hq];omega)) ?_)|(refine zT rfl rfl (zG sg H.slb rfl rfl rfl rfl rfl rfl rfl (by with_reducible exact zz1 _) qO qO) ?_)|refine x43 sg H.slb H.st.mem ?_|(refine' y35 zNj ?_ ?_;rotate_left;exact(fun _ hcl=>zJ1 (d (mid+m - 1 - c)) (d c) _))|(with_reducible apply zO;intro w hcl;replace H:=H.ext hcl;clear hcl)|refine yU ?_|refine y20 mixed ?_|fail)
    rw[zFw]
    have mono1:∀ k,a≤k→k≤c→(d k).1.fin≤(d c).1.fin:=fun k g1 g2=>by
     rcases Nat.lt_or_ge k c with g|g
     ·rcases s1 k c g1 g qO with k1|k1<;>omega
     ·obtain rfl:k=c:=by omega
      exact Int.le_refl _
    refine zD rfl (fun h3=>?_) (fun h3=>?_)
    ·have h3:¬ (d (mid+m - 1 - c)).1.fin<(d c).1.fin:=by simpa using h3
     repeat' (first|refine yT ?_|refine yU ?_|fail)
     refine zF (c+1,j) rfl ⟨zf qO,rfl,trivial⟩ ⟨by show lo0≤c+1;omega,by show c+1≤j;omega,l3,fun k g1 g2=>?_,l5,H⟩ (by show j - (c+1)<j - i;omega)
     have g2:k<c+1:=g2
     have k1:=mono1 k qO qO
     rcases Nat.lt_or_ge k c with g|g
     ·rcases s2 (mid+m - 1 - c) (mid+m - 1 - k) qO qO qO with k2|k2<;>omega
     ·obtain rfl:k=c:=by omega
      omega
    ·have h3:(d (mid+m - 1 - c)).1.fin<(d c).1.fin:=by simpa using h3
     repeat' (first|refine yT ?_|refine yU ?_|fail)
     refine zF (i,c) rfl ⟨rfl,rfl,trivial⟩ ⟨l1,c1,by show c≤hi0;omega,l4,fun k g1 g2=>?_,H⟩ (by show c - i<j - i;omega)
     have g1:c≤k:=g1
     rcases Nat.lt_or_ge c k with g|g
     ·rcases s1 c k qO g qO with k1|k1<;>rcases s2 (mid+m - 1 - k) (mid+m - 1 - c) qO qO qO with k2|k2<;>omega
     ·obtain rfl:k=c:=by omega
      exact h3
   ·have hij:i=j:=by have:=zzB h2;omega
    subst hij
    have e7:IntKind.i64.wrap (((mid+m:Nat):Int) - i)=((mid+m - i:Nat):Int):=by rw[w64 qO qO];omega
    have hlo:a<i→mid+m - i<b→(d (i - 1)).1.fin≤(d (mid+m - i)).1.fin:=fun g1 g2=>by
     have:=l4 (i - 1) qO qO
     rwa [show mid+m - 1 - (i - 1)=mid+m - i by omega] at this
    have hhi:i<m→m<mid+m - i→(d (mid+m - i - 1)).1.fin<(d i).1.fin:=fun g1 g2=>by
     have:=l5 i (zzC _) qO
     rwa [show mid+m - 1 - i=mid+m - i - 1 by omega] at this
    have split:=zP0 (stop:=mid+m - i) ham hmb hmid.symm qO qO qO qO qO s1 s2 hc hlo hhi
    obtain⟨st,hst⟩:∃ st,st=mid+m - i:=⟨_,rfl⟩
    rw[← hst] at e7 split
    obtain⟨D,hD⟩:∃ D,D=zAd d i m st:=⟨_,rfl⟩
    rw[← hD] at split
    have him:i≤m:=by omega
    have hmst:m≤st:=by omega
    have d1:∀ k,k<i→D k=d k:=fun k g1=>by rw[hD];unfold zAd;rw[if_neg qO,if_neg qO]
    have d2:∀ k,i≤k→k<mid→D k=d (m+(k - i)):=fun k g1 g2=>by rw[hD];unfold zAd;rw[if_pos qO]
    have d3:∀ k,mid≤k→k<st→D k=d (k - (st - m)):=fun k g1 g2=>by rw[hD];unfold zAd;rw[if_neg qO,if_pos qO]
    have d4:∀ k,st≤k→D k=d k:=fun k g1=>by rw[hD];unfold zAd;rw[if_neg qO,if_neg qO]
    have t1:Seg D a i:=fun p q g1 g2 g3=>by rw[d1 p qO,d1 q g3];exact s1 _ _ g1 g2 qO
    have t2:Seg D i mid:=fun p q g1 g2 g3=>by rw[d2 p g1 qO,d2 q qO g3];exact s2 _ _ qO qO qO
    have t3:Seg D mid st:=fun p q g1 g2 g3=>by rw[d3 p g1 qO,d3 q qO g3];exact s1 _ _ qO qO qO
    have t4:Seg D st b:=fun p q g1 g2 g3=>by rw[d4 p g1,d4 q qO];exact s2 _ _ qO g2 g3
    have x1:zIR D a i mid:=fun p q g1 g2 g3 g4 e=>by rw[d1 p g2,d2 q g3 g4] at *;exact hc _ _ g1 qO qO qO e
    have x2:zIR D mid st b:=fun p q g1 g2 g3 g4 e=>by rw[d3 p g1 g2,d4 q g3] at *;exact hc _ _ qO qO qO g4 e
    have rotC:∀ {cs:List Value} {w:World},Arr w0 g len n G d cs w→i<m→m<st→Calls Tryz.prog 197 [.slice (some ⟨g,0,none⟩) n cap,.int .i64 (i:Int),.int .i64 (m:Int),.int .i64 (IntKind.i64.wrap (((mid+m:Nat):Int) - i)),.func (.func 62) #[] #[]].toArray w (zNC w0 g len n G D):=fun H g1 g2=>by
     rw[e7,hD];exact zSh (f:=.nilFunc) H g1 g2 qO qO
    have symL:∀ {cs:List Value} {w:World},Arr w0 g len n G D cs w→a<i→i<mid→Calls Tryz.prog 150 [.slice (some ⟨g,0,none⟩) n cap,.int .i64 (a:Int),.int .i64 (i:Int),.int .i64 (mid:Int),.func (.func 62) #[] #[]].toArray w (SM w0 g len n G D a mid):=fun H g1 g2=>ih qO g1 g2 qO H t1 t2 x1
    have symR:∀ {dl:Nat→AE} {cs:List Value} {w:World},(∀ k,mid≤k→dl k=D k)→Arr w0 g len n G dl cs w→mid<st→st<b→Calls Tryz.prog 150 [.slice (some ⟨g,0,none⟩) n cap,.int .i64 (mid:Int),.int .i64 (IntKind.i64.wrap (((mid+m:Nat):Int) - i)),.int .i64 (b:Int),.func (.func 62) #[] #[]].toArray w (SM w0 g len n G dl mid b):=fun{dl} {cs} {w} hl H g1 g2=>by
     rw[e7]
     exact ih qO g1 g2 hbn H (fun p q k1 k2 k3=>by rw[hl p k1,hl q qO];exact t3 p q k1 k2 k3) (fun p q k1 k2 k3=>by rw[hl p qO,hl q qO];exact t4 p q k1 k2 k3) (fun p q k1 k2 k3 k4 e=>by rw[hl p k1,hl q qO] at *;exact x2 p q k1 k2 k3 k4 e)
    have rD:¬ (i<m∧m<st)→D=d:=fun r=>by
     rw[hD]
     rcases(show i=m∨st=m by omega) with r|r
     ·rw[r];exact zGm
     ·rw[r];exact zLl
    have fin:∀ {dl dr:Nat→AE},Seg dl a mid→Out D dl a mid→Pm D dl a mid→Seg dr mid b→Out dl dr mid b→Pm dl dr mid b→Seg dr a b∧Out d dr a b∧Pm d dr a b:=fun k1 k2 k3 k4 k5 k6=>by
     obtain⟨q1,q2,q3⟩:=Seg.halves qO qO split k1 k2 k3 k4 k5 k6
     have o1:Out d D i st:=by rw[hD];exact zFN him hmst
     have o2:Pm d D i st:=by rw[hD];exact zKP him hmst
     exact⟨q1,fun k hk=>by rw[q2 k hk,o1 k qO],(o2.wide o1 qO qO qO).trans q3⟩
    have zl:¬ (a<i∧i<mid)→Seg D a mid:=fun r=>by
     rcases(show i=a∨i=mid by omega) with r|r
     ·rw[← r];exact t2
     ·rw[← r];exact t1
    have zr:¬ (mid<st∧st<b)→Seg D mid b:=fun r=>by
     rcases(show st=mid∨st=b by omega) with r|r
     ·rw[← r];exact t4
     ·rw[← r];exact t3
    clear d1 d2 d3 d4 t1 t2 t3 t4 x1 x2 split hlo hhi l4 l5 s1 s2 hc ih
    by_cases r1:i<m∧m<st
    all_goals by_cases r2:a<i∧i<mid
    all_goals by_cases r3:mid<st∧st<b
    all_goals try (have H:=(rD r1).symm ▸ H)
    all_goals repeat' (first|refine yT ?_|(refine za rfl rfl (En.fn ent197 rfl rfl) (rotC H r1.1 r1.2) ?_;rintro _ _ w ⟨rfl,cs',rfl,hl,he⟩ HS;replace H:Arr w0 g len n G D cs' w:=⟨HS,hl,he⟩)|(refine za rfl rfl (En.fn zJW rfl rfl) (symL H r2.1 r2.2) ?_;rintro _ _ w ⟨rfl,dl,cs',rfl,hl,he,q1,q2,q3⟩ HS;replace H:Arr w0 g len n G dl cs' w:=⟨HS,hl,he⟩)|(refine za rfl rfl (En.fn zJW rfl rfl) (symR (fun k hk=>q2 k (.inr hk)) H r3.1 r3.2) ?_;rintro _ _ w ⟨rfl,dr,cs',rfl,hl,he,p1,p2,p3⟩ HS;replace H:Arr w0 g len n G dr cs' w:=⟨HS,hl,he⟩)|(refine za rfl rfl (En.fn zJW rfl rfl) (symR (fun k hk=>rfl) H r3.1 r3.2) ?_;rintro _ _ w ⟨rfl,dr,cs',rfl,hl,he,p1,p2,p3⟩ HS;replace H:Arr w0 g len n G dr cs' w:=⟨HS,hl,he⟩)|refine yU ?_|((first|refine y17 ?_ ?_|refine y23 ?_ ?_);all_goals(intro h;try (exfalso;first|((simp only[decide_eq_true_eq,decide_eq_false_iff_not,beq_iff_eq,beq_eq_false_iff_ne,bne_iff_ne,ne_eq,Bool.not_eq_true,Int.not_lt,Int.not_le,gt_iff_lt,ge_iff_le] at h;omega);done)|(rw[e7] at h;(simp only[decide_eq_true_eq,decide_eq_false_iff_not,beq_iff_eq,beq_eq_false_iff_ne,bne_iff_ne,ne_eq,Bool.not_eq_true,Int.not_lt,Int.not_le,gt_iff_lt,ge_iff_le] at h;omega);done))))|fail)
    all_goals first
     | exact zBn (vs:=[]) (M:=_) trivial H.st ⟨rfl,_,_,rfl,H.len,H.els,fin q1 q2 q3 p1 p2 p3⟩
     | exact zBn (vs:=[]) (M:=_) trivial H.st ⟨rfl,_,_,rfl,H.len,H.els,fin (zl r2) (fun _ _=>rfl) (Pm.refl _ _ _) p1 p2 p3⟩
     | exact zBn (vs:=[]) (M:=_) trivial H.st ⟨rfl,_,_,rfl,H.len,H.els,fin q1 q2 q3 (fun p q k1 k2 k3=>by rw[q2 p (.inr k1),q2 q (.inr qO)];exact zr r3 p q k1 k2 k3) (fun _ _=>rfl) (Pm.refl _ _ _)⟩
     | exact zBn (vs:=[]) (M:=_) trivial H.st ⟨rfl,_,_,rfl,H.len,H.els,fin (zl r2) (fun _ _=>rfl) (Pm.refl _ _ _) (zr r3) (fun _ _=>rfl) (Pm.refl _ _ _)⟩
end Go.Proofs.YthbflajpdhgfiaaGreatDoor
