/- Texts of ours, joined: the steps of the proof, or the claim's theorem. -/
import Derived.Test.YthbflajpdhgfiaaGreatDoorQd09
set_option linter.all false
set_option maxHeartbeats 16000000
namespace Go.Proofs.YthbflajpdhgfiaaGreatDoor
open Go Go.Sk Go.RowKit
def zCf (d:Nat→AE)(a b n:Nat):Nat→AE:=fun k=>if a≤k∧k<a+n then d (b+(k - a)) else if b≤k∧k<b+n then d (a+(k - b)) else d k
theorem zNA (d:Nat→AE)(a b:Nat):zCf d a b 0=d:=by
 funext k
 unfold zCf
 rw[if_neg qO,if_neg qO]
theorem zNB (d:Nat→AE){a b i:Nat}(h:a+i<b):sw (zCf d a b i) (a+i) (b+i)=zCf d a b (i+1):=by
 funext k
 unfold sw
 by_cases h1:k=a+i
 ·subst h1
  rw[if_pos rfl]
  unfold zCf
  rw[if_neg qO,if_neg qO,if_pos qO]
  congr 1;omega
 ·by_cases h2:k=b+i
  ·subst h2
   rw[if_neg h1,if_pos rfl]
   unfold zCf
   rw[if_neg qO,if_neg qO,if_neg qO,if_pos qO]
   congr 1;omega
  ·rw[if_neg h1,if_neg h2]
   unfold zCf
   repeat' split
   all_goals first|rfl|omega
def zNC (w0:World)(g len n:Nat)(G:zC)(d:Nat→AE):Ending→World→Prop:=zi (fun M v=>v=.tuple #[]∧∃ cs',M=cb g cs' 67::G∧cs'.length=len∧Els cs' 9 n (fun j=>(d j).c)) w0
theorem zE3 {w0 w:World}{g len n cap a b m:Nat}{G:zC}{d:Nat→AE}{cs:List Value}{f:Value}(hA:Arr w0 g len n G d cs w)(hab:a+m≤b)(hbn:b+m≤n)(hn:n<4611686018427387904) :
  Calls Tryz.prog 226 [.slice (some ⟨g,0,none⟩) n cap,.int .i64 (a:Int),.int .i64 (b:Int),.int .i64 (m:Int),f].toArray w (zNC w0 g len n G (zCf d a b m)):=by
 refine enter [] Tryz.func226 rfl Tryz.ntmps226 rfl rfl ?_
 have H:=hA
 repeat' (first|refine yT ?_|refine yU ?_|with_reducible apply zB|fail)
 refine zI [(10,37)] (fun x:Nat × List Value=>[(10,.int .i64 (x.1:Int))]) (fun x w=>x.1≤m∧Arr w0 g len n G (zCf d a b x.1) x.2 w) (fun x=>m - x.1) (0,cs) ⟨rfl,trivial⟩ ⟨zzD _,by rw[zNA];exact H⟩ ?_
 clear H hA
 rintro⟨i,cs1⟩ gh w ⟨hi,H⟩
 simp only at hi H ⊢
 repeat' (first|refine yT ?_|refine yU ?_|fail)
 refine zD rfl (fun h=>?_) (fun h=>?_)
 ·have him:i<m:=by have:=zzA h;omega
  have hqa:IntKind.i64.wrap ((a:Int)+i)=((a+i:Nat):Int):=by rw[w64 qO qO];omega
  have hqb:IntKind.i64.wrap ((b:Int)+i)=((b+i:Nat):Int):=by rw[w64 qO qO];omega
  generalize hd:zCf d a b i=d1 at H
  repeat' (first|refine yT ?_|(refine zA2 mixed 24 ?_ ?_;exact rfl;intro w hcl;replace H:=H.ext hcl;clear hcl)|((with_reducible apply zEg);decide +kernel)|(refine' z8 0 ?_ ?_;rotate_left;first|exact z9 sg|exact(fun w=>zG sg H.slb rfl rfl rfl rfl rfl rfl rfl ((congrArg Int.toNat hqa).trans (zz1 _)) (by rw[hqa];omega) (by rw[hqa];omega))|exact(fun w=>zG sg H.slb rfl rfl rfl rfl rfl rfl rfl ((congrArg Int.toNat hqb).trans (zz1 _)) (by rw[hqb];omega) (by rw[hqb];omega)))|(refine' z8 1 ?_ ?_;rotate_left;first|exact z9 sg|exact(fun w=>zG sg H.slb rfl rfl rfl rfl rfl rfl rfl ((congrArg Int.toNat hqa).trans (zz1 _)) (by rw[hqa];omega) (by rw[hqa];omega))|exact(fun w=>zG sg H.slb rfl rfl rfl rfl rfl rfl rfl ((congrArg Int.toNat hqb).trans (zz1 _)) (by rw[hqb];omega) (by rw[hqb];omega)))|(refine' z8 2 ?_ ?_;rotate_left;first|exact z9 sg|exact(fun w=>zG sg H.slb rfl rfl rfl rfl rfl rfl rfl ((congrArg Int.toNat hqa).trans (zz1 _)) (by rw[hqa];omega) (by rw[hqa];omega))|exact(fun w=>zG sg H.slb rfl rfl rfl rfl rfl rfl rfl ((congrArg Int.toNat hqb).trans (zz1 _)) (by rw[hqb];omega) (by rw[hqb];omega)))|(refine' z8 3 ?_ ?_;rotate_left;first|exact z9 sg|exact(fun w=>zG sg H.slb rfl rfl rfl rfl rfl rfl rfl ((congrArg Int.toNat hqa).trans (zz1 _)) (by rw[hqa];omega) (by rw[hqa];omega))|exact(fun w=>zG sg H.slb rfl rfl rfl rfl rfl rfl rfl ((congrArg Int.toNat hqb).trans (zz1 _)) (by rw[hqb];omega) (by rw[hqb];omega)))|(refine' z8 4 ?_ ?_;rotate_left;first|exact z9 sg|exact(fun w=>zG sg H.slb rfl rfl rfl rfl rfl rfl rfl ((congrArg Int.toNat hqa).trans (zz1 _)) (by rw[hqa];omega) (by rw[hqa];omega))|exact(fun w=>zG sg H.slb rfl rfl rfl rfl rfl rfl rfl ((congrArg Int.toNat hqb).trans (zz1 _)) (by rw[hqb];omega) (by rw[hqb];omega)))|(refine' z8 5 ?_ ?_;rotate_left;first|exact z9 sg|exact(fun w=>zG sg H.slb rfl rfl rfl rfl rfl rfl rfl ((congrArg Int.toNat hqa).trans (zz1 _)) (by rw[hqa];omega) (by rw[hqa];omega))|exact(fun w=>zG sg H.slb rfl rfl rfl rfl rfl rfl rfl ((congrArg Int.toNat hqb).trans (zz1 _)) (by rw[hqb];omega) (by rw[hqb];omega)))|(refine' z8 6 ?_ ?_;rotate_left;first|exact z9 sg|exact(fun w=>zG sg H.slb rfl rfl rfl rfl rfl rfl rfl ((congrArg Int.toNat hqa).trans (zz1 _)) (by rw[hqa];omega) (by rw[hqa];omega))|exact(fun w=>zG sg H.slb rfl rfl rfl rfl rfl rfl rfl ((congrArg Int.toNat hqb).trans (zz1 _)) (by rw[hqb];omega) (by rw[hqb];omega)))|(refine' z8 7 ?_ ?_;rotate_left;first|exact z9 sg|exact(fun w=>zG sg H.slb rfl rfl rfl rfl rfl rfl rfl ((congrArg Int.toNat hqa).trans (zz1 _)) (by rw[hqa];omega) (by rw[hqa];omega))|exact(fun w=>zG sg H.slb rfl rfl rfl rfl rfl rfl rfl ((congrArg Int.toNat hqb).trans (zz1 _)) (by rw[hqb];omega) (by rw[hqb];omega)))|(refine' z8 8 ?_ ?_;rotate_left;first|exact z9 sg|exact(fun w=>zG sg H.slb rfl rfl rfl rfl rfl rfl rfl ((congrArg Int.toNat hqa).trans (zz1 _)) (by rw[hqa];omega) (by rw[hqa];omega))|exact(fun w=>zG sg H.slb rfl rfl rfl rfl rfl rfl rfl ((congrArg Int.toNat hqb).trans (zz1 _)) (by rw[hqb];omega) (by rw[hqb];omega)))|(refine' z8 9 ?_ ?_;rotate_left;first|exact z9 sg|exact(fun w=>zG sg H.slb rfl rfl rfl rfl rfl rfl rfl ((congrArg Int.toNat hqa).trans (zz1 _)) (by rw[hqa];omega) (by rw[hqa];omega))|exact(fun w=>zG sg H.slb rfl rfl rfl rfl rfl rfl rfl ((congrArg Int.toNat hqb).trans (zz1 _)) (by rw[hqb];omega) (by rw[hqb];omega)))|(refine' z8 10 ?_ ?_;rotate_left;first|exact z9 sg|exact(fun w=>zG sg H.slb rfl rfl rfl rfl rfl rfl rfl ((congrArg Int.toNat hqa).trans (zz1 _)) (by rw[hqa];omega) (by rw[hqa];omega))|exact(fun w=>zG sg H.slb rfl rfl rfl rfl rfl rfl rfl ((congrArg Int.toNat hqb).trans (zz1 _)) (by rw[hqb];omega) (by rw[hqb];omega)))|(refine' z8 11 ?_ ?_;rotate_left;first|exact z9 sg|exact(fun w=>zG sg H.slb rfl rfl rfl rfl rfl rfl rfl ((congrArg Int.toNat hqa).trans (zz1 _)) (by rw[hqa];omega) (by rw[hqa];omega))|exact(fun w=>zG sg H.slb rfl rfl rfl rfl rfl rfl rfl ((congrArg Int.toNat hqb).trans (zz1 _)) (by rw[hqb];omega) (by rw[hqb];omega)))|(refine' z8 12 ?_ ?_;rotate_left;first|exact z9 sg|exact(fun w=>zG sg H.slb rfl rfl rfl rfl rfl rfl rfl ((congrArg Int.toNat hqa).trans (zz1 _)) (by rw[hqa];omega) (by rw[hqa];omega))|exact(fun w=>zG sg H.slb rfl rfl rfl rfl rfl rfl rfl ((congrArg Int.toNat hqb).trans (zz1 _)) (by rw[hqb];omega) (by rw[hqb];omega)))|(refine' z8 14 ?_ ?_;rotate_left;first|exact z9 sg|exact(fun w=>zG sg H.slb rfl rfl rfl rfl rfl rfl rfl ((congrArg Int.toNat hqa).trans (zz1 _)) (by rw[hqa];omega) (by rw[hqa];omega))|exact(fun w=>zG sg H.slb rfl rfl rfl rfl rfl rfl rfl ((congrArg Int.toNat hqb).trans (zz1 _)) (by rw[hqb];omega) (by rw[hqb];omega)))|(refine' z8 15 ?_ ?_;rotate_left;first|exact z9 sg|exact(fun w=>zG sg H.slb rfl rfl rfl rfl rfl rfl rfl ((congrArg Int.toNat hqa).trans (zz1 _)) (by rw[hqa];omega) (by rw[hqa];omega))|exact(fun w=>zG sg H.slb rfl rfl rfl rfl rfl rfl rfl ((congrArg Int.toNat hqb).trans (zz1 _)) (by rw[hqb];omega) (by rw[hqb];omega)))|(refine' z8 16 ?_ ?_;rotate_left;first|exact z9 sg|exact(fun w=>zG sg H.slb rfl rfl rfl rfl rfl rfl rfl ((congrArg Int.toNat hqa).trans (zz1 _)) (by rw[hqa];omega) (by rw[hqa];omega))|exact(fun w=>zG sg H.slb rfl rfl rfl rfl rfl rfl rfl ((congrArg Int.toNat hqb).trans (zz1 _)) (by rw[hqb];omega) (by rw[hqb];omega)))|(refine' z8 17 ?_ ?_;rotate_left;first|exact z9 sg|exact(fun w=>zG sg H.slb rfl rfl rfl rfl rfl rfl rfl ((congrArg Int.toNat hqa).trans (zz1 _)) (by rw[hqa];omega) (by rw[hqa];omega))|exact(fun w=>zG sg H.slb rfl rfl rfl rfl rfl rfl rfl ((congrArg Int.toNat hqb).trans (zz1 _)) (by rw[hqb];omega) (by rw[hqb];omega)))|(refine' z8 18 ?_ ?_;rotate_left;first|exact z9 sg|exact(fun w=>zG sg H.slb rfl rfl rfl rfl rfl rfl rfl ((congrArg Int.toNat hqa).trans (zz1 _)) (by rw[hqa];omega) (by rw[hqa];omega))|exact(fun w=>zG sg H.slb rfl rfl rfl rfl rfl rfl rfl ((congrArg Int.toNat hqb).trans (zz1 _)) (by rw[hqb];omega) (by rw[hqb];omega)))|(refine' z8 20 ?_ ?_;rotate_left;first|exact z9 sg|exact(fun w=>zG sg H.slb rfl rfl rfl rfl rfl rfl rfl ((congrArg Int.toNat hqa).trans (zz1 _)) (by rw[hqa];omega) (by rw[hqa];omega))|exact(fun w=>zG sg H.slb rfl rfl rfl rfl rfl rfl rfl ((congrArg Int.toNat hqb).trans (zz1 _)) (by rw[hqb];omega) (by rw[hqb];omega)))|(refine' z8 22 ?_ ?_;rotate_left;first|exact z9 sg|exact(fun w=>zG sg H.slb rfl rfl rfl rfl rfl rfl rfl ((congrArg Int.toNat hqa).trans (zz1 _)) (by rw[hqa];omega) (by rw[hqa];omega))|exact(fun w=>zG sg H.slb rfl rfl rfl rfl rfl rfl rfl ((congrArg Int.toNat hqb).trans (zz1 _)) (by rw[hqb];omega) (by rw[hqb];omega)))|refine z10 13 ?_|refine z10 19 ?_|refine z10 21 ?_|refine z10 23 ?_|refine z11 13 19 ?_ ?_|refine x42 sg H.slb H.st.mem ?_|(refine OX.storeB sg H.st rfl rfl rfl rfl rfl (AE.c_len _) (H.fit qO _) (AE.c_one _) ?_;intro w HS;replace H:=H.put qO HS;clear HS)|refine yU ?_|with_reducible apply zB|fail)
  all_goals
   rw[zJ2 qO,← hd,zNB d qO] at H
   exact zF (i+1,_) rfl ⟨zf qO,trivial⟩ ⟨him,H⟩ (by show m - (i+1)<m - i;omega)
 ·have him:i=m:=by have:=zzB h;omega
  subst him
  repeat' (first|refine yU ?_|fail)
  exact zBn (vs:=[]) (M:=_) trivial H.st ⟨rfl,_,rfl,H.len,H.els⟩
def zAd (d:Nat→AE)(a m b:Nat):Nat→AE:=fun k=>if a≤k∧k<a+(b - m) then d (m+(k - a)) else if a+(b - m)≤k∧k<b then d (k - (b - m)) else d k
theorem rot_gt {d:Nat→AE}{m i j:Nat}(hi:i≤m)(hij:j<i):zAd (zCf d (m - i) m j) (m - (i - j)) m (m+j)=zAd d (m - i) m (m+j):=by
 funext k
 unfold zAd zCf
 repeat' split
 all_goals first|omega|rfl|(congr 1;omega)
theorem rot_lt {d:Nat→AE}{m i j:Nat}(hi:i≤m)(hij:i<j):zAd (zCf d (m - i) (m+j - i) i) (m - i) m (m+(j - i))=zAd d (m - i) m (m+j):=by
 funext k
 unfold zAd zCf
 repeat' split
 all_goals first|omega|rfl|(congr 1;omega)
theorem rot_eq {d:Nat→AE}{m i:Nat}(hi:i≤m):zCf d (m - i) m i=zAd d (m - i) m (m+i):=by
 funext k
 unfold zAd zCf
 repeat' split
 all_goals first|omega|rfl|(congr 1;omega)
structure Rt where
 i:Nat
 j:Nat
 d:Nat→AE
 cs:List Value
theorem zSh {w0 w:World}{g len n cap a m b:Nat}{G:zC}{d:Nat→AE}{cs:List Value}{f:Value}(hA:Arr w0 g len n G d cs w)(ham:a<m)(hmb:m<b)(hbn:b≤n)(hn:n<4611686018427387904) :
  Calls Tryz.prog 197 [.slice (some ⟨g,0,none⟩) n cap,.int .i64 (a:Int),.int .i64 (m:Int),.int .i64 (b:Int),.func (.func 62) #[] #[]].toArray w (zNC w0 g len n G (zAd d a m b)):=by
 refine enter [] Tryz.func197 rfl Tryz.ntmps197 rfl rfl ?_
 have H:=hA
 have e1:IntKind.i64.wrap ((m:Int) - a)=((m - a:Nat):Int):=by rw[w64 qO qO];omega
 have e2:IntKind.i64.wrap ((b:Int) - m)=((b - m:Nat):Int):=by rw[w64 qO qO];omega
 repeat' (first|refine yT ?_|refine yU ?_|with_reducible apply zB|fail)
 refine zI [(10,11),(18,49)] (fun x:Rt=>[(10,.int .i64 (x.i:Int)),(11,.int .i64 (x.j:Int))])
  (fun x w=>0<x.i∧x.i≤m∧0<x.j∧m+x.j≤n∧zAd x.d (m - x.i) m (m+x.j)=zAd d a m b∧Arr w0 g len n G x.d x.cs w) (fun x=>x.i+x.j) ⟨m - a,b - m,d,cs⟩
  ⟨by rw[← e1];rfl,by rw[← e2];rfl,trivial⟩ ⟨by show 0<m - a;omega,by show m - a≤m;omega,by show 0<b - m;omega,by show m+(b - m)≤n;omega,by show zAd d (m - (m - a)) m (m+(b - m))=_;rw[show m - (m - a)=a by omega,show m+(b - m)=b by omega],H⟩ ?_
 clear H hA
 rintro⟨i,j,d1,cs1⟩ gh w ⟨h1,h2,h3,h4,h5,H⟩
 simp only at h1 h2 h3 h4 h5 H ⊢
 have q1:IntKind.i64.wrap ((m:Int) - i)=((m - i:Nat):Int):=by rw[w64 qO qO];omega
 repeat' (first|refine yT ?_|refine yU ?_|fail)
 refine zD rfl (fun h=>?_) (fun h=>?_)
 ·have hne:i≠j:=by rintro rfl;simp at h
  repeat' (first|refine yT ?_|refine yU ?_|with_reducible apply zB|fail)
  refine zD rfl (fun h6=>?_) (fun h6=>?_)
  ·have hij:j<i:=by have:=zzA h6;omega
   repeat' (first|refine yT ?_|refine yU ?_|fail)
   rw[q1]
   repeat' (first|refine yT ?_|(refine za rfl rfl (En.fn zMM rfl rfl) (zE3 (a:=m - i) (b:=m) (m:=j) H qO qO hn) ?_;rintro _ _ w ⟨rfl,cs',rfl,hl,he⟩ HS)|refine yU ?_|fail)
   exact zF ⟨i - j,j,_,cs'⟩ rfl ⟨vint qO qO (by show(i:Int) - j=((i - j:Nat):Int);omega),rfl,trivial⟩ ⟨by show 0<i - j;omega,by show i - j≤m;omega,h3,h4,by rw[← h5];exact rot_gt h2 hij,⟨HS,hl,he⟩⟩ (by show i - j+j<i+j;omega)
  ·have hij:i<j:=by have:=zzB h6;omega
   have q3:IntKind.i64.wrap (IntKind.i64.wrap ((m:Int)+j) - i)=((m+j - i:Nat):Int):=by rw[w64 (x:=(m:Int)+j) qO qO,w64 qO qO];omega
   repeat' (first|refine yT ?_|refine yU ?_|fail)
   rw[q1,q3]
   repeat' (first|refine yT ?_|(refine za rfl rfl (En.fn zMM rfl rfl) (zE3 (a:=m - i) (b:=m+j - i) (m:=i) H qO qO hn) ?_;rintro _ _ w ⟨rfl,cs',rfl,hl,he⟩ HS)|refine yU ?_|fail)
   exact zF ⟨i,j - i,_,cs'⟩ rfl ⟨rfl,vint qO qO (by show(j:Int) - i=((j - i:Nat):Int);omega),trivial⟩ ⟨h1,h2,by show 0<j - i;omega,by show m+(j - i)≤n;omega,by rw[← h5];exact rot_lt h2 hij,⟨HS,hl,he⟩⟩ (by show i+(j - i)<i+j;omega)
 ·have hij : i = j := by have:(i:Int)=j:=by simpa using h
                         omega
  subst hij
  repeat' (first|refine yT ?_|refine yU ?_|fail)
  rw[q1]
  repeat' (first|(refine za rfl rfl (En.fn zMM rfl rfl) (zE3 (a:=m - i) (b:=m) (m:=i) H qO qO hn) ?_;rintro _ _ w ⟨rfl,cs',rfl,hl,he⟩ HS)|refine yU ?_|fail)
  rw[rot_eq h2,h5] at he
  exact zBn (vs:=[]) (M:=_) trivial HS ⟨rfl,_,rfl,hl,he⟩
end Go.Proofs.YthbflajpdhgfiaaGreatDoor
