/- Steps of the proof. -/
import Derived.Test.YtejhijhnlogikaaGreatDoorMe20
set_option linter.all false
set_option maxHeartbeats 16000000
namespace Go.Proofs.YtejhijhnlogikaaGreatDoor
section
open Go Go.Sk Go.RowKit Tryz
attribute [local irreducible] Go.Calls
def zC1 (d:Nat->AE)(a b n:Nat):Nat->AE:=fun k=>if a<=k/\k<a+n then d (b+(k - a)) else if b<=k/\k<b+n then d (a+(k - b)) else d k
theorem zPF (d:Nat->AE)(a b:Nat):zC1 d a b 0=d:=by funext k;unfold zC1;rw[if_neg qO,if_neg qO]
theorem zPG (d:Nat->AE){a b i:Nat}(h:a+i<b):sw (zC1 d a b i) (a+i) (b+i)=zC1 d a b (i+1):=by{
funext k;unfold sw;by_cases h1:k=a+i
.subst h1;rw[if_pos rfl];unfold zC1;rw[if_neg qO,if_neg qO,if_pos qO]
 congr 1;omega
.by_cases h2:k=b+i
 .subst h2;rw[if_neg h1,if_pos rfl];unfold zC1;rw[if_neg qO,if_neg qO,if_neg qO,if_pos qO]
  congr 1;omega
 .rw[if_neg h1,if_neg h2];unfold zC1;repeat' split
  all_goals first|rfl|omega}
def zPH (w0:World)(g len n:Nat)(G:zA)(d:Nat->AE):Ending->World->Prop:=zZ (fun M v=>v=.tuple #[]/\∃ cs',M=cb g cs' 86::G/\cs'.length=len/\Els cs' 9 n (fun j=>(d j).c)) w0
theorem zFj {w0 w:World}{g len n cap a b m:Nat}{G:zA}{d:Nat->AE}{cs:List Value}{f:Value}(hA:Arr w0 g len n G d cs w)(hab:a+m<=b)(hbn:b+m<=n)(hn:n<4611686018427387904) :
  Calls prog 242 [.slice (some ⟨g,0,none⟩) n cap,.int .i64 (a:Int),.int .i64 (b:Int),.int .i64 (m:Int),f].toArray w (zPH w0 g len n G (zC1 d a b m)):=by{
refine eN func242 ntmps242 ?_;have H:=hA;(repeat' first|refine yX ?_|fail);refine zD [(10,37)] (fun x:Nat × List Value=>[(10,.int .i64 (x.1:Int))]) (fun x w=>x.1<=m/\Arr w0 g len n G (zC1 d a b x.1) x.2 w) (fun x=>m - x.1) (0,cs) ⟨rfl,trivial⟩ ⟨zzD _,by rw[zPF];exact H⟩ ?_;clear H hA;rintro⟨i,cs1⟩ gh w ⟨hi,H⟩;simp only at hi H ⊢;(repeat' first|refine yX ?_|fail);refine zB rfl (fun h=>?_) (fun h=>?_)
.have him:i<m:=by have:=zzA h;omega
 have hqa:IntKind.i64.wrap ((a:Int)+i)=((a+i:Nat):Int):=by rw[w64 qO qO];omega
 have hqb:IntKind.i64.wrap ((b:Int)+i)=((b+i:Nat):Int):=by rw[w64 qO qO];omega
 generalize hd:zC1 d a b i=d1 at H;(repeat' first|refine yX ?_|(refine zBD mixed 24 ?_ ?_;exact rfl;intro w hcl;replace H:=H.ext hcl;clear hcl)|((with_reducible apply zFM);decide +kernel)|(refine' z8 0 ?_ ?_;rotate_left;first|exact z9 sg|exact(fun w=>zIX sg H.slb ((congrArg Int.toNat hqa).trans (zz1 _)) (by rw[hqa];omega) (by rw[hqa];omega))|exact(fun w=>zIX sg H.slb ((congrArg Int.toNat hqb).trans (zz1 _)) (by rw[hqb];omega) (by rw[hqb];omega)))|(refine' z8 1 ?_ ?_;rotate_left;first|exact z9 sg|exact(fun w=>zIX sg H.slb ((congrArg Int.toNat hqa).trans (zz1 _)) (by rw[hqa];omega) (by rw[hqa];omega))|exact(fun w=>zIX sg H.slb ((congrArg Int.toNat hqb).trans (zz1 _)) (by rw[hqb];omega) (by rw[hqb];omega)))|(refine' z8 2 ?_ ?_;rotate_left;first|exact z9 sg|exact(fun w=>zIX sg H.slb ((congrArg Int.toNat hqa).trans (zz1 _)) (by rw[hqa];omega) (by rw[hqa];omega))|exact(fun w=>zIX sg H.slb ((congrArg Int.toNat hqb).trans (zz1 _)) (by rw[hqb];omega) (by rw[hqb];omega)))|(refine' z8 3 ?_ ?_;rotate_left;first|exact z9 sg|exact(fun w=>zIX sg H.slb ((congrArg Int.toNat hqa).trans (zz1 _)) (by rw[hqa];omega) (by rw[hqa];omega))|exact(fun w=>zIX sg H.slb ((congrArg Int.toNat hqb).trans (zz1 _)) (by rw[hqb];omega) (by rw[hqb];omega)))|(refine' z8 4 ?_ ?_;rotate_left;first|exact z9 sg|exact(fun w=>zIX sg H.slb ((congrArg Int.toNat hqa).trans (zz1 _)) (by rw[hqa];omega) (by rw[hqa];omega))|exact(fun w=>zIX sg H.slb ((congrArg Int.toNat hqb).trans (zz1 _)) (by rw[hqb];omega) (by rw[hqb];omega)))|(refine' z8 5 ?_ ?_;rotate_left;first|exact z9 sg|exact(fun w=>zIX sg H.slb ((congrArg Int.toNat hqa).trans (zz1 _)) (by rw[hqa];omega) (by rw[hqa];omega))|exact(fun w=>zIX sg H.slb ((congrArg Int.toNat hqb).trans (zz1 _)) (by rw[hqb];omega) (by rw[hqb];omega)))|(refine' z8 6 ?_ ?_;rotate_left;first|exact z9 sg|exact(fun w=>zIX sg H.slb ((congrArg Int.toNat hqa).trans (zz1 _)) (by rw[hqa];omega) (by rw[hqa];omega))|exact(fun w=>zIX sg H.slb ((congrArg Int.toNat hqb).trans (zz1 _)) (by rw[hqb];omega) (by rw[hqb];omega)))|(refine' z8 7 ?_ ?_;rotate_left;first|exact z9 sg|exact(fun w=>zIX sg H.slb ((congrArg Int.toNat hqa).trans (zz1 _)) (by rw[hqa];omega) (by rw[hqa];omega))|exact(fun w=>zIX sg H.slb ((congrArg Int.toNat hqb).trans (zz1 _)) (by rw[hqb];omega) (by rw[hqb];omega)))|(refine' z8 8 ?_ ?_;rotate_left;first|exact z9 sg|exact(fun w=>zIX sg H.slb ((congrArg Int.toNat hqa).trans (zz1 _)) (by rw[hqa];omega) (by rw[hqa];omega))|exact(fun w=>zIX sg H.slb ((congrArg Int.toNat hqb).trans (zz1 _)) (by rw[hqb];omega) (by rw[hqb];omega)))|(refine' z8 9 ?_ ?_;rotate_left;first|exact z9 sg|exact(fun w=>zIX sg H.slb ((congrArg Int.toNat hqa).trans (zz1 _)) (by rw[hqa];omega) (by rw[hqa];omega))|exact(fun w=>zIX sg H.slb ((congrArg Int.toNat hqb).trans (zz1 _)) (by rw[hqb];omega) (by rw[hqb];omega)))|(refine' z8 10 ?_ ?_;rotate_left;first|exact z9 sg|exact(fun w=>zIX sg H.slb ((congrArg Int.toNat hqa).trans (zz1 _)) (by rw[hqa];omega) (by rw[hqa];omega))|exact(fun w=>zIX sg H.slb ((congrArg Int.toNat hqb).trans (zz1 _)) (by rw[hqb];omega) (by rw[hqb];omega)))|(refine' z8 11 ?_ ?_;rotate_left;first|exact z9 sg|exact(fun w=>zIX sg H.slb ((congrArg Int.toNat hqa).trans (zz1 _)) (by rw[hqa];omega) (by rw[hqa];omega))|exact(fun w=>zIX sg H.slb ((congrArg Int.toNat hqb).trans (zz1 _)) (by rw[hqb];omega) (by rw[hqb];omega)))|(refine' z8 12 ?_ ?_;rotate_left;first|exact z9 sg|exact(fun w=>zIX sg H.slb ((congrArg Int.toNat hqa).trans (zz1 _)) (by rw[hqa];omega) (by rw[hqa];omega))|exact(fun w=>zIX sg H.slb ((congrArg Int.toNat hqb).trans (zz1 _)) (by rw[hqb];omega) (by rw[hqb];omega)))|(refine' z8 14 ?_ ?_;rotate_left;first|exact z9 sg|exact(fun w=>zIX sg H.slb ((congrArg Int.toNat hqa).trans (zz1 _)) (by rw[hqa];omega) (by rw[hqa];omega))|exact(fun w=>zIX sg H.slb ((congrArg Int.toNat hqb).trans (zz1 _)) (by rw[hqb];omega) (by rw[hqb];omega)))|(refine' z8 15 ?_ ?_;rotate_left;first|exact z9 sg|exact(fun w=>zIX sg H.slb ((congrArg Int.toNat hqa).trans (zz1 _)) (by rw[hqa];omega) (by rw[hqa];omega))|exact(fun w=>zIX sg H.slb ((congrArg Int.toNat hqb).trans (zz1 _)) (by rw[hqb];omega) (by rw[hqb];omega)))|(refine' z8 16 ?_ ?_;rotate_left;first|exact z9 sg|exact(fun w=>zIX sg H.slb ((congrArg Int.toNat hqa).trans (zz1 _)) (by rw[hqa];omega) (by rw[hqa];omega))|exact(fun w=>zIX sg H.slb ((congrArg Int.toNat hqb).trans (zz1 _)) (by rw[hqb];omega) (by rw[hqb];omega)))|(refine' z8 17 ?_ ?_;rotate_left;first|exact z9 sg|exact(fun w=>zIX sg H.slb ((congrArg Int.toNat hqa).trans (zz1 _)) (by rw[hqa];omega) (by rw[hqa];omega))|exact(fun w=>zIX sg H.slb ((congrArg Int.toNat hqb).trans (zz1 _)) (by rw[hqb];omega) (by rw[hqb];omega)))|(refine' z8 18 ?_ ?_;rotate_left;first|exact z9 sg|exact(fun w=>zIX sg H.slb ((congrArg Int.toNat hqa).trans (zz1 _)) (by rw[hqa];omega) (by rw[hqa];omega))|exact(fun w=>zIX sg H.slb ((congrArg Int.toNat hqb).trans (zz1 _)) (by rw[hqb];omega) (by rw[hqb];omega)))|(refine' z8 20 ?_ ?_;rotate_left;first|exact z9 sg|exact(fun w=>zIX sg H.slb ((congrArg Int.toNat hqa).trans (zz1 _)) (by rw[hqa];omega) (by rw[hqa];omega))|exact(fun w=>zIX sg H.slb ((congrArg Int.toNat hqb).trans (zz1 _)) (by rw[hqb];omega) (by rw[hqb];omega)))|(refine' z8 22 ?_ ?_;rotate_left;first|exact z9 sg|exact(fun w=>zIX sg H.slb ((congrArg Int.toNat hqa).trans (zz1 _)) (by rw[hqa];omega) (by rw[hqa];omega))|exact(fun w=>zIX sg H.slb ((congrArg Int.toNat hqb).trans (zz1 _)) (by rw[hqb];omega) (by rw[hqb];omega)))|refine z10 13 ?_|refine z10 19 ?_|refine z10 21 ?_|refine z10 23 ?_|refine z11 13 19 ?_ ?_|refine x42 sg H.slb H.st.mem ?_|(refine OX.storeB sg H.st rfl rfl rfl rfl rfl (AE.c_len _) (H.fit qO _) (AE.c_one _) ?_;intro w HS;replace H:=H.put qO HS;clear HS)|fail)
 all_goals
  rw[zLo qO,<- hd,zPG d qO] at H;exact zC (i+1,_) rfl ⟨zU qO,trivial⟩ ⟨him,H⟩ (by show m - (i+1)<m - i;omega)
.have him:i=m:=by have:=zzB h;omega
 subst him;(repeat' first|refine yX ?_|fail);exact zB2 (vs:=[]) (M:=_) trivial H.st ⟨rfl,_,rfl,H.len,H.els⟩}
def zAd (d:Nat->AE)(a m b:Nat):Nat->AE:=fun k=>if a<=k/\k<a+(b - m) then d (m+(k - a)) else if a+(b - m)<=k/\k<b then d (k - (b - m)) else d k
theorem rot_gt {d:Nat->AE}{m i j:Nat}(hi:i<=m)(hij:j<i):zAd (zC1 d (m - i) m j) (m - (i - j)) m (m+j)=zAd d (m - i) m (m+j):=by
 funext k;unfold zAd zC1;repeat' split
 all_goals first|omega|rfl|(congr 1;omega)
theorem rot_lt {d:Nat->AE}{m i j:Nat}(hi:i<=m)(hij:i<j):zAd (zC1 d (m - i) (m+j - i) i) (m - i) m (m+(j - i))=zAd d (m - i) m (m+j):=by
 funext k;unfold zAd zC1;repeat' split
 all_goals first|omega|rfl|(congr 1;omega)
theorem rot_eq {d:Nat->AE}{m i:Nat}(hi:i<=m):zC1 d (m - i) m i=zAd d (m - i) m (m+i):=by
 funext k;unfold zAd zC1;repeat' split
 all_goals first|omega|rfl|(congr 1;omega)
structure Rt where
 i:Nat
 j:Nat
 d:Nat->AE
 cs:List Value
theorem zU9 {w0 w:World}{g len n cap a m b:Nat}{G:zA}{d:Nat->AE}{cs:List Value}{f:Value}(hA:Arr w0 g len n G d cs w)(ham:a<m)(hmb:m<b)(hbn:b<=n)(hn:n<4611686018427387904) :
  Calls prog 191 [.slice (some ⟨g,0,none⟩) n cap,.int .i64 (a:Int),.int .i64 (m:Int),.int .i64 (b:Int),.func (.func 48) #[] #[]].toArray w (zPH w0 g len n G (zAd d a m b)):=by{
refine eN func191 ntmps191 ?_;have H:=hA;have e1:IntKind.i64.wrap ((m:Int) - a)=((m - a:Nat):Int):=by rw[w64 qO qO];omega
have e2:IntKind.i64.wrap ((b:Int) - m)=((b - m:Nat):Int):=by rw[w64 qO qO];omega
(repeat' first|refine yX ?_|fail)
refine zD [(10,11),(18,49)] (fun x:Rt=>[(10,.int .i64 (x.i:Int)),(11,.int .i64 (x.j:Int))])
 (fun x w=>0<x.i/\x.i<=m/\0<x.j/\m+x.j<=n/\zAd x.d (m - x.i) m (m+x.j)=zAd d a m b/\Arr w0 g len n G x.d x.cs w) (fun x=>x.i+x.j) ⟨m - a,b - m,d,cs⟩
 ⟨by rw[<- e1];rfl,by rw[<- e2];rfl,trivial⟩ ⟨by show 0<m - a;omega,by show m - a<=m;omega,by show 0<b - m;omega,by show m+(b - m)<=n;omega,by show zAd d (m - (m - a)) m (m+(b - m))=_;rw[show m - (m - a)=a by omega,show m+(b - m)=b by omega],H⟩ ?_
clear H hA;rintro⟨i,j,d1,cs1⟩ gh w ⟨h1,h2,h3,h4,h5,H⟩;simp only at h1 h2 h3 h4 h5 H ⊢;have q1:IntKind.i64.wrap ((m:Int) - i)=((m - i:Nat):Int):=by rw[w64 qO qO];omega
(repeat' first|refine yX ?_|fail);refine zB rfl (fun h=>?_) (fun h=>?_)
.have hne:i≠j:=by rintro rfl;simp at h
 (repeat' first|refine yX ?_|fail);refine zB rfl (fun h6=>?_) (fun h6=>?_)
 .have hij:j<i:=by have:=zzA h6;omega
  (repeat' first|refine yX ?_|fail);rw[q1];(repeat' first|refine yX ?_|(refine zW rfl rfl (En.fn zOO rfl rfl) (zFj (a:=m - i) (b:=m) (m:=j) H qO qO hn) ?_;rintro _ _ w ⟨rfl,cs',rfl,hl,he⟩ HS)|fail);exact zC ⟨i - j,j,_,cs'⟩ rfl ⟨vint qO qO (by show(i:Int) - j=((i - j:Nat):Int);omega),rfl,trivial⟩ ⟨by show 0<i - j;omega,by show i - j<=m;omega,h3,h4,by rw[<- h5];exact rot_gt h2 hij,⟨HS,hl,he⟩⟩ (by show i - j+j<i+j;omega)
 .have hij:i<j:=by have:=zzB h6;omega
  have q3:IntKind.i64.wrap (IntKind.i64.wrap ((m:Int)+j) - i)=((m+j - i:Nat):Int):=by rw[w64 (x:=(m:Int)+j) qO qO,w64 qO qO];omega
  (repeat' first|refine yX ?_|fail);rw[q1,q3];(repeat' first|refine yX ?_|(refine zW rfl rfl (En.fn zOO rfl rfl) (zFj (a:=m - i) (b:=m+j - i) (m:=i) H qO qO hn) ?_;rintro _ _ w ⟨rfl,cs',rfl,hl,he⟩ HS)|fail);exact zC ⟨i,j - i,_,cs'⟩ rfl ⟨rfl,vint qO qO (by show(j:Int) - i=((j - i:Nat):Int);omega),trivial⟩ ⟨h1,h2,by show 0<j - i;omega,by show m+(j - i)<=n;omega,by rw[<- h5];exact rot_lt h2 hij,⟨HS,hl,he⟩⟩ (by show i+(j - i)<i+j;omega)
.have hij : i = j := by have:(i:Int)=j:=by simpa using h
                        omega
 subst hij;(repeat' first|refine yX ?_|fail);rw[q1];(repeat' first|(refine zW rfl rfl (En.fn zOO rfl rfl) (zFj (a:=m - i) (b:=m) (m:=i) H qO qO hn) ?_;rintro _ _ w ⟨rfl,cs',rfl,hl,he⟩ HS)|refine yX ?_|fail);rw[rot_eq h2,h5] at he;exact zB2 (vs:=[]) (M:=_) trivial HS ⟨rfl,_,rfl,hl,he⟩}
def slt (x y:AE):Prop:=x.1.fin<y.1.fin\/(x.1.fin=y.1.fin/\x.1.id<y.1.id)
def Seg (d:Nat->AE)(a b:Nat):Prop:=∀ i j,a<=i->i<j->j<b->slt (d i) (d j)
def zJk (d:Nat->AE)(a m b:Nat):Prop:=∀ i j,a<=i->i<m->m<=j->j<b->(d i).1.fin=(d j).1.fin->(d i).1.id<(d j).1.id
def Out (d d':Nat->AE)(a b:Nat):Prop:=∀ k,(k<a\/b<=k)->d' k=d k
def seg (d:Nat->AE)(a b:Nat):List AE:=(List.range (b - a)).map fun t=>d (a+t)
def Pm (d d':Nat->AE)(a b:Nat):Prop:=(seg d' a b).Perm (seg d a b)
theorem zCp {d:Nat->AE}{a b:Nat}{x:AE}:x∈seg d a b↔∃ k,a<=k/\k<b/\d k=x:=by{
simp only[seg,yyk,yy8];constructor
.rintro⟨t,ht,rfl⟩;exact⟨a+t,by omega,by omega,rfl⟩
.rintro⟨k,h1,h2,rfl⟩;exact⟨k - a,by omega,by congr 1;omega⟩}
theorem zF5 {d:Nat->AE}{a m b:Nat}(h1:a<=m)(h2:m<=b):seg d a b=seg d a m++seg d m b:=by{
unfold seg;rw[show b - a=(m - a)+(b - m) by omega,List.range_add,List.map_append,List.map_map]
congr 1
refine List.map_congr_left fun t _=>?_;show d (a+(m - a+t))=d (m+t)
congr 1;omega}
theorem zKr {d d':Nat->AE}{a b:Nat}(h:∀ k,a<=k->k<b->d' k=d k):seg d' a b=seg d a b:=by unfold seg;exact List.map_congr_left fun t ht=>h _ qO (by have:=List.mem_range.1 ht;omega)
theorem zMC {d:Nat->AE}{a m b:Nat}(h1:a<=m)(h2:m<=b):Pm d (zAd d a m b) a b:=by{
unfold Pm;rw[zF5 (m:=a+(b - m)) qO qO,zF5 (d:=d) h1 h2];have e1:seg (zAd d a m b) a (a+(b - m))=seg d m b:=by
 unfold seg;rw[show a+(b - m) - a=b - m by omega];refine List.map_congr_left fun t ht=>?_;have:=List.mem_range.1 ht;unfold zAd;rw[if_pos qO]
 congr 1;omega
have e2:seg (zAd d a m b) (a+(b - m)) b=seg d a m:=by
 unfold seg;rw[show b - (a+(b - m))=m - a by omega];refine List.map_congr_left fun t ht=>?_;have:=List.mem_range.1 ht;unfold zAd;rw[if_neg qO,if_pos qO]
 congr 1;omega
rw[e1,e2];exact yyg}
theorem zF6 {d:Nat->AE}{a m b:Nat}(h1:a<=m)(h2:m<=b):Out d (zAd d a m b) a b:=by intro k hk;unfold zAd;rw[if_neg qO,if_neg qO]
theorem Pm.refl (d:Nat->AE)(a b:Nat):Pm d d a b:=List.Perm.refl _
theorem Pm.trans {d d' d'':Nat->AE}{a b:Nat}(h:Pm d d' a b)(k:Pm d' d'' a b):Pm d d'' a b:=List.Perm.trans k h
theorem Pm.wide {d d':Nat->AE}{a b p q:Nat}(h:Pm d d' p q)(ho:Out d d' p q)(h1:a<=p)(h2:p<=q)(h3:q<=b):Pm d d' a b:=by{
unfold Pm
rw[zF5 (m:=p) h1 qO,zF5 (d:=d') (m:=q) h2 h3,zF5 (d:=d) (m:=p) h1 qO,zF5 (d:=d) (m:=q) h2 h3,
 zKr (d:=d) (d':=d') (a:=a) (b:=p) (fun k _ hk=>ho k (.inl hk)),zKr (d:=d) (d':=d') (a:=q) (b:=b) (fun k hk _=>ho k (.inr hk))]
exact(List.Perm.append_right _ h).append_left _}
theorem Seg.join {d:Nat->AE}{a m b:Nat}(h1:Seg d a m)(h2:Seg d m b)(h:∀ i j,a<=i->i<m->m<=j->j<b->slt (d i) (d j)):Seg d a b:=by{
intro i j hi hij hj;by_cases h3:j<m
.exact h1 i j hi hij h3
.by_cases h4:i<m
 .exact h i j hi h4 qO hj
 .exact h2 i j qO hij hj}
theorem Seg.halves {d dl dr:Nat->AE}{a m b:Nat}(ham:a<=m)(hmb:m<=b)(h:∀ i j,a<=i->i<m->m<=j->j<b->slt (d i) (d j))
  (l1:Seg dl a m) (l2:Out d dl a m) (l3:Pm d dl a m) (r1:Seg dr m b) (r2:Out dl dr m b) (r3:Pm dl dr m b):Seg dr a b/\Out d dr a b/\Pm d dr a b:=by{
have el:∀ k,k<m->dr k=dl k:=fun k hk=>r2 k (.inl hk);refine⟨Seg.join (m:=m) (fun i j hi hij hj=>by rw[el i qO,el j hj];exact l1 i j hi hij hj) r1 (fun i j hi him hj hjb=>?_),fun k hk=>?_,?_⟩
.rw[el i him];have h1:dl i∈seg d a m:=l3.mem_iff.1 (zCp.2 ⟨i,hi,him,rfl⟩);have h2:dr j∈seg dl m b:=r3.mem_iff.1 (zCp.2 ⟨j,hj,hjb,rfl⟩);obtain⟨i',q1,q2,q3⟩:=zCp.1 h1;obtain⟨j',p1,p2,p3⟩:=zCp.1 h2;rw[<- q3,<- p3,l2 j' (.inr p1)];exact h i' j' q1 q2 p1 p2
.rw[r2 k qO,l2 k qO]
.exact(l3.wide l2 (zzC _) ham hmb).trans (r3.wide r2 ham hmb (zzC _))}
theorem zSF {d:Nat->AE}{a m b mid start stop:Nat}(ham:a<m)(hmb:m<b)(hmid:mid=(a+b) / 2)(hstop:stop+start=mid+m)(h1:a<=start)(h2:start<=m)(h3:m<=stop)(h4:stop<=b)
  (s1:Seg d a m) (s2:Seg d m b) (hc:zJk d a m b)
  (lo:a<start->stop<b->(d (start - 1)).1.fin<=(d stop).1.fin) (hi:start<m->m<stop->(d (stop - 1)).1.fin<(d start).1.fin) :
  ∀ i j,a<=i->i<mid->mid<=j->j<b->slt (zAd d start m stop i) (zAd d start m stop j):=by{
intro i j hi1 hi2 hj1 hj2;have hle:∀ p q,a<=p->p<=q->q<m->(d p).1.fin<=(d q).1.fin:=fun p q g1 g2 g3=>by
 rcases Nat.lt_or_ge p q with g|g
 .rcases s1 p q g1 g g3 with k|k<;>omega
 .obtain rfl:p=q:=by{omega};exact Int.le_refl _
have hle2:∀ p q,m<=p->p<=q->q<b->(d p).1.fin<=(d q).1.fin:=fun p q g1 g2 g3=>by
 rcases Nat.lt_or_ge p q with g|g
 .rcases s2 p q g1 g g3 with k|k<;>omega
 .obtain rfl:p=q:=by{omega};exact Int.le_refl _
have hm2:start+(stop - m)=mid:=by omega
unfold zAd;rw[hm2];by_cases ci:start<=i/\i<mid
.rw[if_pos ci];rw[if_neg qO];by_cases cj:mid<=j/\j<stop
 .rw[if_pos cj];left;have k1:=hi qO qO;have k2:=hle2 (m+(i - start)) (stop - 1) qO qO qO;have k3:=hle start (j - (stop - m)) h1 qO qO;omega
 .rw[if_neg cj];exact s2 _ _ qO qO hj2
.rw[if_neg ci,if_neg qO,if_neg qO];by_cases cj:mid<=j/\j<stop
 .rw[if_pos cj];exact s1 _ _ hi1 qO qO
 .rw[if_neg cj];have k1:=lo qO qO;have k2:=hle i (start - 1) hi1 qO qO;have k3:=hle2 stop j h3 qO hj2;rcases Int.lt_or_eq_of_le (show(d i).1.fin<=(d j).1.fin by omega) with k|k
  .exact .inl k
  .exact .inr ⟨k,hc i j hi1 qO qO hj2 k⟩}
def SM (w0:World)(g len n:Nat)(G:zA)(d:Nat->AE)(a b:Nat):Ending->World->Prop :=
 zZ (fun M v=>v=.tuple #[]/\∃ d' cs',M=cb g cs' 86::G/\cs'.length=len/\Els cs' 9 n (fun j=>(d' j).c)/\Seg d' a b/\Out d d' a b/\Pm d d' a b) w0
theorem zNZ {d:Nat->AE}{a k:Nat}:sw (zAd d a (a+1) (a+1+k)) (a+k) (a+k+1)=zAd d a (a+1) (a+1+(k+1)):=by
 funext t;unfold sw zAd;repeat' split
 all_goals first|omega|rfl|(congr 1;omega)|(subst_vars;congr 1;omega)
theorem zNa {d:Nat->AE}{a m:Nat}:zAd d a m m=d:=by{
funext t;unfold zAd;rw[if_neg qO];split
.rw[Nat.sub_self,Nat.sub_zero]
.rfl}
theorem zHt {d:Nat->AE}{m b:Nat}:zAd d m m b=d:=by{
funext t;unfold zAd;split
.congr 1;omega
.rw[if_neg qO]}
theorem zGO {d:Nat->AE}{i m:Nat}(h:i<m):sw (zAd d (i+1) m (m+1)) (i+1) i=zAd d i m (m+1):=by
 funext t;unfold sw zAd;repeat' split
 all_goals first|omega|rfl|(congr 1;omega)|(subst_vars;congr 1;omega)
theorem zPI {d:Nat->AE}{a i b:Nat}(h1:a+1<=i)(h2:i<=b)(s2:Seg d (a+1) b)(hc:zJk d a (a+1) b)(lo:∀ k,a+1<=k->k<i->(d k).1.fin<(d a).1.fin)(hi:∀ k,i<=k->k<b->(d a).1.fin<=(d k).1.fin) :
  Seg (zAd d a (a+1) i) a b:=by{
have r1:∀ k,a<=k->k<i - 1->zAd d a (a+1) i k=d (k+1):=fun k g1 g2=>by unfold zAd;rw[if_pos qO];congr 1;omega
have r2:zAd d a (a+1) i (i - 1)=d a:=by unfold zAd;rw[if_neg qO,if_pos qO];congr 1;omega
have r3:∀ k,i<=k->zAd d a (a+1) i k=d k:=fun k g1=>by unfold zAd;rw[if_neg qO,if_neg qO]
have top:∀ k,i<=k->k<b->slt (d a) (d k):=fun k g1 g2=>by
 rcases Int.lt_or_eq_of_le (hi k g1 g2) with g|g
 .exact .inl g
 .exact .inr ⟨g,hc a k (zzC _) (Nat.lt_succ_self _) qO g2 g⟩
intro p q hp hpq hq;rcases(show p<i - 1\/p=i - 1\/i<=p by omega) with hp1|hp1|hp1
.rw[r1 p hp hp1];rcases(show q<i - 1\/q=i - 1\/i<=q by omega) with hq1|hq1|hq1
 .rw[r1 q qO hq1];exact s2 _ _ qO qO qO
 .rw[hq1,r2];exact .inl (lo _ qO qO)
 .rw[r3 q hq1];exact s2 _ _ qO qO hq
.rw[hp1,r2,r3 q qO];exact top q qO hq
.rw[r3 p hp1,r3 q qO];exact s2 _ _ qO hpq hq}
theorem zMD {d:Nat->AE}{a i m:Nat}(h1:a<=i)(h2:i<=m)(s1:Seg d a m)(hc:zJk d a m (m+1))(lo:∀ k,a<=k->k<i->(d k).1.fin<=(d m).1.fin)(hi:∀ k,i<=k->k<m->(d m).1.fin<(d k).1.fin) :
  Seg (zAd d i m (m+1)) a (m+1):=by{
have r1:∀ k,k<i->zAd d i m (m+1) k=d k:=fun k g1=>by unfold zAd;rw[if_neg qO,if_neg qO]
have r2:zAd d i m (m+1) i=d m:=by unfold zAd;rw[if_pos qO];congr 1;omega
have r3:∀ k,i<k->k<m+1->zAd d i m (m+1) k=d (k - 1):=fun k g1 g2=>by unfold zAd;rw[if_neg qO,if_pos qO];congr 1;omega
have bot:∀ k,a<=k->k<i->slt (d k) (d m):=fun k g1 g2=>by
 rcases Int.lt_or_eq_of_le (lo k g1 g2) with g|g
 .exact .inl g
 .exact .inr ⟨g,hc k m g1 qO (zzC _) (Nat.lt_succ_self _) g⟩
intro p q hp hpq hq;rcases(show p<i\/p=i\/i<p by omega) with hp1|hp1|hp1
.rw[r1 p hp1];rcases(show q<i\/q=i\/i<q by omega) with hq1|hq1|hq1
 .rw[r1 q hq1];exact s1 _ _ hp hpq qO
 .rw[hq1,r2];exact bot p hp hp1
 .rw[r3 q hq1 hq];exact s1 _ _ hp qO qO
.rw[hp1,r2,r3 q qO hq];exact .inl (hi _ qO qO)
.rw[r3 p hp1 qO,r3 q qO hq];exact s1 _ _ qO qO qO}
theorem half (x y:Nat)(h:x+y<4294967296):IntKind.i64.wrap ((IntKind.u64.wrap (IntKind.i64.wrap ((x:Int)+y))).fdiv (2 ^ min 1 IntKind.u64.bits))=(((x+y) / 2:Nat):Int):=by rw[w64 (x:=(x:Int)+y) qO qO,u64_id qO qO];show IntKind.i64.wrap (Int.fdiv ((x:Int)+y) 2)=_;rw[Int.fdiv_eq_ediv_of_nonneg _ (by decide),w64 qO qO];omega
theorem zPJ {w0:World}{g len n cap:Nat}{G:zA}(hn:n<1073741824):∀ (s:Nat) {a m b:Nat} {d:Nat->AE} {cs:List Value} {w:World},b - a<=s->a<m->m<b->b<=n->Arr w0 g len n G d cs w->Seg d a m->Seg d m b->zJk d a m b ->
  Calls prog 132 [.slice (some ⟨g,0,none⟩) n cap,.int .i64 (a:Int),.int .i64 (m:Int),.int .i64 (b:Int),.func (.func 48) #[] #[]].toArray w (SM w0 g len n G d a b):=by{
intro s;induction s with
| zero=>intro a m b d cs w hs h1 h2;omega
| succ s ih =>
intro a m b d cs w hs ham hmb hbn hA s1 s2 hc;refine eN func132 ntmps132 ?_;have H:=hA;clear hA;have e1:IntKind.i64.wrap ((m:Int) - a)=((m - a:Nat):Int):=by rw[w64 qO qO];omega
have e2:IntKind.i64.wrap ((b:Int) - m)=((b - m:Nat):Int):=by rw[w64 qO qO];omega
(repeat' first|refine yX ?_|fail);rw[e1];refine zB rfl (fun h=>?_) (fun h=>?_)
.have hma:m=a+1:=by simp at h;omega
 (repeat' first|refine yX ?_|fail)
 refine zD [(10,12),(31,53)] (fun x:Nat × Nat=>[(10,.int .i64 (x.1:Int)),(11,.int .i64 (x.2:Int))])
  (fun x w=>m<=x.1/\x.1<=x.2/\x.2<=b/\(∀ k,m<=k->k<x.1->(d k).1.fin<(d a).1.fin)/\(∀ k,x.2<=k->k<b->(d a).1.fin<=(d k).1.fin)/\Arr w0 g len n G d cs w) (fun x=>x.2 - x.1) (m,b)
  ⟨rfl,rfl,trivial⟩ ⟨zzC _,by show m<=b;omega,zzC _,fun k g1 g2=>by have:k<m:=g2;omega,fun k g1 g2=>by have:b<=k:=g1;omega,H⟩ ?_
 clear H;rintro⟨i,j⟩ gh w ⟨l1,l2,l3,l4,l5,H⟩;simp only at l1 l2 l3 l4 l5 ⊢;(repeat' first|refine yX ?_|fail);refine zB rfl (fun h2=>?_) (fun h2=>?_)
 .have hij:i<j:=by have:=zzA h2;omega
  (repeat' first|refine yX ?_|fail);rw[half i j qO];generalize hcc:(i+j) / 2=c;have c1:i<=c:=by{omega};have c2:c<j:=by omega
  (repeat' first|refine yX ?_|refine x41 sg H.slb ?_|refine x43 sg H.slb H.st.mem ?_|(refine' y35 zPw ?_ ?_;rotate_left;exact(fun _ hcl=>zLn (d c) (d a) _))|(with_reducible apply zGR;intro w hcl;replace H:=H.ext hcl;clear hcl)|refine y20 mixed ?_|fail);rw[zGn];refine zB rfl (fun h3=>?_) (fun h3=>?_)
  .have h3:=zzA h3;(repeat' first|refine yX ?_|fail);refine zC (c+1,j) rfl ⟨zU qO,rfl,trivial⟩ ⟨by show m<=c+1;omega,by show c+1<=j;omega,l3,fun k g1 g2=>?_,l5,H⟩ (by show j - (c+1)<j - i;omega);rcases Nat.lt_or_ge k c with g|g
   .rcases s2 k c g1 g qO with k1|k1<;>omega
   .obtain rfl:k=c:=by have:k<c+1:=g2;omega
    exact h3
  .have h3:=zzB h3;(repeat' first|refine yX ?_|fail);refine zC (i,c) rfl ⟨rfl,rfl,trivial⟩ ⟨l1,c1,by show c<=b;omega,l4,fun k g1 g2=>?_,H⟩ (by show c - i<j - i;omega);have g1:c<=k:=g1;rcases Nat.lt_or_ge c k with g|g
   .rcases s2 c k qO g g2 with k1|k1<;>omega
   .obtain rfl:k=c:=by{omega};omega
 .have hij:i=j:=by have:=zzB h2;omega
  subst hij;subst hma;have e3:IntKind.i64.wrap ((i:Int) - 1)=((i - 1:Nat):Int):=by rw[w64 qO qO];omega
  (repeat' first|refine yX ?_|fail)
  refine zD [(13,13),(55,76)] (fun x:Nat × List Value=>[(13,.int .i64 ((a+x.1:Nat):Int))])
   (fun x w=>a+x.1<=i - 1/\Arr w0 g len n G (zAd d a (a+1) (a+1+x.1)) x.2 w) (fun x=>i - x.1) (0,cs) ⟨rfl,trivial⟩ ⟨by show a+0<=i - 1;omega,by show Arr w0 g len n G (zAd d a (a+1) (a+1+0)) cs w;rw[Nat.add_zero,zNa];exact H⟩ ?_
  clear H;rintro⟨t,cs1⟩ gh w ⟨ht,H⟩;simp only at ht H ⊢;(repeat' first|refine yX ?_|fail);rw[e3];refine zB rfl (fun h5=>?_) (fun h5=>?_)
  .have hlt:a+t<i - 1:=by have:=zzA h5;omega
   have hq:IntKind.i64.wrap (((a+t:Nat):Int)+1)=((a+t+1:Nat):Int):=by rw[w64 qO qO];omega
   generalize hd:zAd d a (a+1) (a+1+t)=d1 at H;(repeat' first|refine yX ?_|(refine zBD mixed 18 ?_ ?_;exact rfl;intro w hcl;replace H:=H.ext hcl;clear hcl)|((with_reducible apply zFM);decide +kernel)|(refine' z8 0 ?_ ?_;rotate_left;first|exact z9 sg|exact(fun w=>zIX sg H.slb ((congrArg Int.toNat hq).trans (zz1 _)) (by rw[hq];omega) (by rw[hq];omega))|exact(fun w=>zJ sg H.slb))|(refine' z8 1 ?_ ?_;rotate_left;first|exact z9 sg|exact(fun w=>zIX sg H.slb ((congrArg Int.toNat hq).trans (zz1 _)) (by rw[hq];omega) (by rw[hq];omega))|exact(fun w=>zJ sg H.slb))|(refine' z8 2 ?_ ?_;rotate_left;first|exact z9 sg|exact(fun w=>zIX sg H.slb ((congrArg Int.toNat hq).trans (zz1 _)) (by rw[hq];omega) (by rw[hq];omega))|exact(fun w=>zJ sg H.slb))|(refine' z8 3 ?_ ?_;rotate_left;first|exact z9 sg|exact(fun w=>zIX sg H.slb ((congrArg Int.toNat hq).trans (zz1 _)) (by rw[hq];omega) (by rw[hq];omega))|exact(fun w=>zJ sg H.slb))|(refine' z8 4 ?_ ?_;rotate_left;first|exact z9 sg|exact(fun w=>zIX sg H.slb ((congrArg Int.toNat hq).trans (zz1 _)) (by rw[hq];omega) (by rw[hq];omega))|exact(fun w=>zJ sg H.slb))|(refine' z8 5 ?_ ?_;rotate_left;first|exact z9 sg|exact(fun w=>zIX sg H.slb ((congrArg Int.toNat hq).trans (zz1 _)) (by rw[hq];omega) (by rw[hq];omega))|exact(fun w=>zJ sg H.slb))|(refine' z8 6 ?_ ?_;rotate_left;first|exact z9 sg|exact(fun w=>zIX sg H.slb ((congrArg Int.toNat hq).trans (zz1 _)) (by rw[hq];omega) (by rw[hq];omega))|exact(fun w=>zJ sg H.slb))|(refine' z8 7 ?_ ?_;rotate_left;first|exact z9 sg|exact(fun w=>zIX sg H.slb ((congrArg Int.toNat hq).trans (zz1 _)) (by rw[hq];omega) (by rw[hq];omega))|exact(fun w=>zJ sg H.slb))|(refine' z8 8 ?_ ?_;rotate_left;first|exact z9 sg|exact(fun w=>zIX sg H.slb ((congrArg Int.toNat hq).trans (zz1 _)) (by rw[hq];omega) (by rw[hq];omega))|exact(fun w=>zJ sg H.slb))|(refine' z8 10 ?_ ?_;rotate_left;first|exact z9 sg|exact(fun w=>zIX sg H.slb ((congrArg Int.toNat hq).trans (zz1 _)) (by rw[hq];omega) (by rw[hq];omega))|exact(fun w=>zJ sg H.slb))|(refine' z8 11 ?_ ?_;rotate_left;first|exact z9 sg|exact(fun w=>zIX sg H.slb ((congrArg Int.toNat hq).trans (zz1 _)) (by rw[hq];omega) (by rw[hq];omega))|exact(fun w=>zJ sg H.slb))|(refine' z8 12 ?_ ?_;rotate_left;first|exact z9 sg|exact(fun w=>zIX sg H.slb ((congrArg Int.toNat hq).trans (zz1 _)) (by rw[hq];omega) (by rw[hq];omega))|exact(fun w=>zJ sg H.slb))|(refine' z8 14 ?_ ?_;rotate_left;first|exact z9 sg|exact(fun w=>zIX sg H.slb ((congrArg Int.toNat hq).trans (zz1 _)) (by rw[hq];omega) (by rw[hq];omega))|exact(fun w=>zJ sg H.slb))|(refine' z8 16 ?_ ?_;rotate_left;first|exact z9 sg|exact(fun w=>zIX sg H.slb ((congrArg Int.toNat hq).trans (zz1 _)) (by rw[hq];omega) (by rw[hq];omega))|exact(fun w=>zJ sg H.slb))|refine z10 9 ?_|refine z10 13 ?_|refine z10 15 ?_|refine z10 17 ?_|refine z11 9 13 ?_ ?_|refine x42 sg H.slb H.st.mem ?_|(refine OX.storeB sg H.st rfl rfl rfl rfl rfl (AE.c_len _) (H.fit qO _) (AE.c_one _) ?_;intro w HS;replace H:=H.put qO HS;clear HS)|fail)
   all_goals
    rw[zLo qO,<- hd,zNZ] at H;exact zC (t+1,_) rfl ⟨vint qO qO (by show((a+t:Nat):Int)+1=((a+(t+1):Nat):Int);omega),trivial⟩ ⟨by show a+(t+1)<=i - 1;omega,H⟩ (by show i - (t+1)<i - t;omega)
  .have hlt:a+1+t=i:=by have:=zzB h5;omega
   rw[hlt] at H;(repeat' first|refine yX ?_|fail);exact zB2 (vs:=[]) (M:=_) trivial H.st ⟨rfl,_,_,rfl,H.len,H.els,zPI l1 l3 s2 hc l4 l5,fun k hk=>zF6 (Nat.le_succ a) l1 k qO,(zMC (Nat.le_succ a) l1).wide (zF6 (Nat.le_succ a) l1) (zzC _) qO l3⟩
.have hma:¬ m=a+1:=by rintro rfl;simp at h
 (repeat' first|refine yX ?_|fail);rw[e2];refine zB rfl (fun h=>?_) (fun h=>?_)
 .have hmb1:b=m+1:=by simp at h;omega
  subst hmb1;(repeat' first|refine yX ?_|fail)
  refine zD [(14,16),(83,106)] (fun x:Nat × Nat=>[(14,.int .i64 (x.1:Int)),(15,.int .i64 (x.2:Int))])
   (fun x w=>a<=x.1/\x.1<=x.2/\x.2<=m/\(∀ k,a<=k->k<x.1->(d k).1.fin<=(d m).1.fin)/\(∀ k,x.2<=k->k<m->(d m).1.fin<(d k).1.fin)/\Arr w0 g len n G d cs w) (fun x=>x.2 - x.1) (a,m)
   ⟨rfl,rfl,trivial⟩ ⟨zzC _,by show a<=m;omega,zzC _,fun k g1 g2=>by have:k<a:=g2;omega,fun k g1 g2=>by have:m<=k:=g1;omega,H⟩ ?_
  clear H;rintro⟨i,j⟩ gh w ⟨l1,l2,l3,l4,l5,H⟩;simp only at l1 l2 l3 l4 l5 ⊢;(repeat' first|refine yX ?_|fail);refine zB rfl (fun h2=>?_) (fun h2=>?_)
  .have hij:i<j:=by have:=zzA h2;omega
   (repeat' first|refine yX ?_|fail);rw[half i j qO];generalize hcc:(i+j) / 2=c;have c1:i<=c:=by{omega};have c2:c<j:=by omega
   (repeat' first|refine yX ?_|refine x41 sg H.slb ?_|refine x43 sg H.slb H.st.mem ?_|(refine' y35 zPw ?_ ?_;rotate_left;exact(fun _ hcl=>zLn (d m) (d c) _))|(with_reducible apply zGR;intro w hcl;replace H:=H.ext hcl;clear hcl)|refine y20 mixed ?_|fail);rw[zGn];refine zB rfl (fun h3=>?_) (fun h3=>?_)
   .have h3:¬ (d m).1.fin<(d c).1.fin:=by{simpa using h3};(repeat' first|refine yX ?_|fail)
    refine zC (c+1,j) rfl ⟨zU qO,rfl,trivial⟩ ⟨by show a<=c+1;omega,by show c+1<=j;omega,l3,fun k g1 g2=>?_,l5,H⟩ (by show j - (c+1)<j - i;omega);rcases Nat.lt_or_ge k c with g|g
    .rcases s1 k c g1 g qO with k1|k1<;>omega
    .obtain rfl:k=c:=by have:k<c+1:=g2;omega
     omega
   .have h3:(d m).1.fin<(d c).1.fin:=by{simpa using h3};(repeat' first|refine yX ?_|fail)
    refine zC (i,c) rfl ⟨rfl,rfl,trivial⟩ ⟨l1,c1,by show c<=m;omega,l4,fun k g1 g2=>?_,H⟩ (by show c - i<j - i;omega);have g1:c<=k:=g1;rcases Nat.lt_or_ge c k with g|g
    .rcases s1 c k qO g g2 with k1|k1<;>omega
    .obtain rfl:k=c:=by{omega};exact h3
  .have hij:i=j:=by have:=zzB h2;omega
   subst hij;(repeat' first|refine yX ?_|fail)
   refine zD [(17,17),(108,128)] (fun x:Nat × List Value=>[(17,.int .i64 (x.1:Int))])
    (fun x w=>i<=x.1/\x.1<=m/\Arr w0 g len n G (zAd d x.1 m (m+1)) x.2 w) (fun x=>x.1 - i) (m,cs) ⟨rfl,trivial⟩ ⟨l3,zzC _,by show Arr w0 g len n G (zAd d m m (m+1)) cs w;rw[zHt];exact H⟩ ?_
   clear H;rintro⟨k,cs1⟩ gh w ⟨k1,k2,H⟩;simp only at k1 k2 H ⊢;(repeat' first|refine yX ?_|fail);refine zB rfl (fun h5=>?_) (fun h5=>?_)
   .have hlt:i<k:=by have:=zzA h5;omega
    obtain⟨q,rfl⟩:∃ q,k=q+1:=⟨k - 1,by omega⟩;have hq:IntKind.i64.wrap (((q+1:Nat):Int) - 1)=((q:Nat):Int):=by rw[w64 qO qO];omega
    generalize hd:zAd d (q+1) m (m+1)=d1 at H;(repeat' first|refine yX ?_|(refine zBD mixed 18 ?_ ?_;exact rfl;intro w hcl;replace H:=H.ext hcl;clear hcl)|((with_reducible apply zFM);decide +kernel)|(refine' z8 0 ?_ ?_;rotate_left;first|exact z9 sg|exact(fun w=>zIX sg H.slb ((congrArg Int.toNat hq).trans (zz1 _)) (by rw[hq];omega) (by rw[hq];omega))|exact(fun w=>zJ sg H.slb))|(refine' z8 1 ?_ ?_;rotate_left;first|exact z9 sg|exact(fun w=>zIX sg H.slb ((congrArg Int.toNat hq).trans (zz1 _)) (by rw[hq];omega) (by rw[hq];omega))|exact(fun w=>zJ sg H.slb))|(refine' z8 2 ?_ ?_;rotate_left;first|exact z9 sg|exact(fun w=>zIX sg H.slb ((congrArg Int.toNat hq).trans (zz1 _)) (by rw[hq];omega) (by rw[hq];omega))|exact(fun w=>zJ sg H.slb))|(refine' z8 3 ?_ ?_;rotate_left;first|exact z9 sg|exact(fun w=>zIX sg H.slb ((congrArg Int.toNat hq).trans (zz1 _)) (by rw[hq];omega) (by rw[hq];omega))|exact(fun w=>zJ sg H.slb))|(refine' z8 4 ?_ ?_;rotate_left;first|exact z9 sg|exact(fun w=>zIX sg H.slb ((congrArg Int.toNat hq).trans (zz1 _)) (by rw[hq];omega) (by rw[hq];omega))|exact(fun w=>zJ sg H.slb))|(refine' z8 5 ?_ ?_;rotate_left;first|exact z9 sg|exact(fun w=>zIX sg H.slb ((congrArg Int.toNat hq).trans (zz1 _)) (by rw[hq];omega) (by rw[hq];omega))|exact(fun w=>zJ sg H.slb))|(refine' z8 6 ?_ ?_;rotate_left;first|exact z9 sg|exact(fun w=>zIX sg H.slb ((congrArg Int.toNat hq).trans (zz1 _)) (by rw[hq];omega) (by rw[hq];omega))|exact(fun w=>zJ sg H.slb))|(refine' z8 7 ?_ ?_;rotate_left;first|exact z9 sg|exact(fun w=>zIX sg H.slb ((congrArg Int.toNat hq).trans (zz1 _)) (by rw[hq];omega) (by rw[hq];omega))|exact(fun w=>zJ sg H.slb))|(refine' z8 8 ?_ ?_;rotate_left;first|exact z9 sg|exact(fun w=>zIX sg H.slb ((congrArg Int.toNat hq).trans (zz1 _)) (by rw[hq];omega) (by rw[hq];omega))|exact(fun w=>zJ sg H.slb))|(refine' z8 10 ?_ ?_;rotate_left;first|exact z9 sg|exact(fun w=>zIX sg H.slb ((congrArg Int.toNat hq).trans (zz1 _)) (by rw[hq];omega) (by rw[hq];omega))|exact(fun w=>zJ sg H.slb))|(refine' z8 11 ?_ ?_;rotate_left;first|exact z9 sg|exact(fun w=>zIX sg H.slb ((congrArg Int.toNat hq).trans (zz1 _)) (by rw[hq];omega) (by rw[hq];omega))|exact(fun w=>zJ sg H.slb))|(refine' z8 12 ?_ ?_;rotate_left;first|exact z9 sg|exact(fun w=>zIX sg H.slb ((congrArg Int.toNat hq).trans (zz1 _)) (by rw[hq];omega) (by rw[hq];omega))|exact(fun w=>zJ sg H.slb))|(refine' z8 14 ?_ ?_;rotate_left;first|exact z9 sg|exact(fun w=>zIX sg H.slb ((congrArg Int.toNat hq).trans (zz1 _)) (by rw[hq];omega) (by rw[hq];omega))|exact(fun w=>zJ sg H.slb))|(refine' z8 16 ?_ ?_;rotate_left;first|exact z9 sg|exact(fun w=>zIX sg H.slb ((congrArg Int.toNat hq).trans (zz1 _)) (by rw[hq];omega) (by rw[hq];omega))|exact(fun w=>zJ sg H.slb))|refine z10 9 ?_|refine z10 13 ?_|refine z10 15 ?_|refine z10 17 ?_|refine z11 9 13 ?_ ?_|refine x42 sg H.slb H.st.mem ?_|(refine OX.storeB sg H.st rfl rfl rfl rfl rfl (AE.c_len _) (H.fit qO _) (AE.c_one _) ?_;intro w HS;replace H:=H.put qO HS;clear HS)|fail)
    all_goals
     rw[zLo qO,<- hd,zGO qO] at H;exact zC (q,_) rfl ⟨vint qO qO (by show((q+1:Nat):Int) - 1=(q:Int);omega),trivial⟩ ⟨by show i<=q;omega,by show q<=m;omega,H⟩ (by show q - i<q+1 - i;omega)
   .obtain rfl:k=i:=by have:=zzB h5;omega
    (repeat' first|refine yX ?_|fail);exact zB2 (vs:=[]) (M:=_) trivial H.st ⟨rfl,_,_,rfl,H.len,H.els,zMD l1 l3 s1 hc l4 l5,fun q hk=>zF6 k2 (Nat.le_succ m) q qO,(zMC k2 (Nat.le_succ m)).wide (zF6 k2 (Nat.le_succ m)) l1 qO (zzC _)⟩
 .have hmb2:¬ b=m+1:=by rintro rfl;simp at h
  (repeat' first|refine yX ?_|fail);rw[half a b qO];generalize hmid:(a+b) / 2=mid;have e5:IntKind.i64.wrap ((mid:Int)+m)=((mid+m:Nat):Int):=by rw[w64 qO qO];omega
  rw[e5]
  refine CW.mid [(20,21),(141,146)] (fun x:Nat × Nat=>[(20,.int .i64 (x.1:Int)),(21,.int .i64 (x.2:Int))])
   (fun x w=>Arr w0 g len n G d cs w/\a<=x.1/\x.1<=x.2/\x.2<=m/\x.2<=mid/\mid+m<=b+x.1/\(x.1=a\/mid+m=b+x.1)/\(x.2=m\/x.2=mid)) (fun g=>?_) ?_
  .refine zB rfl (fun h7=>?_) (fun h7=>?_)
   .have h7:mid<m:=by have:=zzA h7;omega
    (repeat' first|refine yX ?_|fail);exact zC (mid+m - b,mid) rfl ⟨vint qO qO (by show((mid+m:Nat):Int) - b=((mid+m - b:Nat):Int);omega),rfl,trivial⟩ ⟨H,by show a<=mid+m - b;omega,by show mid+m - b<=mid;omega,by show mid<=m;omega,zzC _,by show mid+m<=b+(mid+m - b);omega,.inr (by show mid+m=b+(mid+m - b);omega),.inr rfl⟩ (Nat.lt_succ_self 0)
   .have h7:m<=mid:=by have:=zzB h7;omega
    (repeat' first|refine yX ?_|fail);exact zC (a,m) rfl ⟨rfl,rfl,trivial⟩ ⟨H,zzC _,by show a<=m;omega,zzC _,h7,by show mid+m<=b+a;omega,.inl rfl,.inl rfl⟩ (Nat.lt_succ_self 0)
  clear H;rintro⟨lo0,hi0⟩ gh w ⟨H,f1,f2,f3,f4,f5,f6,f7⟩;simp only at f1 f2 f3 f4 f5 f6 f7 ⊢;have e6:IntKind.i64.wrap (((mid+m:Nat):Int) - 1)=((mid+m - 1:Nat):Int):=by rw[w64 qO qO];omega
  (repeat' first|refine yX ?_|fail);rw[e6]
  refine zD [(20,21),(23,23),(149,174)] (fun x:Nat × Nat=>[(20,.int .i64 (x.1:Int)),(21,.int .i64 (x.2:Int))])
   (fun x w=>lo0<=x.1/\x.1<=x.2/\x.2<=hi0/\(∀ k,lo0<=k->k<x.1->(d k).1.fin<=(d (mid+m - 1 - k)).1.fin)/\(∀ k,x.2<=k->k<hi0->(d (mid+m - 1 - k)).1.fin<(d k).1.fin)/\Arr w0 g len n G d cs w) (fun x=>x.2 - x.1) (lo0,hi0)
   ⟨rfl,rfl,trivial⟩ ⟨zzC _,f2,zzC _,fun k g1 g2=>by have:k<lo0:=g2;omega,fun k g1 g2=>by have:hi0<=k:=g1;omega,H⟩ ?_
  clear H;rintro⟨i,j⟩ gh w ⟨l1,l2,l3,l4,l5,H⟩;simp only at l1 l2 l3 l4 l5 ⊢;(repeat' first|refine yX ?_|fail);refine zB rfl (fun h2=>?_) (fun h2=>?_)
  .have hij:i<j:=by have:=zzA h2;omega
   (repeat' first|refine yX ?_|fail);rw[half i j qO];generalize hcc:(i+j) / 2=c;have c1:i<=c:=by{omega};have c2:c<j:=by omega
   have hq:IntKind.i64.wrap (((mid+m - 1:Nat):Int) - c)=((mid+m - 1 - c:Nat):Int):=by rw[w64 qO qO];omega
   (repeat' first|refine yX ?_|(refine zAp rfl rfl (zIX sg H.slb ((congrArg Int.toNat hq).trans (zz1 _)) (by rw[hq];omega) (by rw[hq];omega)) ?_)|(refine zAp rfl rfl (zJ sg H.slb) ?_)|refine x43 sg H.slb H.st.mem ?_|(refine' y35 zPw ?_ ?_;rotate_left;exact(fun _ hcl=>zLn (d (mid+m - 1 - c)) (d c) _))|(with_reducible apply zGR;intro w hcl;replace H:=H.ext hcl;clear hcl)|refine y20 mixed ?_|fail);rw[zGn];have mono1:∀ k,a<=k->k<=c->(d k).1.fin<=(d c).1.fin:=fun k g1 g2=>by
    rcases Nat.lt_or_ge k c with g|g
    .rcases s1 k c g1 g qO with k1|k1<;>omega
    .obtain rfl:k=c:=by{omega};exact Int.le_refl _
   refine zB rfl (fun h3=>?_) (fun h3=>?_)
   .have h3:¬ (d (mid+m - 1 - c)).1.fin<(d c).1.fin:=by{simpa using h3};(repeat' first|refine yX ?_|fail)
    refine zC (c+1,j) rfl ⟨zU qO,rfl,trivial⟩ ⟨by show lo0<=c+1;omega,by show c+1<=j;omega,l3,fun k g1 g2=>?_,l5,H⟩ (by show j - (c+1)<j - i;omega);have g2:k<c+1:=g2;have k1:=mono1 k qO qO;rcases Nat.lt_or_ge k c with g|g
    .rcases s2 (mid+m - 1 - c) (mid+m - 1 - k) qO qO qO with k2|k2<;>omega
    .obtain rfl:k=c:=by{omega};omega
   .have h3:(d (mid+m - 1 - c)).1.fin<(d c).1.fin:=by{simpa using h3};(repeat' first|refine yX ?_|fail)
    refine zC (i,c) rfl ⟨rfl,rfl,trivial⟩ ⟨l1,c1,by show c<=hi0;omega,l4,fun k g1 g2=>?_,H⟩ (by show c - i<j - i;omega);have g1:c<=k:=g1;rcases Nat.lt_or_ge c k with g|g
    .rcases s1 c k qO g qO with k1|k1<;>rcases s2 (mid+m - 1 - k) (mid+m - 1 - c) qO qO qO with k2|k2<;>omega
    .obtain rfl:k=c:=by{omega};exact h3
  .have hij:i=j:=by have:=zzB h2;omega
   subst hij;have e7:IntKind.i64.wrap (((mid+m:Nat):Int) - i)=((mid+m - i:Nat):Int):=by rw[w64 qO qO];omega
   have hlo:a<i->mid+m - i<b->(d (i - 1)).1.fin<=(d (mid+m - i)).1.fin:=fun g1 g2=>by
    have:=l4 (i - 1) qO qO
    rwa [show mid+m - 1 - (i - 1)=mid+m - i by omega] at this
   have hhi:i<m->m<mid+m - i->(d (mid+m - i - 1)).1.fin<(d i).1.fin:=fun g1 g2=>by
    have:=l5 i (zzC _) qO
    rwa [show mid+m - 1 - i=mid+m - i - 1 by omega] at this
   have split:=zSF (stop:=mid+m - i) ham hmb hmid.symm qO qO qO qO qO s1 s2 hc hlo hhi;obtain⟨st,hst⟩:∃ st,st=mid+m - i:=⟨_,rfl⟩;rw[<- hst] at e7 split;obtain⟨D,hD⟩:∃ D,D=zAd d i m st:=⟨_,rfl⟩;rw[<- hD] at split;have him:i<=m:=by{omega};have hmst:m<=st:=by omega
   have d1:∀ k,k<i->D k=d k:=fun k g1=>by rw[hD];unfold zAd;rw[if_neg qO,if_neg qO]
   have d2:∀ k,i<=k->k<mid->D k=d (m+(k - i)):=fun k g1 g2=>by rw[hD];unfold zAd;rw[if_pos qO]
   have d3:∀ k,mid<=k->k<st->D k=d (k - (st - m)):=fun k g1 g2=>by rw[hD];unfold zAd;rw[if_neg qO,if_pos qO]
   have d4:∀ k,st<=k->D k=d k:=fun k g1=>by rw[hD];unfold zAd;rw[if_neg qO,if_neg qO]
   have t1:Seg D a i:=fun p q g1 g2 g3=>by rw[d1 p qO,d1 q g3];exact s1 _ _ g1 g2 qO
   have t2:Seg D i mid:=fun p q g1 g2 g3=>by rw[d2 p g1 qO,d2 q qO g3];exact s2 _ _ qO qO qO
   have t3:Seg D mid st:=fun p q g1 g2 g3=>by rw[d3 p g1 qO,d3 q qO g3];exact s1 _ _ qO qO qO
   have t4:Seg D st b:=fun p q g1 g2 g3=>by rw[d4 p g1,d4 q qO];exact s2 _ _ qO g2 g3
   have x1:zJk D a i mid:=fun p q g1 g2 g3 g4 e=>by rw[d1 p g2,d2 q g3 g4] at *;exact hc _ _ g1 qO qO qO e
   have x2:zJk D mid st b:=fun p q g1 g2 g3 g4 e=>by rw[d3 p g1 g2,d4 q g3] at *;exact hc _ _ qO qO qO g4 e
   have rotC:∀ {cs:List Value} {w:World},Arr w0 g len n G d cs w->i<m->m<st->Calls prog 191 [.slice (some ⟨g,0,none⟩) n cap,.int .i64 (i:Int),.int .i64 (m:Int),.int .i64 (IntKind.i64.wrap (((mid+m:Nat):Int) - i)),.func (.func 48) #[] #[]].toArray w (zPH w0 g len n G D):=fun H g1 g2=>by rw[e7,hD];exact zU9 (f:=.nilFunc) H g1 g2 qO qO
   have symL:∀ {cs:List Value} {w:World},Arr w0 g len n G D cs w->a<i->i<mid->Calls prog 132 [.slice (some ⟨g,0,none⟩) n cap,.int .i64 (a:Int),.int .i64 (i:Int),.int .i64 (mid:Int),.func (.func 48) #[] #[]].toArray w (SM w0 g len n G D a mid):=fun H g1 g2=>ih qO g1 g2 qO H t1 t2 x1;have symR:∀ {dl:Nat->AE} {cs:List Value} {w:World},(∀ k,mid<=k->dl k=D k)->Arr w0 g len n G dl cs w->mid<st->st<b->Calls prog 132 [.slice (some ⟨g,0,none⟩) n cap,.int .i64 (mid:Int),.int .i64 (IntKind.i64.wrap (((mid+m:Nat):Int) - i)),.int .i64 (b:Int),.func (.func 48) #[] #[]].toArray w (SM w0 g len n G dl mid b):=fun{dl} {cs} {w} hl H g1 g2=>by rw[e7];exact ih qO g1 g2 hbn H (fun p q k1 k2 k3=>by rw[hl p k1,hl q qO];exact t3 p q k1 k2 k3) (fun p q k1 k2 k3=>by rw[hl p qO,hl q qO];exact t4 p q k1 k2 k3) (fun p q k1 k2 k3 k4 e=>by rw[hl p k1,hl q qO] at *;exact x2 p q k1 k2 k3 k4 e)
   have rD:¬ (i<m/\m<st)->D=d:=fun r=>by
    rw[hD];rcases(show i=m\/st=m by omega) with r|r
    .rw[r];exact zHt
    .rw[r];exact zNa
   have fin:∀ {dl dr:Nat->AE},Seg dl a mid->Out D dl a mid->Pm D dl a mid->Seg dr mid b->Out dl dr mid b->Pm dl dr mid b->Seg dr a b/\Out d dr a b/\Pm d dr a b:=fun k1 k2 k3 k4 k5 k6=>by
    obtain⟨q1,q2,q3⟩:=Seg.halves qO qO split k1 k2 k3 k4 k5 k6;have o1:Out d D i st:=by rw[hD];exact zF6 him hmst
    have o2:Pm d D i st:=by rw[hD];exact zMC him hmst
    exact⟨q1,fun k hk=>by rw[q2 k hk,o1 k qO],(o2.wide o1 qO qO qO).trans q3⟩
   have zl:¬ (a<i/\i<mid)->Seg D a mid:=fun r=>by
    rcases(show i=a\/i=mid by omega) with r|r
    .rw[<- r];exact t2
    .rw[<- r];exact t1
   have zr:¬ (mid<st/\st<b)->Seg D mid b:=fun r=>by
    rcases(show st=mid\/st=b by omega) with r|r
    .rw[<- r];exact t4
    .rw[<- r];exact t3
   clear d1 d2 d3 d4 t1 t2 t3 t4 x1 x2 split hlo hhi l4 l5 s1 s2 hc ih;by_cases r1:i<m/\m<st;all_goals by_cases r2:a<i/\i<mid
   all_goals by_cases r3:mid<st/\st<b
   all_goals try (have H:=(rD r1).symm ▸ H)
   all_goals repeat' (first|refine yW ?_|(refine zW rfl rfl (En.fn ent191 rfl rfl) (rotC H r1.1 r1.2) ?_;rintro _ _ w ⟨rfl,cs',rfl,hl,he⟩ HS;replace H:Arr w0 g len n G D cs' w:=⟨HS,hl,he⟩)|(refine zW rfl rfl (En.fn zLG rfl rfl) (symL H r2.1 r2.2) ?_;rintro _ _ w ⟨rfl,dl,cs',rfl,hl,he,q1,q2,q3⟩ HS;replace H:Arr w0 g len n G dl cs' w:=⟨HS,hl,he⟩)|(refine zW rfl rfl (En.fn zLG rfl rfl) (symR (fun k hk=>q2 k (.inr hk)) H r3.1 r3.2) ?_;rintro _ _ w ⟨rfl,dr,cs',rfl,hl,he,p1,p2,p3⟩ HS;replace H:Arr w0 g len n G dr cs' w:=⟨HS,hl,he⟩)|(refine zW rfl rfl (En.fn zLG rfl rfl) (symR (fun k hk=>rfl) H r3.1 r3.2) ?_;rintro _ _ w ⟨rfl,dr,cs',rfl,hl,he,p1,p2,p3⟩ HS;replace H:Arr w0 g len n G dr cs' w:=⟨HS,hl,he⟩)|((first|refine y17 ?_ ?_|refine y23 ?_ ?_);all_goals(intro h;try (exfalso;first|((simp only[decide_eq_true_eq,yyy,beq_iff_eq,yyq,bne_iff_ne,ne_eq,Bool.not_eq_true,Int.not_lt,Int.not_le,gt_iff_lt,ge_iff_le] at h;omega);done)|(rw[e7] at h;(simp only[decide_eq_true_eq,yyy,beq_iff_eq,yyq,bne_iff_ne,ne_eq,Bool.not_eq_true,Int.not_lt,Int.not_le,gt_iff_lt,ge_iff_le] at h;omega);done))))|fail)
   all_goals first
    | exact zB2 (vs:=[]) (M:=_) trivial H.st ⟨rfl,_,_,rfl,H.len,H.els,fin q1 q2 q3 p1 p2 p3⟩
    | exact zB2 (vs:=[]) (M:=_) trivial H.st ⟨rfl,_,_,rfl,H.len,H.els,fin (zl r2) (fun _ _=>rfl) (Pm.refl _ _ _) p1 p2 p3⟩
    | exact zB2 (vs:=[]) (M:=_) trivial H.st ⟨rfl,_,_,rfl,H.len,H.els,fin q1 q2 q3 (fun p q k1 k2 k3=>by rw[q2 p (.inr k1),q2 q (.inr qO)];exact zr r3 p q k1 k2 k3) (fun _ _=>rfl) (Pm.refl _ _ _)⟩
    | exact zB2 (vs:=[]) (M:=_) trivial H.st ⟨rfl,_,_,rfl,H.len,H.els,fin (zl r2) (fun _ _=>rfl) (Pm.refl _ _ _) (zr r3) (fun _ _=>rfl) (Pm.refl _ _ _)⟩}
theorem slt.trans {x y z:AE}(h:slt x y)(k:slt y z):slt x z:=by unfold slt at *;omega
theorem zVA {d:Nat->AE}{j:Nat}:sw d (j+1) j=zAd d j (j+1) (j+2):=by
 have:=zGO (d:=d) (i:=j) (m:=j+1) (Nat.lt_succ_self j)
 rwa [zHt] at this
theorem zGP {a e:Nat}:∀ (j:Nat) (d:Nat->AE),a<=j->j<e->Seg d a j->Seg d j e->(∀ p q,a<=p->p<j->j<q->q<e->slt (d p) (d q))->(∀ p,a<=p->p<j->(d p).1.id<(d j).1.id) ->
  Seg (zBY a j d) a e/\Out d (zBY a j d) a e/\Pm d (zBY a j d) a e
 | 0,d,h1,_,_,s2,_,_=>by
   obtain rfl:a=0:=by omega
   exact⟨s2,fun _ _=>rfl,Pm.refl _ _ _⟩
 | j+1,d,h1,h2,s1,s2,hc,hi=>by
   rw[zBY]
   split
   .rename_i hh
    obtain⟨ha,hlt⟩:=hh
    have hlt:(d (j+1)).1.fin<(d j).1.fin:=zzA hlt
    have e1:∀ k,k≠j->k≠j+1->sw d (j+1) j k=d k:=fun k g1 g2=>by unfold sw;rw[if_neg g2,if_neg g1]
    have e2:sw d (j+1) j j=d (j+1):=by unfold sw;rw[if_neg qO,if_pos rfl]
    have e3:sw d (j+1) j (j+1)=d j:=by unfold sw;rw[if_pos rfl]
    obtain⟨q1,q2,q3⟩:=zGP (a:=a) (e:=e) j (sw d (j+1) j) qO qO
     (fun p q g1 g2 g3=>by rw[e1 p qO qO,e1 q qO qO];exact s1 p q g1 g2 qO)
     (fun p q g1 g2 g3=>by
      rcases(show p=j\/p=j+1\/j+1<p by omega) with rfl|rfl|g
      .rw[e2]
       rcases(show q=p+1\/p+1<q by omega) with rfl|g4
       .rw[e3];exact .inl hlt
       .rw[e1 q qO qO];exact s2 _ _ qO g4 g3
      .rw[e3,e1 q qO qO];exact hc _ _ qO qO g2 g3
      .rw[e1 p qO qO,e1 q qO qO];exact s2 _ _ qO g2 g3)
     (fun p q g1 g2 g3 g4=>by
      rw[e1 p qO qO]
      rcases(show q=j+1\/j+1<q by omega) with rfl|g5
      .rw[e3];exact s1 _ _ g1 g2 qO
      .rw[e1 q qO qO];exact hc _ _ g1 qO g5 g4)
     (fun p g1 g2=>by rw[e1 p qO qO,e2];exact hi p g1 qO)
    have o1:Out d (sw d (j+1) j) j (j+2):=by rw[zVA];exact zF6 qO qO
    have o2:Pm d (sw d (j+1) j) j (j+2):=by rw[zVA];exact zMC qO qO
    exact⟨q1,fun k hk=>by rw[q2 k hk,o1 k qO],(o2.wide o1 qO qO qO).trans q3⟩
   .rename_i hh
    refine⟨?_,fun _ _=>rfl,Pm.refl _ _ _⟩
    rcases Nat.lt_or_ge a (j+1) with ha|ha
    .have hge:¬ (d (j+1)).1.fin<(d j).1.fin:=fun g=>hh ⟨ha,yyb g⟩
     have hx:slt (d j) (d (j+1)):=by
      have:=hi j qO (Nat.lt_succ_self j)
      unfold slt;omega
     intro p q g1 g2 g3
     rcases(show q<j+1\/q=j+1\/j+1<q by omega) with g|rfl|g
     .exact s1 p q g1 g2 g
     .rcases(show p=j\/p<j by omega) with rfl|g4
      .exact hx
      .exact slt.trans (s1 p j g1 g4 (Nat.lt_succ_self j)) hx
     .rcases(show p<j+1\/j+1<=p by omega) with g4|g4
      .exact hc p q g1 g4 g g3
      .exact s2 p q g4 g2 g3
    .obtain rfl:a=j+1:=by omega
     exact s2
def Asc (d:Nat->AE)(a b:Nat):Prop:=∀ p q,a<=p->p<q->q<b->(d p).1.id<(d q).1.id
theorem zFF {a e:Nat}:∀ (m i:Nat) (d:Nat->AE),m=e - i->a+1<=i->i<=e->Seg d a i->(∀ p q,a<=p->p<i->i<=q->q<e->(d p).1.id<(d q).1.id)->Asc d i e ->
  Seg (zBe a m i d) a e/\Out d (zBe a m i d) a e/\Pm d (zBe a m i d) a e
 | 0,i,d,hm,h1,h2,s,_,_=>by
   obtain rfl:i=e:=by omega
   exact⟨s,fun _ _=>rfl,Pm.refl _ _ _⟩
 | m+1,i,d,hm,h1,h2,s,hc,hi=>by
   rw[zBe]
   obtain⟨q1,q2,q3⟩:=zGP (a:=a) (e:=i+1) i d qO (Nat.lt_succ_self i) s (fun p q g1 g2 g3=>by omega) (fun p q g1 g2 g3 g4=>by omega) (fun p g1 g2=>hc p i g1 g2 (zzC _) qO)
   obtain⟨p1,p2,p3⟩:=zFF (a:=a) (e:=e) m (i+1) (zBY a i d) qO qO qO q1
    (fun p q g1 g2 g3 g4=>by
     rw[q2 q qO]
     have:zBY a i d p∈seg d a (i+1):=q3.mem_iff.1 (zCp.2 ⟨p,g1,g2,rfl⟩)
     obtain⟨k,k1,k2,k3⟩:=zCp.1 this
     rw[<- k3]
     rcases(show k=i\/k<i by omega) with rfl|k4
     .exact hi _ _ (zzC _) qO g4
     .exact hc _ _ k1 k4 qO g4)
    (fun p q g1 g2 g3=>by rw[q2 p qO,q2 q qO];exact hi _ _ qO g2 g3)
   exact⟨p1,fun k hk=>by rw[p2 k hk,q2 k qO],(q3.wide q2 (zzC _) qO qO).trans p3⟩
theorem zFk {a e:Nat}{d:Nat->AE}(h:a<=e)(hi:Asc d a e):Seg (zFD a e d) a e/\Out d (zFD a e d) a e/\Pm d (zFD a e d) a e:=by{
rcases Nat.lt_or_ge a e with h1|h1
.exact zFF _ _ d rfl (zzC _) h1 (fun p q g1 g2 g3=>by omega) (fun p q g1 g2 g3 g4=>hi p q g1 qO g4) (fun p q g1 g2 g3=>hi p q qO g2 g3)
.obtain rfl:a=e:=by omega
 unfold zFD;rw[show a - (a+1)=0 by omega,zBe];exact⟨fun p q g1 g2 g3=>by omega,fun _ _=>rfl,Pm.refl _ _ _⟩}
def zVB (w0:World)(g len n:Nat)(G:zA)(d:Nat->AE):Ending->World->Prop :=
 zZ (fun M v=>v=.tuple #[]/\∃ d' cs',M=cb g cs' 86::G/\cs'.length=len/\Els cs' 9 n (fun j=>(d' j).c)/\Seg d' 0 n/\Out d d' 0 n/\Pm d d' 0 n) w0
theorem zSG {w0 w:World}{g len n cap:Nat}{G:zA}{d:Nat->AE}{cs:List Value}(hA:Arr w0 g len n G d cs w)(hn:n<40)(hi:Asc d 0 n) :
  Calls prog 89 [.slice (some ⟨g,0,none⟩) n cap,.int .i64 (n:Int),.func (.func 48) #[] #[]].toArray w (zVB w0 g len n G d):=by{
rcases Nat.lt_or_ge n 20 with h20|h20
.obtain⟨q1,q2,q3⟩:=zFk (zzD n) hi;exact(zUJ hA h20).mono fun e w' ⟨v,M,he,⟨hv,cs',hM,hl,hels⟩,hs⟩=>⟨v,M,he,⟨hv,_,cs',hM,hl,hels,q1,q2,q3⟩,hs⟩
obtain⟨a1,a2,a3⟩:=zFk (a:=0) (e:=20) (Nat.zero_le 20) (fun p q g1 g2 g3=>hi p q g1 g2 qO);obtain⟨b1,b2,b3⟩:=zFk (a:=20) (e:=n) (d:=zFD 0 20 d) h20 (fun p q g1 g2 g3=>by rw[a2 p qO,a2 q qO];exact hi p q (zzD _) g2 g3);generalize hd1:zFD 0 20 d=d1 at *;generalize hd2:zFD 20 n d1=d2 at *;have m0:∀ k,k<20->∃ j,j<20/\d2 k=d j:=fun k hk=>by rw[b2 k qO];obtain⟨j,j1,j2,j3⟩:=zCp.1 (a3.mem_iff.1 (zCp.2 ⟨k,zzD _,hk,rfl⟩));exact⟨j,j2,j3.symm⟩
have m1:∀ k,20<=k->k<n->∃ j,20<=j/\j<n/\d2 k=d j:=fun k hk hk2=>by obtain⟨j,j1,j2,j3⟩:=zCp.1 (b3.mem_iff.1 (zCp.2 ⟨k,hk,hk2,rfl⟩));exact⟨j,j1,j2,by rw[<- j3,a2 j qO]⟩
have hcr:zJk d2 0 20 n:=fun p q g1 g2 g3 g4 _=>by obtain⟨j,j1,j2⟩:=m0 p g2;obtain⟨k,k1,k2,k3⟩:=m1 q g3 g4;rw[j2,k3];exact hi _ _ (zzD _) qO k2
have s1:Seg d2 0 20:=fun p q g1 g2 g3=>by rw[b2 p qO,b2 q qO];exact a1 p q g1 g2 g3
have o2:Out d d2 0 n:=fun k hk=>by rw[b2 k qO,a2 k qO]
have p2:Pm d d2 0 n:=(a3.wide a2 (zzC _) (zzD _) h20).trans (b3.wide b2 (zzD _) h20 (zzC _));refine enter [] func89 rfl ntmps89 rfl rfl ?_;have H:=hA;clear hA;(repeat' first|refine yT ?_|refine yU ?_|with_reducible apply zAT|fail);refine zD [(7,8),(11,22)] (fun x:Nat × (Nat->AE) × List Value=>[(7,.int .i64 (x.1:Int)),(8,.int .i64 ((x.1+20:Nat):Int))]) (fun x w=>(x.1=0/\x.2.1=d\/x.1=20/\x.2.1=d1)/\Arr w0 g len n G x.2.1 x.2.2 w) (fun x=>20 - x.1) (0,d,cs) ⟨rfl,rfl,trivial⟩ ⟨.inl ⟨rfl,rfl⟩,H⟩ ?_;clear H;rintro⟨i,D,cs1⟩ gh w ⟨hi0,H⟩;simp only at hi0 H ⊢;(repeat' first|refine yT ?_|refine yU ?_|fail);refine zB rfl (fun h=>?_) (fun h=>?_)
.obtain⟨rfl,rfl⟩:i=0/\D=d:=by
  rcases hi0 with h0|⟨rfl,_⟩
  .exact h0
  .exfalso;have:=zzA h;omega
 (repeat' first|refine yT ?_|(refine' y33 zLF ?_ ?_;rotate_left 2;exact zLp (a:=0) (e:=20) H (zzD _) h20 qO;rintro _ _ w ⟨rfl,cs',rfl,hl,he⟩ HS;have H':Arr w0 g len n G d1 cs' w:=⟨HS,hl,hd1 ▸ he⟩;clear H HS hl he;have H:=H';clear H')|refine yU ?_|with_reducible apply zAT|fail);exact zC (20,d1,_) rfl ⟨rfl,rfl,trivial⟩ ⟨.inr ⟨rfl,rfl⟩,H⟩ (by show 20 - 20<20 - 0;omega)
.obtain⟨rfl,rfl⟩:i=20/\D=d1:=by
  rcases hi0 with ⟨rfl,_⟩|h0
  .exfalso;have:=zzB h;omega
  .exact h0
 (repeat' first|refine yT ?_|(refine' y33 zLF ?_ ?_;rotate_left 2;exact zLp (a:=20) (e:=n) H h20 (zzC _) qO;rintro _ _ w ⟨rfl,cs',rfl,hl,he⟩ HS;have H':Arr w0 g len n G d2 cs' w:=⟨HS,hl,hd2 ▸ he⟩;clear H HS hl he;have H:=H';clear H')|refine yU ?_|with_reducible apply zAT|fail);refine zD [(6,9),(28,62)] (fun x:Nat × (Nat->AE) × List Value=>[(6,.int .i64 (x.1:Int))]) (fun x w=>(x.1=20/\x.2.1=d2\/x.1=40/\Seg x.2.1 0 n/\Out d x.2.1 0 n/\Pm d x.2.1 0 n)/\Arr w0 g len n G x.2.1 x.2.2 w) (fun x=>40 - x.1) (20,d2,_) ⟨rfl,trivial⟩ ⟨.inl ⟨rfl,rfl⟩,H⟩ ?_;clear H;rintro⟨i,D,cs2⟩ gh2 w ⟨hi0,H⟩;simp only at hi0 H ⊢;(repeat' first|refine yT ?_|refine yU ?_|fail);refine zB rfl (fun h2=>?_) (fun h2=>?_)
 .obtain⟨rfl,rfl⟩:i=20/\D=d2:=by
   rcases hi0 with h0|⟨rfl,_⟩
   .exact h0
   .exfalso;have:=zzA h2;omega
  have hlt:20<n:=by have:=zzA h2;omega
  (repeat' first|refine yT ?_|refine yU ?_|with_reducible apply zAT|fail);refine zD [(7,8),(33,48)] (fun _:Unit=>[(7,.int .i64 0),(8,.int .i64 40)]) (fun _ w=>Arr w0 g len n G D cs2 w) (fun _=>0) () ⟨rfl,rfl,trivial⟩ H ?_;clear H;rintro _ gh3 w H;(repeat' first|refine yT ?_|refine yU ?_|fail);refine zB rfl (fun h3=>?_) (fun h3=>?_)
  .exact absurd (zzA h3) qO
  have hw20:decide ((20:Int)<n)=true:=yyb qO;(repeat' first|refine yT ?_|(refine' y33 zLG ?_ ?_;rotate_left 2;exact zPJ qO n (a:=0) (m:=20) (b:=n) qO qO hlt (zzC _) H s1 b1 hcr;rintro _ _ w ⟨rfl,d3,cs',rfl,hl,he,q1,q2,q3⟩ HS;have H':Arr w0 g len n G d3 cs' w:=⟨HS,hl,he⟩;clear H HS hl he;have H:=H';clear H')|refine yU ?_|(refine y23 ?_ ?_;all_goals(intro h;try (exfalso;first|(rw[w64 qO qO] at h;(simp only[decide_eq_true_eq,yyy,beq_iff_eq,yyq,bne_iff_ne,ne_eq,Bool.not_eq_true,Int.not_lt,Int.not_le,gt_iff_lt,ge_iff_le] at h;omega);done))))|fail);exact zD5 (40,d3,_) rfl ⟨rfl,trivial⟩ ⟨.inr ⟨rfl,q1,fun k hk=>(q2 k hk).trans (o2 k hk),p2.trans q3⟩,H⟩ (by show 40 - 40<40 - 20;omega)
 .have h3:i=40/\Seg D 0 n/\Out d D 0 n/\Pm d D 0 n\/(i=20/\n=20/\D=d2):=by
   rcases hi0 with ⟨rfl,rfl⟩|h0
   .right;exact⟨rfl,by have:=zzB h2;omega,rfl⟩
   .exact .inl h0
  have h4:Seg D 0 n/\Out d D 0 n/\Pm d D 0 n:=by
   rcases h3 with ⟨_,q⟩|⟨_,rfl,rfl⟩
   .exact q
   .exact⟨s1,o2,p2⟩
  (repeat' first|refine yU ?_|fail);exact zB2 (vs:=[]) (M:=_) trivial H.st ⟨rfl,D,_,rfl,H.len,H.els,h4.1,h4.2.1,h4.2.2⟩}
theorem zKF {w0 w:World}{g len n cap:Nat}{G:zA}{d:Nat->AE}{cs:List Value}(hA:Arr w0 g len n G d cs w)(hn:n<40)(hi:Asc d 0 n) :
  Calls prog 47 [.slice (some ⟨g,0,none⟩) n cap,.func (.func 48) #[] #[]].toArray w (zVB w0 g len n G d):=by refine enter [] func47 rfl ntmps47 rfl rfl ?_;have H:=hA;clear hA;(repeat' first|refine yT ?_|(refine' y33 ent89 ?_ ?_;rotate_left 2;exact zSG H hn hi;rintro _ _ w ⟨rfl,d',cs',rfl,hl,he,q⟩ HS)|refine yU ?_|fail);exact zB2 (vs:=[]) (M:=_) trivial HS ⟨rfl,d',cs',rfl,hl,he,q⟩
def ltA (x y:Auc):Prop:=x.fin<y.fin\/(x.fin=y.fin/\x.id<y.id)
def IsRow (l:List Auc)(clock:Int)(r:List Auc):Prop :=
 (zAF l=true/\r.Pairwise ltA/\r.Perm (l.filter fun x=>zAW x clock))\/(zAF l=false/\r=[])
theorem IsRow.uniq {l:List Auc}{clock:Int}{r r':List Auc}(h:IsRow l clock r)(h':IsRow l clock r'):r=r':=by{
rcases h with ⟨h0,h1,h2⟩|⟨h0,h1⟩
.rcases h' with ⟨_,k1,k2⟩|⟨k0,_⟩
 .exact List.Perm.eq_of_pairwise (le:=ltA) (fun a b _ _ g1 g2=>by unfold ltA at *;omega) h1 k1 (h2.trans k2.symm)
 .rw[h0] at k0;cases k0
.rcases h' with ⟨k0,_⟩|⟨_,k1⟩
 .rw[h0] at k0;cases k0
 .rw[h1,k1]}
theorem zPK {l:List Auc}:(List.range l.length).map (fun i=>l.getD i default)=l:=by{
apply List.ext_getElem
.simp
.intro i h1 h2;simp at h1;simp[h1]}
theorem zME (l:List Auc)(q:Auc->Bool):((List.range l.length).filter fun i=>q (l.getD i default)).map (fun i=>l.getD i default)=l.filter q:=by
 conv=>rhs;rw[<- zPK (l:=l),List.filter_map]
 rfl
theorem zKs {l:List Auc}(h:zAF l=true):l.length<=32/\(∀ i,i<l.length->zAS (l.getD i default)=true)/\∀ i j,i<j->j<l.length->(l.getD i default).id<(l.getD j default).id:=by{
simp only[zAF,yy3,decide_eq_true_eq] at h;have hb:∀ k,k<l.length->zBn l k=false:=by
 rcases zX (zBn l) l.length with ⟨k,hk,_,_,hix⟩|⟨hall,_⟩
 .rw[hix] at h;omega
 .exact hall
have hs:∀ i,i+1<l.length->(l.getD i default).id<(l.getD (i+1) default).id:=by intro i hi;have:=hb (i+1) hi;simp only[zBn,Bool.or_eq_false_iff,yyy,Int.not_le] at this;exact this.1
refine⟨by omega,fun i hi=>?_,fun i j hij=>?_⟩
.have:=hb i hi;simp only[zBn,Bool.or_eq_false_iff,Bool.not_eq_false'] at this;exact this.2
.induction j with
 | zero=>omega
 | succ j ih =>
   intro hj;rcases(show i=j\/i<j by omega) with rfl|h2
   .exact hs i hj
   .exact Int.lt_trans (ih h2 qO) (hs j hj)}
theorem zNb (d:Nat->AE)(n:Nat):seg d 0 n=(List.range n).map d:=by unfold seg;rw[Nat.sub_zero];refine List.map_congr_left fun t _=>?_;rw[yyv]
theorem kp_asc {p:Nat->Bool}{n i j:Nat}(h:i<j)(hj:j<(kp p n).length):(kp p n).getD i 0<(kp p n).getD j 0:=by have hp:(kp p n).Pairwise (·<·):=(List.pairwise_lt_range).filter _;rw[List.pairwise_iff_getElem] at hp;have:=hp i j qO hj h;simpa [yy2,yy1 (show i<(kp p n).length by omega),yy1 hj] using this
theorem kp_mem {p:Nat->Bool}{n i:Nat}(h:i<(kp p n).length):(kp p n).getD i 0<n/\p ((kp p n).getD i 0)=false:=by
 have:(kp p n).getD i 0∈kp p n:=by rw[yy2,yy1 h];exact List.getElem_mem h
 unfold kp at this ⊢;simpa [yyw] using this
theorem row_is {l:List Auc}{ad:Nat->OA × Nat}{clock:Int}{D:Nat->AE}(hm:zAF l=true)(h1:Seg D 0 (zGE l clock))(h2:Pm (zIS (fun j=>!zAW (l.getD j default) clock) l.length (aed l ad)) D 0 (zGE l clock)) :
  IsRow l clock ((List.range (zGE l clock)).map fun t=>(D t).1):=by{
left;refine⟨hm,?_,?_⟩
.rw[List.pairwise_map];refine List.Pairwise.imp_of_mem (R:=(·<·)) (fun ha hb hab=>?_) List.pairwise_lt_range;exact h1 _ _ (zzD _) hab (List.mem_range.1 hb)
.have:=List.Perm.map (fun p:AE=>p.1) h2;rw[zNb,zNb,List.map_map,List.map_map] at this;refine this.trans ?_;have he:(List.range (zGE l clock)).map ((fun p:AE=>p.1) ∘ zIS (fun j=>!zAW (l.getD j default) clock) l.length (aed l ad))=l.filter fun x=>zAW x clock:=by
  rw[<- zME l fun x=>zAW x clock];have hk:kp (fun j=>!zAW (l.getD j default) clock) l.length=(List.range l.length).filter fun i=>zAW (l.getD i default) clock:=by unfold kp;simp
  unfold zGE;rw[hk];apply List.ext_getElem
  .simp
  .intro i g1 g2;simp only[yyp,List.length_range] at g1;simp only[List.getElem_map,List.getElem_range,Function.comp,zIS,aed,hk];rw[yy2 (l:=List.filter _ _),yy1 g1];rfl
 rw[he]}
theorem zVC {a:OA}{cap:Nat}(l:List Auc)(ad:Nat->OA × Nat)(clock:Int){F:zA}(w0:World)(hF:Mem w0 F)(hs0:Aucs F a cap l ad)(hm:zAF l=false) :
  Cr 15 [.slice a l.length cap,.int .i64 clock] (.slice none 0 0) w0:=by{
refine eS func15 ntmps15 fun H=>?_;(repeat' first|refine yX ?_|(refine yB ?_;intro b w H)|(refine c0 zPv ?_;refine⟨_,zGt l ad _ (H.memF hF) hs0,?_⟩;clear H;intro w H)|fail);refine zB rfl (fun h=>?_) (fun h=>?_)
·(repeat' first|refine yX ?_|fail);exact zG rfl H.cl rfl
.rw[hm] at h;cases h}
theorem c_Row0 {a:OA}{cap:Nat}(clock:Int){F:zA}(w0:World)(hF:Mem w0 F)(hs0:Aucs F a cap [] fun _=>(none,0)) :
  Cf 15 [.slice a 0 cap,.int .i64 clock] (fun M v=>∃ a' cap',v=.slice a' 0 cap'/\OwnI M a' cap' []) w0:=by{
have c_Index0:∀ {a:OA} {cap:Nat} {b:Nat} {w:World},Cr 88 [.slice a 0 cap,.func (.func 45) #[] #[(pt b)]] (.int .i64 (-1)) w:=by intro a cap b w;refine eS func88 ntmps88 fun H=>?_;(repeat' first|refine yX ?_|fail);refine zD [(4,5),(8,18)] (fun _:Unit=>[(8,.int .i64 0)]) (fun _ w'=>St w [] w') (fun _=>0) () ⟨rfl,trivial⟩ H ?_;clear H;rintro _ gh w H;(repeat' first|refine yX ?_|fail);exact zG rfl H.cl rfl
have c_Del0:∀ {a:OA} {cap:Nat} {b:Nat} {w:World},Cr 43 [.slice a 0 cap,.func (.func 45) #[] #[(pt b)]] (.slice a 0 cap) w:=by intro a cap b w;refine eS func43 ntmps43 fun H=>?_;(repeat' first|refine yX ?_|(refine c0 zMg ?_;refine⟨_,c_Index0,?_⟩;clear H;intro w H)|fail);exact zG rfl H.cl rfl
have c_ins0:∀ {a:OA} {cap:Nat} {w:World},Cr 131 [.slice a 0 cap,.int .i64 0,.int .i64 0,.func (.func 48) #[] #[]] (.tuple #[]) w:=by intro a cap w;refine eS func131 ntmps131 fun H=>?_;(repeat' first|refine yX ?_|fail);refine zD [(8,9),(12,52)] (fun _:Unit=>[(8,.int .i64 1)]) (fun _ w'=>St w [] w') (fun _=>0) () ⟨rfl,trivial⟩ H ?_;clear H;rintro _ gh w H;(repeat' first|refine yX ?_|fail);exact zMW (vs:=[]) trivial H.cl rfl
have c_sta0:∀ {a:OA} {cap:Nat} {w1:World},Cr 89 [.slice a 0 cap,.int .i64 0,.func (.func 48) #[] #[]] (.tuple #[]) w1:=by intro a cap w1;refine eS func89 ntmps89 fun H=>?_;(repeat' first|refine yX ?_|fail);refine zD [(7,8),(11,22)] (fun _:Unit=>[(7,.int .i64 0),(8,.int .i64 20)]) (fun _ w'=>St w1 [] w') (fun _=>0) () ⟨rfl,rfl,trivial⟩ H ?_;clear H;rintro _ gh w H;(repeat' first|refine yX ?_|(refine c0 zLF ?_;refine⟨_,c_ins0,?_⟩;clear H;intro w H)|fail);refine zD [(6,9),(28,62)] (fun _:Unit=>[(6,.int .i64 20)]) (fun _ w'=>St w1 [] w') (fun _=>0) () ⟨rfl,trivial⟩ H ?_;clear H;rintro _ gh w H;(repeat' first|refine yX ?_|fail);exact zMW (vs:=[]) trivial H.cl rfl
have c_sort0:∀ {a:OA} {cap:Nat} {w:World},Cr 47 [.slice a 0 cap,.func (.func 48) #[] #[]] (.tuple #[]) w:=by intro a cap w;refine eS func47 ntmps47 fun H=>?_;(repeat' first|refine yX ?_|(refine c0 ent89 ?_;refine⟨_,c_sta0,?_⟩;clear H;intro w H)|fail);exact zMW (vs:=[]) trivial H.cl rfl
refine eS func15 ntmps15 fun H=>?_;(repeat' first|refine yX ?_|(refine yB ?_;intro b w H)|(refine c0 zPv ?_;refine⟨_,zGt [] (fun _=>(none,0)) _ (H.memF hF) hs0,?_⟩;clear H;intro w H)|fail);(repeat' first|refine yX ?_|(refine f0 zS4 ?_;refine⟨_,zGV (n:=0) _ (H.memF hF) hs0.1 (fun j hj=>absurd hj (zzE _)) (fun j hj=>absurd hj (zzE _)) qO,?_⟩;clear H;intro v M w hR H;(try simp only[zca,zcb] at H);obtain⟨a',cap',rfl,hO⟩:=hR)|(refine c0 ent43 ?_;refine⟨_,c_Del0,?_⟩;clear H;intro w H)|(refine c0 ent47 ?_;refine⟨_,c_sort0,?_⟩;clear H;intro w H)|fail);refine zD [(6,6),(8,8),(20,29)] (fun _:Unit=>[(6,.slice none 0 0),(20,.int .i64 0)]) (fun _ w=>St w0 (cb b [Value.int .i64 clock] 2::M) w) (fun _=>0) () ⟨rfl,rfl,trivial⟩ H ?_;clear H;rintro _ gh w H;(repeat' first|refine yX ?_|fail);exact zc (vs:=[_]) (M:=[]) ⟨zP rfl,trivial⟩ (H.sub (zz9 _)) ⟨none,0,rfl,zWD _ _ _⟩}
theorem zPL {a:OA}{cap:Nat}(l:List Auc)(ad:Nat->OA × Nat)(clock:Int){F:zA}(w0:World)(hF:Mem w0 F)(hs0:Aucs F a cap l ad) :
  Cf 15 [.slice a l.length cap,.int .i64 clock] (fun M v=>∃ r a' cap',IsRow l clock r/\v=.slice a' r.length cap'/\OwnI M a' cap' (r.map (·.id))) w0:=by{
cases hm:zAF l with
| false=>exact(zVC l ad clock w0 hF hs0 hm).mono fun e w' ⟨he,hc⟩=>⟨_,[],he,⟨[],none,0,.inr ⟨hm,rfl⟩,rfl,zWD _ _ _⟩,(zBm w0).ext hc⟩
| true =>
obtain⟨h32,hall,hasc⟩:=zKs hm;rcases yyn l.length with h0|h0
.obtain rfl:l=[]:=List.eq_nil_of_length_eq_zero h0;refine(c_Row0 clock w0 hF (show Aucs F a cap [] fun _=>(none,0) from⟨⟨hs0.1.1,hs0.1.2.1,0,0,[],0,(0,0),fun h=>absurd h (yyz 0)⟩,fun j hj=>absurd hj (zzE _)⟩)).mono fun e w' ⟨v,M,he,⟨a',cap',hv,hO⟩,hs⟩=>⟨v,M,he,⟨[],a',cap',.inl ⟨hm,List.Pairwise.nil,List.Perm.refl _⟩,hv,hO⟩,hs⟩
refine eS func15 ntmps15 fun H=>?_;(repeat' first|refine yX ?_|(refine yB ?_;intro b w H)|(refine c0 zPv ?_;refine⟨_,zGt l ad _ (H.memF hF) hs0,?_⟩;clear H;intro w H)|fail);refine zB rfl (fun h=>?_) (fun h=>?_)
.rw[hm] at h;cases h
clear h;(repeat' first|refine yX ?_|(refine f0 zS4 ?_;refine⟨_,zGV _ (H.memF hF) hs0.1 (fun j _=>AE.c_one (aed l ad j)) (fun j _=>rfl) qO,?_⟩;clear H;intro v M w hR H;(try simp only[zca,zcb] at H);obtain⟨a',cap',rfl,hO⟩:=hR)|fail);obtain⟨g,cs,rfl,rfl,hnc,he⟩:=hO.els h0 (fun j _=>rfl);clear hO;replace H:=H.perm (List.Perm.swap _ _ _);have hkl:=zLq (fun j=>!zAW (l.getD j default) clock) l.length;have hA:Asc (zIS (fun j=>!zAW (l.getD j default) clock) l.length (aed l ad)) 0 (kp (fun j=>!zAW (l.getD j default) clock) l.length).length:=fun p q g1 g2 g3=>hasc _ _ (kp_asc g2 g3) (kp_mem g3).1;(repeat' first|refine yX ?_|(refine' y33 ent43 ?_ ?_;rotate_left 2;exact zM0 (n:=l.length) (d:=aed l ad) (caps:=[(pt b)]) (fun j=>!zAW (l.getD j default) clock) H he qO hnc ent45 (fun j hj L cs' w' H'=>c_Row1 (l.getD j default) clock w' (H'.all hF) ((hs0.2 j hj).mono (zz8 _ _)) (zz6 _ (zz3 _ (zz5 _ (zz2 _)))));rintro _ _ w ⟨rfl,cs2,rfl,hl2,he2⟩ H2;clear H;have H:=H2;clear H2)|(refine' y33 ent47 ?_ ?_;rotate_left 2;exact zKF ⟨H,rfl,he2⟩ qO hA;rintro _ _ w ⟨rfl,D,cs3,rfl,hl3,he3,hD1,hD2,hD3⟩ H2;clear H;have H:=H2;clear H2)|fail);change Els cs3 9 (zGE l clock) (fun t=>(D t).c) at he3;change (zGE l clock)<=l.length at hkl;change Seg D 0 (zGE l clock) at hD1;have hrow:=row_is (ad:=ad) hm hD1 hD3
refine zD [(6,6),(8,8),(20,29)] (fun x:Nat × OA × Nat × zA=>[(6,.slice x.2.1 x.1 x.2.2.1),(20,.int .i64 (x.1:Int))])
 (fun x w=>x.1<=zGE l clock/\Go.Sk.Own x.2.2.2 2 1 x.2.1 x.1 x.2.2.1 ((List.range x.1).map fun t=>Value.int .i64 (D t).1.id)/\St w0 (x.2.2.2++[cb g cs3 86,cb b [Value.int .i64 clock] 2]) w)
 (fun x=>zGE l clock - x.1) (0,none,0,[]) ⟨rfl,rfl,trivial⟩ ⟨zzD _,zWD _ _ _,H⟩ ?_
clear H he2;rintro⟨k,a1,cap1,M1⟩ gh w ⟨hk,hO,H⟩;simp only at hk hO H ⊢;(repeat' first|refine yX ?_|fail);refine zB rfl (fun h=>?_) (fun h=>?_)
.have hlt:k<zGE l clock:=by have:=zzA h;unfold zGE;omega
 have hs:=he3.slb (F:=M1++[cb g cs3 86,cb b [Value.int .i64 clock] 2]) (T:=86) (g:=g) (zz3 _ (zz2 _));(repeat' first|refine yX ?_|(refine yB ?_;intro b w H)|(refine y11 sg H ?_;intro w H)|refine x40 sg hs ?_|refine x42 sg hs H.mem ?_|(refine zY sg 1 8 (M:=M1) (G:=[_,_,_,_]) (H.perm (yyf [_,_] M1 [_,_])) rfl rfl rfl rfl rfl rfl rfl rfl rfl rfl rfl hO (zh H.mem (zz2 _)) rfl (by intro u hu;simp only[List.mem_cons,List.not_mem_nil,or_false] at hu;subst hu;rfl) (by unfold maxLen;omega) qO ?_;intro a2 cap2 M2 w hO2 H2)|fail);refine zC (k+1,a2,cap2,M2) rfl ⟨rfl,zU qO,trivial⟩ ⟨hlt,?_,H2.sub (List.Sublist.append (yy7 _) (yy6 _ (yy6 _ (yy7 _))))⟩ (by show zGE l clock - (k+1)<zGE l clock - k;omega);show Go.Sk.Own M2 _ 1 a2 (k+1) cap2 ((List.range (k+1)).map fun t=>Value.int .i64 (D t).1.id);rw[yys,List.map_append];exact hO2
.have hkn:k=zGE l clock:=by have:=zzB h;unfold zGE at *;omega
 subst hkn;(repeat' first|refine yX ?_|fail);refine zc (vs:=[_]) (M:=M1) ⟨zP rfl,trivial⟩ (H.sub (yyt _ _)) ⟨_,a1,cap1,hrow,by rw[yyp,List.length_range];rfl,?_⟩;unfold OwnI;rw[yyp,yyp,List.length_range,List.map_map,List.map_map];exact hO}
end
section
open Go Go.Sk Go.RowKit Tryz
attribute [local irreducible] Go.Calls
section
variable {F G:zA}{bm:Nat}{s:Sta}{p:SPt}{n:List Int}{na:OA}{nc:Nat}{t:ByteArray}{Ma Mi Mu R:zA}
theorem zQg {l:List Auc}{clock:Int}{r:List Auc}(h:IsRow l clock r)(hm:zAF l=true):decide ((r.length:Int)>0)=l.any (fun a=>zAW a clock):=by{
rcases h with ⟨_,_,h2⟩|⟨h0,_⟩
.rw[Bool.eq_iff_iff,decide_eq_true_iff,List.any_eq_true,h2.length_eq];constructor
 .intro g;have:0<(l.filter fun x=>zAW x clock).length:=by{omega};obtain⟨x,hx⟩:=List.exists_mem_of_length_pos this
  exact⟨x,(List.mem_filter.1 hx).1,(List.mem_filter.1 hx).2⟩
 .rintro⟨x,hx,hd⟩;have:=List.length_pos_of_mem (yyw (p:=fun x=>zAW x clock).2 ⟨hx,hd⟩);omega
.rw[hm] at h0;cases h0}
theorem zXI {w0 w:World}(hm:zAF s.aucs=true)(hLt:LtS s)(hl:1<=n.length)(H:St w0 (mkL bm (mkc s p n na nc t) Ma Mi Mu R) w)(hC:Cps s p Ma Mi Mu R)(hF:Mem w0 F)(hN:Ints F na nc n) :
  Calls prog 171 [(pt bm)].toArray w (zZ (zCE bm n na nc t (zHi s n)) w0):=by{
obtain⟨hn2,hc2,b2,off2,cs2,T2,fr2,hs2⟩:=id hN;have hs2F:=hs2.mono (yyu (cb bm (mkc s p n na nc t) 182) F);unfold zHi;by_cases h0:nF n 0<=s.clock
.have d0:decide (nF n 0<=s.clock)=true:=yyb h0;rw[if_pos (.inl h0)];refine eN func171 ntmps171 ?_;(repeat' first|refine yX ?_|(refine CW.regionL mixed 27 (z6s (x:=cb bm (mkc s p n na nc t) 182) H hF) [] ?_ ?_;exact rfl;refine wQ H ?_;clear H;intro w H)|refine lN ?_|refine lT sg 0 (z6s H hF) ?_|refine lT sg 1 (z6s H hF) ?_|refine lT sg 2 (z6s H hF) ?_|(refine' l1 3 (z6s H hF) ?_ ?_;rotate_left;exact z3 sg)|(refine' l1 4 (z6s H hF) ?_ ?_;rotate_left;exact(zQ sg hs2))|(refine' l1 5 (z6s H hF) ?_ ?_;rotate_left;exact(zK sg hs2F (show 0<n.length by omega)))|refine lT sg 6 (z6s H hF) ?_|refine lT sg 7 (z6s H hF) ?_|refine lT sg 8 (z6s H hF) ?_|refine lT sg 9 (z6s H hF) ?_|(refine' l1 10 (z6s H hF) ?_ ?_;rotate_left;exact z3 sg)|refine lT sg 12 (z6s H hF) ?_|(refine l8 13 (z6s H hF) ?_)|(refine l8 14 (z6s H hF) ?_)|(refine l8 15 (z6s H hF) ?_)|(refine l8 16 (z6s H hF) ?_)|(refine l8 17 (z6s H hF) ?_)|(refine l8 18 (z6s H hF) ?_)|(refine l8 19 (z6s H hF) ?_)|(refine l8 20 (z6s H hF) ?_)|(refine l8 21 (z6s H hF) ?_)|(refine l8 22 (z6s H hF) ?_)|(refine' l1 11 (z6s H hF) ?_ ?_;rotate_left;(intro w2 _;refine' zCS sg ?_ w2;exact congrArg (fun x=>some (Value.bool x)) d0))|refine l2 23 ?_|refine l2 24 ?_|refine l2 25 ?_|refine l2 26 ?_|(refine l5 (z6s H hF) ?_)|fail);exact zL (M:=_) rfl H ⟨rfl,fun h=>absurd h (show(46:Int)≠0 by decide)⟩
.have d0:decide (nF n 0<=s.clock)=false:=yyc h0;cases h1:s.aucs.any (fun a=>zAW a s.clock) with
 | true =>
   rw[if_pos (.inr rfl)];refine eN func171 ntmps171 ?_;(repeat' first|refine yX ?_|(refine CW.regionL mixed 27 (z6s (x:=cb bm (mkc s p n na nc t) 182) H hF) [] ?_ ?_;exact rfl;refine wQ H ?_;clear H;intro w H)|refine lN ?_|refine lT sg 0 (z6s H hF) ?_|refine lT sg 1 (z6s H hF) ?_|refine lT sg 2 (z6s H hF) ?_|(refine' l1 3 (z6s H hF) ?_ ?_;rotate_left;exact z3 sg)|(refine' l1 4 (z6s H hF) ?_ ?_;rotate_left;exact(zQ sg hs2))|(refine' l1 5 (z6s H hF) ?_ ?_;rotate_left;exact(zK sg hs2F (show 0<n.length by omega)))|refine lT sg 6 (z6s H hF) ?_|refine lT sg 7 (z6s H hF) ?_|refine lT sg 8 (z6s H hF) ?_|refine lT sg 9 (z6s H hF) ?_|(refine' l1 10 (z6s H hF) ?_ ?_;rotate_left;exact z3 sg)|refine lT sg 12 (z6s H hF) ?_|(refine' l7 13 (z6s H hF) ?_ ?_;rotate_left;exact z4 sg)|(refine' l7 14 (z6s H hF) ?_ ?_;rotate_left;exact z4 sg)|(refine' l7 15 (z6s H hF) ?_ ?_;rotate_left;exact z4 sg)|(refine' l7 16 (z6s H hF) ?_ ?_;rotate_left;exact z4 sg)|(refine' l7 17 (z6s H hF) ?_ ?_;rotate_left;exact z3 sg)|(refine' l7 18 (z6s H hF) ?_ ?_;rotate_left;exact z4 sg)|(refine' l7 19 (z6s H hF) ?_ ?_;rotate_left;exact z4 sg)|(refine' l7 20 (z6s H hF) ?_ ?_;rotate_left;exact z4 sg)|(refine' l7 21 (z6s H hF) ?_ ?_;rotate_left;exact z4 sg)|(refine' l7 22 (z6s H hF) ?_ ?_;rotate_left;exact z3 sg)|(refine' l1 11 (z6s H hF) ?_ ?_;rotate_left;(intro w2 _;refine' zCS sg ?_ w2;exact congrArg (fun x=>some (Value.bool x)) d0))|refine l2 23 ?_|refine l2 24 ?_|refine l2 25 ?_|refine l2 26 ?_|(refine l5 (z6s H hF) ?_)|(refine f0 zS1 ?_;refine⟨_,zPL s.aucs p.ad s.clock _ (H.all hF) (ze hC hLt hN).sta.au,?_⟩;clear H;intro v M w hR H;(try simp only[zca,zcb] at H);obtain⟨r,a',cap',hr,rfl,hO⟩:=hR)|fail);refine CW.condT (congrArg Value.bool ((zQg hr hm).trans h1)) ?_;(repeat' first|refine yX ?_|fail);exact zL (M:=_) rfl H ⟨rfl,fun h=>absurd h (show(46:Int)≠0 by decide)⟩
 | false =>
   rw[if_neg (by rintro(g|g);exact h0 g;cases g)];refine eN func171 ntmps171 ?_;(repeat' first|refine yX ?_|(refine CW.regionL mixed 27 (z6s (x:=cb bm (mkc s p n na nc t) 182) H hF) [] ?_ ?_;exact rfl;refine wQ H ?_;clear H;intro w H)|refine lN ?_|refine lT sg 0 (z6s H hF) ?_|refine lT sg 1 (z6s H hF) ?_|refine lT sg 2 (z6s H hF) ?_|(refine' l1 3 (z6s H hF) ?_ ?_;rotate_left;exact z3 sg)|(refine' l1 4 (z6s H hF) ?_ ?_;rotate_left;exact(zQ sg hs2))|(refine' l1 5 (z6s H hF) ?_ ?_;rotate_left;exact(zK sg hs2F (show 0<n.length by omega)))|refine lT sg 6 (z6s H hF) ?_|refine lT sg 7 (z6s H hF) ?_|refine lT sg 8 (z6s H hF) ?_|refine lT sg 9 (z6s H hF) ?_|(refine' l1 10 (z6s H hF) ?_ ?_;rotate_left;exact z3 sg)|refine lT sg 12 (z6s H hF) ?_|(refine' l7 13 (z6s H hF) ?_ ?_;rotate_left;exact z4 sg)|(refine' l7 14 (z6s H hF) ?_ ?_;rotate_left;exact z4 sg)|(refine' l7 15 (z6s H hF) ?_ ?_;rotate_left;exact z4 sg)|(refine' l7 16 (z6s H hF) ?_ ?_;rotate_left;exact z4 sg)|(refine' l7 17 (z6s H hF) ?_ ?_;rotate_left;exact z3 sg)|(refine' l7 18 (z6s H hF) ?_ ?_;rotate_left;exact z4 sg)|(refine' l7 19 (z6s H hF) ?_ ?_;rotate_left;exact z4 sg)|(refine' l7 20 (z6s H hF) ?_ ?_;rotate_left;exact z4 sg)|(refine' l7 21 (z6s H hF) ?_ ?_;rotate_left;exact z4 sg)|(refine' l7 22 (z6s H hF) ?_ ?_;rotate_left;exact z3 sg)|(refine' l1 11 (z6s H hF) ?_ ?_;rotate_left;(intro w2 _;refine' zCS sg ?_ w2;exact congrArg (fun x=>some (Value.bool x)) d0))|refine l2 23 ?_|refine l2 24 ?_|refine l2 25 ?_|refine l2 26 ?_|(refine l5 (z6s H hF) ?_)|(refine f0 zS1 ?_;refine⟨_,zPL s.aucs p.ad s.clock _ (H.all hF) (ze hC hLt hN).sta.au,?_⟩;clear H;intro v M w hR H;(try simp only[zca,zcb] at H);obtain⟨r,a',cap',hr,rfl,hO⟩:=hR)|fail);refine CW.condF (congrArg Value.bool ((zQg hr hm).trans h1)) ?_;clear hO hr;replace H:=H.sub (yy5 _ (yyt _ M));(repeat' first|refine yX ?_|(refine y11 sg H ?_;intro w H)|refine x40 sg hs2 ?_|refine z13 (zLB sg hs2 (H.memF hF) (show 0<n.length by omega)) ?_|fail);exact zL (M:=mkL bm (mkc { s with clock:=nF n 0 } p n na nc t) Ma Mi Mu R) rfl H ⟨rfl,fun _=>⟨p,Ma,Mi,Mu,R,rfl,hC.ac,hC.ins,hC.rw,hC.od,hC.au,hC.bd⟩⟩}
theorem zPM (i k:Nat)(hi:i<n.length)(hk:k<n.length)(h1:1<=nF n k/\nF n k<=1000)(hT:∀ j,j<s.insts.length->1<=(in_ s.insts j).tick)(pr:Int)(hp:0<=pr/\pr<=4611686018427387904)(many:Bool)(w0:World)(hG:Mem w0 G)(hM:Mkt G bm s p n na nc t) :
  Cr 218 [(pt bm),.int .i64 (i:Int),.int .i64 (k:Int),.int .i64 pr,.bool many] (.int .i64 (zAQ s (nF n i) (nF n k) pr many)) w0:=by{
have ha:=fun w (b:Nat) (F:zA) (hF:Mem w F) (hm:cb b [Value.int .i64 (i:Int)] 3∈F) (hG:Mem w G)=>zCu (T:=3) i hi w hF hm hG hM;have hb:=fun w (hG:Mem w G)=>zMB k hk h1 w hG hM;unfold zAQ;cases ho:zAC s (nF n i) with
| false =>
  rw[ho] at ha;rw[if_neg (by rintro⟨g,_⟩;cases g)];refine eS func218 ntmps218 fun H=>?_;(repeat' first|refine yW ?_|(refine yB ?_;intro b w H)|(refine c0 zA4 ?_;refine⟨_,ha _ _ _ (H.mem) (zz2 _) (H.memF hG),?_⟩;clear H;intro w H)|(refine c0 zDF ?_;refine⟨_,hb _ (H.memF hG),?_⟩;clear H;intro w H)|fail);exact zG rfl H.cl rfl
| true =>
  rw[ho] at ha;cases hh:zBO s (nF n k) with
  | false =>
    have e:zCZ s p (nF n k)=none:=by unfold zCZ;rw[hh];rfl
    rw[e] at hb;rw[if_neg (by rintro⟨_,g⟩;cases g)];refine eS func218 ntmps218 fun H=>?_;(repeat' first|refine yW ?_|(refine yB ?_;intro b w H)|(refine c0 zA4 ?_;refine⟨_,ha _ _ _ (H.mem) (zz2 _) (H.memF hG),?_⟩;clear H;intro w H)|(refine c0 zDF ?_;refine⟨_,hb _ (H.memF hG),?_⟩;clear H;intro w H)|fail);exact zG rfl H.cl rfl
  | true =>
    have hle:=zAh.1 hh;have hj:(nF n k - 1).toNat<s.insts.length:=by{omega};have hT1:=hT _ hj
    obtain⟨hn3,hc3,b3,off3,cs3,T3,fr3,hs3⟩:=hM.sta.ins;have e:zCZ s p (nF n k)=some ⟨b3,off3+(nF n k - 1).toNat*3,none⟩:=by unfold zCZ;rw[if_pos hh,(hs3 qO).1,Option.map_some,zAA]
    rw[e] at hb;rw[if_pos ⟨rfl,rfl⟩];refine eS func218 ntmps218 fun H=>?_;(repeat' first|refine yW ?_|(refine yB ?_;intro b w H)|(refine c0 zA4 ?_;refine⟨_,ha _ _ _ (H.mem) (zz2 _) (H.memF hG),?_⟩;clear H;intro w H)|(refine c0 zDF ?_;refine⟨_,hb _ (H.memF hG),?_⟩;clear H;intro w H)|refine x44 sg hs3 (H.memF hG) ?_|refine z13 (Yq.rem rfl rfl rfl (show(in_ s.insts (nF n k - 1).toNat).tick≠0 by omega)) ?_|(refine y23 ?_ ?_;all_goals(intro h;try (exfalso;first|((exact absurd h (by decide));done))))|fail)
    all_goals
     refine zG rfl H.cl (congrArg (Value.int .i64) ?_);simp_all}
end
end
section
open Go Go.Sk Go.RowKit Tryz
attribute [local irreducible] Go.Calls
section
variable {F G:zA}{bm:Nat}{s:Sta}{p:SPt}{n:List Int}{na:OA}{nc:Nat}{t:ByteArray}{Ma Mi Mu R:zA}
theorem zu {cs:List Value}{ts N:zA}{x:Nat × Obj}(h:x∈ts):x∈mkL bm cs Ma Mi Mu (R++ts++N):=by simp[h]
theorem zBj {cs:List Value}{ts N M:zA}{x:Nat × Obj}(h:x∈ts):x∈cb bm cs 182::(Ma++(Mi++(Mu++(R++ts++N)))++M):=by simp[h]
theorem u8_id {q:Int}(h:0<=q/\q<=255):IntKind.u8.wrap q=q:=by show q % 256=q;omega
theorem zQh (o:Odr):0<=(zV o).2/\(zV o).2<=1125899906842624:=by{
unfold zV;by_cases hm:zt o=true
.rw[if_pos hm];obtain⟨_,_,_,_,h5,h6⟩:=(zAi o).1 hm;by_cases hs:o.side=1
 .rw[if_pos hs];have:=zGX h5.1 h5.2 h6.1 h6.2;show 0<=o.price*o.left/\o.price*o.left<=_;omega
 .rw[if_neg hs];show 0<=o.left/\o.left<=_;omega
.rw[if_neg hm];exact⟨Int.le_refl 0,(show(0:Int)<=1125899906842624 by decide)⟩}
theorem zDb (s:Sta)(ps:List Pst):∃ rs,(zf s ps).1={ s with rows:=rs }:=by{
unfold zf;split
.exact⟨_,rfl⟩
.exact⟨s.rows,rfl⟩}
theorem zVD {w0 w:World}(hLt:LtS s)(hW:WfR s)(hl:6<=n.length)(hi:1<=nF n 2/\nF n 2<=1000)(hd:0<=nF n 3/\nF n 3<=255)(hp:0<=nF n 4/\nF n 4<=1125899906842624)(hT:∀ j,j<s.insts.length->1<=(in_ s.insts j).tick)(hno:0<=s.nextO/\s.nextO<=4611686018427387904)(H:St w0 (mkL bm (mkc s p n na nc t) Ma Mi Mu R) w)(hC:Cps s p Ma Mi Mu R)(hF:Mem w0 F)(hN:Ints F na nc n) :
  Calls prog 162 [(pt bm)].toArray w (zZ (zCE bm n na nc t (zC4 s n)) w0):=by{
obtain⟨hn2,hc2,b2,off2,cs2,T2,fr2,hs2⟩:=id hN;have hs2F:=hs2.mono (yyu (cb bm (mkc s p n na nc t) 182) F);let o:Odr:=⟨nF n 0,nF n 1,nF n 2,nF n 3,nF n 4,nF n 5⟩
have hcells:[Value.int .i64 (nF n 0),.int .i64 (nF n 1),.int .i64 (nF n 2),.int .u8 (IntKind.u8.wrap (nF n 3)),.int .i64 (nF n 4),.int .i64 (nF n 5)]=o.cells:=by rw[u8_id hd];rfl
have eP:zC4 s n=if nF n 0≠s.nextO then(s,46) else if zAQ s (nF n 1) (nF n 2) (nF n 4) (decide (128<=s.orders.length))≠0 then(s,zAQ s (nF n 1) (nF n 2) (nF n 4) (decide (128<=s.orders.length))) else if (zAX s (nF n 1) (zV o).1 (zV o).2).2≠0 then zAX s (nF n 1) (zV o).1 (zV o).2 else({ (zAX s (nF n 1) (zV o).1 (zV o).2).1 with orders:=(zFY s.orders o).1,nextO:=s.nextO+1 },0):=rfl
have hlen:decide ((s.orders.length:Int) >= 128)=decide (128<=s.orders.length):=by rw[Bool.eq_iff_iff,decide_eq_true_iff,decide_eq_true_iff];omega
rw[eP,<- hlen];clear hlen eP;refine eN func162 ntmps162 ?_;(repeat' first|refine yX ?_|fail);refine CW.cutT (fun e w=>∃ b e',e=ovl [(0,(pt bm)),(3,(pt b))] e'/\St w0 (cb b o.cells 45::mkL bm (mkc s p n na nc t) Ma Mi Mu R) w) ?_ ?_
·(repeat' first|refine yX ?_|(refine yB ?_;intro b w H)|(refine y11 sg H ?_;intro w H)|(refine c0 zA3 ?_;refine⟨_,zA6 1 qO _ (H.all hF) (ze hC hLt hN),?_⟩;clear H;intro w H)|(refine CW.regionL mixed 36 (z6s (x:=cb bm (mkc s p n na nc t) 182) H hF) [] ?_ ?_;exact rfl;refine wQ H ?_;clear H;intro w H;have qh:=z6s (x:=cb bm (mkc s p n na nc t) 182) H hF;refine lT sg 0 qh ?_;refine lT sg 1 qh ?_;refine lT sg 2 qh ?_;refine' l1 3 qh ?_ ?_;rotate_left;(exact z3 sg);refine' l1 4 qh ?_ ?_;rotate_left;(exact(zQ sg hs2));refine' l1 5 qh ?_ ?_;rotate_left;(exact(zK sg hs2F (show 0<n.length by omega)));refine lT sg 6 qh ?_;refine lT sg 8 qh ?_;refine lT sg 9 qh ?_;refine lT sg 10 qh ?_;refine' l1 11 qh ?_ ?_;rotate_left;(exact z3 sg);refine' l1 12 qh ?_ ?_;rotate_left;(exact(zQ sg hs2));refine' l1 13 qh ?_ ?_;rotate_left;(exact(zK sg hs2F (show 2<n.length by omega)));refine lT sg 14 qh ?_;refine lT sg 15 qh ?_;refine lT sg 16 qh ?_;refine' l1 17 qh ?_ ?_;rotate_left;(exact z3 sg);refine' l1 18 qh ?_ ?_;rotate_left;(exact(zQ sg hs2));refine' l1 19 qh ?_ ?_;rotate_left;(exact(zK sg hs2F (show 3<n.length by omega)));refine lT sg 20 qh ?_;refine lT sg 21 qh ?_;refine lT sg 22 qh ?_;refine lT sg 23 qh ?_;refine' l1 24 qh ?_ ?_;rotate_left;(exact z3 sg);refine' l1 25 qh ?_ ?_;rotate_left;(exact(zQ sg hs2));refine' l1 26 qh ?_ ?_;rotate_left;(exact(zK sg hs2F (show 4<n.length by omega)));refine lT sg 27 qh ?_;refine lT sg 28 qh ?_;refine lT sg 29 qh ?_;refine' l1 30 qh ?_ ?_;rotate_left;(exact z3 sg);refine' l1 31 qh ?_ ?_;rotate_left;(exact(zQ sg hs2));refine' l1 32 qh ?_ ?_;rotate_left;(exact(zK sg hs2F (show 5<n.length by omega))))|refine lN ?_|refine l2 7 ?_|refine l2 33 ?_|refine l2 34 ?_|refine l2 35 ?_|refine l4 7 34 ?_ ?_|refine l4 33 34 ?_ ?_|(refine l5 (z6s H hF) ?_)|fail);all_goals exact⟨b,_,zUi rfl rfl,by rw[<- hcells];exact H⟩
clear H;rintro _ w ⟨b,e',rfl,H⟩;have hmay:=fun w (G:zA) (hG:Mem w G) (hM:Mkt G bm s p n na nc t)=>zPM 1 2 qO qO hi hT (nF n 4) qO (decide ((s.orders.length:Int) >= 128)) w hG hM;have hlen:decide ((s.orders.length:Int) >= 128)=decide (128<=s.orders.length):=by rw[Bool.eq_iff_iff,decide_eq_true_iff,decide_eq_true_iff];omega
have hmay:=fun w (G:zA) (hG:Mem w G) (hM:Mkt G bm s p n na nc t)=>zPM 1 2 qO qO hi hT (nF n 4) qO (decide ((s.orders.length:Int) >= 128)) w hG hM;by_cases h0:nF n 0≠s.nextO
.have d0:(nF n 0 != s.nextO)=true:=by simpa using h0
 rw[if_pos h0];(repeat' first|(refine CW.regionL mixed 8 (z6 (x:=cb b o.cells 45) (y:=cb bm (mkc s p n na nc t) 182) H hF) [] ?_ ?_;exact rfl;refine wQ H ?_;clear H;intro w H;have qh:=z6 (x:=cb b o.cells 45) (y:=cb bm (mkc s p n na nc t) 182) H hF;refine lT sg 0 qh ?_;refine' l1 1 qh ?_ ?_;rotate_left;(exact z3 sg);refine lT sg 2 qh ?_;refine lT sg 3 qh ?_;refine lT sg 4 qh ?_;refine lT sg 5 qh ?_;refine' l1 6 qh ?_ ?_;rotate_left;(exact z3 sg);refine lT sg 7 qh ?_)|refine lN ?_|refine yX ?_|fail);refine CW.condT (congrArg Value.bool d0) ?_;(repeat' first|refine yX ?_|fail);exact zL (M:=_) rfl H ⟨rfl,fun h=>absurd h (show(46:Int)≠0 by decide)⟩
.have d0:(nF n 0 != s.nextO)=false:=by simpa using h0
 rw[if_neg h0];(repeat' first|(refine CW.regionL mixed 8 (z6 (x:=cb b o.cells 45) (y:=cb bm (mkc s p n na nc t) 182) H hF) [] ?_ ?_;exact rfl;refine wQ H ?_;clear H;intro w H;have qh:=z6 (x:=cb b o.cells 45) (y:=cb bm (mkc s p n na nc t) 182) H hF;refine lT sg 0 qh ?_;refine' l1 1 qh ?_ ?_;rotate_left;(exact z3 sg);refine lT sg 2 qh ?_;refine lT sg 3 qh ?_;refine lT sg 4 qh ?_;refine lT sg 5 qh ?_;refine' l1 6 qh ?_ ?_;rotate_left;(exact z3 sg);refine lT sg 7 qh ?_)|refine lN ?_|refine yX ?_|fail);refine CW.condF (congrArg Value.bool d0) ?_;by_cases h1:zAQ s (nF n 1) (nF n 2) (nF n 4) (decide ((s.orders.length:Int) >= 128))≠0
 .have d1:(zAQ s (nF n 1) (nF n 2) (nF n 4) (decide ((s.orders.length:Int) >= 128)) != 0)=true:=by{simpa using h1};rw[if_pos h1]
  (repeat' first|refine yX ?_|(refine CW.regionL mixed 12 (z6 (x:=cb b o.cells 45) (y:=cb bm (mkc s p n na nc t) 182) H hF) [] ?_ ?_;exact rfl;refine wQ H ?_;clear H;intro w H;have qh:=z6 (x:=cb b o.cells 45) (y:=cb bm (mkc s p n na nc t) 182) H hF;refine lT sg 0 qh ?_;refine lT sg 1 qh ?_;refine' l1 2 qh ?_ ?_;rotate_left;(exact z3 sg);refine lT sg 3 qh ?_;refine lT sg 4 qh ?_;refine lT sg 5 qh ?_;refine lT sg 6 qh ?_;refine' l1 7 qh ?_ ?_;rotate_left;(exact z3 sg))|refine lN ?_|refine l2 8 ?_|refine l2 9 ?_|refine l2 10 ?_|refine l2 11 ?_|(refine l5 (z6 H hF) ?_)|(refine c0 zLN ?_;refine⟨_,hmay _ _ (H.all hF) (ze hC hLt hN),?_⟩;clear H;intro w H)|fail);refine CW.condT (congrArg Value.bool d1) ?_;(repeat' first|refine yX ?_|fail);exact zL (M:=_) rfl H ⟨rfl,fun h=>absurd h h1⟩
 .have d1:(zAQ s (nF n 1) (nF n 2) (nF n 4) (decide ((s.orders.length:Int) >= 128)) != 0)=false:=by{simpa using h1};rw[if_neg h1]
  (repeat' first|refine yX ?_|(refine CW.regionL mixed 12 (z6 (x:=cb b o.cells 45) (y:=cb bm (mkc s p n na nc t) 182) H hF) [] ?_ ?_;exact rfl;refine wQ H ?_;clear H;intro w H;have qh:=z6 (x:=cb b o.cells 45) (y:=cb bm (mkc s p n na nc t) 182) H hF;refine lT sg 0 qh ?_;refine lT sg 1 qh ?_;refine' l1 2 qh ?_ ?_;rotate_left;(exact z3 sg);refine lT sg 3 qh ?_;refine lT sg 4 qh ?_;refine lT sg 5 qh ?_;refine lT sg 6 qh ?_;refine' l1 7 qh ?_ ?_;rotate_left;(exact z3 sg))|refine lN ?_|refine l2 8 ?_|refine l2 9 ?_|refine l2 10 ?_|refine l2 11 ?_|(refine l5 (z6 H hF) ?_)|(refine c0 zLN ?_;refine⟨_,hmay _ _ (H.all hF) (ze hC hLt hN),?_⟩;clear H;intro w H)|fail);refine CW.condF (congrArg Value.bool d1) ?_;have hbd:=zQh o;obtain⟨rs,hrs⟩:∃ rs,(zAX s (nF n 1) (zV o).1 (zV o).2).1={ s with rows:=rs }:=zDb _ _;(repeat' first|refine yX ?_|(refine c0 zOL ?_;refine⟨_,zLS o _,?_⟩;clear H;intro w H)|(replace H:=H.perm (zCY [_]);refine zW rfl rfl (En.fn zOM rfl rfl) (c_holds hLt hW (nF n 1) (zV o).1 (zV o).2 qO H (hC.mono (yyi _ _))) ?_;rintro _ _ w ⟨rfl,p',M',rfl,hC'⟩ H2;clear H;have H:=H2;clear H2)|fail);by_cases h2:(zAX s (nF n 1) (zV o).1 (zV o).2).2≠0
  .have d2:((zAX s (nF n 1) (zV o).1 (zV o).2).2 != 0)=true:=by{simpa using h2};rw[if_pos h2]
   refine CW.condT (congrArg Value.bool d2) ?_;(repeat' first|refine yX ?_|fail);exact zL (M:=_) rfl H ⟨rfl,fun h=>absurd h h2⟩
  .have d2:((zAX s (nF n 1) (zV o).1 (zV o).2).2 != 0)=false:=by{simpa using h2};rw[if_neg h2,hrs]
   refine CW.condF (congrArg Value.bool d2) ?_;rw[hrs] at H hC';(repeat' first|refine yX ?_|(refine y11 sg H ?_;intro w H)|(refine CW.regionL mixed 15 (z6s (x:=cb b o.cells 45) H hF (by first|exact zu (zz2 _)|exact zBj (zz2 _))) [] ?_ ?_;exact rfl;refine wQ H ?_;clear H;intro w H;have qh:=z6s (x:=cb b o.cells 45) H hF (by first|exact zu (zz2 _)|exact zBj (zz2 _));refine lT sg 0 qh ?_;refine lT sg 1 qh ?_;refine lT sg 2 qh ?_;refine lT sg 3 qh ?_;refine lT sg 4 qh ?_;refine' l1 6 qh ?_ ?_;rotate_left;(exact z3 sg))|refine lN ?_|(refine lT sg 8 (z6s H hF (by first|exact zu (zz2 _)|exact zBj (zz2 _))) ?_)|(refine lT sg 9 (z6s H hF (by first|exact zu (zz2 _)|exact zBj (zz2 _))) ?_)|(refine lT sg 10 (z6s H hF (by first|exact zu (zz2 _)|exact zBj (zz2 _))) ?_)|(refine lT sg 11 (z6s H hF (by first|exact zu (zz2 _)|exact zBj (zz2 _))) ?_)|(refine lT sg 12 (z6s H hF (by first|exact zu (zz2 _)|exact zBj (zz2 _))) ?_)|(refine lT sg 13 (z6s H hF (by first|exact zu (zz2 _)|exact zBj (zz2 _))) ?_)|refine l2 5 ?_|refine l2 7 ?_|refine l2 14 ?_|(refine l5 (z6s H hF (by first|exact zu (zz2 _)|exact zBj (zz2 _))) ?_)|(refine f0 ent221 ?_;refine⟨_,c_Add_ s.orders o _ H.mem (SlA.mono hC'.od (fun p hp=>zz4 _ (zz3 _ (zz3 _ (zz3 _ hp))))),?_⟩;clear H;intro v M w hR H;(try simp only[zca,zcb] at H);obtain⟨a1,c1,rfl,hsl⟩:=hR)|fail);have hn:IntKind.i64.wrap (s.nextO+1)=s.nextO+1:=w64 qO qO;(repeat' first|fail)
   all_goals
    rw[hn] at H;simp only[yyh] at H;refine zL (M:=mkL bm (mkc { s with rows:=rs,orders:=(zFY s.orders o).1,nextO:=s.nextO+1 } { p' with odA:=a1,odC:=c1 } n na nc t) Ma Mi Mu _) rfl H ⟨rfl,fun _=>⟨{ p' with odA:=a1,odC:=c1 },Ma,Mi,Mu,_,rfl,hC'.ac,hC'.ins,SlA.mono hC'.rw ?_,SlA.mono hsl ?_,hC'.au,fun j hj=>SlA.mono (hC'.bd j hj) ?_⟩⟩
    all_goals
     intro p hp;simp only[List.mem_append] at hp ⊢;first|exact .inr (.inr (.inr hp))|(rcases hp with (h|h)|h<;>simp[h])}
end
end
end Go.Proofs.YtejhijhnlogikaaGreatDoor
