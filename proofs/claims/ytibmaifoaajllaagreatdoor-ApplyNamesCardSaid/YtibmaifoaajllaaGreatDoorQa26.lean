/- Texts of ours, joined: the steps of the proof, or the claim's theorem. -/
import Derived.Test.YtibmaifoaajllaaGreatDoorQa23
import Derived.Test.YtibmaifoaajllaaGreatDoorQa25
set_option linter.unusedSimpArgs false
set_option linter.unusedVariables false
set_option maxHeartbeats 16000000
namespace Go.Proofs.YtibmaifoaajllaaGreatDoor
section
open Go Go.Sk Go.RowKit
def Sorts (w0:World)(g len n:Nat)(G:zH)(d:Nat→AE):Ending→World→Prop:=zn (fun M v=>v=.tuple #[]∧∃ cs',M=cb g cs' 62::G∧cs'.length=len∧Els cs' 9 n (fun j=>(d j).c)) w0
theorem zRZ {w0 w:World}{g len n cap:Nat}{G:zH}{d:Nat→AE}{cs:List Value}(hA:Arr w0 g len n G d cs w)(hn:n<20) :
  Calls Tryz.prog 221 [.slice (some ⟨g,0,none⟩) n cap,.int .i64 (n:Int),.func (.func 202) #[] #[]].toArray w (Sorts w0 g len n G (zEe 0 n d)):=by
 refine enter [] Tryz.func221 rfl Tryz.ntmps221 rfl rfl ?_
 have H:=hA
 clear hA
 repeat' (first|refine yT ?_|refine yU ?_|with_reducible apply zA|fail)
 refine zM [(7,8),(11,22)] (fun _:Unit=>[(7,.int .i64 0),(8,.int .i64 20)]) (fun _ w=>Arr w0 g len n G d cs w) (fun _=>0) () ⟨rfl,rfl,trivial⟩ H ?_
 clear H
 rintro _ gh w H
 repeat' (first|refine yT ?_|refine yU ?_|fail)
 refine zJ rfl (fun h=>?_) (fun h=>?_)
 ·exact absurd (zzA h) (by omega)
 repeat' (first|refine yT ?_|(refine zc rfl rfl (En.fn zJk rfl rfl) (zJ9 (a:=0) (e:=n) H (zzD _) (zzC _) (by omega)) ?_;rintro _ _ w ⟨rfl,cs',rfl,hl,he⟩ HS;have H':Arr w0 g len n G (zEe 0 n d) cs' w:=⟨HS,hl,he⟩;clear H HS hl he;have H:=H';clear H')|refine yU ?_|with_reducible apply zA|fail)
 refine zM [(6,9),(28,62)] (fun _:Unit=>[(6,.int .i64 20)]) (fun _ w=>Arr w0 g len n G (zEe 0 n d) cs' w) (fun _=>0) () ⟨rfl,trivial⟩ H ?_
 clear H
 rintro _ gh w H
 repeat' (first|refine yT ?_|refine yU ?_|fail)
 refine zJ rfl (fun h=>?_) (fun h=>?_)
 ·exact absurd (zzA h) (by omega)
 repeat' (first|refine yU ?_|fail)
 exact zCD (vs:=[]) (M:=_) trivial H.st ⟨rfl,cs',rfl,H.len,H.els⟩
def kp (p:Nat→Bool)(n:Nat):List Nat:=(List.range n).filter fun i=>!p i
theorem zBg (p:Nat→Bool)(n:Nat):kp p (n+1)=if p n then kp p n else kp p n++[n]:=by
 unfold kp
 rw[List.range_succ,List.filter_append]
 cases h:p n<;>simp[h]
theorem zGq {p:Nat→Bool}{n:Nat}(h:∀ j,j<n→p j=false):kp p n=List.range n:=by
 unfold kp
 rw[List.filter_eq_self]
 intro a ha
 rw[h a (List.mem_range.1 ha)];rfl
theorem zKA (p:Nat→Bool)(n:Nat):(kp p n).length≤n:=by
 have:=List.length_filter_le (fun i=>!p i) (List.range n)
 simpa [kp] using this
def zHN (p:Nat→Bool)(n:Nat)(d:Nat→AE)(t:Nat):AE:=d ((kp p n).getD t 0)
theorem zK7 {w0 w:World}{g n cap:Nat}{G:zH}{d:Nat→AE}{cs:List Value}{f:FuncId}{caps:List Value}(p:Nat→Bool)(H:St w0 (cb g cs 62::G) w)(he:Els cs 9 n (fun j=>(d j).c))(hn:n≤8796093022208)(hnc:n≤cap)
  (hf:Ent Tryz.prog f) (hp:∀ j,j<n→∀ L cs' w',St w0 (L++cb g cs' 62::G) w'→Calls Tryz.prog f ([Value.agg (d j).c.toArray]++caps).toArray w' (Ret (.bool (p j)) w')) :
  Calls Tryz.prog 199 [.slice (some ⟨g,0,none⟩) n cap,.func (.func f) #[] caps.toArray].toArray w
   (zn (fun M v=>v=.slice (some ⟨g,0,none⟩) (kp p n).length cap∧∃ cs',M=cb g cs' 62::G∧cs'.length=cs.length∧Els cs' 9 (kp p n).length (fun t=>(zHN p n d t).c)) w0):=by
 refine enter [.tmp 4] Tryz.func199 rfl Tryz.ntmps199 rfl rfl ?_
 repeat' (first|refine yT ?_|(refine OX.call rfl rfl (En.fn zKo rfl rfl) (zED p _ H.mem ⟨hnc,by omega,g,0,cs,_,(0,0),he.slb (zz2 _)⟩ hf (fun j hj w' hw=>hp j hj [] _ _ (H.ext hw))) ?_;intro w hcl;replace H:=H.ext hcl;clear hcl)|refine yU ?_|fail)
 refine zJ rfl (fun h=>?_) (fun h=>?_)
 ·repeat' (first|refine yT ?_|refine yU ?_|fail)
  rcases zY p n with ⟨k,hk,hlo,hpk,hix⟩|⟨hall,hix⟩
  ·rw[hix] at h;have:=eqI h;omega
  ·have hkp:=zGq hall
   have hkl:(kp p n).length=n:=by rw[hkp,List.length_range]
   refine zAY (vs:=[_]) (M:=_) ⟨zh rfl,trivial⟩ H ⟨by rw[hkl];rfl,cs,rfl,rfl,?_⟩
   rw[hkl]
   exact he.congr (fun j hj=>by show(d j).c=(d _).c;rw[hkp,List.getD_eq_getElem?_getD,List.getElem?_range hj];rfl)
 ·rcases zY p n with ⟨k,hk,hlo,hpk,hix⟩|⟨_,hix⟩
  ·rw[hix]
   clear h
   have hk1:kp p (k+1)=List.range k:=by rw[zBg,if_pos hpk];exact zGq hlo
   have hlt:∀ j,k+1≤j→(kp p j).length<j:=by
    intro j hj
    induction j with
    | zero=>omega
    | succ j ih =>
      rw[zBg]
      rcases Nat.lt_or_ge k j with h1|h1
      ·have:=ih (by omega)
       split
       ·omega
       ·rw[List.length_append,List.length_singleton];omega
      ·obtain rfl:j=k:=by omega
       rw[if_pos hpk]
       have:=zKA p j;omega
   repeat' (first|refine yT ?_|refine yU ?_|with_reducible apply zA|fail)
   refine zM [(5,7),(16,35)] (fun x:Nat × (Nat→AE) × List Value=>[(5,.int .i64 ((kp p x.1).length:Int)),(6,.int .i64 (x.1:Int))])
    (fun x w=>k+1≤x.1∧x.1≤n∧(∀ t,t<(kp p x.1).length→x.2.1 t=zHN p x.1 d t)∧(∀ t,x.1≤t→x.2.1 t=d t)∧Els x.2.2 9 n (fun t=>(x.2.1 t).c)∧x.2.2.length=cs.length∧St w0 (cb g x.2.2 62::G) w)
    (fun x=>n - x.1) (k+1,d,cs) ⟨by show Value.int .i64 _=Value.int .i64 ((kp p (k+1)).length:Int);rw[hk1,List.length_range],zZ (by omega),trivial⟩
    ⟨zzC _,hk,fun t ht=>by rw[hk1,List.length_range] at ht;unfold zHN;rw[hk1,List.getD_eq_getElem?_getD,List.getElem?_range ht];rfl,fun _ _=>rfl,he,rfl,H⟩ ?_
   clear H he
   rintro⟨j,d2,cs2⟩ gh w ⟨hj1,hj2,hj3,hj4,he,hl,H⟩
   simp only at hj1 hj2 hj3 hj4 he hl H ⊢
   have hil:=hlt j hj1
   repeat' (first|refine yT ?_|refine yU ?_|fail)
   refine zJ rfl (fun h=>?_) (fun h=>?_)
   ·have hjn:j<n:=by simpa using h
    have hdj:d2 j=d j:=hj4 j (zzC _)
    have hs:=he.slb (F:=cb g cs2 62::G) (T:=62) (g:=g) (zz2 _)
    repeat' (first|refine yT ?_|refine y7 sg H ?_|(refine y10 sg H ?_;intro b w H)|(refine y11 sg H ?_;intro w H)|(refine y40 sg (hs) ?_ ?_ ?_;(omega);(omega))|(refine y42 sg (hs) (H.mem) ?_ ?_;(omega))|(refine OX.call rfl rfl (zBf hf rfl rfl rfl) (by have:=hp j hjn [_] _ _ H;rw[← hdj] at this;exact this) ?_;intro w hcl;replace H:=H.ext hcl;clear hcl)|refine yU ?_|with_reducible apply zA|fail)
    refine zJ rfl (fun h2=>?_) (fun h2=>?_)
    ·repeat' (first|refine yT ?_|refine y7 sg H ?_|(refine y40 sg (hs) ?_ ?_ ?_;(omega);(omega))|(refine OX.storeB sg (H.perm (List.Perm.swap _ _ _)) rfl rfl rfl (vs:=(d2 j).c) rfl rfl (AE.c_len _) (by have:=(he _ (Nat.lt_of_lt_of_le hil hj2)).1;rw[AE.c_len];omega) (AE.c_one _) ?_;intro w HS)|refine yU ?_|fail)
     have hin:(kp p j).length<n:=Nat.lt_of_lt_of_le hil hj2
     have hkp:kp p (j+1)=kp p j++[j]:=by rw[zBg,if_neg (by simpa using h2)]
     have hkl:(kp p (j+1)).length=(kp p j).length+1:=by rw[hkp,List.length_append,List.length_singleton]
     refine zK (j+1,upd d2 (kp p j).length (d2 j),wr cs2 (0+(kp p j).length*9) (d2 j).c) rfl ⟨by show Value.int .i64 _=Value.int .i64 ((kp p (j+1)).length:Int);rw[hkl];exact zZ (by omega),zZ (by omega),trivial⟩
      ⟨by show k+1≤j+1;omega,hjn,fun t ht=>?_,fun t ht=>?_,?_,?_,HS.sub (List.Sublist.cons_cons _ (zz7 _ _))⟩ (by show n - (j+1)<n - j;omega)
     ·replace ht:t<(kp p (j+1)).length:=ht
      rw[hkl] at ht
      show upd d2 (kp p j).length (d2 j) t=zHN p (j+1) d t
      unfold upd zHN
      rw[hkp,List.getD_eq_getElem?_getD]
      by_cases ht2:t=(kp p j).length
      ·rw[if_pos ht2,ht2,List.getElem?_append_right (Nat.le_refl _),Nat.sub_self,hdj];rfl
      ·rw[if_neg ht2,List.getElem?_append_left (by omega),hj3 t (by omega)]
       unfold zHN;rw[List.getD_eq_getElem?_getD]
     ·replace ht:j+1≤t:=ht
      show upd d2 (kp p j).length (d2 j) t=d t
      unfold upd
      rw[if_neg (by omega),hj4 t (by omega)]
     ·show Els (wr cs2 (0+(kp p j).length*9) (d2 j).c) 9 n _
      rw[Nat.zero_add]
      exact(he.wr hin (AE.c_len _)).congr (fun t _=>by show(if t=_ then _ else _)=(upd _ _ _ t).c;unfold upd;split<;>rfl)
     ·show(wr _ _ _).length=_;rw[zB0 (by have:=(he _ hin).1;rw[AE.c_len];omega)];exact hl
    ·repeat' (first|refine yT ?_|refine yU ?_|fail)
     have hkp:kp p (j+1)=kp p j:=by rw[zBg,if_pos (by simpa using h2)]
     refine zK (j+1,d2,cs2) rfl ⟨by show Value.int .i64 _=Value.int .i64 ((kp p (j+1)).length:Int);rw[hkp],zZ (by omega),trivial⟩
      ⟨by show k+1≤j+1;omega,hjn,fun t ht=>?_,fun t ht=>hj4 t (by replace ht:j+1≤t:=ht;omega),he,hl,H.sub (zz7 _ _)⟩ (by show n - (j+1)<n - j;omega)
     replace ht:t<(kp p (j+1)).length:=ht
     show d2 t=zHN p (j+1) d t
     unfold zHN;rw[hkp]
     rw[hkp] at ht
     exact hj3 t ht
   ·have hjn:j=n:=by simp at h;omega
    subst hjn
    repeat' (first|refine yT ?_|(refine zf rfl rfl (Yq.sliceLoB sg rfl rfl rfl rfl rfl rfl (zz1 _) (by omega) (by omega) hnc) ?_)|(refine OX.clearP sg H (by omega) rfl rfl rfl rfl rfl rfl rfl rfl rfl (by have:=(he (j - 1) (by omega)).1;show 0+(kp p j).length*9+(j - (kp p j).length)*9≤cs2.length;omega) ?_;intro cs3 w hl3 hk3 H)|(refine zf rfl rfl (Yq.sliceHi sg rfl rfl rfl rfl rfl rfl (zz1 _) (by omega) (by omega)) ?_)|refine yU ?_|fail)
    exact zAY (vs:=[_]) (M:=_) ⟨zh rfl,trivial⟩ H ⟨rfl,cs3,rfl,hl3.trans hl,(he.keep (Nat.le_of_lt hil) hl3 (fun q hq=>hk3 q (by show q<0+(kp p j).length*9;omega))).congr (fun t ht=>by show(d2 t).c=_;rw[hj3 t ht])⟩
  ·rw[hix] at h;exact absurd h (by decide)
end
section
open Go Go.Sk Go.RowKit
attribute [local irreducible] Go.Calls
theorem Row4.clen (r:Row4):r.cells.length=4:=rfl
theorem Row4.cone (r:Row4):∀ u∈r.cells,u.oneCell'=true:=by
 intro u hu
 simp only[Row4.cells,List.mem_cons,List.not_mem_nil,or_false] at hu
 rcases hu with rfl|rfl|rfl|rfl<;>rfl
theorem Odr.clen (r:Odr):r.cells.length=6:=rfl
theorem Odr.cone (r:Odr):∀ u∈r.cells,u.oneCell'=true:=by
 intro u hu
 simp only[Odr.cells,List.mem_cons,List.not_mem_nil,or_false] at hu
 rcases hu with rfl|rfl|rfl|rfl|rfl|rfl<;>rfl
def zCM {α:Type}(p:Nat→Bool)(n:Nat)(d:Nat→α)(t:Nat):α:=d ((kp p n).getD t 0)
def zGJ {α:Type}(d:Nat→α)(k:Nat)(v:α):Nat→α:=fun t=>if t=k then v else d t
theorem zO9 {w0 w:World}{g n cap:Nat}{G:zH}{d:Nat→Row4}{cs:List Value}{f:FuncId}{caps:List Value}(p:Nat→Bool)(H:St w0 (cb g cs 70::G) w)(he:Els cs 4 n (fun j=>(d j).cells))(hn:n≤8796093022208)(hnc:n≤cap)
  (hf:Ent Tryz.prog f) (hp:∀ j,j<n→∀ L cs' w',St w0 (L++cb g cs' 70::G) w'→Calls Tryz.prog f ([Value.agg (d j).cells.toArray]++caps).toArray w' (Ret (.bool (p j)) w')) :
  Calls Tryz.prog 189 [.slice (some ⟨g,0,none⟩) n cap,.func (.func f) #[] caps.toArray].toArray w
   (zn (fun M v=>v=.slice (some ⟨g,0,none⟩) (kp p n).length cap∧∃ cs',M=cb g cs' 70::G∧cs'.length=cs.length∧Els cs' 4 (kp p n).length (fun t=>(zCM p n d t).cells)) w0):=by
 refine enter [.tmp 4] Tryz.func189 rfl Tryz.ntmps189 rfl rfl ?_
 repeat' (first|refine yT ?_|(refine OX.call rfl rfl (En.fn zNY rfl rfl) (zEE p _ H.mem ⟨hnc,by omega,g,0,cs,_,(0,0),he.slb (zz2 _)⟩ hf (fun j hj w' hw=>hp j hj [] _ _ (H.ext hw))) ?_;intro w hcl;replace H:=H.ext hcl;clear hcl)|refine yU ?_|fail)
 refine zJ rfl (fun h=>?_) (fun h=>?_)
 ·repeat' (first|refine yT ?_|refine yU ?_|fail)
  rcases zY p n with ⟨k,hk,hlo,hpk,hix⟩|⟨hall,hix⟩
  ·rw[hix] at h;have:=eqI h;omega
  ·have hkp:=zGq hall
   have hkl:(kp p n).length=n:=by rw[hkp,List.length_range]
   refine zAY (vs:=[_]) (M:=_) ⟨zh rfl,trivial⟩ H ⟨by rw[hkl];rfl,cs,rfl,rfl,?_⟩
   rw[hkl]
   exact he.congr (fun j hj=>by show(d j).cells=(d _).cells;rw[hkp,List.getD_eq_getElem?_getD,List.getElem?_range hj];rfl)
 ·rcases zY p n with ⟨k,hk,hlo,hpk,hix⟩|⟨_,hix⟩
  ·rw[hix]
   clear h
   have hk1:kp p (k+1)=List.range k:=by rw[zBg,if_pos hpk];exact zGq hlo
   have hlt:∀ j,k+1≤j→(kp p j).length<j:=by
    intro j hj
    induction j with
    | zero=>omega
    | succ j ih =>
      rw[zBg]
      rcases Nat.lt_or_ge k j with h1|h1
      ·have:=ih (by omega)
       split
       ·omega
       ·rw[List.length_append,List.length_singleton];omega
      ·obtain rfl:j=k:=by omega
       rw[if_pos hpk]
       have:=zKA p j;omega
   repeat' (first|refine yT ?_|refine yU ?_|with_reducible apply zA|fail)
   refine zM [(5,7),(16,35)] (fun x:Nat × (Nat→Row4) × List Value=>[(5,.int .i64 ((kp p x.1).length:Int)),(6,.int .i64 (x.1:Int))])
    (fun x w=>k+1≤x.1∧x.1≤n∧(∀ t,t<(kp p x.1).length→x.2.1 t=zCM p x.1 d t)∧(∀ t,x.1≤t→x.2.1 t=d t)∧Els x.2.2 4 n (fun t=>(x.2.1 t).cells)∧x.2.2.length=cs.length∧St w0 (cb g x.2.2 70::G) w)
    (fun x=>n - x.1) (k+1,d,cs) ⟨by show Value.int .i64 _=Value.int .i64 ((kp p (k+1)).length:Int);rw[hk1,List.length_range],zZ (by omega),trivial⟩
    ⟨zzC _,hk,fun t ht=>by rw[hk1,List.length_range] at ht;unfold zCM;rw[hk1,List.getD_eq_getElem?_getD,List.getElem?_range ht];rfl,fun _ _=>rfl,he,rfl,H⟩ ?_
   clear H he
   rintro⟨j,d2,cs2⟩ gh w ⟨hj1,hj2,hj3,hj4,he,hl,H⟩
   simp only at hj1 hj2 hj3 hj4 he hl H ⊢
   have hil:=hlt j hj1
   repeat' (first|refine yT ?_|refine yU ?_|fail)
   refine zJ rfl (fun h=>?_) (fun h=>?_)
   ·have hjn:j<n:=by simpa using h
    have hdj:d2 j=d j:=hj4 j (zzC _)
    have hs:=he.slb (F:=cb g cs2 70::G) (T:=70) (g:=g) (zz2 _)
    repeat' (first|refine yT ?_|refine y7 sg H ?_|(refine y10 sg H ?_;intro b w H)|(refine y11 sg H ?_;intro w H)|(refine y40 sg (hs) ?_ ?_ ?_;(omega);(omega))|(refine y42 sg (hs) (H.mem) ?_ ?_;(omega))|(refine OX.call rfl rfl (zBf hf rfl rfl rfl) (by have:=hp j hjn [_] _ _ H;rw[← hdj] at this;exact this) ?_;intro w hcl;replace H:=H.ext hcl;clear hcl)|refine yU ?_|with_reducible apply zA|fail)
    refine zJ rfl (fun h2=>?_) (fun h2=>?_)
    ·repeat' (first|refine yT ?_|refine y7 sg H ?_|(refine y40 sg (hs) ?_ ?_ ?_;(omega);(omega))|(refine OX.storeB sg (H.perm (List.Perm.swap _ _ _)) rfl rfl rfl (vs:=(d2 j).cells) rfl rfl (Row4.clen _) (by have:=(he _ (Nat.lt_of_lt_of_le hil hj2)).1;rw[Row4.clen];omega) (Row4.cone _) ?_;intro w HS)|refine yU ?_|fail)
     have hin:(kp p j).length<n:=Nat.lt_of_lt_of_le hil hj2
     have hkp:kp p (j+1)=kp p j++[j]:=by rw[zBg,if_neg (by simpa using h2)]
     have hkl:(kp p (j+1)).length=(kp p j).length+1:=by rw[hkp,List.length_append,List.length_singleton]
     refine zK (j+1,zGJ d2 (kp p j).length (d2 j),wr cs2 (0+(kp p j).length*4) (d2 j).cells) rfl ⟨by show Value.int .i64 _=Value.int .i64 ((kp p (j+1)).length:Int);rw[hkl];exact zZ (by omega),zZ (by omega),trivial⟩
      ⟨by show k+1≤j+1;omega,hjn,fun t ht=>?_,fun t ht=>?_,?_,?_,HS.sub (List.Sublist.cons_cons _ (zz7 _ _))⟩ (by show n - (j+1)<n - j;omega)
     ·replace ht:t<(kp p (j+1)).length:=ht
      rw[hkl] at ht
      show zGJ d2 (kp p j).length (d2 j) t=zCM p (j+1) d t
      unfold zGJ zCM
      rw[hkp,List.getD_eq_getElem?_getD]
      by_cases ht2:t=(kp p j).length
      ·rw[if_pos ht2,ht2,List.getElem?_append_right (Nat.le_refl _),Nat.sub_self,hdj];rfl
      ·rw[if_neg ht2,List.getElem?_append_left (by omega),hj3 t (by omega)]
       unfold zCM;rw[List.getD_eq_getElem?_getD]
     ·replace ht:j+1≤t:=ht
      show zGJ d2 (kp p j).length (d2 j) t=d t
      unfold zGJ
      rw[if_neg (by omega),hj4 t (by omega)]
     ·show Els (wr cs2 (0+(kp p j).length*4) (d2 j).cells) 4 n _
      rw[Nat.zero_add]
      exact(he.wr hin (Row4.clen _)).congr (fun t _=>by show(if t=_ then _ else _)=(Row4.cells (zGJ _ _ _ t));unfold zGJ;split<;>rfl)
     ·show(wr _ _ _).length=_;rw[zB0 (by have:=(he _ hin).1;rw[Row4.clen];omega)];exact hl
    ·repeat' (first|refine yT ?_|refine yU ?_|fail)
     have hkp:kp p (j+1)=kp p j:=by rw[zBg,if_pos (by simpa using h2)]
     refine zK (j+1,d2,cs2) rfl ⟨by show Value.int .i64 _=Value.int .i64 ((kp p (j+1)).length:Int);rw[hkp],zZ (by omega),trivial⟩
      ⟨by show k+1≤j+1;omega,hjn,fun t ht=>?_,fun t ht=>hj4 t (by replace ht:j+1≤t:=ht;omega),he,hl,H.sub (zz7 _ _)⟩ (by show n - (j+1)<n - j;omega)
     replace ht:t<(kp p (j+1)).length:=ht
     show d2 t=zCM p (j+1) d t
     unfold zCM;rw[hkp]
     rw[hkp] at ht
     exact hj3 t ht
   ·have hjn:j=n:=by simp at h;omega
    subst hjn
    repeat' (first|refine yT ?_|(refine zf rfl rfl (Yq.sliceLoB sg rfl rfl rfl rfl rfl rfl (zz1 _) (by omega) (by omega) hnc) ?_)|(refine OX.clearP sg H (by omega) rfl rfl rfl rfl rfl rfl rfl rfl rfl (by have:=(he (j - 1) (by omega)).1;show 0+(kp p j).length*4+(j - (kp p j).length)*4≤cs2.length;omega) ?_;intro cs3 w hl3 hk3 H)|(refine zf rfl rfl (Yq.sliceHi sg rfl rfl rfl rfl rfl rfl (zz1 _) (by omega) (by omega)) ?_)|refine yU ?_|fail)
    exact zAY (vs:=[_]) (M:=_) ⟨zh rfl,trivial⟩ H ⟨rfl,cs3,rfl,hl3.trans hl,(he.keep (Nat.le_of_lt hil) hl3 (fun q hq=>hk3 q (by show q<0+(kp p j).length*4;omega))).congr (fun t ht=>by show(d2 t).cells=_;rw[hj3 t ht])⟩
  ·rw[hix] at h;exact absurd h (by decide)
theorem zPA {w0 w:World}{g n cap:Nat}{G:zH}{d:Nat→Odr}{cs:List Value}{f:FuncId}{caps:List Value}(p:Nat→Bool)(H:St w0 (cb g cs 43::G) w)(he:Els cs 6 n (fun j=>(d j).cells))(hn:n≤8796093022208)(hnc:n≤cap)
  (hf:Ent Tryz.prog f) (hp:∀ j,j<n→∀ L cs' w',St w0 (L++cb g cs' 43::G) w'→Calls Tryz.prog f ([Value.agg (d j).cells.toArray]++caps).toArray w' (Ret (.bool (p j)) w')) :
  Calls Tryz.prog 66 [.slice (some ⟨g,0,none⟩) n cap,.func (.func f) #[] caps.toArray].toArray w
   (zn (fun M v=>v=.slice (some ⟨g,0,none⟩) (kp p n).length cap∧∃ cs',M=cb g cs' 43::G∧cs'.length=cs.length∧Els cs' 6 (kp p n).length (fun t=>(zCM p n d t).cells)) w0):=by
 refine enter [.tmp 4] Tryz.func66 rfl Tryz.ntmps66 rfl rfl ?_
 repeat' (first|refine yT ?_|(refine OX.call rfl rfl (En.fn zL5 rfl rfl) (zFk p _ H.mem ⟨hnc,by omega,g,0,cs,_,(0,0),he.slb (zz2 _)⟩ hf (fun j hj w' hw=>hp j hj [] _ _ (H.ext hw))) ?_;intro w hcl;replace H:=H.ext hcl;clear hcl)|refine yU ?_|fail)
 refine zJ rfl (fun h=>?_) (fun h=>?_)
 ·repeat' (first|refine yT ?_|refine yU ?_|fail)
  rcases zY p n with ⟨k,hk,hlo,hpk,hix⟩|⟨hall,hix⟩
  ·rw[hix] at h;have:=eqI h;omega
  ·have hkp:=zGq hall
   have hkl:(kp p n).length=n:=by rw[hkp,List.length_range]
   refine zAY (vs:=[_]) (M:=_) ⟨zh rfl,trivial⟩ H ⟨by rw[hkl];rfl,cs,rfl,rfl,?_⟩
   rw[hkl]
   exact he.congr (fun j hj=>by show(d j).cells=(d _).cells;rw[hkp,List.getD_eq_getElem?_getD,List.getElem?_range hj];rfl)
 ·rcases zY p n with ⟨k,hk,hlo,hpk,hix⟩|⟨_,hix⟩
  ·rw[hix]
   clear h
   have hk1:kp p (k+1)=List.range k:=by rw[zBg,if_pos hpk];exact zGq hlo
   have hlt:∀ j,k+1≤j→(kp p j).length<j:=by
    intro j hj
    induction j with
    | zero=>omega
    | succ j ih =>
      rw[zBg]
      rcases Nat.lt_or_ge k j with h1|h1
      ·have:=ih (by omega)
       split
       ·omega
       ·rw[List.length_append,List.length_singleton];omega
      ·obtain rfl:j=k:=by omega
       rw[if_pos hpk]
       have:=zKA p j;omega
   repeat' (first|refine yT ?_|refine yU ?_|with_reducible apply zA|fail)
   refine zM [(5,7),(16,35)] (fun x:Nat × (Nat→Odr) × List Value=>[(5,.int .i64 ((kp p x.1).length:Int)),(6,.int .i64 (x.1:Int))])
    (fun x w=>k+1≤x.1∧x.1≤n∧(∀ t,t<(kp p x.1).length→x.2.1 t=zCM p x.1 d t)∧(∀ t,x.1≤t→x.2.1 t=d t)∧Els x.2.2 6 n (fun t=>(x.2.1 t).cells)∧x.2.2.length=cs.length∧St w0 (cb g x.2.2 43::G) w)
    (fun x=>n - x.1) (k+1,d,cs) ⟨by show Value.int .i64 _=Value.int .i64 ((kp p (k+1)).length:Int);rw[hk1,List.length_range],zZ (by omega),trivial⟩
    ⟨zzC _,hk,fun t ht=>by rw[hk1,List.length_range] at ht;unfold zCM;rw[hk1,List.getD_eq_getElem?_getD,List.getElem?_range ht];rfl,fun _ _=>rfl,he,rfl,H⟩ ?_
   clear H he
   rintro⟨j,d2,cs2⟩ gh w ⟨hj1,hj2,hj3,hj4,he,hl,H⟩
   simp only at hj1 hj2 hj3 hj4 he hl H ⊢
   have hil:=hlt j hj1
   repeat' (first|refine yT ?_|refine yU ?_|fail)
   refine zJ rfl (fun h=>?_) (fun h=>?_)
   ·have hjn:j<n:=by simpa using h
    have hdj:d2 j=d j:=hj4 j (zzC _)
    have hs:=he.slb (F:=cb g cs2 43::G) (T:=43) (g:=g) (zz2 _)
    repeat' (first|refine yT ?_|refine y7 sg H ?_|(refine y10 sg H ?_;intro b w H)|(refine y11 sg H ?_;intro w H)|(refine y40 sg (hs) ?_ ?_ ?_;(omega);(omega))|(refine y42 sg (hs) (H.mem) ?_ ?_;(omega))|(refine OX.call rfl rfl (zBf hf rfl rfl rfl) (by have:=hp j hjn [_] _ _ H;rw[← hdj] at this;exact this) ?_;intro w hcl;replace H:=H.ext hcl;clear hcl)|refine yU ?_|with_reducible apply zA|fail)
    refine zJ rfl (fun h2=>?_) (fun h2=>?_)
    ·repeat' (first|refine yT ?_|refine y7 sg H ?_|(refine y40 sg (hs) ?_ ?_ ?_;(omega);(omega))|(refine OX.storeB sg (H.perm (List.Perm.swap _ _ _)) rfl rfl rfl (vs:=(d2 j).cells) rfl rfl (Odr.clen _) (by have:=(he _ (Nat.lt_of_lt_of_le hil hj2)).1;rw[Odr.clen];omega) (Odr.cone _) ?_;intro w HS)|refine yU ?_|fail)
     have hin:(kp p j).length<n:=Nat.lt_of_lt_of_le hil hj2
     have hkp:kp p (j+1)=kp p j++[j]:=by rw[zBg,if_neg (by simpa using h2)]
     have hkl:(kp p (j+1)).length=(kp p j).length+1:=by rw[hkp,List.length_append,List.length_singleton]
     refine zK (j+1,zGJ d2 (kp p j).length (d2 j),wr cs2 (0+(kp p j).length*6) (d2 j).cells) rfl ⟨by show Value.int .i64 _=Value.int .i64 ((kp p (j+1)).length:Int);rw[hkl];exact zZ (by omega),zZ (by omega),trivial⟩
      ⟨by show k+1≤j+1;omega,hjn,fun t ht=>?_,fun t ht=>?_,?_,?_,HS.sub (List.Sublist.cons_cons _ (zz7 _ _))⟩ (by show n - (j+1)<n - j;omega)
     ·replace ht:t<(kp p (j+1)).length:=ht
      rw[hkl] at ht
      show zGJ d2 (kp p j).length (d2 j) t=zCM p (j+1) d t
      unfold zGJ zCM
      rw[hkp,List.getD_eq_getElem?_getD]
      by_cases ht2:t=(kp p j).length
      ·rw[if_pos ht2,ht2,List.getElem?_append_right (Nat.le_refl _),Nat.sub_self,hdj];rfl
      ·rw[if_neg ht2,List.getElem?_append_left (by omega),hj3 t (by omega)]
       unfold zCM;rw[List.getD_eq_getElem?_getD]
     ·replace ht:j+1≤t:=ht
      show zGJ d2 (kp p j).length (d2 j) t=d t
      unfold zGJ
      rw[if_neg (by omega),hj4 t (by omega)]
     ·show Els (wr cs2 (0+(kp p j).length*6) (d2 j).cells) 6 n _
      rw[Nat.zero_add]
      exact(he.wr hin (Odr.clen _)).congr (fun t _=>by show(if t=_ then _ else _)=(Odr.cells (zGJ _ _ _ t));unfold zGJ;split<;>rfl)
     ·show(wr _ _ _).length=_;rw[zB0 (by have:=(he _ hin).1;rw[Odr.clen];omega)];exact hl
    ·repeat' (first|refine yT ?_|refine yU ?_|fail)
     have hkp:kp p (j+1)=kp p j:=by rw[zBg,if_pos (by simpa using h2)]
     refine zK (j+1,d2,cs2) rfl ⟨by show Value.int .i64 _=Value.int .i64 ((kp p (j+1)).length:Int);rw[hkp],zZ (by omega),trivial⟩
      ⟨by show k+1≤j+1;omega,hjn,fun t ht=>?_,fun t ht=>hj4 t (by replace ht:j+1≤t:=ht;omega),he,hl,H.sub (zz7 _ _)⟩ (by show n - (j+1)<n - j;omega)
     replace ht:t<(kp p (j+1)).length:=ht
     show d2 t=zCM p (j+1) d t
     unfold zCM;rw[hkp]
     rw[hkp] at ht
     exact hj3 t ht
   ·have hjn:j=n:=by simp at h;omega
    subst hjn
    repeat' (first|refine yT ?_|(refine zf rfl rfl (Yq.sliceLoB sg rfl rfl rfl rfl rfl rfl (zz1 _) (by omega) (by omega) hnc) ?_)|(refine OX.clearP sg H (by omega) rfl rfl rfl rfl rfl rfl rfl rfl rfl (by have:=(he (j - 1) (by omega)).1;show 0+(kp p j).length*6+(j - (kp p j).length)*6≤cs2.length;omega) ?_;intro cs3 w hl3 hk3 H)|(refine zf rfl rfl (Yq.sliceHi sg rfl rfl rfl rfl rfl rfl (zz1 _) (by omega) (by omega)) ?_)|refine yU ?_|fail)
    exact zAY (vs:=[_]) (M:=_) ⟨zh rfl,trivial⟩ H ⟨rfl,cs3,rfl,hl3.trans hl,(he.keep (Nat.le_of_lt hil) hl3 (fun q hq=>hk3 q (by show q<0+(kp p j).length*6;omega))).congr (fun t ht=>by show(d2 t).cells=_;rw[hj3 t ht])⟩
  ·rw[hix] at h;exact absurd h (by decide)
theorem zRa {α:Type}(l:List α)(p:α→Bool)(d:α):∀ n,n≤l.length→(kp (fun j=>p (l.getD j d)) n).map (fun j=>l.getD j d)=(l.take n).filter fun x=>!p x
 | 0,_=>rfl
 | n+1,h=>by
   have e:l.take (n+1)=l.take n++[l.getD n d]:=by
    rw[List.take_succ_eq_append_getElem (by omega)];simp[List.getElem?_eq_getElem (show n<l.length by omega)]
   rw[e,List.filter_append,← zRa l p d n (by omega),zBg]
   cases hp:p (l.getD n d)
   ·rw[if_neg (by decide),List.map_append,List.filter_cons_of_pos (by rw[hp];rfl),List.filter_nil];rfl
   ·rw[if_pos rfl,List.filter_cons_of_neg (by rw[hp];decide),List.filter_nil,List.append_nil]
theorem zHG {α:Type}(l:List α)(p:α→Bool)(d:α):(kp (fun j=>p (l.getD j d)) l.length).length=(l.filter fun x=>!p x).length∧∀ t,t<(l.filter fun x=>!p x).length→zCM (fun j=>p (l.getD j d)) l.length (fun j=>l.getD j d) t=(l.filter fun x=>!p x).getD t d:=by
 have h:=zRa l p d l.length (zzC _)
 rw[List.take_length] at h
 refine⟨by rw[← h,List.length_map],fun t ht=>?_⟩
 rw[← h] at ht ⊢
 rw[List.length_map] at ht
 unfold zCM
 rw[List.getD_eq_getElem?_getD (l:=List.map _ _),List.getElem?_map,List.getD_eq_getElem?_getD (l:=kp _ _),List.getElem?_eq_getElem ht]
 rfl
end
end Go.Proofs.YtibmaifoaajllaaGreatDoor
