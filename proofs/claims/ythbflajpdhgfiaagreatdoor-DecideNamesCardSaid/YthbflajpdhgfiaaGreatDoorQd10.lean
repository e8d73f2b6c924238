/- Texts of ours, joined: the steps of the proof, or the claim's theorem. -/
import Derived.Test.YthbflajpdhgfiaaGreatDoorQd09
set_option linter.all false
set_option maxHeartbeats 16000000
namespace Go.Proofs.YthbflajpdhgfiaaGreatDoor
section
open Go Go.Sk Go.RowKit
def kp (p:Nat→Bool)(n:Nat):List Nat:=(List.range n).filter fun i=>!p i
theorem zBk (p:Nat→Bool)(n:Nat):kp p (n+1)=if p n then kp p n else kp p n++[n]:=by
 unfold kp
 rw[List.range_succ,List.filter_append]
 cases h:p n<;>simp[h]
theorem zGb {p:Nat→Bool}{n:Nat}(h:∀ j,j<n→p j=false):kp p n=List.range n:=by
 unfold kp
 rw[List.filter_eq_self]
 intro a ha
 rw[h a (List.mem_range.1 ha)];rfl
theorem zJ4 (p:Nat→Bool)(n:Nat):(kp p n).length≤n:=by
 have:=List.length_filter_le (fun i=>!p i) (List.range n)
 simpa [kp] using this
def zHE (p:Nat→Bool)(n:Nat)(d:Nat→AE)(t:Nat):AE:=d ((kp p n).getD t 0)
theorem zLB {w0 w:World}{g n cap:Nat}{G:zC}{d:Nat→AE}{cs:List Value}{f:FuncId}{caps:List Value}(p:Nat→Bool)(H:St w0 (cb g cs 67::G) w)(he:Els cs 9 n (fun j=>(d j).c))(hn:n≤8796093022208)(hnc:n≤cap)
  (hf:Ent Tryz.prog f) (hp:∀ j,j<n→∀ L cs' w',St w0 (L++cb g cs' 67::G) w'→Calls Tryz.prog f ([Value.agg (d j).c.toArray]++caps).toArray w' (Ret (.bool (p j)) w')) :
  Calls Tryz.prog 58 [.slice (some ⟨g,0,none⟩) n cap,.func (.func f) #[] caps.toArray].toArray w
   (zi (fun M v=>v=.slice (some ⟨g,0,none⟩) (kp p n).length cap∧∃ cs',M=cb g cs' 67::G∧cs'.length=cs.length∧Els cs' 9 (kp p n).length (fun t=>(zHE p n d t).c)) w0):=by
 refine enter [.tmp 4] Tryz.func58 rfl Tryz.ntmps58 rfl rfl ?_
 repeat' (first|refine yT ?_|(refine OX.call rfl rfl (En.fn zKt rfl rfl) (zD2 p _ H.mem ⟨hnc,by omega,g,0,cs,_,(0,0),he.slb (zz2 _)⟩ hf (fun j hj w' hw=>hp j hj [] _ _ (H.ext hw))) ?_;refine w2 H ?_;clear H;intro w H)|refine yU ?_|fail)
 refine zD rfl (fun h=>?_) (fun h=>?_)
 ·repeat' (first|refine yT ?_|refine yU ?_|fail)
  rcases zZ p n with ⟨k,hk,hlo,hpk,hix⟩|⟨hall,hix⟩
  ·rw[hix] at h;have:=eqI h;omega
  ·have hkp:=zGb hall
   have hkl:(kp p n).length=n:=by rw[hkp,List.length_range]
   refine zq (vs:=[_]) (M:=_) ⟨zb rfl,trivial⟩ H ⟨by rw[hkl];rfl,cs,rfl,rfl,?_⟩
   rw[hkl]
   exact he.congr (fun j hj=>by show(d j).c=(d _).c;rw[hkp,List.getD_eq_getElem?_getD,List.getElem?_range hj];rfl)
 ·rcases zZ p n with ⟨k,hk,hlo,hpk,hix⟩|⟨_,hix⟩
  ·rw[hix]
   clear h
   have hk1:kp p (k+1)=List.range k:=by rw[zBk,if_pos hpk];exact zGb hlo
   have hlt:∀ j,k+1≤j→(kp p j).length<j:=by
    intro j hj
    induction j with
    | zero=>omega
    | succ j ih =>
      rw[zBk]
      rcases Nat.lt_or_ge k j with h1|h1
      ·have:=ih qO
       split
       ·omega
       ·rw[List.length_append,List.length_singleton];omega
      ·obtain rfl:j=k:=by omega
       rw[if_pos hpk]
       have:=zJ4 p j;omega
   repeat' (first|refine yT ?_|refine yU ?_|with_reducible apply zB|fail)
   refine zI [(5,7),(16,35)] (fun x:Nat × (Nat→AE) × List Value=>[(5,.int .i64 ((kp p x.1).length:Int)),(6,.int .i64 (x.1:Int))])
    (fun x w=>k+1≤x.1∧x.1≤n∧(∀ t,t<(kp p x.1).length→x.2.1 t=zHE p x.1 d t)∧(∀ t,x.1≤t→x.2.1 t=d t)∧Els x.2.2 9 n (fun t=>(x.2.1 t).c)∧x.2.2.length=cs.length∧St w0 (cb g x.2.2 67::G) w)
    (fun x=>n - x.1) (k+1,d,cs) ⟨by show Value.int .i64 _=Value.int .i64 ((kp p (k+1)).length:Int);rw[hk1,List.length_range],zf qO,trivial⟩
    ⟨zzC _,hk,fun t ht=>by rw[hk1,List.length_range] at ht;unfold zHE;rw[hk1,List.getD_eq_getElem?_getD,List.getElem?_range ht];rfl,fun _ _=>rfl,he,rfl,H⟩ ?_
   clear H he
   rintro⟨j,d2,cs2⟩ gh w ⟨hj1,hj2,hj3,hj4,he,hl,H⟩
   simp only at hj1 hj2 hj3 hj4 he hl H ⊢
   have hil:=hlt j hj1
   repeat' (first|refine yT ?_|refine yU ?_|fail)
   refine zD rfl (fun h=>?_) (fun h=>?_)
   ·have hjn:j<n:=by simpa using h
    have hdj:d2 j=d j:=hj4 j (zzC _)
    have hs:=he.slb (F:=cb g cs2 67::G) (T:=67) (g:=g) (zz2 _)
    repeat' (first|refine yT ?_|refine y7 sg H ?_|(refine y10 sg H ?_;intro b w H)|(refine y11 sg H ?_;intro w H)|refine x40 sg hs ?_|refine x42 sg hs H.mem ?_|(refine OX.call rfl rfl (zBT hf rfl rfl rfl) (by have:=hp j hjn [_] _ _ H;rw[← hdj] at this;exact this) ?_;refine w2 H ?_;clear H;intro w H)|refine yU ?_|with_reducible apply zB|fail)
    refine zD rfl (fun h2=>?_) (fun h2=>?_)
    ·repeat' (first|refine yT ?_|refine y7 sg H ?_|refine x40 sg hs ?_|(refine OX.storeB sg (H.perm (List.Perm.swap _ _ _)) rfl rfl rfl (vs:=(d2 j).c) rfl rfl (AE.c_len _) (by have:=(he _ (Nat.lt_of_lt_of_le hil hj2)).1;rw[AE.c_len];omega) (AE.c_one _) ?_;intro w HS)|refine yU ?_|fail)
     have hin:(kp p j).length<n:=Nat.lt_of_lt_of_le hil hj2
     have hkp:kp p (j+1)=kp p j++[j]:=by rw[zBk,if_neg (by simpa using h2)]
     have hkl:(kp p (j+1)).length=(kp p j).length+1:=by rw[hkp,List.length_append,List.length_singleton]
     refine zF (j+1,upd d2 (kp p j).length (d2 j),wr cs2 (0+(kp p j).length*9) (d2 j).c) rfl ⟨by show Value.int .i64 _=Value.int .i64 ((kp p (j+1)).length:Int);rw[hkl];exact zf qO,zf qO,trivial⟩
      ⟨by show k+1≤j+1;omega,hjn,fun t ht=>?_,fun t ht=>?_,?_,?_,HS.sub (List.Sublist.cons_cons _ (zz7 _ _))⟩ (by show n - (j+1)<n - j;omega)
     ·replace ht:t<(kp p (j+1)).length:=ht
      rw[hkl] at ht
      show upd d2 (kp p j).length (d2 j) t=zHE p (j+1) d t
      unfold upd zHE
      rw[hkp,List.getD_eq_getElem?_getD]
      by_cases ht2:t=(kp p j).length
      ·rw[if_pos ht2,ht2,List.getElem?_append_right (Nat.le_refl _),Nat.sub_self,hdj];rfl
      ·rw[if_neg ht2,List.getElem?_append_left qO,hj3 t qO]
       unfold zHE;rw[List.getD_eq_getElem?_getD]
     ·replace ht:j+1≤t:=ht
      show upd d2 (kp p j).length (d2 j) t=d t
      unfold upd
      rw[if_neg qO,hj4 t qO]
     ·show Els (wr cs2 (0+(kp p j).length*9) (d2 j).c) 9 n _
      rw[Nat.zero_add]
      exact(he.wr hin (AE.c_len _)).congr (fun t _=>by show(if t=_ then _ else _)=(upd _ _ _ t).c;unfold upd;split<;>rfl)
     ·show(wr _ _ _).length=_;rw[zBt (by have:=(he _ hin).1;rw[AE.c_len];omega)];exact hl
    ·repeat' (first|refine yT ?_|refine yU ?_|fail)
     have hkp:kp p (j+1)=kp p j:=by rw[zBk,if_pos (by simpa using h2)]
     refine zF (j+1,d2,cs2) rfl ⟨by show Value.int .i64 _=Value.int .i64 ((kp p (j+1)).length:Int);rw[hkp],zf qO,trivial⟩
      ⟨by show k+1≤j+1;omega,hjn,fun t ht=>?_,fun t ht=>hj4 t (by replace ht:j+1≤t:=ht;omega),he,hl,H.sub (zz7 _ _)⟩ (by show n - (j+1)<n - j;omega)
     replace ht:t<(kp p (j+1)).length:=ht
     show d2 t=zHE p (j+1) d t
     unfold zHE;rw[hkp]
     rw[hkp] at ht
     exact hj3 t ht
   ·have hjn:j=n:=by simp at h;omega
    subst hjn
    repeat' (first|refine yT ?_|(refine zd rfl rfl (Yq.sliceLoB sg rfl rfl rfl rfl rfl rfl (zz1 _) qO qO hnc) ?_)|(refine OX.clearP sg H qO rfl rfl rfl rfl rfl rfl rfl rfl rfl (by have:=(he (j - 1) qO).1;show 0+(kp p j).length*9+(j - (kp p j).length)*9≤cs2.length;omega) ?_;intro cs3 w hl3 hk3 H)|(refine zd rfl rfl (Yq.sliceHi sg rfl rfl rfl rfl rfl rfl (zz1 _) qO qO) ?_)|refine yU ?_|fail)
    exact zq (vs:=[_]) (M:=_) ⟨zb rfl,trivial⟩ H ⟨rfl,cs3,rfl,hl3.trans hl,(he.keep (Nat.le_of_lt hil) hl3 (fun q hq=>hk3 q (by show q<0+(kp p j).length*9;omega))).congr (fun t ht=>by show(d2 t).c=_;rw[hj3 t ht])⟩
  ·rw[hix] at h;exact absurd h (by decide)
end
section
open Go Go.Sk Go.RowKit
attribute [local irreducible] Go.Calls
theorem Row4.clen (r:Row4):r.cells.length=4:=rfl
theorem Row4.cone (r:Row4):∀ u∈r.cells,u.oneCell'=true:=by
 intro u hu
 simp only[Row4.cells,List.mem_cons,List.not_mem_nil,or_false] at hu
 rcases hu with rfl|rfl|rfl|rfl<;>rfl
theorem Odr.clen (r:Odr):r.cells.length=6:=rfl
theorem Odr.cone (r:Odr):∀ u∈r.cells,u.oneCell'=true:=by
 intro u hu
 simp only[Odr.cells,List.mem_cons,List.not_mem_nil,or_false] at hu
 rcases hu with rfl|rfl|rfl|rfl|rfl|rfl<;>rfl
def zCH {α:Type}(p:Nat→Bool)(n:Nat)(d:Nat→α)(t:Nat):α:=d ((kp p n).getD t 0)
def zGB {α:Type}(d:Nat→α)(k:Nat)(v:α):Nat→α:=fun t=>if t=k then v else d t
theorem zPM {w0 w:World}{g n cap:Nat}{G:zC}{d:Nat→Row4}{cs:List Value}{f:FuncId}{caps:List Value}(p:Nat→Bool)(H:St w0 (cb g cs 137::G) w)(he:Els cs 4 n (fun j=>(d j).cells))(hn:n≤8796093022208)(hnc:n≤cap)
  (hf:Ent Tryz.prog f) (hp:∀ j,j<n→∀ L cs' w',St w0 (L++cb g cs' 137::G) w'→Calls Tryz.prog f ([Value.agg (d j).cells.toArray]++caps).toArray w' (Ret (.bool (p j)) w')) :
  Calls Tryz.prog 206 [.slice (some ⟨g,0,none⟩) n cap,.func (.func f) #[] caps.toArray].toArray w
   (zi (fun M v=>v=.slice (some ⟨g,0,none⟩) (kp p n).length cap∧∃ cs',M=cb g cs' 137::G∧cs'.length=cs.length∧Els cs' 4 (kp p n).length (fun t=>(zCH p n d t).cells)) w0):=by
 refine enter [.tmp 4] Tryz.func206 rfl Tryz.ntmps206 rfl rfl ?_
 repeat' (first|refine yT ?_|(refine OX.call rfl rfl (En.fn zJg rfl rfl) (zD3 p _ H.mem ⟨hnc,by omega,g,0,cs,_,(0,0),he.slb (zz2 _)⟩ hf (fun j hj w' hw=>hp j hj [] _ _ (H.ext hw))) ?_;refine w2 H ?_;clear H;intro w H)|refine yU ?_|fail)
 refine zD rfl (fun h=>?_) (fun h=>?_)
 ·repeat' (first|refine yT ?_|refine yU ?_|fail)
  rcases zZ p n with ⟨k,hk,hlo,hpk,hix⟩|⟨hall,hix⟩
  ·rw[hix] at h;have:=eqI h;omega
  ·have hkp:=zGb hall
   have hkl:(kp p n).length=n:=by rw[hkp,List.length_range]
   refine zq (vs:=[_]) (M:=_) ⟨zb rfl,trivial⟩ H ⟨by rw[hkl];rfl,cs,rfl,rfl,?_⟩
   rw[hkl]
   exact he.congr (fun j hj=>by show(d j).cells=(d _).cells;rw[hkp,List.getD_eq_getElem?_getD,List.getElem?_range hj];rfl)
 ·rcases zZ p n with ⟨k,hk,hlo,hpk,hix⟩|⟨_,hix⟩
  ·rw[hix]
   clear h
   have hk1:kp p (k+1)=List.range k:=by rw[zBk,if_pos hpk];exact zGb hlo
   have hlt:∀ j,k+1≤j→(kp p j).length<j:=by
    intro j hj
    induction j with
    | zero=>omega
    | succ j ih =>
      rw[zBk]
      rcases Nat.lt_or_ge k j with h1|h1
      ·have:=ih qO
       split
       ·omega
       ·rw[List.length_append,List.length_singleton];omega
      ·obtain rfl:j=k:=by omega
       rw[if_pos hpk]
       have:=zJ4 p j;omega
   repeat' (first|refine yT ?_|refine yU ?_|with_reducible apply zB|fail)
   refine zI [(5,7),(16,35)] (fun x:Nat × (Nat→Row4) × List Value=>[(5,.int .i64 ((kp p x.1).length:Int)),(6,.int .i64 (x.1:Int))])
    (fun x w=>k+1≤x.1∧x.1≤n∧(∀ t,t<(kp p x.1).length→x.2.1 t=zCH p x.1 d t)∧(∀ t,x.1≤t→x.2.1 t=d t)∧Els x.2.2 4 n (fun t=>(x.2.1 t).cells)∧x.2.2.length=cs.length∧St w0 (cb g x.2.2 137::G) w)
    (fun x=>n - x.1) (k+1,d,cs) ⟨by show Value.int .i64 _=Value.int .i64 ((kp p (k+1)).length:Int);rw[hk1,List.length_range],zf qO,trivial⟩
    ⟨zzC _,hk,fun t ht=>by rw[hk1,List.length_range] at ht;unfold zCH;rw[hk1,List.getD_eq_getElem?_getD,List.getElem?_range ht];rfl,fun _ _=>rfl,he,rfl,H⟩ ?_
   clear H he
   rintro⟨j,d2,cs2⟩ gh w ⟨hj1,hj2,hj3,hj4,he,hl,H⟩
   simp only at hj1 hj2 hj3 hj4 he hl H ⊢
   have hil:=hlt j hj1
   repeat' (first|refine yT ?_|refine yU ?_|fail)
   refine zD rfl (fun h=>?_) (fun h=>?_)
   ·have hjn:j<n:=by simpa using h
    have hdj:d2 j=d j:=hj4 j (zzC _)
    have hs:=he.slb (F:=cb g cs2 137::G) (T:=137) (g:=g) (zz2 _)
    repeat' (first|refine yT ?_|refine y7 sg H ?_|(refine y10 sg H ?_;intro b w H)|(refine y11 sg H ?_;intro w H)|refine x40 sg hs ?_|refine x42 sg hs H.mem ?_|(refine OX.call rfl rfl (zBT hf rfl rfl rfl) (by have:=hp j hjn [_] _ _ H;rw[← hdj] at this;exact this) ?_;refine w2 H ?_;clear H;intro w H)|refine yU ?_|with_reducible apply zB|fail)
    refine zD rfl (fun h2=>?_) (fun h2=>?_)
    ·repeat' (first|refine yT ?_|refine y7 sg H ?_|refine x40 sg hs ?_|(refine OX.storeB sg (H.perm (List.Perm.swap _ _ _)) rfl rfl rfl (vs:=(d2 j).cells) rfl rfl (Row4.clen _) (by have:=(he _ (Nat.lt_of_lt_of_le hil hj2)).1;rw[Row4.clen];omega) (Row4.cone _) ?_;intro w HS)|refine yU ?_|fail)
     have hin:(kp p j).length<n:=Nat.lt_of_lt_of_le hil hj2
     have hkp:kp p (j+1)=kp p j++[j]:=by rw[zBk,if_neg (by simpa using h2)]
     have hkl:(kp p (j+1)).length=(kp p j).length+1:=by rw[hkp,List.length_append,List.length_singleton]
     refine zF (j+1,zGB d2 (kp p j).length (d2 j),wr cs2 (0+(kp p j).length*4) (d2 j).cells) rfl ⟨by show Value.int .i64 _=Value.int .i64 ((kp p (j+1)).length:Int);rw[hkl];exact zf qO,zf qO,trivial⟩
      ⟨by show k+1≤j+1;omega,hjn,fun t ht=>?_,fun t ht=>?_,?_,?_,HS.sub (List.Sublist.cons_cons _ (zz7 _ _))⟩ (by show n - (j+1)<n - j;omega)
     ·replace ht:t<(kp p (j+1)).length:=ht
      rw[hkl] at ht
      show zGB d2 (kp p j).length (d2 j) t=zCH p (j+1) d t
      unfold zGB zCH
      rw[hkp,List.getD_eq_getElem?_getD]
      by_cases ht2:t=(kp p j).length
      ·rw[if_pos ht2,ht2,List.getElem?_append_right (Nat.le_refl _),Nat.sub_self,hdj];rfl
      ·rw[if_neg ht2,List.getElem?_append_left qO,hj3 t qO]
       unfold zCH;rw[List.getD_eq_getElem?_getD]
     ·replace ht:j+1≤t:=ht
      show zGB d2 (kp p j).length (d2 j) t=d t
      unfold zGB
      rw[if_neg qO,hj4 t qO]
     ·show Els (wr cs2 (0+(kp p j).length*4) (d2 j).cells) 4 n _
      rw[Nat.zero_add]
      exact(he.wr hin (Row4.clen _)).congr (fun t _=>by show(if t=_ then _ else _)=(Row4.cells (zGB _ _ _ t));unfold zGB;split<;>rfl)
     ·show(wr _ _ _).length=_;rw[zBt (by have:=(he _ hin).1;rw[Row4.clen];omega)];exact hl
    ·repeat' (first|refine yT ?_|refine yU ?_|fail)
     have hkp:kp p (j+1)=kp p j:=by rw[zBk,if_pos (by simpa using h2)]
     refine zF (j+1,d2,cs2) rfl ⟨by show Value.int .i64 _=Value.int .i64 ((kp p (j+1)).length:Int);rw[hkp],zf qO,trivial⟩
      ⟨by show k+1≤j+1;omega,hjn,fun t ht=>?_,fun t ht=>hj4 t (by replace ht:j+1≤t:=ht;omega),he,hl,H.sub (zz7 _ _)⟩ (by show n - (j+1)<n - j;omega)
     replace ht:t<(kp p (j+1)).length:=ht
     show d2 t=zCH p (j+1) d t
     unfold zCH;rw[hkp]
     rw[hkp] at ht
     exact hj3 t ht
   ·have hjn:j=n:=by simp at h;omega
    subst hjn
    repeat' (first|refine yT ?_|(refine zd rfl rfl (Yq.sliceLoB sg rfl rfl rfl rfl rfl rfl (zz1 _) qO qO hnc) ?_)|(refine OX.clearP sg H qO rfl rfl rfl rfl rfl rfl rfl rfl rfl (by have:=(he (j - 1) qO).1;show 0+(kp p j).length*4+(j - (kp p j).length)*4≤cs2.length;omega) ?_;intro cs3 w hl3 hk3 H)|(refine zd rfl rfl (Yq.sliceHi sg rfl rfl rfl rfl rfl rfl (zz1 _) qO qO) ?_)|refine yU ?_|fail)
    exact zq (vs:=[_]) (M:=_) ⟨zb rfl,trivial⟩ H ⟨rfl,cs3,rfl,hl3.trans hl,(he.keep (Nat.le_of_lt hil) hl3 (fun q hq=>hk3 q (by show q<0+(kp p j).length*4;omega))).congr (fun t ht=>by show(d2 t).cells=_;rw[hj3 t ht])⟩
  ·rw[hix] at h;exact absurd h (by decide)
theorem zPN {w0 w:World}{g n cap:Nat}{G:zC}{d:Nat→Odr}{cs:List Value}{f:FuncId}{caps:List Value}(p:Nat→Bool)(H:St w0 (cb g cs 55::G) w)(he:Els cs 6 n (fun j=>(d j).cells))(hn:n≤8796093022208)(hnc:n≤cap)
  (hf:Ent Tryz.prog f) (hp:∀ j,j<n→∀ L cs' w',St w0 (L++cb g cs' 55::G) w'→Calls Tryz.prog f ([Value.agg (d j).cells.toArray]++caps).toArray w' (Ret (.bool (p j)) w')) :
  Calls Tryz.prog 37 [.slice (some ⟨g,0,none⟩) n cap,.func (.func f) #[] caps.toArray].toArray w
   (zi (fun M v=>v=.slice (some ⟨g,0,none⟩) (kp p n).length cap∧∃ cs',M=cb g cs' 55::G∧cs'.length=cs.length∧Els cs' 6 (kp p n).length (fun t=>(zCH p n d t).cells)) w0):=by
 refine enter [.tmp 4] Tryz.func37 rfl Tryz.ntmps37 rfl rfl ?_
 repeat' (first|refine yT ?_|(refine OX.call rfl rfl (En.fn zQc rfl rfl) (zFd p _ H.mem ⟨hnc,by omega,g,0,cs,_,(0,0),he.slb (zz2 _)⟩ hf (fun j hj w' hw=>hp j hj [] _ _ (H.ext hw))) ?_;refine w2 H ?_;clear H;intro w H)|refine yU ?_|fail)
 refine zD rfl (fun h=>?_) (fun h=>?_)
 ·repeat' (first|refine yT ?_|refine yU ?_|fail)
  rcases zZ p n with ⟨k,hk,hlo,hpk,hix⟩|⟨hall,hix⟩
  ·rw[hix] at h;have:=eqI h;omega
  ·have hkp:=zGb hall
   have hkl:(kp p n).length=n:=by rw[hkp,List.length_range]
   refine zq (vs:=[_]) (M:=_) ⟨zb rfl,trivial⟩ H ⟨by rw[hkl];rfl,cs,rfl,rfl,?_⟩
   rw[hkl]
   exact he.congr (fun j hj=>by show(d j).cells=(d _).cells;rw[hkp,List.getD_eq_getElem?_getD,List.getElem?_range hj];rfl)
 ·rcases zZ p n with ⟨k,hk,hlo,hpk,hix⟩|⟨_,hix⟩
  ·rw[hix]
   clear h
   have hk1:kp p (k+1)=List.range k:=by rw[zBk,if_pos hpk];exact zGb hlo
   have hlt:∀ j,k+1≤j→(kp p j).length<j:=by
    intro j hj
    induction j with
    | zero=>omega
    | succ j ih =>
      rw[zBk]
      rcases Nat.lt_or_ge k j with h1|h1
      ·have:=ih qO
       split
       ·omega
       ·rw[List.length_append,List.length_singleton];omega
      ·obtain rfl:j=k:=by omega
       rw[if_pos hpk]
       have:=zJ4 p j;omega
   repeat' (first|refine yT ?_|refine yU ?_|with_reducible apply zB|fail)
   refine zI [(5,7),(16,35)] (fun x:Nat × (Nat→Odr) × List Value=>[(5,.int .i64 ((kp p x.1).length:Int)),(6,.int .i64 (x.1:Int))])
    (fun x w=>k+1≤x.1∧x.1≤n∧(∀ t,t<(kp p x.1).length→x.2.1 t=zCH p x.1 d t)∧(∀ t,x.1≤t→x.2.1 t=d t)∧Els x.2.2 6 n (fun t=>(x.2.1 t).cells)∧x.2.2.length=cs.length∧St w0 (cb g x.2.2 55::G) w)
    (fun x=>n - x.1) (k+1,d,cs) ⟨by show Value.int .i64 _=Value.int .i64 ((kp p (k+1)).length:Int);rw[hk1,List.length_range],zf qO,trivial⟩
    ⟨zzC _,hk,fun t ht=>by rw[hk1,List.length_range] at ht;unfold zCH;rw[hk1,List.getD_eq_getElem?_getD,List.getElem?_range ht];rfl,fun _ _=>rfl,he,rfl,H⟩ ?_
   clear H he
   rintro⟨j,d2,cs2⟩ gh w ⟨hj1,hj2,hj3,hj4,he,hl,H⟩
   simp only at hj1 hj2 hj3 hj4 he hl H ⊢
   have hil:=hlt j hj1
   repeat' (first|refine yT ?_|refine yU ?_|fail)
   refine zD rfl (fun h=>?_) (fun h=>?_)
   ·have hjn:j<n:=by simpa using h
    have hdj:d2 j=d j:=hj4 j (zzC _)
    have hs:=he.slb (F:=cb g cs2 55::G) (T:=55) (g:=g) (zz2 _)
    repeat' (first|refine yT ?_|refine y7 sg H ?_|(refine y10 sg H ?_;intro b w H)|(refine y11 sg H ?_;intro w H)|refine x40 sg hs ?_|refine x42 sg hs H.mem ?_|(refine OX.call rfl rfl (zBT hf rfl rfl rfl) (by have:=hp j hjn [_] _ _ H;rw[← hdj] at this;exact this) ?_;refine w2 H ?_;clear H;intro w H)|refine yU ?_|with_reducible apply zB|fail)
    refine zD rfl (fun h2=>?_) (fun h2=>?_)
    ·repeat' (first|refine yT ?_|refine y7 sg H ?_|refine x40 sg hs ?_|(refine OX.storeB sg (H.perm (List.Perm.swap _ _ _)) rfl rfl rfl (vs:=(d2 j).cells) rfl rfl (Odr.clen _) (by have:=(he _ (Nat.lt_of_lt_of_le hil hj2)).1;rw[Odr.clen];omega) (Odr.cone _) ?_;intro w HS)|refine yU ?_|fail)
     have hin:(kp p j).length<n:=Nat.lt_of_lt_of_le hil hj2
     have hkp:kp p (j+1)=kp p j++[j]:=by rw[zBk,if_neg (by simpa using h2)]
     have hkl:(kp p (j+1)).length=(kp p j).length+1:=by rw[hkp,List.length_append,List.length_singleton]
     refine zF (j+1,zGB d2 (kp p j).length (d2 j),wr cs2 (0+(kp p j).length*6) (d2 j).cells) rfl ⟨by show Value.int .i64 _=Value.int .i64 ((kp p (j+1)).length:Int);rw[hkl];exact zf qO,zf qO,trivial⟩
      ⟨by show k+1≤j+1;omega,hjn,fun t ht=>?_,fun t ht=>?_,?_,?_,HS.sub (List.Sublist.cons_cons _ (zz7 _ _))⟩ (by show n - (j+1)<n - j;omega)
     ·replace ht:t<(kp p (j+1)).length:=ht
      rw[hkl] at ht
      show zGB d2 (kp p j).length (d2 j) t=zCH p (j+1) d t
      unfold zGB zCH
      rw[hkp,List.getD_eq_getElem?_getD]
      by_cases ht2:t=(kp p j).length
      ·rw[if_pos ht2,ht2,List.getElem?_append_right (Nat.le_refl _),Nat.sub_self,hdj];rfl
      ·rw[if_neg ht2,List.getElem?_append_left qO,hj3 t qO]
       unfold zCH;rw[List.getD_eq_getElem?_getD]
     ·replace ht:j+1≤t:=ht
      show zGB d2 (kp p j).length (d2 j) t=d t
      unfold zGB
      rw[if_neg qO,hj4 t qO]
     ·show Els (wr cs2 (0+(kp p j).length*6) (d2 j).cells) 6 n _
      rw[Nat.zero_add]
      exact(he.wr hin (Odr.clen _)).congr (fun t _=>by show(if t=_ then _ else _)=(Odr.cells (zGB _ _ _ t));unfold zGB;split<;>rfl)
     ·show(wr _ _ _).length=_;rw[zBt (by have:=(he _ hin).1;rw[Odr.clen];omega)];exact hl
    ·repeat' (first|refine yT ?_|refine yU ?_|fail)
     have hkp:kp p (j+1)=kp p j:=by rw[zBk,if_pos (by simpa using h2)]
     refine zF (j+1,d2,cs2) rfl ⟨by show Value.int .i64 _=Value.int .i64 ((kp p (j+1)).length:Int);rw[hkp],zf qO,trivial⟩
      ⟨by show k+1≤j+1;omega,hjn,fun t ht=>?_,fun t ht=>hj4 t (by replace ht:j+1≤t:=ht;omega),he,hl,H.sub (zz7 _ _)⟩ (by show n - (j+1)<n - j;omega)
     replace ht:t<(kp p (j+1)).length:=ht
     show d2 t=zCH p (j+1) d t
     unfold zCH;rw[hkp]
     rw[hkp] at ht
     exact hj3 t ht
   ·have hjn:j=n:=by simp at h;omega
    subst hjn
    repeat' (first|refine yT ?_|(refine zd rfl rfl (Yq.sliceLoB sg rfl rfl rfl rfl rfl rfl (zz1 _) qO qO hnc) ?_)|(refine OX.clearP sg H qO rfl rfl rfl rfl rfl rfl rfl rfl rfl (by have:=(he (j - 1) qO).1;show 0+(kp p j).length*6+(j - (kp p j).length)*6≤cs2.length;omega) ?_;intro cs3 w hl3 hk3 H)|(refine zd rfl rfl (Yq.sliceHi sg rfl rfl rfl rfl rfl rfl (zz1 _) qO qO) ?_)|refine yU ?_|fail)
    exact zq (vs:=[_]) (M:=_) ⟨zb rfl,trivial⟩ H ⟨rfl,cs3,rfl,hl3.trans hl,(he.keep (Nat.le_of_lt hil) hl3 (fun q hq=>hk3 q (by show q<0+(kp p j).length*6;omega))).congr (fun t ht=>by show(d2 t).cells=_;rw[hj3 t ht])⟩
  ·rw[hix] at h;exact absurd h (by decide)
theorem zRn {α:Type}(l:List α)(p:α→Bool)(d:α):∀ n,n≤l.length→(kp (fun j=>p (l.getD j d)) n).map (fun j=>l.getD j d)=(l.take n).filter fun x=>!p x
 | 0,_=>rfl
 | n+1,h=>by
   have e:l.take (n+1)=l.take n++[l.getD n d]:=by
    rw[List.take_succ_eq_append_getElem qO];simp[List.getElem?_eq_getElem (show n<l.length by omega)]
   rw[e,List.filter_append,← zRn l p d n qO,zBk]
   cases hp:p (l.getD n d)
   ·rw[if_neg (by decide),List.map_append,List.filter_cons_of_pos (by rw[hp];rfl),List.filter_nil];rfl
   ·rw[if_pos rfl,List.filter_cons_of_neg (by rw[hp];decide),List.filter_nil,List.append_nil]
theorem zG3 {α:Type}(l:List α)(p:α→Bool)(d:α):(kp (fun j=>p (l.getD j d)) l.length).length=(l.filter fun x=>!p x).length∧∀ t,t<(l.filter fun x=>!p x).length→zCH (fun j=>p (l.getD j d)) l.length (fun j=>l.getD j d) t=(l.filter fun x=>!p x).getD t d:=by
 have h:=zRn l p d l.length (zzC _)
 rw[List.take_length] at h
 refine⟨by rw[← h,List.length_map],fun t ht=>?_⟩
 rw[← h] at ht ⊢
 rw[List.length_map] at ht
 unfold zCH
 rw[List.getD_eq_getElem?_getD (l:=List.map _ _),List.getElem?_map,List.getD_eq_getElem?_getD (l:=kp _ _),List.getElem?_eq_getElem ht]
 rfl
theorem zPO {w0:World}{a:Option Addr}{cap:Nat}{f:FuncId}{caps:List Value}(hf:Ent Tryz.prog f) :
  Calls Tryz.prog 206 [.slice a 0 cap,.func (.func f) #[] caps.toArray].toArray w0 (Ret (.slice a 0 cap) w0):=by
 refine enter [.tmp 4] Tryz.func206 rfl Tryz.ntmps206 rfl rfl ?_
 have H:=zA w0
 repeat' (first|refine yT ?_|(refine' y30 zJg ?_ ?_;rotate_left;exact zD3 (n:=0) (el:=fun _=>[]) (F:=[]) (fun _=>false) _ (fun _ h=>nomatch h) ⟨zzD _,zzD _,0,0,[],0,(0,0),fun h=>absurd h (Nat.lt_irrefl 0)⟩ hf (fun j hj=>absurd hj (zzE _));refine w2 H ?_;clear H;intro w H)|refine yU ?_|fail)
 all_goals exact zP rfl H.cl rfl
theorem zPP {w0:World}{a:Option Addr}{cap:Nat}{f:FuncId}{caps:List Value}(hf:Ent Tryz.prog f) :
  Calls Tryz.prog 37 [.slice a 0 cap,.func (.func f) #[] caps.toArray].toArray w0 (Ret (.slice a 0 cap) w0):=by
 refine enter [.tmp 4] Tryz.func37 rfl Tryz.ntmps37 rfl rfl ?_
 have H:=zA w0
 repeat' (first|refine yT ?_|(refine' y30 zQc ?_ ?_;rotate_left;exact zFd (n:=0) (el:=fun _=>[]) (F:=[]) (fun _=>false) _ (fun _ h=>nomatch h) ⟨zzD _,zzD _,0,0,[],0,(0,0),fun h=>absurd h (Nat.lt_irrefl 0)⟩ hf (fun j hj=>absurd hj (zzE _));refine w2 H ?_;clear H;intro w H)|refine yU ?_|fail)
 all_goals exact zP rfl H.cl rfl
def ofF (l:List Row4)(a:Int):List Row4:=l.filter fun r=>!(r.acct != a)
theorem c_Of {a0:Option Addr}{cap:Nat}(l:List Row4)(a:Int)(hl:l.length≤1000000){F:zC}(w0:World)(hF:Mem w0 F)(hs0:SlA F 4 a0 l.length cap (rwl l)) :
  Calls Tryz.prog 161 [.slice a0 l.length cap,.int .i64 a].toArray w0 (zi (fun _ v=>∃ a1 c1,v=.slice a1 (ofF l a).length c1) w0):=by
 refine enter [.tmp 4] Tryz.func161 rfl Tryz.ntmps161 rfl rfl ?_
 have H:=zA w0
 repeat' (first|refine yT ?_|(refine y9 H ?_;intro b w H)|(refine' y32 ent78 ?_ ?_;rotate_left;exact zHx _ (H.memF hF) hs0 (fun j _=>Row4.cone _) (fun j _=>rfl) qO;intro v M w hR hS;replace H:=H.addR hS;clear hS;(try simp only[List.cons_append,List.nil_append] at H);obtain⟨a',cap',rfl,hO⟩:=hR)|refine yU ?_|fail)
 rcases Nat.eq_zero_or_pos l.length with h0|h0
 ·obtain rfl:=List.length_eq_zero_iff.1 h0
  repeat' (first|refine yT ?_|(refine' y30 zQr ?_ ?_;rotate_left;exact zPO (a:=a') (cap:=cap') (caps:=[.pointer (some ⟨b,0,none⟩)]) zQs;refine w2 H ?_;clear H;intro w H)|refine yU ?_|fail)
  exact zS (M:=[]) rfl (H.sub (zz9 _)) ⟨a',cap',rfl⟩
 ·obtain⟨g,cs,rfl,rfl,hnc,he⟩:=hO.els h0 (fun j _=>rfl)
  clear hO
  replace H:=H.perm (List.Perm.swap _ _ _)
  repeat' (first|refine yT ?_|(refine za rfl rfl (En.fn zQr rfl rfl) (zPM (n:=l.length) (d:=rw_ l) (caps:=[.pointer (some ⟨b,0,none⟩)]) (fun j=>(rw_ l j).acct != a) H he qO hnc zQs (fun j hj L cs' w' H'=>c_Of1 (rw_ l j) a b w' H'.mem (zz3 _ (zz5 _ (zz2 _))))) ?_;rintro _ _ w ⟨rfl,cs2,rfl,hl2,he2⟩ H2;clear H;have H:=H2;clear H2)|refine yU ?_|fail)
  have hk:=(zG3 l (fun r=>r.acct != a) default).1
  exact zS (M:=[]) rfl (H.sub (zz9 _)) ⟨_,_,congrArg (fun n=>Value.slice (some ⟨g,0,none⟩) n cap') hk⟩
end
section
open Go Go.Sk Go.RowKit
def zHF (E:Pl→Int × Int)(s:Int):Int:=((List.range 65).map fun(a:Nat)=>(E ((a:Int),s)).1+(E ((a:Int),s)).2).sum
def wR (s:Int)(r:Row4):Int:=if r.asset=s then r.free+r.held else 0
theorem zJ5 {l:List Row4}{s:Int}:∀ k,k≤l.length→smR l s k=((l.take k).map (wR s)).sum
 | 0,_=>by simp[smR]
 | k+1,h=>by
   have ih:=zJ5 (l:=l) (s:=s) k qO
   rw[smR,ih,List.take_succ_eq_append_getElem qO,List.map_append,List.sum_append]
   simp[wR,rw_,List.getD_eq_getElem?_getD,List.getElem?_eq_getElem (show k<l.length by omega)]
theorem zRo {α β:Type}{f:α→Option β}{g:β→Int}:∀ (l:List α),((l.filterMap f).map g).sum=(l.map fun x=>match f x with|some y=>g y|none=>0).sum
 | []=>rfl
 | a::l=>by
   rw[List.filterMap_cons,List.map_cons,List.sum_cons,← zRo l]
   cases f a<;>simp
theorem zLC {α β:Type}{f:α→List β}{g:β→Int}:∀ (l:List α),((l.flatMap f).map g).sum=(l.map fun x=>((f x).map g).sum).sum
 | []=>rfl
 | a::l=>by rw[List.flatMap_cons,List.map_append,List.sum_append,zLC l,List.map_cons,List.sum_cons]
theorem zGC {α:Type}{g:α→Int}:∀ {l:List α},(∀ x∈l,g x=0)→(l.map g).sum=0
 | [],_=>rfl
 | a::l,h=>by rw[List.map_cons,List.sum_cons,h a (List.Mem.head _),zGC fun x hx=>h x (List.Mem.tail _ hx)];rfl
theorem zJ6 {α:Type}{f g:α→Int}:∀ (l:List α),(l.map fun x=>f x+g x).sum=(l.map f).sum+(l.map g).sum
 | []=>rfl
 | a::l=>by simp only[List.map_cons,List.sum_cons,zJ6 l];omega
theorem zDl {α:Type}{f g:α→Int}:∀ {l:List α},(∀ x∈l,f x=g x)→(l.map f).sum=(l.map g).sum
 | [],_=>rfl
 | a::l,h=>by rw[List.map_cons,List.map_cons,List.sum_cons,List.sum_cons,h a (List.Mem.head _),zDl fun x hx=>h x (List.Mem.tail _ hx)]
theorem zN4 {n k:Nat}(hk:k<n)(z:Int):((List.range n).map fun a=>if a=k then z else 0).sum=z:=by
 induction n with
 | zero=>omega
 | succ n ih =>
   rw[List.range_succ,List.map_append,List.sum_append]
   by_cases h:k=n
   ·subst h
    rw[zGC fun x hx=>if_neg (by have:=List.mem_range.1 hx;omega)]
    simp
   ·rw[ih qO]
    simp[show ¬ n=k by omega]
theorem zN5 (E:Pl→Int × Int)(s:Nat)(hs:s<17):((mkR E).map (wR s)).sum=zHF E s:=by
 unfold mkR
 rw[zRo]
 unfold zBo zHF
 rw[zLC]
 refine zDl fun a ha=>?_
 rw[List.map_map]
 rw[zDl (g:=fun t=>if t=s then(E ((a:Int),(s:Int))).1+(E ((a:Int),(s:Int))).2 else 0) fun t ht=>?_]
 ·exact zN4 hs _
 ·simp only[Function.comp]
  by_cases h0:E ((a:Int),(t:Int))=(0,0)
  ·rw[if_pos h0]
   by_cases hts:t=s
   ·subst hts;rw[if_pos rfl,h0];rfl
   ·rw[if_neg hts]
  ·rw[if_neg h0]
   simp only[wR]
   by_cases hts:t=s
   ·subst hts;simp
   ·rw[if_neg qO,if_neg hts]
theorem zLD {l:List Row4}(h:zAY l=true)(s:Nat)(hs:s<17):zHF (atR l) s=0:=by
 have h1:=(zBi.1 h).2 s hs
 rw[zJ5 _ (Nat.le_refl _),List.take_length] at h1
 rw[← zN5 _ s hs,zN3 h]
 exact h1
structure GoodE (E:Pl→Int × Int):Prop where
 out:∀ x∈zBo,x.1=0→(E x).2=0
 acc:∀ x∈zBo,x.1≠0→0≤(E x).1∧0≤(E x).2∧(E x).1+(E x).2≤1125899906842624
 col:∀ s:Nat,s<17→zHF E s=0
theorem zT6 {E:Pl→Int × Int}(h:GoodE E):zAY (mkR E)=true:=by
 rw[zBi]
 refine⟨fun j hj=>?_,fun s hs=>?_⟩
 ·have hr:rw_ (mkR E) j∈mkR E:=by simp[rw_,List.getD_eq_getElem?_getD,List.getElem?_eq_getElem hj]
  have hm:=zFG.1 hr
  have hg:=zC0.1 hm.1
  refine⟨⟨⟨hg.1.1,hg.1.2,hg.2⟩,hm.2.2,fun h0=>?_,fun h0=>?_⟩,?_⟩
  ·have:=h.out _ hm.1 h0;rw[hm.2.1] at this;exact this
  ·have:=h.acc _ hm.1 h0;rw[hm.2.1] at this;exact this
  ·rcases Nat.eq_zero_or_pos j with h0|h0
   ·exact .inl h0
   ·right
    have:=List.pairwise_iff_getElem.1 (zHP E) (j - 1) j qO hj qO
    simpa [rw_,List.getD_eq_getElem?_getD,List.getElem?_eq_getElem hj,List.getElem?_eq_getElem (show j - 1<(mkR E).length by omega)] using this
 ·rw[zJ5 _ (Nat.le_refl _),List.take_length,zN5 E s hs]
  exact h.col s hs
theorem zBN (q:Pst)(p:List Pst)(x:Pl):dlF (q::p) x=if q.acct=x.1∧q.asset=x.2 then((dlF p x).1+q.free,(dlF p x).2+q.held) else dlF p x:=by
 have key:∀ (p:List Pst) (z:Int × Int),p.foldl (fun z q=>if q.acct=x.1∧q.asset=x.2 then(z.1+q.free,z.2+q.held) else z) z=(z.1+(dlF p x).1,z.2+(dlF p x).2):=by
  intro p
  induction p with
  | nil=>intro z;simp[dlF]
  | cons q p ih =>
    intro z
    unfold dlF
    simp only[List.foldl_cons]
    rw[ih,ih]
    split
    ·simp only[Int.zero_add];ext<;>simp only<;>omega
    ·simp
 show(q::p).foldl _ _=_
 rw[List.foldl_cons,key]
 split
 ·simp only[Int.zero_add];ext<;>simp only<;>omega
 ·simp
theorem zCk (q:Pst)(p:List Pst)(s:Int):zBj (q::p) s=zBj p s+if q.asset=s then q.free+q.held else 0:=by
 have key:∀ (p:List Pst) (z:Int),p.foldl (fun z q=>if q.asset=s then z+(q.free+q.held) else z) z=z+zBj p s:=by
  intro p
  induction p with
  | nil=>intro z;simp[zBj]
  | cons q p ih =>
    intro z
    unfold zBj
    simp only[List.foldl_cons]
    rw[ih,ih]
    split<;>omega
 show(q::p).foldl _ _=_
 rw[List.foldl_cons,key]
 split<;>omega
theorem dl_col {p:List Pst}(hp:p.any zCb=false)(s:Nat):zHF (dlF p) s=zBj p s:=by
 induction p with
 | nil=>unfold zHF;exact zGC fun a _=>rfl
 | cons q p ih =>
   rw[List.any_cons,Bool.or_eq_false_iff] at hp
   have hq:(0≤q.acct∧q.acct≤64):=by
    have:=hp.1
    simp only[zCb,zCO,Bool.or_eq_false_iff,Bool.not_eq_false',Bool.and_eq_true,decide_eq_true_eq] at this
    exact⟨this.1.1.1.1.1.1,this.1.1.1.1.1.2⟩
   rw[zCk,← ih hp.2]
   unfold zHF
   have e:∀ a:Nat,(dlF (q::p) ((a:Int),(s:Int))).1+(dlF (q::p) ((a:Int),(s:Int))).2=((dlF p ((a:Int),(s:Int))).1+(dlF p ((a:Int),(s:Int))).2)+if a=q.acct.toNat then(if q.asset=(s:Int) then q.free+q.held else 0) else 0:=by
    intro a
    rw[zBN]
    simp only
    by_cases ha:a=q.acct.toNat
    ·by_cases hs:q.asset=(s:Int)
     ·rw[if_pos ⟨by omega,hs⟩,if_pos ha,if_pos hs];omega
     ·rw[if_neg (fun h=>hs h.2),if_pos ha,if_neg hs];omega
    ·rw[if_neg (fun h=>ha qO),if_neg ha];omega
   rw[zDl fun a _=>e a,zJ6,zN4 qO]
theorem zHz {p:List Pst}(h:zAv p=0):p.length≤64∧p.any zCb=false∧∀ s:Nat,s<17→zBj p s=0:=by
 unfold zAv at h
 by_cases h1:p.length>64
 ·rw[if_pos h1] at h;cases h
 rw[if_neg h1] at h
 by_cases h2:p.any zCb=true
 ·rw[if_pos h2] at h;cases h
 rw[if_neg h2] at h
 by_cases h3:((List.range 17).any fun s=>zBj p (s:Nat) != 0)=true
 ·rw[if_pos h3] at h;cases h
 refine⟨by omega,by simpa using h2,fun s hs=>?_⟩
 have:=List.any_eq_false.1 (by simpa using h3:((List.range 17).any fun s=>zBj p (s:Nat) != 0)=false) s (List.mem_range.2 hs)
 simpa using this
theorem dl_out {p:List Pst}(hp:p.any zCb=false)(s:Int):(dlF p (0,s)).2=0:=by
 induction p with
 | nil=>rfl
 | cons q p ih =>
   rw[List.any_cons,Bool.or_eq_false_iff] at hp
   rw[zBN]
   split
   ·rename_i h
    have:=hp.1
    simp only[zCb,Bool.or_eq_false_iff,Bool.and_eq_false_iff] at this
    have h2:q.held=0:=by
     rcases this.2 with e|e
     ·simp[h.1] at e
     ·simpa using e
    simp only[ih hp.2,h2];rfl
   ·exact ih hp.2
theorem zDL (a f h:Int):(zAS a f h=0∧(a≠0→0≤f∧0≤h∧f+h≤1125899906842624))∨(zAS a f h=47∧a≠0∧(f<0∨h<0))∨(zAS a f h=41∧a≠0∧0≤f∧0≤h∧1125899906842624<f+h):=by
 unfold zAS
 by_cases h1:a=0
 ·rw[if_pos h1];exact .inl ⟨rfl,fun h=>absurd h1 h⟩
 rw[if_neg h1]
 by_cases h2:f<0∨h<0
 ·rw[if_pos h2];exact .inr (.inl ⟨rfl,h1,h2⟩)
 rw[if_neg h2]
 by_cases h3:f>1125899906842624∨h>1125899906842624∨f+h>1125899906842624
 ·rw[if_pos h3];exact .inr (.inr ⟨rfl,h1,by omega,by omega,by omega⟩)
 ·rw[if_neg h3];exact .inl ⟨rfl,fun _=>by omega⟩
theorem zH0 {E:Pl→Int × Int}:zBH E=0↔∀ x∈zBo,zAS x.1 (E x).1 (E x).2=0:=by
 unfold zBH
 constructor
 ·intro h x hx
  by_cases h1:(zBo.any fun x=>zAS x.1 (E x).1 (E x).2==47)=true
  ·rw[if_pos h1] at h;cases h
  rw[if_neg h1] at h
  by_cases h2:(zBo.any fun x=>zAS x.1 (E x).1 (E x).2==41)=true
  ·rw[if_pos h2] at h;cases h
  have a1:=List.any_eq_false.1 (by simpa only[Bool.not_eq_true] using h1) x hx
  have a2:=List.any_eq_false.1 (by simpa only[Bool.not_eq_true] using h2) x hx
  simp only[beq_iff_eq] at a1 a2
  rcases zDL x.1 (E x).1 (E x).2 with e|e|e
  ·exact e.1
  ·exact absurd e.1 a1
  ·exact absurd e.1 a2
 ·intro h
  rw[if_neg,if_neg]
  ·rw[List.any_eq_true];rintro⟨x,hx,e⟩;rw[h x hx] at e;cases e
  ·rw[List.any_eq_true];rintro⟨x,hx,e⟩;rw[h x hx] at e;cases e
theorem zRp (l:List Row4)(p:List Pst)(s:Int):zHF (zAK l p) s=zHF (atR l) s+zHF (dlF p) s:=by
 unfold zHF
 rw[← zJ6]
 exact zDl fun a _=>by unfold zAK;simp only;omega
theorem zPQ {l:List Row4}{p:List Pst}(h:zAY l=true)(hp:zAv p=0)(hw:zBH (zAK l p)=0):GoodE (zAK l p):=by
 obtain⟨_,hb,hs⟩:=zHz hp
 refine⟨fun x hx h0=>?_,fun x hx h0=>?_,fun s hs'=>?_⟩
 ·unfold zAK
  have h1:=(zDk h x).1 h0
  have h2:=dl_out hb x.2
  have h3:x=(0,x.2):=Prod.ext h0 rfl
  rw[← h3] at h2
  simp only[h1,h2];rfl
 ·rcases zDL x.1 (zAK l p x).1 (zAK l p x).2 with e|e|e
  ·exact e.2 h0
  ·have:=zH0.1 hw x hx;omega
  ·have:=zH0.1 hw x hx;omega
 ·rw[zRp,zLD h s hs',dl_col hb,hs s hs'];rfl
theorem zN6 {l m:List Row4}{p:List Pst}(h:zBF l p=(m,0)):zAY l=true∧zAv p=0∧zBH (zAK l p)=0∧m=mkR (zAK l p)∧zAY m=true∧∀ x∈zBo,atR m x=zAK l p x:=by
 unfold zBF at h
 by_cases h1:zAY l=true
 ·rw[if_pos h1] at h
  by_cases h2:zAv p=0
  ·rw[if_pos h2] at h
   by_cases h3:zBH (zAK l p)=0
   ·rw[if_pos h3] at h
    obtain rfl:=(Prod.mk.inj h).1
    exact⟨h1,h2,h3,rfl,zT6 (zPQ h1 h2 h3),fun x hx=>zT3 _ hx⟩
   ·rw[if_neg h3] at h;exact absurd (Prod.mk.inj h).2 h3
  ·rw[if_neg h2] at h;exact absurd (Prod.mk.inj h).2 h2
 ·rw[if_neg h1] at h;exact absurd (Prod.mk.inj h).2 (by decide)
theorem zC1 {el:Nat→List Value}{size n:Nat}(hel:∀ j,j<n→(el j).length=size):((List.range n).flatMap el).length=n*size:=by
 induction n with
 | zero=>simp
 | succ n ih=>rw[List.range_succ,List.flatMap_append,List.length_append,ih (fun j hj=>hel j qO),List.flatMap_singleton,hel n qO,Nat.succ_mul]
theorem zPR {size n b off:Nat}{a:Option Addr}{cs:List Value}{T:TypeId}{fr:Nat × Nat}{F:zC}{el:Nat→List Value}(hs:SlB F size a n b off cs T fr el)(hel:∀ j,j<n→(el j).length=size) :
  ∀ m,m≤n→∀ j u,((List.range m).flatMap el)[j]?=some u→cs[off+j]?=some u:=by
 intro m
 induction m with
 | zero=>intro _ j u hj;cases hj
 | succ m ih =>
   intro hm j u hj
   have hlen:((List.range m).flatMap el).length=m*size:=zC1 fun j hj=>hel j qO
   rw[List.range_succ,List.flatMap_append,List.flatMap_singleton] at hj
   by_cases hjm:j<m*size
   ·rw[List.getElem?_append_left (by rw[hlen];exact hjm)] at hj
    exact ih qO j u hj
   ·rw[List.getElem?_append_right (by rw[hlen];omega),hlen] at hj
    have h2:=((hs qO).2.2 m qO).2
    rw[← h2,List.getElem?_take] at hj
    split at hj
    ·rw[List.getElem?_drop] at hj
     rw[show off+j=off+m*size+(j - m*size) by omega];exact hj
    ·cases hj
theorem zGc {size n cap b off:Nat}{a:Option Addr}{cs:List Value}{T:TypeId}{fr:Nat × Nat}{F:zC}{el:Nat→List Value}(hs:SlB F size a n b off cs T fr el)(hel:∀ j,j<n→(el j).length=size){w:World}(hM:Mem w F) :
  Src w (.slice a n cap) n ((List.range n).flatMap el):=by
 rcases Nat.eq_zero_or_pos n with h0|h0
 ·subst h0
  cases a with
  | none=>exact .inr ⟨cap,rfl,rfl⟩
  | some a=>exact .inl ⟨a,cap,rfl,fun j u hj=>by cases hj⟩
 ·obtain⟨rfl,hm,_⟩:=hs h0
  refine .inl ⟨_,_,rfl,fun j u hj=>?_⟩
  rw[zAC,zBq hM hm]
  exact zPR hs hel n (zzC _) j u hj
theorem zEs {el:Nat→List Value}{n:Nat}(h1:∀ j,j<n→∀ u∈el j,u.oneCell'=true):∀ u∈(List.range n).flatMap el,u.oneCell'=true:=by
 intro u hu;obtain⟨j,hj,hu⟩:=List.mem_flatMap.1 hu;exact h1 j (List.mem_range.1 hj) u hu
theorem c_Row1 {a:Option Addr}{cap:Nat}(x:Auc)(clock:Int){b:Nat}{T:TypeId}{F:zC}(w0:World)(hF:Mem w0 F)(hs:Bids F a cap x.bids)(hm:(b,Obj.cells [Value.int .i64 clock].toArray T (0,0))∈F) :
  Calls Tryz.prog 60 [.agg (x.cells a cap).toArray,.pointer (some ⟨b,0,none⟩)].toArray w0 (Ret (.bool (!zAA x clock)) w0):=by
 refine enter [.tmp 3] Tryz.func60 rfl Tryz.ntmps60 rfl rfl ?_
 have H:=zA w0
 repeat' (first|refine yT ?_|refine y7 sg H ?_|(refine y9 H ?_;intro b w H)|refine z13 (zH sg rfl rfl (H.memF hF) hm rfl rfl) ?_|(refine' y30 zGx ?_ ?_;rotate_left;exact zHj x clock _ (H.memF hF) hs;refine w2 H ?_;clear H;intro w H)|refine yU ?_|fail)
 exact zP rfl H.cl rfl
def aed (l:List Auc)(ad:Nat→Option Addr × Nat)(j:Nat):AE:=(l.getD j default,ad j)
def zFQ (l:List Auc)(clock:Int):Nat:=(kp (fun j=>!zAA (l.getD j default) clock) l.length).length
def OwnI (M:zC)(a:Option Addr)(cap:Nat)(l:List Int):Prop:=Go.Sk.Own M 2 1 a l.length cap (l.map fun i=>Value.int .i64 i)
end
section
open Go Go.Sk Go.RowKit
attribute [local irreducible] Go.Calls
theorem Bids.none (F:zC):Bids F none 0 []:=⟨zzC _,by decide,0,0,[],0,(0,0),fun h=>absurd h (by decide)⟩
theorem Bids.blk {F:zC}{b cap:Nat}{T:TypeId}(l:List Bid)(hm:cb b ((List.range l.length).flatMap (bel l)) T∈F)(hc:l.length≤cap)(hn:l.length≤140737488355328):Bids F (some ⟨b,0,Option.none⟩) cap l:=by
 refine⟨hc,hn,b,0,_,T,(0,0),fun _=>⟨rfl,hm,fun j hj=>?_⟩⟩
 have hl:=flat_len (el:=bel l) (size:=2) l.length (fun j _=>zFB l j)
 refine⟨by rw[hl];omega,?_⟩
 rw[Nat.zero_add]
 exact flat_at l.length (fun j _=>zFB l j) j hj
theorem Aucs.blk {F:zC}{b cap:Nat}{T:TypeId}(l:List Auc)(ad:Nat→Option Addr × Nat)(hm:cb b ((List.range l.length).flatMap (ael l ad)) T∈F)(hc:l.length≤cap)(hn:l.length≤140737488355328)(hb:∀ j,j<l.length→Bids F (ad j).1 (ad j).2 (l.getD j default).bids):Aucs F (some ⟨b,0,Option.none⟩) cap l ad:=by
 refine⟨⟨hc,hn,b,0,_,T,(0,0),fun _=>⟨rfl,hm,fun j hj=>?_⟩⟩,hb⟩
 have hl:=flat_len (el:=ael l ad) (size:=9) l.length (fun j _=>rfl)
 refine⟨by rw[hl];omega,?_⟩
 rw[Nat.zero_add]
 exact flat_at (el:=ael l ad) (size:=9) l.length (fun j _=>rfl) j hj
theorem Bids.b1 {F:zC}{b:Nat}{T:TypeId}{x y:Int}(hm:cb b [.int .i64 x,.int .i64 y] T∈F):Bids F (some ⟨b,0,Option.none⟩) 1 [⟨x,y⟩]:=Bids.blk (cap:=1) [⟨x,y⟩] hm (zzC _) (Nat.le_trans (Nat.le_refl 1) (by decide))
def no3:Nat→Option Addr × Nat:=fun _=>(none,0)
theorem Bids.b2 {F:zC}{b:Nat}{T:TypeId}{x y x' y':Int}(hm:cb b [.int .i64 x,.int .i64 y,.int .i64 x',.int .i64 y'] T∈F):Bids F (some ⟨b,0,Option.none⟩) 2 [⟨x,y⟩,⟨x',y'⟩]:=Bids.blk (cap:=2) [⟨x,y⟩,⟨x',y'⟩] hm (zzC _) (Nat.le_trans (Nat.le_refl 2) (by decide))
theorem Bids.b3 {F:zC}{b:Nat}{T:TypeId}{x y x' y' x'' y'':Int}(hm:cb b [.int .i64 x,.int .i64 y,.int .i64 x',.int .i64 y',.int .i64 x'',.int .i64 y''] T∈F):Bids F (some ⟨b,0,Option.none⟩) 3 [⟨x,y⟩,⟨x',y'⟩,⟨x'',y''⟩]:=Bids.blk (cap:=3) [⟨x,y⟩,⟨x',y'⟩,⟨x'',y''⟩] hm (zzC _) (Nat.le_trans (Nat.le_refl 3) (by decide))
end
section
open Go Go.Sk Go.RowKit
def zEt (l:List Bid)(res:Int):Nat→Bool
 | 0=>false
 | k+1=>zEt l res k||decide ((l.getD k default).amount ≥ res)
theorem zEG {l:List Bid}{res:Int}:∀ k,zEt l res k=true↔∃ j,j<k∧(l.getD j default).amount ≥ res
 | 0=>by simp[zEt]
 | k+1=>by
   rw[zEt,Bool.or_eq_true,zEG k,decide_eq_true_eq]
   constructor
   ·rintro(⟨j,h1,h2⟩|h)
    ·exact⟨j,by omega,h2⟩
    ·exact⟨k,by omega,h⟩
   ·rintro⟨j,h1,h2⟩
    by_cases hj:j=k
    ·subst hj;exact .inr h2
    ·exact .inl ⟨j,by omega,h2⟩
theorem zEu (l:List Bid):∀ k,0<k→0≤zCL l k∧(∀ j,j<k→(l.getD j default).amount≤(l.getD (zCL l k).toNat default).amount)∧∀ j,j<(zCL l k).toNat→(l.getD j default).amount<(l.getD (zCL l k).toNat default).amount
 | 0,h=>by omega
 | k+1,_=>by
   rcases Nat.eq_zero_or_pos k with rfl|hk
   ·rw[zCL,if_pos (.inl (by simp[zCL]))]
    exact ⟨by omega, fun j hj => by obtain rfl:j=0:=by omega
                                    exact Int.le_refl _,fun j hj=>by simp at hj⟩
   ·obtain⟨h0,h1,h2⟩:=zEu l k hk
    have hlt:=(zD4 l k).2
    rw[zCL]
    split
    ·rename_i hc
     have hc:=hc.resolve_left qO
     refine⟨by omega,fun j hj=>?_,fun j hj=>?_⟩
     ·rw[Int.toNat_natCast]
      by_cases hj':j=k
      ·subst hj';exact Int.le_refl _
      ·have:=h1 j qO;omega
     ·rw[Int.toNat_natCast] at hj ⊢
      have:=h1 j hj;omega
    ·rename_i hc
     refine⟨h0,fun j hj=>?_,h2⟩
     by_cases hj':j=k
     ·subst hj'
      rcases Int.lt_or_le (l.getD (zCL l j).toNat default).amount (l.getD j default).amount with h|h
      ·exact absurd (.inr h) hc
      ·exact h
     ·exact h1 j qO
theorem zFH {x:Auc}(h:zAT x=true)(he:x.sealed=false):x.bids.length≤1∧(x.bids.length=0∨(x.bids.getD 0 default).amount ≥ x.reserve):=by
 simp only[zAT,Bool.and_eq_true,zAa,he,zEj,Bool.false_eq_true,if_false,Bool.or_eq_true,decide_eq_true_eq,beq_iff_eq] at h
 obtain⟨h1,h2⟩:=h.1.2.2
 refine⟨by omega,?_⟩
 rcases h2 with h2|h2
 ·exact .inl qO
 ·exact .inr h2
theorem zT7 {x:Auc}(h:zAT x=true):(zL x).2=zEt x.bids x.reserve x.bids.length:=by
 rw[Bool.eq_iff_iff,zEG]
 rcases Bool.eq_false_or_eq_true x.sealed with he|he
 ·rcases Nat.eq_zero_or_pos x.bids.length with h0|h0
  ·have:hi x.bids=-1:=by unfold hi;rw[h0];rfl
   simp[zL,h,he,zDH,this,h0]
  ·obtain⟨h1,h2,_⟩:=zEu x.bids x.bids.length h0
   have hl:=(zD4 x.bids x.bids.length).2
   rw[show zCL x.bids x.bids.length=hi x.bids from rfl] at h1 h2 hl
   simp only[zL,h,he,if_true,zDH]
   constructor
   ·intro hw
    split at hw
    ·simp at hw
    ·rename_i hc
     simp only[Bool.or_eq_true,decide_eq_true_eq,not_or,Int.not_lt] at hc
     exact⟨_,by omega,hc.2⟩
   ·rintro⟨j,hj,hr⟩
    have:=h2 j hj
    rw[if_neg (by simp only[Bool.or_eq_true,decide_eq_true_eq,not_or,Int.not_lt];omega)]
 ·obtain⟨h1,h2⟩:=zFH h he
  simp only[zL,h,he,if_true,Bool.false_eq_true,if_false,zG2]
  constructor
  ·intro hw
   split at hw
   ·simp at hw
   ·rename_i hc
    simp only[beq_iff_eq] at hc
    exact⟨0,by omega,h2.resolve_left qO⟩
  ·rintro⟨j,hj,hr⟩
   rw[if_neg (by simp only[beq_iff_eq];omega)]
theorem zRq {x:Auc}(h:zAT x=true):(zAD x).2=decide ((x.bids.length:Int)>0):=by
 unfold zAD
 rcases Nat.eq_zero_or_pos x.bids.length with h0|h0
 ·have:hi x.bids=-1:=by unfold hi;rw[h0];rfl
  simp[this,h0]
 ·obtain⟨h1,_,_⟩:=zEu x.bids x.bids.length h0
  rw[show zCL x.bids x.bids.length=hi x.bids from rfl] at h1
  rw[if_neg (by simp[h];omega)]
  simp;omega
theorem zRr {x:Auc}(h:(zL x).2=false):(zL x).1=Bid.zero:=by
 unfold zL at h ⊢
 split at h
 ·rename_i hm
  rw[if_pos hm]
  split at h
  ·rename_i hs
   rw[if_pos hs]
   unfold zDH at h ⊢
   split at h
   ·rename_i hc;rw[if_pos hc]
   ·simp at h
  ·rename_i hs
   rw[if_neg hs]
   unfold zG2 at h ⊢
   split at h
   ·rename_i hc;rw[if_pos hc]
   ·simp at h
 ·rename_i hm;rw[if_neg hm]
theorem zRs {x:Auc}(h:zAT x=true):∀ i j,i<j→j<x.bids.length→(x.bids.getD i default).acct≠(x.bids.getD j default).acct:=by
 intro i j hij hj he
 simp only[zAT,Bool.and_eq_true] at h
 have hb:=h.2
 simp only[zCA,decide_eq_true_eq] at hb
 rcases zZ (zBR x) x.bids.length with ⟨k,_,_,_,h4⟩|⟨hall,_⟩
 ·omega
 ·have:=hall j hj
  simp only[zBR,Bool.or_eq_false_iff,decide_eq_false_iff_not] at this
  rcases zZ (fun i=>(x.bids.getD i default).acct==(x.bids.getD j default).acct) j with ⟨k,_,_,_,h4⟩|⟨hn,_⟩
  ·rw[h4] at this;exact this.2 qO
  ·have:=hn i hij
   rw[he,beq_self_eq_true] at this
   cases this
theorem zG4 {l:List Bid}{j:Nat}:∀ k,j<k→(∀ i,j<i→i<k→(l.getD j default).acct≠(l.getD i default).acct)→zF3 l (l.getD j default).acct k=(l.getD j default).amount
 | 0,h,_=>by omega
 | k+1,h,hu=>by
   rw[zF3]
   by_cases hj:j=k
   ·subst hj;rw[if_pos (by simp)]
   ·rw[if_neg (by have:=hu k qO qO;simp;exact fun h=>this h.symm)]
    exact zG4 k qO (fun i h1 h2=>hu i h1 qO)
theorem zN7 (l:List Bid)(res i:Int):∀ k,res≤zFh l res i k∧(∀ j:Nat,j<k→(j:Int)≠i→(l.getD j default).amount≤zFh l res i k)∧(zFh l res i k=res∨∃ j:Nat,j<k∧(j:Int)≠i∧(l.getD j default).amount=zFh l res i k)
 | 0=>⟨Int.le_refl _,fun j h=>by omega,.inl rfl⟩
 | k+1=>by
   obtain⟨h1,h2,h3⟩:=zN7 l res i k
   rw[zFh]
   split
   ·rename_i hc
    have hc:(k:Int)≠i:=by simpa using hc
    unfold mx
    split
    ·rename_i hg
     refine⟨by omega,fun j hj hji=>?_,.inr ⟨k,by omega,hc,rfl⟩⟩
     by_cases hjk:j=k
     ·subst hjk;exact Int.le_refl _
     ·have:=h2 j qO hji;omega
    ·rename_i hg
     refine⟨h1,fun j hj hji=>?_,?_⟩
     ·by_cases hjk:j=k
      ·subst hjk;omega
      ·exact h2 j qO hji
     ·rcases h3 with h3|⟨j,h4,h5,h6⟩
      ·exact .inl h3
      ·exact .inr ⟨j,by omega,h5,h6⟩
   ·rename_i hc
    have hc:(k:Int)=i:=by simpa using hc
    refine⟨h1,fun j hj hji=>h2 j qO hji,?_⟩
    rcases h3 with h3|⟨j,h4,h5,h6⟩
    ·exact .inl h3
    ·exact .inr ⟨j,by omega,h5,h6⟩
theorem zDm {x:Auc}(h:zAT x=true)(hw:(zL x).2=true):∃ m,m<x.bids.length∧(zL x).1.acct=(x.bids.getD m default).acct∧(zAD x).1=x.bids.getD m default ∧
  zF3 x.bids (zL x).1.acct x.bids.length=(x.bids.getD m default).amount∧x.reserve≤(zL x).1.amount∧(zL x).1.amount≤(x.bids.getD m default).amount ∧
  (x.sealed=false→(zL x).1.amount=(x.bids.getD m default).amount)∧(∀ j,j<x.bids.length→j≠m→(x.bids.getD j default).amount≤(x.bids.getD m default).amount∧(x.bids.getD j default).amount≤(zL x).1.amount) ∧
  ((zL x).1.amount=x.reserve∨x.sealed=false∨∃ j,j<x.bids.length∧j≠m∧(x.bids.getD j default).amount=(zL x).1.amount):=by
 have hu:=zRs h
 have h0:0<x.bids.length:=by
  rw[zT7 h,zEG] at hw
  obtain⟨j,hj,_⟩:=hw;omega
 obtain⟨h1,h2,_⟩:=zEu x.bids x.bids.length h0
 have hl:=(zD4 x.bids x.bids.length).2
 rw[show zCL x.bids x.bids.length=hi x.bids from rfl] at h1 h2 hl
 have ht:(zAD x).1=x.bids.getD (hi x.bids).toNat default:=by unfold zAD;rw[if_neg (by simp[h];omega)]
 have hat:=zG4 (l:=x.bids) (j:=(hi x.bids).toNat) x.bids.length qO (fun i h3 h4=>hu _ _ h3 h4)
 rcases Bool.eq_false_or_eq_true x.sealed with he|he
 ·have e:zL x=zDH x:=by simp[zL,h,he]
  rw[e] at hw ⊢
  have hc:¬ (hi x.bids<0||decide ((x.bids.getD (hi x.bids).toNat default).amount<x.reserve))=true:=by
   intro hc;unfold zDH at hw;rw[if_pos hc] at hw;simp at hw
  have e2:zDH x=(⟨(x.bids.getD (hi x.bids).toNat default).acct,zFh x.bids x.reserve (hi x.bids) x.bids.length⟩,true):=by unfold zDH;rw[if_neg hc]
  rw[e2]
  simp only[Bool.or_eq_true,decide_eq_true_eq,not_or,Int.not_lt] at hc
  obtain⟨g1,g2,g3⟩:=zN7 x.bids x.reserve (hi x.bids) x.bids.length
  refine⟨(hi x.bids).toNat,by omega,rfl,ht,hat,g1,?_,fun hf=>absurd (he.symm.trans hf) (by decide),fun j hj hjm=>⟨h2 j hj,g2 j hj qO⟩,?_⟩
  ·rcases g3 with g3|⟨j,g4,g5,g6⟩
   ·show zFh _ _ _ _≤_;omega
   ·show zFh _ _ _ _≤_;rw[← g6];exact h2 j g4
  ·rcases g3 with g3|⟨j,g4,g5,g6⟩
   ·exact .inl g3
   ·exact .inr (.inr ⟨j,g4,by omega,g6⟩)
 ·obtain⟨k1,k2⟩:=zFH h he
  have e:zL x=(x.bids.getD 0 default,true):=by simp only[zL,h,he,if_true,Bool.false_eq_true,if_false,zG2];rw[if_neg (by simp only[beq_iff_eq];omega)]
  rw[e]
  have hz:(hi x.bids).toNat=0:=by omega
  rw[hz] at ht hat
  exact⟨0,h0,rfl,ht,hat,by have:=k2.resolve_left qO;exact this,Int.le_refl _,fun _=>rfl,fun j hj hjm=>by omega,.inr (.inl he)⟩
theorem zEH {l:List Bid}{y:Bid}{i:Nat}(h:i<l.length):(l++[y]).getD i default=l.getD i default:=by
 simp[List.getD,List.getElem?_append_left h]
theorem zPS {l:List Bid}{y:Bid}:(l++[y]).getD l.length default=y:=by simp[List.getD]
theorem zCl {x:Auc}(h:zAT x=true):zu x.id 1099511627776=true∧zu x.seller 64=true∧zu x.inst 16=true∧zu x.qty 1048576=true∧zu x.reserve 1125899906842624=true∧zu x.fin 1099511627776=true∧zAa x=true∧zCA x=true:=by
 simp only[zAT,Bool.and_eq_true] at h
 exact⟨h.1.1.1.1.1.1.1,h.1.1.1.1.1.1.2,h.1.1.1.1.1.2,h.1.1.1.1.2,h.1.1.1.2,h.1.1.2,h.1.2,h.2⟩
theorem zGd {x:Auc}(h:∀ j,j<x.bids.length→zBR x j=false):zCA x=true:=by
 unfold zCA
 rw[zAo h]
 rfl
theorem take_zero {x:Auc}{y:Bid}(h:(zU x y).2≠0):(zU x y).1=Auc.zero:=by
 unfold zU at h ⊢
 repeat' split
 all_goals first|rfl|(exfalso;simp_all;done)
structure Taken (x:Auc)(y:Bid)(c:Auc):Prop where
 may:zAT x=true
 acct:zu y.acct 64=true
 amount:zu y.amount 1125899906842624=true
 other:y.acct≠x.seller
 put:c=x.put (zGX x y).1
 ok:(zGX x y).2=0
theorem taken {x:Auc}{y:Bid}{c:Auc}(h:zU x y=(c,0)):Taken x y c:=by
 unfold zU at h
 split at h
 ·simp at h
 rename_i h1
 split at h
 ·simp at h
 rename_i h2
 split at h
 ·simp at h
 rename_i h3
 split at h
 ·rename_i h4;simp at h;simp[h.2] at h4
 rename_i h4
 simp only[Bool.not_eq_false,Bool.and_eq_true] at h1 h2
 simp only[Prod.mk.injEq,and_true] at h
 exact⟨h1,h2.1,h2.2,by simpa using h3,h.symm,by simpa using h4⟩
theorem zGD {x c:Auc}{y:Bid}(t:Taken x y c)(he:x.sealed=true):c=x.put (x.bids++[y])∧x.bids.length<16∧∀ j,j<x.bids.length→(x.bids.getD j default).acct≠y.acct:=by
 have h:=t.ok
 have hp:=t.put
 simp only[zGX,he,if_true,zCP] at h hp
 split at h
 ·simp at h
 rename_i h1
 split at h
 ·simp at h
 rename_i h2
 rw[if_neg h1,if_neg h2] at hp
 refine⟨hp,by omega,fun j hj e=>?_⟩
 rcases zZ (fun i=>(x.bids.getD i default).acct==y.acct) x.bids.length with ⟨k,_,_,_,h4⟩|⟨hn,_⟩
 ·rw[h4] at h1;omega
 ·have:=hn j hj
  rw[e,beq_self_eq_true] at this;cases this
theorem zI4 {x c:Auc}{y:Bid}(t:Taken x y c)(he:x.sealed=false):c=x.put [y]∧y.amount ≥ zEC x:=by
 have h:=t.ok
 have hp:=t.put
 simp only[zGX,he,Bool.false_eq_true,if_false,zCx] at h hp
 split at h
 ·simp at h
 rename_i h1
 rw[if_neg h1] at hp
 exact⟨hp,by omega⟩
theorem zPT {x:Auc}(h:zAT x=true)(he:x.sealed=false):x.reserve≤zEC x:=by
 unfold zEC
 split
 ·exact Int.le_refl _
 ·rename_i h0
  have hpos:0<x.bids.length:=by simp at h0;exact List.length_pos_iff.2 h0
  have hb:=zI2 h 0 hpos
  have hst:=zNy h he
  have:=(zFH h he).2
  have:(x.bids.getD 0 default).amount ≥ x.reserve:=by omega
  simp only[zMU,zBz]
  rw[if_neg qO]
  simp only;omega
theorem zEI {x:Auc}{j:Nat}:zBR x j=false↔zu (x.bids.getD j default).acct 64=true∧(x.bids.getD j default).acct≠x.seller∧zu (x.bids.getD j default).amount 1125899906842624=true∧∀ i,i<j→(x.bids.getD i default).acct≠(x.bids.getD j default).acct:=by
 unfold zBR
 simp only[Bool.or_eq_false_iff,Bool.not_eq_false',decide_eq_false_iff_not,beq_eq_false_iff_ne,ne_eq,and_assoc]
 refine⟨fun⟨h1,h2,h3,h4⟩=>⟨h1,h2,h3,fun i hi e=>?_⟩,fun⟨h1,h2,h3,h4⟩=>⟨h1,h2,h3,fun hc=>?_⟩⟩
 ·rcases zZ (fun i=>(x.bids.getD i default).acct==(x.bids.getD j default).acct) j with ⟨k,_,_,_,h5⟩|⟨hn,_⟩
  ·rw[h5] at h4;omega
  ·have:=hn i hi
   rw[e,beq_self_eq_true] at this;cases this
 ·rcases zZ (fun i=>(x.bids.getD i default).acct==(x.bids.getD j default).acct) j with ⟨k,hk,_,h6,h5⟩|⟨_,h5⟩
  ·exact h4 k hk (by simpa using h6)
  ·rw[h5] at hc;omega
theorem zLE {x:Auc}(h:zAT x=true){j:Nat}(hj:j<x.bids.length):zBR x j=false:=zNx (zCl h).2.2.2.2.2.2.2 j hj
theorem zPU {x c:Auc}{y:Bid}(t:Taken x y c):zAT c=true:=by
 obtain⟨h1,h2,h3,h4,h5,h6,h7,h8⟩:=zCl t.may
 rcases Bool.eq_false_or_eq_true x.sealed with he|he
 ·obtain⟨rfl,hl,hn⟩:=zGD t he
  have hm:zAa (x.put (x.bids++[y]))=true:=by
   simp only[zAa,Auc.put,he,if_true,zF1,Bool.and_eq_true] at h7 ⊢
   refine⟨h7.1,?_⟩
   rw[List.length_append,List.length_singleton]
   exact decide_eq_true qO
  have hb:zCA (x.put (x.bids++[y]))=true:=by
   refine zGd fun j hj=>?_
   simp only[Auc.put,List.length_append,List.length_singleton] at hj
   rw[zEI]
   simp only[Auc.put]
   by_cases hjn:j=x.bids.length
   ·subst hjn
    rw[zPS]
    exact⟨t.acct,t.other,t.amount,fun i hi=>by rw[zEH hi];exact hn i hi⟩
   ·have hj:j<x.bids.length:=by omega
    have:=zEI.1 (zLE t.may hj)
    rw[zEH hj]
    exact⟨this.1,this.2.1,this.2.2.1,fun i hi=>by rw[zEH qO];exact this.2.2.2 i hi⟩
  simp only[zAT,Bool.and_eq_true]
  exact⟨⟨⟨⟨⟨⟨⟨h1,h2⟩,h3⟩,h4⟩,h5⟩,h6⟩,hm⟩,hb⟩
 ·obtain⟨rfl,hl⟩:=zI4 t he
  have hge:=zPT t.may he
  have hm:zAa (x.put [y])=true:=by
   simp only[zAa,Auc.put,he,Bool.false_eq_true,if_false,zEj,Bool.and_eq_true] at h7 ⊢
   refine⟨h7.1,rfl,?_⟩
   rw[Bool.or_eq_true]
   exact .inr (decide_eq_true (by show y.amount ≥ x.reserve;omega))
  have hb:zCA (x.put [y])=true:=by
   refine zGd fun j hj=>?_
   obtain rfl:j=0:=by simp only[Auc.put,List.length_singleton] at hj;omega
   rw[zEI]
   exact⟨t.acct,t.other,t.amount,fun i hi=>by omega⟩
  simp only[zAT,Bool.and_eq_true]
  exact⟨⟨⟨⟨⟨⟨⟨h1,h2⟩,h3⟩,h4⟩,h5⟩,h6⟩,hm⟩,hb⟩
structure MayP (x:Auc):Prop where
 id:zu x.id 1099511627776=true
 seller:zu x.seller 64=true
 inst:zu x.inst 16=true
 qty:zu x.qty 1048576=true
 reserve:zu x.reserve 1125899906842624=true
 fin:zu x.fin 1099511627776=true
 step0:x.sealed=true→x.step=0
 step1:x.sealed=false→zu x.step 1125899906842624=true
 len16:x.bids.length≤16
 len1:x.sealed=false→x.bids.length≤1
 high:x.sealed=false→∀ j,j<x.bids.length→x.reserve≤(x.bids.getD j default).amount
 ok:∀ j,j<x.bids.length→zBR x j=false
theorem mayP {x:Auc}:zAT x=true↔MayP x:=by
 constructor
 ·intro h
  obtain⟨h1,h2,h3,h4,h5,h6,h7,h8⟩:=zCl h
  refine⟨h1,h2,h3,h4,h5,h6,fun he=>?_,fun he=>?_,?_,fun he=>?_,fun he j hj=>?_,fun j hj=>zLE h hj⟩
  ·simp only[zAa,he,if_true,zF1,Bool.and_eq_true,beq_iff_eq] at h7;exact h7.1
  ·simp only[zAa,he,Bool.false_eq_true,if_false,zEj,Bool.and_eq_true] at h7;exact h7.1
  ·rcases Bool.eq_false_or_eq_true x.sealed with he|he
   ·simp only[zAa,he,if_true,zF1,Bool.and_eq_true,decide_eq_true_eq] at h7;omega
   ·simp only[zAa,he,Bool.false_eq_true,if_false,zEj,Bool.and_eq_true,decide_eq_true_eq] at h7;omega
  ·exact(zFH h he).1
  ·obtain⟨g1,g2⟩:=zFH h he
   obtain rfl:j=0:=by omega
   rcases g2 with g2|g2
   ·omega
   ·exact g2
 ·intro h
  have h8:zCA x=true:=zGd h.ok
  have h7:zAa x=true:=by
   have hl:=h.len16
   rcases Bool.eq_false_or_eq_true x.sealed with he|he
   ·simp only[zAa,he,if_true,zF1,Bool.and_eq_true,beq_iff_eq,decide_eq_true_eq]
    exact⟨h.step0 he,by omega⟩
   ·have g:=h.len1 he
    simp only[zAa,he,Bool.false_eq_true,if_false,zEj,Bool.and_eq_true,decide_eq_true_eq,Bool.or_eq_true,beq_iff_eq]
    refine⟨h.step1 he,by omega,?_⟩
    rcases Nat.eq_zero_or_pos x.bids.length with h0|h0
    ·left;omega
    ·right;exact h.high he 0 h0
  simp only[zAT,h.id,h.seller,h.inst,h.qty,h.reserve,h.fin,h7,h8,Bool.and_self]
end
section
open Go Go.Sk Go.RowKit
attribute [local irreducible] Go.Calls
def zJ7 (l:List Row4)(a q:Int):Row4:=(l.find? fun r=>r.acct==a&&r.asset==q).getD ⟨a,q,0,0⟩
theorem zT8 {l:List Row4}{p:Row4→Bool}{k:Nat}(hk:k<l.length)(hno:∀ j,j<k→p (rw_ l j)=false)(hy:p (rw_ l k)=true):l.find? p=some (rw_ l k):=by
 induction l generalizing k with
 | nil=>exact absurd hk (zzE k)
 | cons x xs ih =>
   rcases k with _|k
   ·have:p x=true:=hy
    rw[List.find?_cons_of_pos this];rfl
   ·have h0:p x=false:=hno 0 qO
    rw[List.find?_cons_of_neg (by rw[h0];simp)]
    exact ih (by simpa using hk) (fun j hj=>hno (j+1) qO) hy
theorem zPV {l:List Row4}{p:Row4→Bool}(hno:∀ j,j<l.length→p (rw_ l j)=false):l.find? p=none:=by
 rw[List.find?_eq_none]
 intro x hx
 obtain⟨j,hj,rfl⟩:=List.mem_iff_getElem.1 hx
 have:=hno j hj
 unfold rw_ at this
 rw[List.getD_eq_getElem?_getD,List.getElem?_eq_getElem hj] at this
 simpa using this
def zGE (l:List Odr)(a q:Int):Nat→Int
 | 0=>0
 | k+1=>if (od_ l k).acct=a∧(zY (od_ l k)).1=q then IntKind.i64.wrap (zGE l a q k+(zY (od_ l k)).2) else zGE l a q k
def zGF (l:List Bid)(a q z:Int):Nat→Int
 | 0=>z
 | k+1=>if (l.getD k default).acct=a∧q=0 then IntKind.i64.wrap (zGF l a q z k+(l.getD k default).amount) else zGF l a q z k
def zH1 (l:List Auc)(a q z:Int):Nat→Int
 | 0=>z
 | k+1=>if zAT (l.getD k default)=true then zGF (l.getD k default).bids a q (if (l.getD k default).seller=a∧(l.getD k default).inst=q then IntKind.i64.wrap (zH1 l a q z k+(l.getD k default).qty) else zH1 l a q z k) (l.getD k default).bids.length else zH1 l a q z k
def zLF (s:Sta)(a q:Int):Int:=zH1 s.aucs a q (zGE s.orders a q s.orders.length) s.aucs.length
def zN8 (s:Sta)(a q:Nat):Bool:=(zJ7 s.rows (a:Int) (q:Int)).held==zLF s (a:Int) (q:Int)
def zRt (s:Sta):Bool:=(List.range 65).all fun a=>(List.range 17).all fun q=>zN8 s a q
theorem zI5 {s:Sta}:zRt s=true↔∀ a,a<65→∀ q,q<17→zN8 s a q=true:=by
 unfold zRt
 simp only[List.all_eq_true,List.mem_range]
def cnt (l:List Auc):Nat→Int
 | 0=>0
 | k+1=>cnt l k+1+(if (1001:Int)<((l.getD k default).bids.length:Int) then 1001 else((l.getD k default).bids.length:Int))
structure Ow where
 k:Nat
 a:Option Addr
 cap:Nat
 ad:Nat→Option Addr × Nat
 mo:zC
 mb:zC
theorem zC2 {s:Sta}:zCw s=true↔zAJ s.aucs=true∧∀ k,k<s.aucs.length→zCD s (s.aucs.getD k default)=false:=by
 unfold zCw
 rw[Bool.and_eq_true]
 refine and_congr Iff.rfl ?_
 rcases zZ (fun j=>zCD s (s.aucs.getD j default)) s.aucs.length with ⟨k,hk,_,hb,hx⟩|⟨ha,hx⟩
 ·rw[hx,decide_eq_true qO]
  constructor
  ·intro h;cases h
  ·intro h;have:=h k hk;rw[this] at hb;cases hb
 ·rw[hx,decide_eq_false qO]
  exact⟨fun _=>ha,fun _=>rfl⟩
end
section
open Go Go.Sk Go.RowKit
theorem zEJ {s:Sta}(h:zCY s=true)(k:Nat)(hk:k<7):stOk s k=true:=by
 unfold zCY at h
 exact List.all_eq_true.1 h k (List.mem_range.2 hk)
theorem zPW {l:List Auc}(h:zAJ l=true):l.length≤32∧∀ k,k<l.length→(l.getD k default).bids.length≤16:=by
 unfold zAJ at h
 simp only[Bool.and_eq_true,decide_eq_true_eq] at h
 refine⟨by omega,fun k hk=>?_⟩
 have hm:zAT (l.getD k default)=true:=by
  rcases zZ (zBY l) l.length with ⟨j,h1,h2,h3,h4⟩|⟨h1,h2⟩
  ·omega
  ·have:=h1 k hk
   unfold zBY at this
   simp only[Bool.or_eq_false_iff,Bool.not_eq_false'] at this
   exact this.2
 have a7:=(zCl hm).2.2.2.2.2.2.1
 unfold zAa at a7
 split at a7
 ·unfold zF1 at a7
  simp only[Bool.and_eq_true,decide_eq_true_eq] at a7
  omega
 ·unfold zEj at a7
  simp only[Bool.and_eq_true,decide_eq_true_eq] at a7
  omega
def tw (l:List P3)(x:Int × Int)(z:Int):Int:=l.foldl (fun a y=>if zAx y=x then IntKind.i64.wrap (a+y.2.2) else a) z
theorem zJ8 (l m:List P3)(x:Int × Int)(z:Int):tw (l++m) x z=tw m x (tw l x z):=by unfold tw;exact List.foldl_append
theorem zJ9 (y:P3)(a q:Int):zAx y=(a,q)↔y.1=a∧y.2.1=q:=by unfold zAx;exact Prod.mk.injEq _ _ _ _ |>.to_iff
theorem zLG (l:List Odr)(a q:Int)(h:∀ j,j<l.length→(zY (od_ l j)).2>0):∀ k,k≤l.length→zGE l a q k=tw ((l.take k).flatMap zAM) (a,q) 0
 | 0,_=>by simp[zGE,tw]
 | k+1,hk=>by
   have hp:=h k qO
   have hf:=zFA zAM l default (i:=k) qO
   have hd:l.getD k default=od_ l k:=rfl
   rw[hf,zJ8,← zLG l a q h k qO,hd]
   have:zAM (od_ l k)=[((od_ l k).acct,(zY (od_ l k)).1,(zY (od_ l k)).2)]:=if_pos hp
   rw[this]
   have e:zGE l a q (k+1)=if (od_ l k).acct=a∧(zY (od_ l k)).1=q then IntKind.i64.wrap (zGE l a q k+(zY (od_ l k)).2) else zGE l a q k:=rfl
   rw[e]
   generalize zGE l a q k=z
   show _=if zAx _=(a,q) then _ else _
   simp only[zJ9]
theorem zLH (l:List Bid)(a q z:Int):∀ k,k≤l.length→zGF l a q z k=tw ((l.take k).map fun b=>(b.acct,0,b.amount)) (a,q) z
 | 0,_=>by simp[zGF,tw]
 | k+1,hk=>by
   have ht:l.take (k+1)=l.take k++[l.getD k default]:=by
    rw[List.take_add_one,List.getD_eq_getElem?_getD,List.getElem?_eq_getElem qO];rfl
   rw[ht,List.map_append,zJ8,← zLH l a q z k qO]
   have e:zGF l a q z (k+1)=if (l.getD k default).acct=a∧q=0 then IntKind.i64.wrap (zGF l a q z k+(l.getD k default).amount) else zGF l a q z k:=rfl
   rw[e]
   generalize zGF l a q z k=z
   show _=if zAx _=(a,q) then _ else _
   simp only[zJ9]
   by_cases h:(l.getD k default).acct=a∧q=0
   ·rw[if_pos h,if_pos ⟨h.1,h.2.symm⟩]
   ·rw[if_neg h,if_neg (fun g=>h ⟨g.1,g.2.symm⟩)]
theorem zLI (l:List Auc)(a q z:Int):∀ k,k≤l.length→zH1 l a q z k=tw ((l.take k).flatMap zV) (a,q) z
 | 0,_=>by simp[zH1,tw]
 | k+1,hk=>by
   have hf:=zFA zV l default (i:=k) qO
   rw[hf,zJ8,← zLI l a q z k qO]
   generalize hu:zH1 l a q z k=u
   show(if zAT (l.getD k default)=true then _ else _)=_
   rw[hu]
   unfold zV
   split
   ·have hb:=zLH (l.getD k default).bids a q (if (l.getD k default).seller=a∧(l.getD k default).inst=q then IntKind.i64.wrap (u+(l.getD k default).qty) else u) (l.getD k default).bids.length (zzC _)
    rw[List.take_length] at hb
    rw[hb]
    show _=tw _ _ (if zAx _=(a,q) then _ else _)
    simp only[zJ9]
   ·rfl
theorem zLJ (s:Sta)(a q:Int)(h:∀ j,j<s.orders.length→(zY (od_ s.orders j)).2>0):zLF s a q=zGT (zX s) (a,q):=by
 unfold zLF
 rw[zLI _ _ _ _ _ (Nat.le_refl _),zLG _ _ _ h _ (Nat.le_refl _),List.take_length,List.take_length,← zJ8]
 rfl
theorem zMk (x:Int × Int):∀ (l:List P3) (z:Int),0≤z→z+(l.length:Int)*1125899906842624<9223372036854775808→(∀ y,y∈l→0≤y.2.2∧y.2.2≤1125899906842624)→z≤tw l x z∧∀ y,y∈l→zAx y=x→y.2.2≤tw l x z
 | [],z,_,_,_=>⟨Int.le_refl _,fun y hy=>absurd hy (List.not_mem_nil)⟩
 | y::t,z,h0,h1,hb=>by
   obtain⟨b0,b1⟩:=hb y (List.mem_cons_self ..)
   rw[List.length_cons] at h1
   have hcast:((t.length+1:Nat):Int)=(t.length:Int)+1:=by omega
   rw[hcast,Int.add_mul] at h1
   have hstep:tw (y::t) x z=tw t x (if zAx y=x then IntKind.i64.wrap (z+y.2.2) else z):=rfl
   by_cases hk:zAx y=x
   ·rw[if_pos hk] at hstep
    have hw:IntKind.i64.wrap (z+y.2.2)=z+y.2.2:=w64 qO qO
    rw[hw] at hstep
    obtain⟨i1,i2⟩:=zMk x t (z+y.2.2) qO qO (fun y hy=>hb y (zz4 _ hy))
    rw[hstep]
    refine⟨by omega,fun y' hy' hk'=>?_⟩
    rcases List.mem_cons.1 hy' with rfl|hy'
    ·omega
    ·exact i2 y' hy' hk'
   ·rw[if_neg hk] at hstep
    obtain⟨i1,i2⟩:=zMk x t z h0 qO (fun y hy=>hb y (zz4 _ hy))
    rw[hstep]
    refine⟨i1,fun y' hy' hk'=>?_⟩
    rcases List.mem_cons.1 hy' with rfl|hy'
    ·exact absurd hk' hk
    ·exact i2 y' hy' hk'
theorem zH2 {s:Sta}(h:zA8 s=true):s.orders.length≤128∧∀ j,j<s.orders.length→((zY (od_ s.orders j)).2>0∧(zY (od_ s.orders j)).2≤1125899906842624)∧(0≤(od_ s.orders j).acct∧(od_ s.orders j).acct≤64)∧0≤(zY (od_ s.orders j)).1∧(zY (od_ s.orders j)).1≤16:=by
 obtain⟨h1,h2⟩:=zAh.1 (zCC.1 h).1
 refine⟨h1,fun j hj=>?_⟩
 obtain⟨hm,_⟩:=h2 j hj
 have hm':=hm
 obtain⟨_,g1,g2,_,g4,g5⟩:=hm
 unfold zY
 rw[if_pos ((zAf _).2 hm')]
 split
 ·have a1:1*1≤(od_ s.orders j).price*(od_ s.orders j).left:=Int.mul_le_mul g4.1 g5.1 qO qO
  have a2:(od_ s.orders j).price*(od_ s.orders j).left≤1073741824*1048576:=Int.mul_le_mul g4.2 g5.2 qO qO
  refine⟨⟨?_,?_⟩,by omega,?_,?_⟩<;>simp only<;>omega
 ·refine⟨⟨?_,?_⟩,by omega,?_,?_⟩<;>simp only<;>omega
theorem zRu {x:Auc}(h:zAT x=true):x.bids.length≤16∧(1≤x.seller∧x.seller≤64)∧(1≤x.inst∧x.inst≤16)∧(1≤x.qty∧x.qty≤1048576)∧∀ j,j<x.bids.length→(1≤(x.bids.getD j default).acct∧(x.bids.getD j default).acct≤64)∧1≤(x.bids.getD j default).amount∧(x.bids.getD j default).amount≤1125899906842624:=by
 obtain⟨a1,a2,a3,a4,a5,a6,a7,a8⟩:=zCl h
 unfold zu at a1 a2 a3 a4
 simp only[Bool.and_eq_true,decide_eq_true_eq] at a1 a2 a3 a4
 refine⟨?_,by omega,by omega,by omega,fun j hj=>?_⟩
 ·unfold zAa at a7
  split at a7
  ·unfold zF1 at a7
   simp only[Bool.and_eq_true,decide_eq_true_eq] at a7
   omega
  ·unfold zEj at a7
   simp only[Bool.and_eq_true,decide_eq_true_eq] at a7
   omega
 ·unfold zCA at a8
  rcases zZ (zBR x) x.bids.length with ⟨i,h1,h2,h3,h4⟩|⟨h1,h2⟩
  ·rw[h4] at a8;simp only[decide_eq_true_eq] at a8;omega
  ·have:=h1 j hj
   unfold zBR zu at this
   simp only[Bool.or_eq_false_iff,Bool.not_eq_false',Bool.and_eq_true,decide_eq_true_eq] at this
   omega
theorem zT9 {l:List Auc}(h:zAJ l=true){k:Nat}(hk:k<l.length):zAT (l.getD k default)=true:=by
 unfold zAJ at h
 simp only[Bool.and_eq_true,decide_eq_true_eq] at h
 rcases zZ (zBY l) l.length with ⟨j,h1,h2,h3,h4⟩|⟨h1,h2⟩
 ·omega
 ·have:=h1 k hk
  unfold zBY at this
  simp only[Bool.or_eq_false_iff,Bool.not_eq_false'] at this
  exact this.2
theorem zGe {α:Type}(f:α→List P3)(n:Nat):∀ (l:List α),(∀ x,x∈l→(f x).length≤n)→(l.flatMap f).length≤l.length*n
 | [],_=>by simp
 | x::t,h=>by
   rw[List.flatMap_cons,List.length_append,List.length_cons,Nat.add_mul]
   have:=zGe f n t (fun y hy=>h y (zz4 _ hy))
   have:=h x (List.mem_cons_self ..)
   omega
def zRv (y:P3):Prop:=(0<y.2.2∧y.2.2≤1125899906842624)∧(0≤y.1∧y.1≤64)∧0≤y.2.1∧y.2.1≤16
theorem zH3 {α:Type}{l:List α}{x:α}(d:α)(h:x∈l):∃ k,k<l.length∧l.getD k d=x:=zBP h
theorem zH4 {s:Sta}(h4:zA8 s=true)(h5:zCw s=true):(zX s).length≤1024∧∀ y,y∈zX s→zRv y:=by
 obtain⟨o1,o2⟩:=zH2 h4
 have hma:=(zC2.1 h5).1
 obtain⟨u1,u2⟩:=zPW hma
 have hao:∀ x,x∈s.orders→(zAM x).length≤1:=fun x _=>by unfold zAM;split<;>simp
 have hau:∀ x,x∈s.aucs→(zV x).length≤17:=fun x hx=>by
  obtain⟨k,hk,rfl⟩:=zH3 default hx
  have:=u2 k hk
  unfold zV
  split
  ·rw[List.length_cons,List.length_map];omega
  ·simp
 refine⟨?_,fun y hy=>?_⟩
 ·unfold zX
  rw[List.length_append]
  have:=zGe zAM 1 s.orders hao
  have:=zGe zV 17 s.aucs hau
  omega
 ·unfold zX at hy
  rcases List.mem_append.1 hy with hy|hy
  ·obtain⟨x,hx,hy⟩:=List.mem_flatMap.1 hy
   obtain⟨k,hk,rfl⟩:=zH3 default hx
   obtain⟨⟨g1,g2⟩,g3,g4⟩:=o2 k hk
   have hd:s.orders.getD k default=od_ s.orders k:=rfl
   rw[hd] at hy
   unfold zAM at hy
   rw[if_pos g1,List.mem_singleton] at hy
   subst hy
   exact⟨⟨g1,g2⟩,g3,g4⟩
  ·obtain⟨x,hx,hy⟩:=List.mem_flatMap.1 hy
   obtain⟨k,hk,rfl⟩:=zH3 default hx
   have hm:=zT9 hma hk
   obtain⟨_,b1,b2,b3,b4⟩:=zRu hm
   unfold zV at hy
   rw[if_pos hm] at hy
   rcases List.mem_cons.1 hy with rfl|hy
   ·refine⟨⟨?_,?_⟩,⟨?_,?_⟩,?_,?_⟩<;>simp only<;>omega
   ·obtain⟨z,hz,rfl⟩:=List.mem_map.1 hy
    obtain⟨j,hj,rfl⟩:=zH3 default hz
    obtain⟨c1,c2⟩:=b4 j hj
    refine⟨⟨?_,?_⟩,⟨?_,?_⟩,?_,?_⟩<;>simp only<;>omega
theorem zKA {l:List Row4}(h:RowsP l l.length):∀ k,k<l.length→∀ j,j<k→LtR (rw_ l j) (rw_ l k)
 | 0,_,j,hj=>absurd hj (zzE j)
 | k+1,hk,j,hj=>by
   have h1:=(h (k+1) hk).2
   rcases h1 with h1|h1
   ·omega
   ·rw[Nat.add_sub_cancel] at h1
    by_cases hjk:j=k
    ·rw[hjk];exact h1
    ·have h2:=zKA h k qO j qO
     unfold LtR at *
     omega
theorem zKB {l:List Row4}{k:Nat}{x:Int × Int}(hk:k≤l.length):x∈zCB l k↔∃ j,j<k∧zAH (rw_ l j)=x:=by
 unfold zCB
 rw[List.mem_map]
 constructor
 ·rintro⟨r,hr,rfl⟩
  obtain⟨j,hj,rfl⟩:=zH3 default hr
  rw[List.length_take] at hj
  refine⟨j,by omega,?_⟩
  have:(l.take k).getD j default=rw_ l j:=by
   unfold rw_
   rw[List.getD_eq_getElem?_getD,List.getElem?_take_of_lt qO,List.getD_eq_getElem?_getD,List.getElem?_eq_getElem qO]
  rw[this]
 ·rintro⟨j,hj,rfl⟩
  refine⟨rw_ l j,?_,rfl⟩
  rw[List.mem_take_iff_getElem]
  refine⟨j,by omega,?_⟩
  unfold rw_
  rw[List.getD_eq_getElem?_getD,List.getElem?_eq_getElem qO]
  rfl
theorem zLK {l:List Row4}(h:RowsP l l.length){k:Nat}(hk:k<l.length):zJ7 l (rw_ l k).acct (rw_ l k).asset=rw_ l k:=by
 unfold zJ7
 rw[zT8 (p:=fun r=>r.acct==(rw_ l k).acct&&r.asset==(rw_ l k).asset) hk (fun j hj=>by
  have:=zKA h k hk j hj
  unfold LtR at this
  have hn:¬ ((rw_ l j).acct=(rw_ l k).acct∧(rw_ l j).asset=(rw_ l k).asset):=by omega
  simpa using fun a b=>hn ⟨a,b⟩) (by simp)]
 rfl
theorem zI6 {l:List Row4}{a q:Int}(h:¬ (a,q)∈zCB l l.length):(zJ7 l a q).held=0:=by
 unfold zJ7
 rw[zPV (p:=fun r=>r.acct==a&&r.asset==q) (fun j hj=>by
  cases e:((rw_ l j).acct==a&&(rw_ l j).asset==q)
  ·rfl
  ·exfalso
   simp only[Bool.and_eq_true,beq_iff_eq] at e
   exact h ((zKB (zzC _)).2 ⟨j,hj,by unfold zAH;rw[e.1,e.2]⟩))]
 rfl
theorem zLL {s:Sta}(h3:zCv s=true)(h4:zA8 s=true)(h5:zCw s=true):zFg s=zRt s:=by
 obtain⟨pl,po⟩:=zH4 h4 h5
 have hR:=(zBi.1 (zD9.1 h3).1).1
 have hH:∀ a q,zLF s a q=zGT (zX s) (a,q):=fun a q=>zLJ s a q fun j hj=>((zH2 h4).2 j hj).1.1
 have hat:∀ k,k<s.rows.length→(zDW s k=true↔zGT (zX s) (zAH (rw_ s.rows k))=(rw_ s.rows k).held):=fun k hk=>by
  unfold zDW
  rw[if_neg,beq_iff_eq]
  rw[zKB qO]
  rintro⟨j,hj,he⟩
  have:=zKA hR k hk j hj
  unfold LtR at this
  unfold zAH at he
  have e1:=(Prod.mk.injEq _ _ _ _).mp he
  omega
 rw[Bool.eq_iff_iff,zI5]
 unfold zFg zN8
 simp only[Bool.and_eq_true,List.all_eq_true,List.mem_range,decide_eq_true_eq,beq_iff_eq]
 constructor
 ·rintro⟨q1,q2⟩ a ha q hq
  rw[hH]
  by_cases hm:((a:Int),(q:Int))∈zCB s.rows s.rows.length
  ·obtain⟨k,hk,he⟩:=(zKB (zzC _)).1 hm
   have h1:=(hat k hk).1 (q1 k hk)
   have h2:=zLK hR hk
   rw[he] at h1
   unfold zAH at he
   have e1:=(Prod.mk.injEq _ _ _ _).mp he
   rw[e1.1,e1.2] at h2
   rw[h2,h1]
  ·rw[zI6 hm]
   refine(zIx ?_).symm
   unfold zHr
   rw[List.any_eq_false]
   intro y hy he
   exact hm (zzA he ▸ q2 y hy)
 ·intro hg
  refine⟨fun k hk=>(hat k hk).2 ?_,fun y hy=>?_⟩
  ·obtain⟨⟨g1,g2,g3,g4⟩,_⟩:=(hR k hk).1
   have h1:=hg (rw_ s.rows k).acct.toNat qO (rw_ s.rows k).asset.toNat qO
   rw[Int.toNat_of_nonneg g1,Int.toNat_of_nonneg g3,zLK hR hk,hH] at h1
   exact h1.symm
  ·obtain⟨⟨y1,_⟩,⟨y3,y4⟩,y5,y6⟩:=po y hy
   refine Classical.byContradiction fun hm=>?_
   have h1:=hg y.1.toNat qO y.2.1.toNat qO
   rw[Int.toNat_of_nonneg y3,Int.toNat_of_nonneg y5,hH] at h1
   have h2:(zJ7 s.rows y.1 y.2.1).held=0:=zI6 (a:=y.1) (q:=y.2.1) hm
   have h3:=(zMk (y.1,y.2.1) (zX s) 0 (Int.le_refl _) qO (fun z hz=>⟨by have:=(po z hz).1;omega,by have:=(po z hz).1;omega⟩)).2 y hy rfl
   have h4:tw (zX s) (y.1,y.2.1) 0=zGT (zX s) (y.1,y.2.1):=rfl
   omega
def zo (l:List P3)(x:Pl):Int:=(l.map fun y=>if zAx y=x then y.2.2 else 0).sum
theorem zg (l m:List P3)(x:Pl):zo (l++m) x=zo l x+zo m x:=by unfold zo;rw[List.map_append,List.sum_append]
theorem zC3 (y:P3)(l:List P3)(x:Pl):zo (y::l) x=(if zAx y=x then y.2.2 else 0)+zo l x:=rfl
theorem zGf (x:Pl):zo [] x=0:=rfl
theorem tw_E (x:Pl):∀ (l:List P3) (z:Int),0≤z→z+(l.length:Int)*1125899906842624<9223372036854775808→(∀ y∈l,0≤y.2.2∧y.2.2≤1125899906842624)→tw l x z=z+zo l x∧0≤zo l x∧zo l x≤(l.length:Int)*1125899906842624
 | [],z,_,_,_=>by simp[tw,zo]
 | y::l,z,h0,h1,h=>by
   have hy:=h y (zz2 _)
   have hl:((y::l).length:Int)=(l.length:Int)+1:=by simp
   rw[hl] at h1 ⊢
   have hs:tw (y::l) x z=tw l x (if zAx y=x then IntKind.i64.wrap (z+y.2.2) else z):=rfl
   rw[hs,zC3]
   by_cases hk:zAx y=x
   ·rw[if_pos hk,if_pos hk,w64 qO qO]
    obtain⟨a,b,c⟩:=tw_E x l (z+y.2.2) qO qO fun q hq=>h q (zz5 _ hq)
    refine⟨by omega,by omega,by omega⟩
   ·rw[if_neg hk,if_neg hk]
    obtain⟨a,b,c⟩:=tw_E x l z h0 qO fun q hq=>h q (zz5 _ hq)
    refine⟨by omega,by omega,by omega⟩
structure Good (s:Sta):Prop where
 nums:zG1 s=true
 accts:zEn s.accts=true
 insts:zCu s.insts=true
 rows:zAY s.rows=true
 rowsIn:∀ r∈s.rows,(r.acct≤0∨zAG s r.acct=true)∧r.asset≤s.insts.length
 ords:ze s.orders=true
 ordsIn:∀ o∈s.orders,zCS s o=true
 aucs:zAJ s.aucs=true
 aucsIn:∀ a∈s.aucs,zCD s a=false
 held:∀ x∈zBo,(atR s.rows x).2=zo (zX s) x
theorem zk {α:Type}[Inhabited α]{l:List α}{k:Nat}(h:k<l.length):l.getD k default∈l:=by
 rw[List.getD_eq_getElem?_getD,List.getElem?_eq_getElem h];exact List.getElem_mem h
theorem zDM {α:Type}[Inhabited α]{l:List α}{p:α→Prop}:(∀ k,k<l.length→p (l.getD k default))↔∀ x∈l,p x :=
 ⟨fun h x hx=>by obtain⟨k,hk,rfl⟩:=zH3 default hx;exact h k hk,fun h k hk=>h _ (zk hk)⟩
theorem zUA (l:List Row4)(a q:Int):(zJ7 l a q).free=(atR l (a,q)).1∧(zJ7 l a q).held=(atR l (a,q)).2:=by
 unfold zJ7 atR
 simp only
 cases l.find? (fun r=>r.acct==a&&r.asset==q)<;>exact⟨rfl,rfl⟩
theorem zI7 {s:Sta}(h3:zCv s=true)(h4:zA8 s=true)(h5:zCw s=true):zFg s=true↔∀ x∈zBo,(atR s.rows x).2=zo (zX s) x:=by
 obtain⟨pl,po⟩:=zH4 h4 h5
 have hH:∀ a q,zLF s a q=zo (zX s) (a,q):=fun a q=>by
  rw[zLJ s a q fun j hj=>((zH2 h4).2 j hj).1.1]
  have:=(tw_E (a,q) (zX s) 0 (Int.le_refl _) qO fun y hy=>⟨Int.le_of_lt (po y hy).1.1,(po y hy).1.2⟩).1
  rw[Int.zero_add] at this
  exact this
 rw[zLL h3 h4 h5,zI5]
 unfold zN8
 simp only[beq_iff_eq,(zUA _ _ _).2,hH]
 constructor
 ·intro h x hx
  obtain⟨⟨h1,h2⟩,h3,h4⟩:=zC0.1 hx
  have:=h x.1.toNat qO x.2.toNat qO
  rw[Int.toNat_of_nonneg h1,Int.toNat_of_nonneg h3] at this
  exact this
 ·intro h a ha q hq
  exact h _ (zC0.2 ⟨⟨by simp only;omega,by simp only;omega⟩,by simp only;omega,by simp only;omega⟩)
theorem zBB {s:Sta}:zCY s=true↔Good s:=by
 constructor
 ·intro h
  have h3:=zEJ h 3 (by decide)
  have h4:=zEJ h 4 (by decide)
  have h5:=zEJ h 5 (by decide)
  have h6:=zEJ h 6 (by decide)
  refine⟨zEJ h 0 (by decide),zEJ h 1 (by decide),zEJ h 2 (by decide),(zD9.1 h3).1,?_,(zCC.1 h4).1,?_,(zC2.1 h5).1,?_,(zI7 h3 h4 h5).1 h6⟩
  ·exact zDM.1 fun k hk=>zG0.1 ((zD9.1 h3).2 k hk)
  ·exact zDM.1 fun k hk=>(zCC.1 h4).2 k hk
  ·exact zDM.1 fun k hk=>(zC2.1 h5).2 k hk
 ·intro h
  have h3:zCv s=true:=zD9.2 ⟨h.rows,fun k hk=>zG0.2 (h.rowsIn _ (zk hk))⟩
  have h4:zA8 s=true:=zCC.2 ⟨h.ords,fun k hk=>h.ordsIn _ (zk hk)⟩
  have h5:zCw s=true:=zC2.2 ⟨h.aucs,fun k hk=>h.aucsIn _ (zk hk)⟩
  have h6:=(zI7 h3 h4 h5).2 h.held
  unfold zCY
  rw[List.all_eq_true]
  intro k hk
  match k,List.mem_range.1 hk with
  | 0,_=>exact h.nums
  | 1,_=>exact h.accts
  | 2,_=>exact h.insts
  | 3,_=>exact h3
  | 4,_=>exact h4
  | 5,_=>exact h5
  | 6,_=>exact h6
theorem zLM {α:Type}[Inhabited α](f:α→Int){l:List α}:(∀ j,j<l.length→j=0∨f (l.getD (j - 1) default)<f (l.getD j default))↔l.Pairwise fun a b=>f a<f b:=by
 constructor
 ·intro h
  rw[List.pairwise_iff_getElem]
  intro i j hi hj hij
  have key:∀ d,i+d+1<l.length→f (l.getD i default)<f (l.getD (i+d+1) default):=by
   intro d
   induction d with
   | zero =>
     intro hd
     rcases h (i+1) hd with e|e
     ·omega
     ·simpa using e
   | succ d ih =>
     intro hd
     rcases h (i+(d+1)+1) hd with e|e
     ·omega
     ·exact Int.lt_trans (ih qO) e
  have:=key (j - i - 1) qO
  rw[show i+(j - i - 1)+1=j by omega] at this
  simpa [List.getD_eq_getElem?_getD,List.getElem?_eq_getElem hi,List.getElem?_eq_getElem hj] using this
 ·intro h j hj
  rcases Nat.eq_zero_or_pos j with e|e
  ·exact .inl e
  ·right
   have:=List.pairwise_iff_getElem.1 h (j - 1) j qO hj qO
   simpa [List.getD_eq_getElem?_getD,List.getElem?_eq_getElem hj,List.getElem?_eq_getElem (show j - 1<l.length by omega)] using this
theorem zAO {l:List Odr}:ze l=true↔l.length≤128∧(∀ o∈l,zAX o)∧l.Pairwise fun a b=>a.id<b.id:=by
 rw[zAh,← zLM,← zDM]
 unfold OrdP od_
 exact and_congr_right fun _=>⟨fun h=>⟨fun k hk=>(h k hk).1,fun k hk=>(h k hk).2⟩,fun h k hk=>⟨h.1 k hk,h.2 k hk⟩⟩
theorem zMl {x:Auc}(h:zAT x=true):1≤x.id∧x.id≤1099511627776:=by
 have:=(zCl h).1
 simpa [zu] using this
theorem zp {l:List Auc}:zAJ l=true↔l.length≤32∧(∀ a∈l,zAT a=true)∧l.Pairwise fun a b=>a.id<b.id:=by
 have hb:∀ j,zBY l j=false↔zMW l j<(l.getD j default).id∧zAT (l.getD j default)=true:=fun j=>by
  unfold zBY;simp
 rw[← zLM,← zDM]
 unfold zAJ
 simp only[Bool.and_eq_true,decide_eq_true_eq]
 constructor
 ·rintro⟨h1,h2⟩
  rcases zZ (zBY l) l.length with ⟨j,_,_,_,h4⟩|⟨h3,_⟩
  ·omega
  ·refine⟨by omega,fun k hk=>((hb k).1 (h3 k hk)).2,fun k hk=>?_⟩
   have:=((hb k).1 (h3 k hk)).1
   cases k with
   | zero=>exact .inl rfl
   | succ k=>exact .inr this
 ·rintro⟨h1,h2,h3⟩
  refine⟨?_,by omega⟩
  rw[zAo fun j hj=>(hb j).2 ⟨?_,h2 j hj⟩]
  ·decide
  ·cases j with
   | zero=>have:=(zMl (h2 0 hj)).1;exact this
   | succ k => rcases h3 (k+1) hj with e|e
               ·cases e
               ·exact e
def zMm (k:Int):List Nat:=(zJy 3 k).1
structure EvOk (e:Evt):Prop where
 kind:1≤e.kind∧e.kind≤23
 len:e.nums.length=(zMm e.kind).length
 fit:∀ i,i<(zMm e.kind).length→zCe 3 ((zMm e.kind).getD i 0) (nF e.nums i)=true
 text:(zJy 3 e.kind).2=true→zAI (e.texts.getD 0 ByteArray.empty)=true
theorem zN9 {e:Evt}(hv:e.v=3)(h:zCE e=true):EvOk e:=by
 unfold zCE zF7 at h
 rw[hv] at h
 by_cases hk:1≤e.kind∧e.kind≤23
 ·by_cases hb:(1:Int)≤3∧(3:Int)≤3∧32 ∉ (zJy 3 e.kind).1
  ·rw[if_pos hb] at h
   simp only[Bool.and_eq_true] at h
   obtain⟨h1,h2⟩:=h
   unfold zBG at h1
   simp only[Bool.and_eq_true,beq_iff_eq,List.all_eq_true,List.mem_range] at h1
   refine⟨hk,h1.1.symm,fun i hi=>h1.2 i hi,fun ht=>?_⟩
   rw[if_pos ht] at h2
   simp only[Bool.and_eq_true] at h2
   exact h2.2
  ·rw[if_neg hb] at h;cases h
 ·have:¬ ((1:Int)≤3∧(3:Int)≤3∧32 ∉ (zJy 3 e.kind).1):=by
   unfold zJy;rw[if_neg hk];simp
  rw[if_neg this] at h;cases h
def bnd (c:Nat)(n:Int):Prop :=
 match zED 3 c with
 | some (l,h)=>l≤n∧n≤h
 | none=>False
theorem zUB {c:Nat}{n:Int}(h:zCe 3 c n=true):bnd c n:=by
 unfold zCe at h;unfold bnd
 cases hb:zED 3 c with
 | none=>rw[hb] at h;cases h
 | some p=>rw[hb] at h;simpa using h
theorem EvOk.at {e:Evt}(h:EvOk e)(i:Nat){c:Nat}(hc:(zMm e.kind)[i]?=some c):bnd c (nF e.nums i):=by
 have hi:i<(zMm e.kind).length:=(List.getElem?_eq_some_iff.1 hc).1
 have:=zUB (h.fit i hi)
 rwa [List.getD_eq_getElem?_getD,hc] at this
theorem zH5 {n:Int}(h:bnd 97 n):1≤n∧n≤64:=h
theorem zDn {n:Int}(h:bnd 105 n):1≤n∧n≤16:=h
theorem bnd_o {n:Int}(h:bnd 111 n):1≤n∧n≤1099511627776:=h
theorem bnd_c {n:Int}(h:bnd 99 n):1≤n∧n≤1099511627776:=h
theorem zG5 {n:Int}(h:bnd 109 n):1≤n∧n≤1125899906842624:=h
theorem bnd_z {n:Int}(h:bnd 122 n):0≤n∧n≤1125899906842624:=h
theorem zOA {n:Int}(h:bnd 112 n):1≤n∧n≤1073741824:=h
theorem bnd_k {n:Int}(h:bnd 107 n):1≤n∧n≤1073741824:=h
theorem zGG {n:Int}(h:bnd 113 n):1≤n∧n≤1048576:=h
theorem zRw {n:Int}(h:bnd 115 n):1≤n∧n≤2:=h
theorem bnd_b {n:Int}(h:bnd 98 n):0≤n∧n≤1000:=h
theorem zRx {n:Int}(h:bnd 116 n):1≤n∧n≤1099511627776:=h
theorem zCT {s:Sta}{a:Int}:zAG s a=true↔1≤a∧a≤s.accts.length∧(ac_ s.accts (a - 1).toNat).opn=true:=by
 unfold zAG zBE
 by_cases h:1≤a∧a≤s.accts.length∧(ac_ s.accts (a - 1).toNat).opn=true
 ·rw[if_pos h];exact⟨fun _=>h,fun _=>rfl⟩
 ·rw[if_neg h];exact⟨fun h'=>(by cases h'),fun h'=>absurd h' h⟩
theorem zAe {s:Sta}{a:Int}:zBD s a=true↔1≤a∧a≤s.insts.length:=by
 unfold zBD zB0
 by_cases h:1≤a∧a≤s.insts.length
 ·rw[if_pos h];exact⟨fun _=>h,fun _=>rfl⟩
 ·rw[if_neg h];exact⟨fun h'=>(by cases h'),fun h'=>absurd h' h⟩
theorem zOB {s:Sta}{a:Int}(h:zBD s a=true):(zB0 s.insts a).1=in_ s.insts (a - 1).toNat:=by
 unfold zB0;rw[if_pos (zAe.1 h)]
theorem zAB {s:Sta}{o:Odr}:zCS s o=true↔o.id<s.nextO∧zAG s o.acct=true∧zBD s o.inst=true∧o.price.tmod (in_ s.insts (o.inst - 1).toNat).tick=0:=by
 unfold zCS
 simp only[Bool.and_eq_true,decide_eq_true_eq,beq_iff_eq]
 constructor
 ·rintro⟨⟨⟨a,b⟩,c⟩,d⟩;exact⟨a,b,c,by rw[zOB c] at d;exact d⟩
 ·rintro⟨a,b,c,d⟩;exact⟨⟨⟨a,b⟩,c⟩,by rw[zOB c];exact d⟩
theorem zAW {s:Sta}{x:Auc}:zCD s x=false↔x.id<s.nextA∧zAG s x.seller=true∧zBD s x.inst=true∧∀ b∈x.bids,zAG s b.acct=true:=by
 have hb:zHM s x.bids=false↔∀ b∈x.bids,zAG s b.acct=true:=by
  rw[← zDM]
  unfold zHM
  simp only[decide_eq_false_iff_not]
  rcases zZ (zGW s x.bids) x.bids.length with ⟨k,hk,_,hp,hx⟩|⟨hx,h2⟩
  ·refine⟨fun h=>absurd (by omega:idx (zGW s x.bids) x.bids.length ≥ 0) h,fun h=>?_⟩
   have:=h k hk
   unfold zGW at hp
   unfold zAG at this
   rw[this] at hp;cases hp
  ·refine⟨fun _ k hk=>?_,fun _=>by omega⟩
   have:=hx k hk
   unfold zGW at this
   simpa [zAG] using this
 unfold zCD
 simp only[Bool.or_eq_false_iff,decide_eq_false_iff_not,Bool.not_eq_false',hb]
 unfold zAG zBD
 constructor
 ·rintro⟨⟨⟨a,b⟩,c⟩,d⟩;exact⟨by omega,b,c,d⟩
 ·rintro⟨a,b,c,d⟩;exact⟨⟨⟨by omega,b⟩,c⟩,d⟩
theorem zAP {s:Sta}:zG1 s=true↔(0≤s.clock∧s.clock≤1099511627776)∧(0≤s.fee∧s.fee≤1000)∧(1≤s.nextO∧s.nextO≤1099511627777)∧(1≤s.nextA∧s.nextA≤1099511627777):=by
 unfold zG1
 simp only[Bool.and_eq_true,zD7,and_assoc]
theorem zRy {l:List Row4}{x:Pl}(h:atR l x≠(0,0)):∃ r∈l,zAH r=x:=by
 refine Classical.byContradiction fun hn=>h (zHy fun r hr he=>hn ⟨r,hr,he⟩)
theorem dl_ne {p:List Pst}{x:Pl}(h:dlF p x≠(0,0)):∃ q∈p,q.acct=x.1∧q.asset=x.2:=by
 induction p with
 | nil=>exact absurd rfl h
 | cons q p ih =>
   rw[zBN] at h
   by_cases hq:q.acct=x.1∧q.asset=x.2
   ·exact⟨q,zz2 _,hq⟩
   ·rw[if_neg hq] at h
    obtain⟨t,ht,e⟩:=ih h
    exact⟨t,zz5 _ ht,e⟩
def InP (s:Sta)(p:List Pst):Prop:=∀ q∈p,(q.acct≤0∨zAG s q.acct=true)∧q.asset≤s.insts.length
theorem zUC {s:Sta}{p:List Pst}{r:List Row4}(hs:Good s)(hp:zBF s.rows p=(r,0))(hin:InP s p):∀ t∈r,(t.acct≤0∨zAG s t.acct=true)∧t.asset≤s.insts.length:=by
 obtain⟨_,_,_,rfl,_,_⟩:=zN6 hp
 intro t ht
 have hm:=zFG.1 ht
 have hne:zAK s.rows p (zAH t)≠(0,0):=by
  rw[hm.2.1];exact fun h=>hm.2.2 (Prod.mk.inj h)
 by_cases h1:atR s.rows (zAH t)=(0,0)
 ·have h2:dlF p (zAH t)≠(0,0):=fun h2=>hne (by unfold zAK;rw[h1,h2];rfl)
  obtain⟨q,hq,e1,e2⟩:=dl_ne h2
  have:=hin q hq
  rw[e1,e2] at this
  exact this
 ·obtain⟨q,hq,e⟩:=zRy h1
  have:=hs.rowsIn q hq
  have e1:q.acct=t.acct:=congrArg Prod.fst e
  have e2:q.asset=t.asset:=congrArg Prod.snd e
  rw[e1,e2] at this
  exact this
theorem Good.upd {s t:Sta}{p:List Pst}(h:Good s)(hp:zBF s.rows p=(t.rows,0))(hin:InP s p)(hac:t.accts=s.accts)(hins:t.insts=s.insts)(hn:zG1 t=true)(ho:ze t.orders=true)(ho2:∀ o∈t.orders,zCS t o=true)(ha:zAJ t.aucs=true)(ha2:∀ a∈t.aucs,zCD t a=false)
  (hh:∀ x∈zBo,zo (zX t) x=zo (zX s) x+(dlF p x).2):Good t:=by
 obtain⟨_,_,_,_,h5,h6⟩:=zN6 hp
 refine⟨hn,by rw[hac];exact h.accts,by rw[hins];exact h.insts,h5,fun r hr=>?_,ho,ho2,ha,ha2,fun x hx=>?_⟩
 ·have:=zUC h hp hin r hr
  unfold zAG at this ⊢
  rw[hac,hins];exact this
 ·rw[h6 x hx,hh x hx,← h.held x hx];rfl
theorem zC4 {s t:Sta}{p:List Pst}(h:zm s p=(t,0)):zBF s.rows p=(t.rows,0)∧t={ s with rows:=t.rows }:=by
 unfold zm at h
 by_cases h0:(zBF s.rows p).2=0
 ·rw[if_pos h0] at h
  obtain rfl:=(Prod.mk.inj h).1
  exact⟨Prod.ext rfl h0,rfl⟩
 ·rw[if_neg h0] at h;exact absurd (Prod.mk.inj h).2 h0
theorem Good.free {s t:Sta}{p:List Pst}(h:Good s)(hp:zm s p=(t,0))(hin:InP s p)(h0:∀ q∈p,q.held=0):Good t:=by
 obtain⟨h1,h2⟩:=zC4 hp
 have hd:∀ x,(dlF p x).2=0:=fun x=>by
  clear hp h1 hin
  induction p with
  | nil=>rfl
  | cons q p ih =>
    rw[zBN]
    have:=ih fun q hq=>h0 q (zz5 _ hq)
    split
    ·simp only[this,h0 q (List.Mem.head _)];rfl
    ·exact this
 rw[h2]
 refine h.upd (t:={ s with rows:=t.rows }) (by exact h1) hin rfl rfl h.nums h.ords h.ordsIn h.aucs h.aucsIn fun x _=>?_
 rw[hd x];show zo (zX s) x=_;omega
theorem zEv {s t:Sta}{a b c n:Int}(h:Good s)(hp:zDJ s a b c n=(t,0))(ha:a≤0∨zAG s a=true)(hb:b≤0∨zAG s b=true)(hc:c≤s.insts.length):Good t:=by
 refine h.free hp (fun q hq=>?_) (fun q hq=>?_)
 ·simp only[List.mem_cons,List.not_mem_nil,or_false] at hq
  rcases hq with rfl|rfl
  ·exact⟨ha,hc⟩
  ·exact⟨hb,hc⟩
 ·simp only[List.mem_cons,List.not_mem_nil,or_false] at hq
  rcases hq with rfl|rfl<;>rfl
theorem Good.nums' {s t:Sta}(h:Good s)(hn:zG1 t=true)(e1:t.accts=s.accts)(e2:t.insts=s.insts)(e3:t.rows=s.rows)(e4:t.orders=s.orders)(e5:t.aucs=s.aucs)(e6:s.nextO≤t.nextO)(e7:s.nextA≤t.nextA):Good t:=by
 have eo:∀ a,zAG t a=zAG s a:=fun a=>by unfold zAG;rw[e1]
 have eh:∀ a,zBD t a=zBD s a:=fun a=>by unfold zBD;rw[e2]
 refine⟨hn,by rw[e1];exact h.accts,by rw[e2];exact h.insts,by rw[e3];exact h.rows,fun r hr=>?_,by rw[e4];exact h.ords,fun o ho=>?_,by rw[e5];exact h.aucs,fun a ha=>?_,fun x hx=>?_⟩
 ·rw[eo,e2];exact h.rowsIn r (e3 ▸ hr)
 ·have:=zAB.1 (h.ordsIn o (e4 ▸ ho))
  exact zAB.2 ⟨by omega,by rw[eo];exact this.2.1,by rw[eh];exact this.2.2.1,by rw[e2];exact this.2.2.2⟩
 ·have:=zAW.1 (h.aucsIn a (e5 ▸ ha))
  exact zAW.2 ⟨by omega,by rw[eo];exact this.2.1,by rw[eh];exact this.2.2.1,fun b hb=>by rw[eo];exact this.2.2.2 b hb⟩
 ·rw[e3]
  have:zX t=zX s:=by unfold zX;rw[e4,e5]
  rw[this];exact h.held x hx
theorem Good.accts' {s:Sta}(h:Good s)(l:List Ac)(hl:zEn l=true)(hm:∀ a,zAG s a=true→zAG { s with accts:=l } a=true):Good { s with accts:=l }:=by
 refine⟨h.nums,hl,h.insts,h.rows,fun r hr=>?_,h.ords,fun o ho=>?_,h.aucs,fun a ha=>?_,h.held⟩
 ·have:=h.rowsIn r hr
  exact⟨this.1.imp id (hm _),this.2⟩
 ·have:=zAB.1 (h.ordsIn o ho)
  exact zAB.2 ⟨this.1,hm _ this.2.1,this.2.2.1,this.2.2.2⟩
 ·have:=zAW.1 (h.aucsIn a ha)
  exact zAW.2 ⟨this.1,hm _ this.2.1,this.2.2.1,fun b hb=>hm _ (this.2.2.2 b hb)⟩
theorem Good.insts' {s:Sta}(h:Good s)(l:List Ins)(hl:zCu l=true)(hn:s.insts.length≤l.length)(ht:∀ o∈s.orders,o.price.tmod (in_ l (o.inst - 1).toNat).tick=0):Good { s with insts:=l }:=by
 have hm:∀ a,zBD s a=true→zBD { s with insts:=l } a=true:=fun a ha=>zAe.2 ⟨(zAe.1 ha).1,by have:=(zAe.1 ha).2;show a≤(l.length:Int);omega⟩
 refine⟨h.nums,h.accts,hl,h.rows,fun r hr=>?_,h.ords,fun o ho=>?_,h.aucs,fun a ha=>?_,h.held⟩
 ·have:=h.rowsIn r hr
  exact⟨this.1,by show r.asset≤(l.length:Int);omega⟩
 ·have:=zAB.1 (h.ordsIn o ho)
  exact zAB.2 ⟨this.1,this.2.1,hm _ this.2.2.1,ht o ho⟩
 ·have:=zAW.1 (h.aucsIn a ha)
  exact zAW.2 ⟨this.1,this.2.1,hm _ this.2.2.1,this.2.2.2⟩
theorem zRz {a b:ByteArray}:(a.toList==b.toList)=false↔a.data.toList≠b.data.toList:=by
 rw[ByteArray.toList_eq,ByteArray.toList_eq];simp
theorem zLN {l:List Ac}{t:ByteArray}(h:¬ zA3 l t ≥ 0):∀ x∈l,x.name.data.toList≠t.data.toList:=by
 rw[← zDM]
 unfold zA3 at h
 rcases zZ (zEm l t) l.length with ⟨k,_,_,_,h2⟩|⟨h1,_⟩
 ·omega
 ·exact fun k hk=>zRz.1 (h1 k hk)
theorem zGg (l:List ByteArray):zBZ l=true↔(∀ x∈l,zAI x=true)∧(nmL l).Nodup:=by
 unfold zBZ;simp
theorem zI8 {l:List ByteArray}{t:ByteArray}(h:zBZ l=true)(ht:zAI t=true)(hn:∀ x∈l,x.data.toList≠t.data.toList):zBZ (l++[t])=true:=by
 rw[zGg] at h ⊢
 refine⟨fun x hx=>?_,?_⟩
 ·rcases List.mem_append.1 hx with e|e
  ·exact h.1 x e
  ·rw[List.mem_singleton] at e;exact e ▸ ht
 ·unfold nmL
  rw[List.map_append,List.nodup_append]
  refine⟨h.2,by simp,fun a ha b hb=>?_⟩
  obtain⟨x,hx,rfl⟩:=List.mem_map.1 ha
  simp only[List.map_cons,List.map_nil,List.mem_singleton] at hb
  subst hb
  exact hn x hx
theorem zPX {l:List ByteArray}{t:ByteArray}(k:Nat)(h:zBZ l=true)(ht:zAI t=true)(hn:∀ x∈l,x.data.toList≠t.data.toList):zBZ (l.set k t)=true:=by
 rw[zGg] at h ⊢
 refine⟨fun x hx=>?_,?_⟩
 ·rcases List.mem_or_eq_of_mem_set hx with e|e
  ·exact h.1 x e
  ·exact e ▸ ht
 ·have h2:=h.2
  unfold nmL at h2 ⊢
  rw[List.Nodup,List.pairwise_iff_getElem] at h2 ⊢
  intro i j hi hj hij
  simp only[List.length_map,List.length_set] at hi hj
  have g:∀ m (hm:m<l.length),l[m].data.toList≠t.data.toList:=fun m hm=>hn _ (List.getElem_mem hm)
  simp only[List.getElem_map,List.getElem_set]
  have:=h2 i j (by simpa using hi) (by simpa using hj) hij
  simp only[List.getElem_map] at this
  by_cases h1:k=i
  ·by_cases h3:k=j
   ·omega
   ·rw[if_pos h1,if_neg h3];exact(g j hj).symm
  ·by_cases h3:k=j
   ·rw[if_neg h1,if_pos h3];exact g i hi
   ·rw[if_neg h1,if_neg h3];exact this
theorem zB1 {l:List Ac}:zEn l=true↔l.length≤64∧zBZ (nmA l)=true:=by rw[zF5];simp
theorem ac_app {l:List Ac}{x:Ac}{k:Nat}(h:k<l.length):ac_ (l++[x]) k=ac_ l k:=by simp[ac_,List.getD_eq_getElem?_getD,List.getElem?_append_left h]
theorem zMn {s t:Sta}{n:List Int}{nm:ByteArray}(h:Good s)(hn:nF n 0≤64)(hm:zAI nm=true)(he:zFC s n nm=(t,0)):Good t:=by
 unfold zFC at he
 by_cases h1:nF n 0≠s.accts.length+1
 ·rw[if_pos h1] at he;exact absurd (Prod.mk.inj he).2 (by decide)
 rw[if_neg h1] at he
 by_cases h2:zA3 s.accts nm ≥ 0
 ·rw[if_pos h2] at he;exact absurd (Prod.mk.inj he).2 (by decide)
 rw[if_neg h2] at he
 obtain rfl:=(Prod.mk.inj he).1
 have ha:=zB1.1 h.accts
 refine h.accts' _ (zB1.2 ⟨by rw[List.length_append,List.length_singleton];omega,?_⟩) fun a ho=>?_
 ·have:=zI8 (t:=nm) ha.2 hm (fun x hx=>by
   obtain⟨y,hy,rfl⟩:=List.mem_map.1 hx
   exact zLN h2 y hy)
  simpa [nmA] using this
 ·obtain⟨o1,o2,o3⟩:=zCT.1 ho
  refine zCT.2 ⟨o1,?_,?_⟩
  ·show a≤((s.accts++[(⟨nm,true⟩:Ac)]).length:Int)
   rw[List.length_append];omega
  ·show(ac_ (s.accts++[(⟨nm,true⟩:Ac)]) (a - 1).toNat).opn=true
   rw[ac_app qO];exact o3
theorem zMo {l:List Ac}{x:Ac}{k j:Nat}(hk:k<l.length):ac_ (l.set k x) j=if j=k then x else ac_ l j:=by
 simp only[ac_,List.getD_eq_getElem?_getD]
 by_cases h:j=k
 ·subst h;simp[hk]
 ·rw[if_neg h,List.getElem?_set_ne qO]
theorem zLO {s t:Sta}{n:List Int}{nm:ByteArray}(h:Good s)(hm:zAI nm=true)(he:zDh s n nm=(t,0)):Good t:=by
 unfold zDh at he
 by_cases h1:zAG s (nF n 0)=true
 ·rw[if_pos h1] at he
  by_cases h2:zA3 s.accts nm ≥ 0
  ·rw[if_pos h2] at he;exact absurd (Prod.mk.inj he).2 (by decide)
  rw[if_neg h2] at he
  obtain rfl:=(Prod.mk.inj he).1
  have ha:=zB1.1 h.accts
  obtain⟨p1,p2,p3⟩:=zCT.1 h1
  refine h.accts' _ (zB1.2 ⟨by rw[List.length_set];exact ha.1,?_⟩) fun a ho=>?_
  ·have:=zPX (t:=nm) (nF n 0 - 1).toNat ha.2 hm (fun x hx=>by
    obtain⟨y,hy,rfl⟩:=List.mem_map.1 hx
    exact zLN h2 y hy)
   simpa [nmA,List.map_set] using this
  ·obtain⟨o1,o2,o3⟩:=zCT.1 ho
   refine zCT.2 ⟨o1,?_,?_⟩
   ·simpa using o2
   ·simp only
    rw[zMo qO]
    split
    ·rename_i e;rw[← e];exact o3
    ·exact o3
 ·rw[if_neg h1] at he;exact absurd (Prod.mk.inj he).2 (by decide)
theorem zB2 {l:List Ins}:zCu l=true↔l.length≤16∧(∀ x∈l,1≤x.tick∧x.tick≤1073741824)∧zBZ (nmI l)=true:=by
 rw[zEA,← zDM]
 simp only[Bool.and_eq_true,decide_eq_true_eq,List.all_eq_true,List.mem_range,zD7]
 rfl
theorem in_app {l:List Ins}{x:Ins}{k:Nat}(h:k<l.length):in_ (l++[x]) k=in_ l k:=by simp[in_,List.getD_eq_getElem?_getD,List.getElem?_append_left h]
theorem zR0 {l:List Ins}{x:Ins}{k j:Nat}(hk:k<l.length):in_ (l.set k x) j=if j=k then x else in_ l j:=by
 simp only[in_,List.getD_eq_getElem?_getD]
 by_cases h:j=k
 ·subst h;simp[hk]
 ·rw[if_neg h,List.getElem?_set_ne qO]
theorem zMp {s t:Sta}{n:List Int}{nm:ByteArray}(h:Good s)(hn:nF n 0≤16)(hk:1≤nF n 1∧nF n 1≤1073741824)(hm:zAI nm=true)(he:zFE s n nm=(t,0)):Good t:=by
 unfold zFE at he
 by_cases h1:nF n 0≠s.insts.length+1
 ·rw[if_pos h1] at he;exact absurd (Prod.mk.inj he).2 (by decide)
 rw[if_neg h1] at he
 by_cases h2:(s.insts.any fun x=>x.name.toList==nm.toList)=true
 ·rw[if_pos h2] at he;exact absurd (Prod.mk.inj he).2 (by decide)
 rw[if_neg h2] at he
 obtain rfl:=(Prod.mk.inj he).1
 obtain⟨i1,i2,i3⟩:=zB2.1 h.insts
 refine h.insts' _ (zB2.2 ⟨by rw[List.length_append,List.length_singleton];omega,fun x hx=>?_,?_⟩) (by rw[List.length_append];omega) fun o ho=>?_
 ·rcases List.mem_append.1 hx with e|e
  ·exact i2 x e
  ·rw[List.mem_singleton] at e;subst e;exact hk
 ·have:=zI8 (t:=nm) i3 hm (fun x hx=>by
   obtain⟨y,hy,rfl⟩:=List.mem_map.1 hx
   have:=List.any_eq_false.1 (by simpa only[Bool.not_eq_true] using h2) y hy
   exact zRz.1 (by simpa only[Bool.not_eq_true] using this))
  simpa [nmI] using this
 ·have:=zAB.1 (h.ordsIn o ho)
  have hi:=zAe.1 this.2.2.1
  rw[in_app qO];exact this.2.2.2
theorem zLP {s:Sta}(h:Good s){i:Int}(hi:zBD s i=true)(y:Ins)(hnm:y.name=(in_ s.insts (i - 1).toNat).name)(hk:1≤y.tick∧y.tick≤1073741824)(ht:∀ o∈s.orders,o.inst=i→o.price.tmod y.tick=0):Good { s with insts:=s.insts.set (i - 1).toNat y }:=by
 obtain⟨i1,i2,i3⟩:=zB2.1 h.insts
 obtain⟨j1,j2⟩:=zAe.1 hi
 refine h.insts' _ (zB2.2 ⟨by rw[List.length_set];exact i1,fun x hx=>?_,?_⟩) (by rw[List.length_set];exact zzC _) fun o ho=>?_
 ·rcases List.mem_or_eq_of_mem_set hx with e|e
  ·exact i2 x e
  ·rw[e];exact hk
 ·have:nmI (s.insts.set (i - 1).toNat y)=nmI s.insts:=by
   unfold nmI
   rw[List.map_set,hnm]
   have hlt:(i - 1).toNat<s.insts.length:=by omega
   have e:(in_ s.insts (i - 1).toNat).name=(s.insts.map (·.name))[(i - 1).toNat]'(by rw[List.length_map];exact hlt):=by
    rw[in_,List.getD_eq_getElem?_getD,List.getElem?_eq_getElem hlt,List.getElem_map];rfl
   rw[e]
   exact List.set_getElem_self _
  rw[this];exact i3
 ·have hs:=zAB.1 (h.ordsIn o ho)
  rw[zR0 qO]
  split
  ·rename_i e
   have hb:=zAe.1 hs.2.2.1
   exact ht o ho qO
  ·exact hs.2.2.2
theorem zLQ {s t:Sta}{n:List Int}{is:Bool}(h:Good s)(he:zF8 s n is=(t,0)):Good t:=by
 unfold zF8 at he
 by_cases h1:zBD s (nF n 0)=true
 ·rw[if_pos h1] at he
  simp only at he
  by_cases h2:(in_ s.insts (nF n 0 - 1).toNat).halted=is
  ·rw[if_pos h2] at he;exact absurd (Prod.mk.inj he).2 (by decide)
  rw[if_neg h2] at he
  obtain rfl:=(Prod.mk.inj he).1
  obtain⟨i1,i2,i3⟩:=zB2.1 h.insts
  obtain⟨j1,j2⟩:=zAe.1 h1
  refine zLP h h1 _ rfl (i2 (in_ s.insts (nF n 0 - 1).toNat) (zk (l:=s.insts) (k:=(nF n 0 - 1).toNat) qO)) fun o ho e=>?_
  have:=(zAB.1 (h.ordsIn o ho)).2.2.2
  rw[e] at this;exact this
 ·rw[if_neg h1] at he;exact absurd (Prod.mk.inj he).2 (by decide)
theorem zMq {s t:Sta}{n:List Int}(h:Good s)(hk:1≤nF n 1∧nF n 1≤1073741824)(he:zFF s n=(t,0)):Good t:=by
 unfold zFF at he
 by_cases h1:zBD s (nF n 0)=true
 ·rw[if_pos h1] at he
  by_cases h2:(s.orders.any fun o=>o.inst==nF n 0)=true
  ·rw[if_pos h2] at he;exact absurd (Prod.mk.inj he).2 (by decide)
  rw[if_neg h2] at he
  obtain rfl:=(Prod.mk.inj he).1
  refine zLP h h1 _ rfl hk fun o ho e=>?_
  have:=List.any_eq_false.1 (by simpa only[Bool.not_eq_true] using h2) o ho
  simp[e] at this
 ·rw[if_neg h1] at he;exact absurd (Prod.mk.inj he).2 (by decide)
theorem zUD {s:Sta}{z:Int}(h:Good s)(hz:0≤z∧z≤1000):Good { s with fee:=z }:=by
 have:=zAP.1 h.nums
 exact h.nums' (zAP.2 ⟨this.1,hz,this.2.2⟩) rfl rfl rfl rfl rfl (Int.le_refl _) (Int.le_refl _)
theorem zPY {s t:Sta}{n:List Int}(h:Good s)(hk:nF n 0≤1099511627776)(he:zEq s n=(t,0)):Good t:=by
 unfold zEq at he
 by_cases h1:nF n 0≤s.clock∨(s.aucs.any fun a=>zAA a s.clock)=true
 ·rw[if_pos h1] at he;exact absurd (Prod.mk.inj he).2 (by decide)
 rw[if_neg h1] at he
 obtain rfl:=(Prod.mk.inj he).1
 have:=zAP.1 h.nums
 exact h.nums' (zAP.2 ⟨⟨by show 0≤nF n 0;omega,hk⟩,this.2⟩) rfl rfl rfl rfl rfl (Int.le_refl _) (Int.le_refl _)
theorem Good.parts {s:Sta}(h:Good s):(zX s).length≤1024∧∀ y∈zX s,zRv y :=
 zH4 (zCC.2 ⟨h.ords,fun _ hk=>h.ordsIn _ (zk hk)⟩) (zC2.2 ⟨h.aucs,fun _ hk=>h.aucsIn _ (zk hk)⟩)
theorem zDo {l:List P3}(h:∀ y∈l,0≤y.2.2)(x:Pl):0≤zo l x:=by
 induction l with
 | nil=>exact Int.le_refl _
 | cons y l ih =>
   rw[zC3]
   have h1:=ih fun q hq=>h q (zz5 _ hq)
   have h2:=h y (zz2 _)
   split<;>omega
theorem zLR {l:List P3}(h:∀ y∈l,0≤y.2.2){y:P3}(hy:y∈l):y.2.2≤zo l (zAx y):=by
 induction l with
 | nil=>cases hy
 | cons q l ih =>
   rw[zC3]
   have h1:=h q (zz2 _)
   have hl:=fun z hz=>h z (zz5 q hz)
   rcases List.mem_cons.1 hy with rfl|e
   ·have:=zDo hl (zAx y)
    rw[if_pos rfl];omega
   ·have:=ih hl e
    split<;>omega
theorem zR1 {s:Sta}(h:Good s){y:P3}(hy:y∈zX s):∃ r∈s.rows,zAH r=zAx y:=by
 obtain⟨_,po⟩:=h.parts
 have hp:=po y hy
 have hg:zAx y∈zBo:=zC0.2 ⟨hp.2.1,hp.2.2⟩
 have h1:=h.held _ hg
 have h2:=zLR (fun q hq=>Int.le_of_lt (po q hq).1.1) hy
 refine zRy fun h0=>?_
 rw[h0] at h1
 have:=hp.1.1
 simp only at h1
 omega
theorem zDN {o:Odr}(h:zAX o):(zY o=(if o.side=1 then(0,o.price*o.left) else(o.inst,o.left)))∧0<(zY o).2:=by
 have e:zY o=(if o.side=1 then(0,o.price*o.left) else(o.inst,o.left)):=by unfold zY;rw[if_pos ((zAf o).2 h)]
 refine⟨e,?_⟩
 rw[e]
 obtain⟨_,_,_,_,g4,g5⟩:=h
 split
 ·have:=Int.mul_pos (show 0<o.price by omega) (show 0<o.left by omega)
  exact this
 ·show 0<o.left;omega
theorem zEw {o:Odr}(h:zAX o):zAM o=[(o.acct,(zY o).1,(zY o).2)]:=by
 unfold zAM;rw[if_pos (zDN h).2]
theorem part_o {s:Sta}(h:Good s){o:Odr}(ho:o∈s.orders):(o.acct,(zY o).1,(zY o).2)∈zX s:=by
 unfold zX
 refine zz6 _ (List.mem_flatMap.2 ⟨o,ho,?_⟩)
 rw[zEw ((zAO.1 h.ords).2.1 o ho)];exact zz2 _
theorem part_a {s:Sta}(h:Good s){a:Auc}(ha:a∈s.aucs):(a.seller,a.inst,a.qty)∈zX s∧∀ b∈a.bids,((b.acct,0,b.amount):P3)∈zX s:=by
 have hm:=(zp.1 h.aucs).2.1 a ha
 have hp:zV a=(a.seller,a.inst,a.qty)::a.bids.map (fun b=>(b.acct,0,b.amount)):=by unfold zV;rw[if_pos hm]
 unfold zX
 refine⟨zz3 _ (List.mem_flatMap.2 ⟨a,ha,by rw[hp];exact zz2 _⟩),fun b hb=>zz3 _ (List.mem_flatMap.2 ⟨a,ha,by rw[hp];exact zz5 _ (List.mem_map.2 ⟨b,hb,rfl⟩)⟩)⟩
theorem zMr {s t:Sta}{n:List Int}(h:Good s)(he:zFD s n=(t,0)):Good t:=by
 unfold zFD at he
 by_cases h1:zAG s (nF n 0)=true
 ·rw[if_pos h1] at he
  by_cases h2:(s.rows.any fun r=>r.acct==nF n 0)=true
  ·rw[if_pos h2] at he;exact absurd (Prod.mk.inj he).2 (by decide)
  rw[if_neg h2] at he
  obtain rfl:=(Prod.mk.inj he).1
  have hr:∀ r∈s.rows,r.acct≠nF n 0:=fun r hr=>by
   have:=List.any_eq_false.1 (by simpa only[Bool.not_eq_true] using h2) r hr
   simpa using this
  have hp:∀ y∈zX s,y.1≠nF n 0:=fun y hy e=>by
   obtain⟨r,hr',e'⟩:=zR1 h hy
   exact hr r hr' ((congrArg Prod.fst e').trans e)
  obtain⟨p1,p2,p3⟩:=zCT.1 h1
  generalize hl:s.accts.set (nF n 0 - 1).toNat ⟨(ac_ s.accts (nF n 0 - 1).toNat).name,false⟩=l
  have hm:∀ a,zAG s a=true→a≠nF n 0→zAG { s with accts:=l } a=true:=fun a ha hne=>by
   obtain⟨o1,o2,o3⟩:=zCT.1 ha
   refine zCT.2 ⟨o1,?_,?_⟩
   ·show a≤(l.length:Int);rw[← hl,List.length_set];exact o2
   ·show(ac_ l (a - 1).toNat).opn=true
    rw[← hl,zMo qO,if_neg qO];exact o3
  have ha:=zB1.1 h.accts
  refine⟨h.nums,zB1.2 ⟨by show l.length≤64;rw[← hl,List.length_set];exact ha.1,?_⟩,h.insts,h.rows,fun r hr'=>?_,h.ords,fun o ho=>?_,h.aucs,fun a ha'=>?_,h.held⟩
  ·have:nmA l=nmA s.accts:=by
    unfold nmA
    have hlt:(nF n 0 - 1).toNat<s.accts.length:=by omega
    rw[← hl,List.map_set]
    have e:(ac_ s.accts (nF n 0 - 1).toNat).name=(s.accts.map (·.name))[(nF n 0 - 1).toNat]'(by rw[List.length_map];exact hlt):=by
     rw[ac_,List.getD_eq_getElem?_getD,List.getElem?_eq_getElem hlt,List.getElem_map];rfl
    simp only
    rw[e]
    exact List.set_getElem_self _
   show zBZ (nmA l)=true
   rw[this];exact ha.2
  ·have:=h.rowsIn r hr'
   exact⟨this.1.imp id fun g=>hm _ g (hr r hr'),this.2⟩
  ·have:=zAB.1 (h.ordsIn o ho)
   exact zAB.2 ⟨this.1,hm _ this.2.1 (hp _ (part_o h ho)),this.2.2.1,this.2.2.2⟩
  ·have:=zAW.1 (h.aucsIn a ha')
   obtain⟨q1,q2⟩:=part_a h ha'
   exact zAW.2 ⟨this.1,hm _ this.2.1 (hp _ q1),this.2.2.1,fun b hb=>hm _ (this.2.2.2 b hb) (hp _ (q2 b hb))⟩
 ·rw[if_neg h1] at he;exact absurd (Prod.mk.inj he).2 (by decide)
theorem zH6 {s:Sta}{a i p:Int}{m:Bool}(h:zAR s a i p m=0):zAG s a=true∧zBD s i=true∧(in_ s.insts (i - 1).toNat).halted=false∧p.tmod (in_ s.insts (i - 1).toNat).tick=0∧m=false:=by
 unfold zAR at h
 by_cases h1:zAG s a=true∧zBD s i=true
 ·rw[if_pos h1] at h
  simp only at h
  by_cases h2:(in_ s.insts (i - 1).toNat).halted=true
  ·rw[if_pos h2] at h;cases h
  rw[if_neg h2] at h
  by_cases h3:p.tmod (in_ s.insts (i - 1).toNat).tick≠0
  ·rw[if_pos h3] at h;cases h
  rw[if_neg h3] at h
  by_cases h4:m=true
  ·rw[if_pos h4] at h;cases h
  exact⟨h1.1,h1.2,by simpa using h2,Decidable.of_not_not h3,by simpa using h4⟩
 ·rw[if_neg h1] at h;cases h
theorem zH7 (a s f g:Int)(x:Pl):(dlF [⟨a,s,f,g⟩] x).2=if ((a,s):Pl)=x then g else 0:=by
 rw[zBN]
 by_cases h:a=x.1∧s=x.2
 ·rw[if_pos h,if_pos (Prod.ext h.1 h.2)];show(dlF [] x).2+g=g;show(0:Int)+g=g;omega
 ·rw[if_neg h,if_neg fun e=>h ⟨congrArg Prod.fst e,congrArg Prod.snd e⟩];rfl
theorem zC5 (a s n:Int)(x:Pl):zo [(a,s,n)] x=if ((a,s):Pl)=x then n else 0:=by
 rw[zC3,zGf]
 show(if ((a,s):Pl)=x then n else 0)+0=_
 omega
theorem zLS {l:List Odr}{o:Odr}(h:ze l=true)(ho:zw o=true)(hlt:∀ x∈l,x.id<o.id)(hn:l.length<128):zEp l o=(l++[o],0):=by
 unfold zEp
 rw[if_pos ⟨h,ho⟩]
 have hf:(zW l o.id).2=false:=by
  unfold zW
  rw[if_pos h,List.find?_eq_none.2 fun x hx=>by have:=hlt x hx;simp;omega]
 rw[hf]
 rw[if_neg (by simp),if_neg qO,List.filter_eq_self.2 fun x hx=>decide_eq_true (hlt x hx),List.filter_eq_nil_iff.2 fun x hx=>by have:=hlt x hx;simp;omega]
theorem zMs {s t:Sta}{n:List Int}(h:Good s)(hm:zw ⟨nF n 0,nF n 1,nF n 2,nF n 3,nF n 4,nF n 5⟩=true)(he:zDK s n=(t,0)):Good t:=by
 unfold zDK at he
 simp only at he
 generalize ho:(⟨nF n 0,nF n 1,nF n 2,nF n 3,nF n 4,nF n 5⟩:Odr)=o at he hm
 have hid:nF n 0=o.id:=by rw[← ho]
 have hac:nF n 1=o.acct:=by rw[← ho]
 have hin:nF n 2=o.inst:=by rw[← ho]
 have hpr:nF n 4=o.price:=by rw[← ho]
 rw[hid,hac,hin,hpr] at he
 by_cases h1:o.id≠s.nextO
 ·rw[if_pos h1] at he;exact absurd (Prod.mk.inj he).2 (by decide)
 rw[if_neg h1] at he
 by_cases h2:zAR s o.acct o.inst o.price (decide (128≤s.orders.length))≠0
 ·rw[if_pos h2] at he;exact absurd (Prod.mk.inj he).2 h2
 rw[if_neg h2] at he
 obtain⟨q1,q2,_,q4,q5⟩:=zH6 (Decidable.of_not_not h2)
 by_cases h3:(zAb s o.acct (zY o).1 (zY o).2).2≠0
 ·rw[if_pos h3] at he;rw[he] at h3;exact absurd rfl h3
 rw[if_neg h3] at he
 obtain rfl:=(Prod.mk.inj he).1
 have hm':=(zAf o).1 hm
 obtain⟨e1,e2⟩:=zDN hm'
 obtain⟨r1,r2⟩:=zC4 (s:=s) (p:=[⟨o.acct,(zY o).1,-(zY o).2,(zY o).2⟩]) (t:=(zAb s o.acct (zY o).1 (zY o).2).1) (Prod.ext rfl (Decidable.of_not_not h3))
 have hlt:∀ x∈s.orders,x.id<o.id:=fun x hx=>by have:=(zAB.1 (h.ordsIn x hx)).1;omega
 have hlen:s.orders.length<128:=by have:=zzB q5;omega
 have hadd:=zLS h.ords hm hlt hlen
 obtain⟨o1,o2,o3⟩:=zAO.1 h.ords
 have hn:=zAP.1 h.nums
 generalize (zAb s o.acct (zY o).1 (zY o).2).1=u at r1 r2 ⊢
 have u1:u.accts=s.accts:=by rw[r2]
 have u2:u.insts=s.insts:=by rw[r2]
 have u3:u.aucs=s.aucs:=by rw[r2]
 have u4:u.clock=s.clock∧u.fee=s.fee∧u.nextA=s.nextA:=by rw[r2];exact⟨rfl,rfl,rfl⟩
 have eo:∀ a,zAG { u with orders:=(zEp s.orders o).1,nextO:=s.nextO+1 } a=zAG s a:=fun a=>by unfold zAG;simp only;rw[u1]
 have eh:∀ a,zBD { u with orders:=(zEp s.orders o).1,nextO:=s.nextO+1 } a=zBD s a:=fun a=>by unfold zBD;simp only;rw[u2]
 have hinst:(zY o).1≤s.insts.length:=by
  rw[e1]
  split
  ·show(0:Int)≤_;omega
  ·exact(zAe.1 q2).2
 refine h.upd r1 ?_ u1 u2 (zAP.2 ?_) ?_ ?_ ?_ ?_ ?_
 ·intro q hq
  rw[List.mem_singleton] at hq;subst hq
  exact⟨.inr q1,hinst⟩
 ·simp only
  rw[u4.1,u4.2.1,u4.2.2]
  have:=hm'.1
  exact⟨hn.1,hn.2.1,by omega,hn.2.2.2⟩
 ·simp only
  rw[hadd]
  refine zAO.2 ⟨by rw[List.length_append,List.length_singleton];omega,fun x hx=>?_,?_⟩
  ·rcases List.mem_append.1 hx with e|e
   ·exact o2 x e
   ·rw[List.mem_singleton] at e;subst e;exact hm'
  ·rw[List.pairwise_append]
   exact⟨o3,by simp,fun a ha b hb=>by rw[List.mem_singleton] at hb;subst hb;exact hlt a ha⟩
 ·intro x hx
  simp only at hx
  rw[hadd] at hx
  refine zAB.2 ?_
  rw[eo,eh]
  simp only
  rw[u2]
  rcases List.mem_append.1 hx with e|e
  ·have:=zAB.1 (h.ordsIn x e)
   exact⟨by omega,this.2⟩
  ·rw[List.mem_singleton] at e;subst e
   exact⟨by omega,q1,q2,q4⟩
 ·simp only;rw[u3];exact h.aucs
 ·intro a ha
  simp only at ha
  rw[u3] at ha
  have:=zAW.1 (h.aucsIn a ha)
  refine zAW.2 ?_
  simp only[eo,eh]
  rw[u4.2.2]
  exact this
 ·intro x _
  unfold zX
  simp only
  rw[u3,hadd,List.flatMap_append,List.flatMap_singleton,zEw hm',zg,zg,zg,zC5,zH7]
  omega
def zDO (o:Odr):Int:=if o.side=1 then o.price else 1
theorem zFI {o:Odr}(h:zAX o):(zY o).2=zDO o*o.left:=by
 rw[(zDN h).1];unfold zDO
 split
 ·rfl
 ·show o.left=1*o.left;omega
def zBd (o:Odr)(q:Int):Odr:={ o with left:=o.left - q }
theorem zLT {o:Odr}(h:zAX o){q:Int}(h1:1≤q)(h2:q<o.left):zAX (zBd o q):=by
 obtain⟨a,b,c,d,e,f⟩:=h
 exact⟨a,b,c,d,e,by show 1≤o.left - q∧o.left - q≤1048576;omega⟩
theorem zPZ {o:Odr}(h:zAX o){q:Int}(h1:1≤q)(h2:q<o.left):(zY (zBd o q)).1=(zY o).1∧(zY (zBd o q)).2=(zY o).2 - zDO o*q:=by
 have h':=zLT h h1 h2
 constructor
 ·rw[(zDN h').1,(zDN h).1]
  show(if o.side=1 then((0:Int),o.price*(o.left - q)) else(o.inst,o.left - q)).1=_
  split<;>rfl
 ·rw[zFI h',zFI h]
  show zDO o*(o.left - q)=_
  rw[Int.mul_sub]
theorem zLU {l:List Odr}(h:l.Pairwise fun a b=>a.id<b.id){o:Odr}(ho:o∈l):∃ a b,l=a++o::b∧(∀ x∈a,x.id≠o.id)∧∀ x∈b,x.id≠o.id:=by
 obtain⟨a,b,rfl⟩:=List.append_of_mem ho
 rw[List.pairwise_append,List.pairwise_cons] at h
 refine⟨a,b,rfl,fun x hx=>?_,fun x hx=>?_⟩
 ·have:=h.2.2 x hx o (zz2 _);omega
 ·have:=h.2.1.1 x hx;omega
theorem zH8 {a b:List Odr}{o:Odr}{q:Int}(ha:∀ x∈a,x.id≠o.id)(hb:∀ x∈b,x.id≠o.id)(hpa:∀ x∈a,x.left≠0)(hpb:∀ x∈b,x.left≠0) :
  zBU (a++o::b) o.id q=a++((if o.left - q=0 then[] else[zBd o q])++b):=by
 have key:∀ l:List Odr,(∀ x∈l,x.id≠o.id)→(∀ x∈l,x.left≠0)→(l.map fun z=>if z.id=o.id then{ z with left:=z.left - q } else z).filter (fun z=>decide (z.left≠0))=l:=by
  intro l h1 h2
  have:(l.map fun z=>if z.id=o.id then{ z with left:=z.left - q } else z)=l:=by
   conv=>rhs;rw[← List.map_id l]
   exact List.map_congr_left fun z hz=>by rw[if_neg (h1 z hz)];rfl
  rw[this]
  exact List.filter_eq_self.2 fun z hz=>decide_eq_true (h2 z hz)
 unfold zBU
 rw[List.map_append,List.filter_append,key a ha hpa,List.map_cons,List.filter_cons,key b hb hpb,if_pos rfl]
 congr 1
 by_cases h0:o.left - q=0
 ·rw[if_pos h0,if_neg (by simp[h0])];rfl
 ·rw[if_neg h0,if_pos (by simp;exact h0)];rfl
structure TakeFx (l m:List Odr)(o:Odr)(q:Int):Prop where
 ok:ze m=true
 mem:∀ x∈m,x∈l∧x.id≠o.id∨x=zBd o q∧q<o.left
 keep:∀ x∈l,x.id≠o.id→x∈m
 held:∀ x,zo (m.flatMap zAM) x=zo (l.flatMap zAM) x - (if ((o.acct,(zY o).1):Pl)=x then zDO o*q else 0)
theorem zGH {l:List Odr}(h:ze l=true){o:Odr}(ho:o∈l){q:Int}(h1:1≤q)(h2:q≤o.left):TakeFx l (zBU l o.id q) o q:=by
 obtain⟨l1,l2,l3⟩:=zAO.1 h
 obtain⟨a,b,rfl,ha,hb⟩:=zLU l3 ho
 have hm:=l2 o ho
 have hp:∀ x∈a++o::b,x.left≠0:=fun x hx=>by have:=(l2 x hx).2.2.2.2.2;omega
 rw[zH8 ha hb (fun x hx=>hp x (List.mem_append_left _ hx)) (fun x hx=>hp x (List.mem_append_right _ (List.Mem.tail _ hx)))]
 rw[List.pairwise_append,List.pairwise_cons] at l3
 by_cases h0:o.left - q=0
 ·rw[if_pos h0,List.nil_append]
  refine⟨zAO.2 ⟨?_,fun x hx=>?_,?_⟩,fun x hx=>.inl ?_,fun x hx hne=>?_,fun x=>?_⟩
  ·simp only[List.length_append,List.length_cons] at l1 ⊢;omega
  ·rcases List.mem_append.1 hx with e|e
   ·exact l2 x (zz6 _ e)
   ·exact l2 x (zz3 _ (zz5 _ e))
  ·rw[List.pairwise_append]
   exact⟨l3.1,l3.2.1.2,fun x hx y hy=>l3.2.2 x hx y (zz5 _ hy)⟩
  ·rcases List.mem_append.1 hx with e|e
   ·exact⟨zz6 _ e,ha x e⟩
   ·exact⟨zz3 _ (zz5 _ e),hb x e⟩
  ·rcases List.mem_append.1 hx with e|e
   ·exact zz6 _ e
   ·rcases List.mem_cons.1 e with e|e
    ·subst e;exact absurd rfl hne
    ·exact zz3 _ e
  ·rw[List.flatMap_append,List.flatMap_append,List.flatMap_cons,zg,zg,zg,zEw hm,zC5,zFI hm,show q=o.left by omega]
   split<;>omega
 ·rw[if_neg h0]
  have hlt:q<o.left:=by omega
  have hm':=zLT hm h1 hlt
  refine⟨zAO.2 ⟨?_,fun x hx=>?_,?_⟩,fun x hx=>?_,fun x hx hne=>?_,fun x=>?_⟩
  ·simp only[List.length_append,List.length_cons,List.length_nil] at l1 ⊢;omega
  ·rcases List.mem_append.1 hx with e|e
   ·exact l2 x (zz6 _ e)
   ·rcases List.mem_append.1 e with e|e
    ·rw[List.mem_singleton] at e;subst e;exact hm'
    ·exact l2 x (zz3 _ (zz5 _ e))
  ·rw[List.singleton_append,List.pairwise_append,List.pairwise_cons]
   refine⟨l3.1,⟨fun y hy=>l3.2.1.1 y hy,l3.2.1.2⟩,fun x hx y hy=>?_⟩
   rcases List.mem_cons.1 hy with e|e
   ·subst e;exact l3.2.2 x hx o (zz2 _)
   ·exact l3.2.2 x hx y (zz5 _ e)
  ·rcases List.mem_append.1 hx with e|e
   ·exact .inl ⟨zz6 _ e,ha x e⟩
   ·rcases List.mem_append.1 e with e|e
    ·rw[List.mem_singleton] at e;exact .inr ⟨e,hlt⟩
    ·exact .inl ⟨zz3 _ (zz5 _ e),hb x e⟩
  ·rcases List.mem_append.1 hx with e|e
   ·exact zz6 _ e
   ·rcases List.mem_cons.1 e with e|e
    ·subst e;exact absurd rfl hne
    ·exact zz3 _ (zz3 _ e)
  ·obtain⟨g1,g2⟩:=zPZ hm h1 hlt
   rw[List.flatMap_append,zg,List.flatMap_append,zg,List.flatMap_singleton,List.flatMap_append,zg,List.flatMap_cons,zg,zEw hm,zEw hm',zC5,zC5,g1,g2]
   show _+((if ((o.acct,(zY o).1):Pl)=x then(zY o).2 - zDO o*q else 0)+_)=_
   split<;>omega
theorem zCh {l:List Odr}{id:Int}(h:(zW l id).2=true):ze l=true∧(zW l id).1∈l∧(zW l id).1.id=id:=by
 unfold zW at h ⊢
 by_cases h1:ze l=true
 ·rw[if_pos h1] at h ⊢
  cases hf:l.find? (fun o=>o.id==id) with
  | none=>rw[hf] at h;cases h
  | some o =>
    have:=List.find?_some hf
    exact⟨h1,List.mem_of_find?_eq_some hf,by simpa using this⟩
 ·rw[if_neg h1] at h;cases h
theorem zBO {l:List Odr}(h:ze l=true){o:Odr}(ho:o∈l):zW l o.id=(o,true):=by
 unfold zW
 rw[if_pos h]
 obtain⟨_,_,l3⟩:=zAO.1 h
 cases hf:l.find? (fun x=>x.id==o.id) with
 | none=>have:=List.find?_eq_none.1 hf o ho;simp at this
 | some x =>
   have h1:=List.find?_some hf
   have h2:=List.mem_of_find?_eq_some hf
   obtain⟨a,b,rfl,ha,hb⟩:=zLU l3 ho
   have:x=o:=by
    rcases List.mem_append.1 h2 with e|e
    ·exact absurd (by simpa using h1) (ha x e)
    ·rcases List.mem_cons.1 e with e|e
     ·exact e
     ·exact absurd (by simpa using h1) (hb x e)
   rw[this]
theorem zDp {l:List Odr}(h:ze l=true){o:Odr}(ho:o∈l){q:Int}(h1:1≤q)(h2:q≤o.left):zAs l o.id q=(zBU l o.id q,0):=by
 unfold zAs
 rw[if_pos h,zBO h ho,if_pos rfl,if_neg (by simp only;omega)]
theorem zGI {s u:Sta}{m:List Odr}(h:Good s)(e1:u.accts=s.accts)(e2:u.insts=s.insts)(e3:u.nextO=s.nextO)(hm:∀ x∈m,∃ y∈s.orders,x.id=y.id∧x.acct=y.acct∧x.inst=y.inst∧x.price=y.price):∀ x∈m,zCS u x=true:=by
 intro x hx
 obtain⟨y,hy,a1,a2,a3,a4⟩:=hm x hx
 have:=zAB.1 (h.ordsIn y hy)
 refine zAB.2 ?_
 unfold zAG zBD at *
 rw[e1,e2,e3,a1,a2,a3,a4]
 exact this
theorem zKC {s u:Sta}(h:Good s)(e1:u.accts=s.accts)(e2:u.insts=s.insts)(e3:u.nextA=s.nextA):∀ a∈s.aucs,zCD u a=false:=by
 intro a ha
 have:=zAW.1 (h.aucsIn a ha)
 refine zAW.2 ?_
 unfold zAG zBD at *
 rw[e1,e2,e3]
 exact this
theorem zIh {s t:Sta}{n:List Int}(h:Good s)(he:zBb s n=(t,0)):Good t:=by
 unfold zBb at he
 simp only at he
 by_cases h1:(zW s.orders (nF n 0)).2=true
 ·rw[if_pos h1] at he
  obtain⟨_,f1,f2⟩:=zCh h1
  generalize (zW s.orders (nF n 0)).1=o at he f1 f2
  have hm:=(zAO.1 h.ords).2.1 o f1
  have hl:=hm.2.2.2.2.2
  have hd:(zDI s.orders o.id).1=zBU s.orders o.id o.left:=by
   unfold zDI
   rw[zBO h.ords f1,zDp h.ords f1 hl.1 (Int.le_refl _)]
  rw[hd] at he
  have fx:=zGH h.ords f1 hl.1 (Int.le_refl o.left)
  obtain⟨r1,r2⟩:=zC4 he
  have ho:=zAB.1 (h.ordsIn o f1)
  have hinst:(zY o).1≤s.insts.length:=by
   rw[(zDN hm).1]
   split
   ·show(0:Int)≤_;omega
   ·exact(zAe.1 ho.2.2.1).2
  have u1:t.accts=s.accts:=by rw[r2]
  have u2:t.insts=s.insts:=by rw[r2]
  have u3:t.aucs=s.aucs:=by rw[r2]
  have u4:t.orders=zBU s.orders o.id o.left:=by rw[r2]
  have u5:t.nextO=s.nextO:=by rw[r2]
  have u6:t.nextA=s.nextA:=by rw[r2]
  have u7:t.clock=s.clock:=by rw[r2]
  have u8:t.fee=s.fee:=by rw[r2]
  refine h.upd r1 ?_ u1 u2 (zAP.2 (by rw[u5,u6,u7,u8];exact zAP.1 h.nums)) (by rw[u4];exact fx.ok) ?_ (by rw[u3];exact h.aucs) (by rw[u3];exact zKC h u1 u2 u6) ?_
  ·intro q hq
   rw[List.mem_singleton] at hq;subst hq
   exact⟨.inr ho.2.1,hinst⟩
  ·rw[u4]
   refine zGI h u1 u2 u5 fun x hx=>?_
   rcases fx.mem x hx with e|e
   ·exact⟨x,e.1,rfl,rfl,rfl,rfl⟩
   ·exact absurd e.2 (Int.lt_irrefl _)
  ·intro x _
   unfold zX
   rw[u3,u4,zg,zg,fx.held x,zH7,zFI hm]
   split<;>omega
 ·rw[if_neg h1] at he;exact absurd (Prod.mk.inj he).2 (by decide)
theorem zBe {o u:Odr}(h:zn o u=true):zAX o∧zAX u∧o.inst=u.inst∧o.side≠u.side∧(if o.side=1 then u.price≤o.price else o.price≤u.price):=by
 unfold zn at h
 simp only[Bool.and_eq_true,zAf,beq_iff_eq,bne_iff_ne] at h
 refine⟨h.1.1.1.1,h.1.1.1.2,h.1.1.2,h.1.2,?_⟩
 have:=h.2
 split
 ·rename_i e;rw[if_pos e] at this;simpa using this
 ·rename_i e;rw[if_neg e] at this;simpa using this
theorem zH9 {b l:Odr}(hb:zAX b)(hl:zAX l)(sb:b.side=1)(sl:l.side=2)(inst p q f:Int)(hi:l.inst=inst)(x:Pl) :
  (dlF (zBI b l inst p q f) x).2=-(if ((b.acct,(zY b).1):Pl)=x then zDO b*q else 0) - (if ((l.acct,(zY l).1):Pl)=x then zDO l*q else 0):=by
 have e1:(zY b).1=0:=by rw[(zDN hb).1,if_pos sb]
 have e2:(zY l).1=inst:=by rw[(zDN hl).1,if_neg qO];exact hi
 have e3:zDO b=b.price:=by unfold zDO;rw[if_pos sb]
 have e4:zDO l=1:=by unfold zDO;rw[if_neg qO]
 have step:∀ (a s f g:Int) (p:List Pst),(dlF (⟨a,s,f,g⟩::p) x).2=(dlF p x).2+if ((a,s):Pl)=x then g else 0:=by
  intro a s f g p
  rw[zBN]
  by_cases h:a=x.1∧s=x.2
  ·rw[if_pos h,if_pos (Prod.ext h.1 h.2)]
  ·rw[if_neg h,if_neg fun e=>h ⟨congrArg Prod.fst e,congrArg Prod.snd e⟩];omega
 unfold zBI
 rw[step,step,step,step,step,e1,e2,e3,e4,Int.neg_mul]
 show((((0+_)+_)+_)+_)+_=_
 have z:∀ c:Prop,[Decidable c]→(if c then(0:Int) else 0)=0:=fun c _=>by split<;>rfl
 rw[z,z,z]
 split<;>split<;>omega
theorem zMt {s t:Sta}{n:List Int}(h:Good s)(he:zEE s n=(t,0)):Good t:=by
 unfold zEE at he
 simp only at he
 by_cases h1:(zW s.orders (nF n 0)).2=true∧(zW s.orders (nF n 1)).2=true
 ·rw[if_pos h1] at he
  obtain⟨_,f1,f2⟩:=zCh h1.1
  obtain⟨_,g1,g2⟩:=zCh h1.2
  generalize (zW s.orders (nF n 0)).1=o at he f1 f2
  generalize (zW s.orders (nF n 1)).1=u at he g1 g2
  by_cases h2:zCy s n o u=true
  ·rw[if_pos h2] at he
   unfold zCy at h2
   simp only[Bool.and_eq_true,beq_iff_eq] at h2
   obtain⟨⟨⟨⟨⟨_,_⟩,hc⟩,hp⟩,hq⟩,hf⟩:=h2
   obtain⟨mo,mu,hin,hsd,hpr⟩:=zBe hc
   by_cases h3:o.acct=u.acct
   ·rw[if_pos h3] at he;exact absurd (Prod.mk.inj he).2 (by decide)
   rw[if_neg h3] at he
   generalize nF n 2=price at *
   generalize nF n 3=qty at *
   generalize nF n 4=fee at *
   generalize hP:(if o.side=2 then zBI u o o.inst price qty fee else zBI o u o.inst price qty fee)=P at he
   by_cases h4:(zm s P).2≠0
   ·rw[if_pos h4] at he;rw[he] at h4;exact absurd rfl h4
   rw[if_neg h4] at he
   obtain rfl:=(Prod.mk.inj he).1
   obtain⟨r1,r2⟩:=zC4 (s:=s) (p:=P) (t:=(zm s P).1) (Prod.ext rfl (Decidable.of_not_not h4))
   generalize (zm s P).1=w at r1 r2 ⊢
   have lo:=mo.2.2.2.2.2
   have lu:=mu.2.2.2.2.2
   have q1:1≤qty:=by omega
   have q2:qty≤o.left:=by omega
   have q3:qty≤u.left:=by omega
   have fx:=zGH h.ords f1 q1 q2
   have hne:u.id≠o.id:=fun e=>by
    have:=zBO h.ords f1
    rw[← e,zBO h.ords g1] at this
    have:=(Prod.mk.inj this).1
    rw[this] at hsd
    exact hsd rfl
   have gx:=zGH fx.ok (fx.keep u g1 hne) q1 q3
   have e1:(zAs (zAs s.orders o.id qty).1 u.id qty).1=zBU (zBU s.orders o.id qty) u.id qty:=by
    rw[zDp h.ords f1 q1 q2,zDp fx.ok (fx.keep u g1 hne) q1 q3]
   rw[e1]
   have ho:=zAB.1 (h.ordsIn o f1)
   have hu:=zAB.1 (h.ordsIn u g1)
   have u1:w.accts=s.accts:=by rw[r2]
   have u2:w.insts=s.insts:=by rw[r2]
   have u3:w.aucs=s.aucs:=by rw[r2]
   have u5:w.nextO=s.nextO:=by rw[r2]
   have u6:w.nextA=s.nextA:=by rw[r2]
   have u7:w.clock=s.clock:=by rw[r2]
   have u8:w.fee=s.fee:=by rw[r2]
   have hs1:=mo.2.2.2.1
   have hs2:=mu.2.2.2.1
   have hdl:∀ x,(dlF P x).2=-(if ((o.acct,(zY o).1):Pl)=x then zDO o*qty else 0) - (if ((u.acct,(zY u).1):Pl)=x then zDO u*qty else 0):=fun x=>by
    rw[← hP]
    by_cases h5:o.side=2
    ·rw[if_pos h5,zH9 mu mo qO h5 _ _ _ _ rfl];omega
    ·rw[if_neg h5,zH9 mo mu qO qO _ _ _ _ hin.symm]
   have hinP:InP s P:=by
    have hi:=zAe.1 ho.2.2.1
    rw[← hP]
    intro q hq
    have z:(0:Int)≤s.insts.length:=by omega
    split at hq <;>
    ·unfold zBI at hq
     simp only[List.mem_cons,List.not_mem_nil,or_false] at hq
     rcases hq with rfl|rfl|rfl|rfl|rfl
     ·exact⟨.inr (by first|exact hu.2.1|exact ho.2.1),z⟩
     ·exact⟨.inr (by first|exact ho.2.1|exact hu.2.1),z⟩
     ·exact⟨.inl (Int.le_refl _),z⟩
     ·exact⟨.inr (by first|exact ho.2.1|exact hu.2.1),hi.2⟩
     ·exact⟨.inr (by first|exact hu.2.1|exact ho.2.1),hi.2⟩
   refine h.upd (t:={ w with orders:=zBU (zBU s.orders o.id qty) u.id qty }) r1 hinP u1 u2 (zAP.2 (by simp only;rw[u5,u6,u7,u8];exact zAP.1 h.nums)) gx.ok ?_ (by simp only;rw[u3];exact h.aucs) (by simp only;rw[u3];exact zKC h u1 u2 u6) ?_
   ·refine zGI (s:=s) h u1 u2 u5 fun x hx=>?_
    have back:∀ y,y∈zBU s.orders o.id qty→∃ z∈s.orders,y.id=z.id∧y.acct=z.acct∧y.inst=z.inst∧y.price=z.price:=fun y hy=>by
     rcases fx.mem y hy with e|e
     ·exact⟨y,e.1,rfl,rfl,rfl,rfl⟩
     ·rw[e.1];exact⟨o,f1,rfl,rfl,rfl,rfl⟩
    rcases gx.mem x hx with e|e
    ·exact back x e.1
    ·rw[e.1];exact⟨u,g1,rfl,rfl,rfl,rfl⟩
   ·intro x _
    unfold zX
    simp only
    rw[u3,zg,zg,gx.held x,fx.held x,hdl x]
    omega
  ·rw[if_neg h2] at he;exact absurd (Prod.mk.inj he).2 (by decide)
 ·rw[if_neg h1] at he;exact absurd (Prod.mk.inj he).2 (by decide)
theorem zGh (p:List Pst)(x:Pl):(dlF p x).2=(p.map fun q=>if ((q.acct,q.asset):Pl)=x then q.held else 0).sum:=by
 induction p with
 | nil=>rfl
 | cons q p ih =>
   rw[zBN,List.map_cons,List.sum_cons,← ih]
   by_cases h:q.acct=x.1∧q.asset=x.2
   ·rw[if_pos h,if_pos (Prod.ext h.1 h.2)];simp only;omega
   ·rw[if_neg h,if_neg fun e=>h ⟨congrArg Prod.fst e,congrArg Prod.snd e⟩];omega
def bP3 (b:Bid):P3:=(b.acct,0,b.amount)
theorem zC6 {a:Auc}(h:zAT a=true)(x:Pl):zo (zV a) x=(if ((a.seller,a.inst):Pl)=x then a.qty else 0)+zo (a.bids.map bP3) x:=by
 unfold zV
 rw[if_pos h,zC3];rfl
theorem zOC (a:Auc)(x:Pl):(dlF (zAg a) x).2=-(if ((a.seller,a.inst):Pl)=x then a.qty else 0) - zo (a.bids.map bP3) x:=by
 rw[zGh]
 unfold zAg zo
 rw[List.map_append,List.sum_append,List.map_map,List.map_map]
 have:(a.bids.map ((fun q:Pst=>if ((q.acct,q.asset):Pl)=x then q.held else 0) ∘ fun b=>(⟨b.acct,0,b.amount,-b.amount⟩:Pst))).sum=-(a.bids.map ((fun y:P3=>if zAx y=x then y.2.2 else 0) ∘ bP3)).sum:=by
  induction a.bids with
  | nil=>rfl
  | cons b l ih =>
    rw[List.map_cons,List.map_cons,List.sum_cons,List.sum_cons,ih]
    simp only[Function.comp]
    show(if ((b.acct,0):Pl)=x then -b.amount else 0)+_=-((if ((b.acct,0):Pl)=x then b.amount else 0)+_)
    split<;>omega
 rw[this]
 simp only[List.map_cons,List.map_nil,List.sum_cons,List.sum_nil]
 split<;>omega
theorem dl_app (p q:List Pst)(x:Pl):(dlF (p++q) x).2=(dlF p x).2+(dlF q x).2:=by rw[zGh,zGh,zGh,List.map_append,List.sum_append]
theorem zOD {p:List Pst}(h:∀ q∈p,q.held=0)(x:Pl):(dlF p x).2=0:=by
 rw[zGh]
 exact zGC fun q hq=>by rw[h q hq];split<;>rfl
theorem zR2 {s:Sta}{id:Int}(h:¬ zAV s id<0):(zAV s id).toNat<s.aucs.length∧(au_ s.aucs (zAV s id).toNat).id=id:=by
 unfold zAV at h ⊢
 rcases zZ (fun j=>(au_ s.aucs j).id==id) s.aucs.length with ⟨k,hk,_,hp,hx⟩|⟨_,hx⟩
 ·rw[hx,Int.toNat_natCast]
  exact⟨hk,by simpa using hp⟩
 ·rw[hx] at h;exact absurd (by decide) h
theorem zIA {l:List Auc}{i:Nat}(hi:i<l.length):l=l.take i++au_ l i::l.drop (i+1):=by
 conv=>lhs;rw[← List.take_append_drop i l,List.drop_eq_getElem_cons hi]
 simp[au_,List.getD_eq_getElem?_getD,List.getElem?_eq_getElem hi]
theorem zI9 {s t:Sta}{a:Auc}(h:Good s)(hm:zAT a=true)(hb:a.bids=[])(he:zEF s a=(t,0)):Good t:=by
 unfold zEF at he
 by_cases h1:a.id≠s.nextA∨a.fin≤s.clock
 ·rw[if_pos h1] at he;exact absurd (Prod.mk.inj he).2 (by decide)
 rw[if_neg h1] at he
 by_cases h2:zAR s a.seller a.inst 0 (decide (32≤s.aucs.length))≠0
 ·rw[if_pos h2] at he;exact absurd (Prod.mk.inj he).2 h2
 rw[if_neg h2] at he
 obtain⟨q1,q2,_,_,q5⟩:=zH6 (Decidable.of_not_not h2)
 simp only at he
 by_cases h3:(zAb s a.seller a.inst a.qty).2≠0
 ·rw[if_pos h3] at he;rw[he] at h3;exact absurd rfl h3
 rw[if_neg h3] at he
 obtain rfl:=(Prod.mk.inj he).1
 obtain⟨r1,r2⟩:=zC4 (s:=s) (p:=[⟨a.seller,a.inst,-a.qty,a.qty⟩]) (t:=(zAb s a.seller a.inst a.qty).1) (Prod.ext rfl (Decidable.of_not_not h3))
 generalize (zAb s a.seller a.inst a.qty).1=u at r1 r2 ⊢
 have u1:u.accts=s.accts:=by rw[r2]
 have u2:u.insts=s.insts:=by rw[r2]
 have u3:u.orders=s.orders:=by rw[r2]
 have u4:u.clock=s.clock∧u.fee=s.fee∧u.nextO=s.nextO:=by rw[r2];exact⟨rfl,rfl,rfl⟩
 obtain⟨l1,l2,l3⟩:=zp.1 h.aucs
 have hn:=zAP.1 h.nums
 have hid:=zMl hm
 have hlen:s.aucs.length<32:=by have:=zzB q5;omega
 have hlt:∀ x∈s.aucs,x.id<a.id:=fun x hx=>by have:=(zAW.1 (h.aucsIn x hx)).1;omega
 refine h.upd (t:={ u with aucs:=s.aucs++[a],nextA:=s.nextA+1 }) r1 ?_ u1 u2 (zAP.2 ?_) (by simp only;rw[u3];exact h.ords) ?_ (zp.2 ⟨?_,?_,?_⟩) ?_ ?_
 ·intro q hq
  rw[List.mem_singleton] at hq;subst hq
  exact⟨.inr q1,(zAe.1 q2).2⟩
 ·simp only
  rw[u4.1,u4.2.1,u4.2.2]
  exact⟨hn.1,hn.2.1,hn.2.2.1,by omega⟩
 ·simp only
  rw[u3]
  exact zGI (s:=s) h u1 u2 u4.2.2 fun x hx=>⟨x,hx,rfl,rfl,rfl,rfl⟩
 ·simp only[List.length_append,List.length_singleton];omega
 ·intro x hx
  rcases List.mem_append.1 hx with e|e
  ·exact l2 x e
  ·rw[List.mem_singleton] at e;subst e;exact hm
 ·simp only
  rw[List.pairwise_append]
  exact⟨l3,by simp,fun x hx y hy=>by rw[List.mem_singleton] at hy;subst hy;exact hlt x hx⟩
 ·intro x hx
  refine zAW.2 ?_
  unfold zAG zBD at *
  simp only
  rw[u1,u2]
  rcases List.mem_append.1 hx with e|e
  ·have:=zAW.1 (h.aucsIn x e)
   unfold zAG zBD at this
   exact⟨by omega,this.2⟩
  ·rw[List.mem_singleton] at e;subst e
   exact⟨by omega,q1,q2,fun b hb'=>by rw[hb] at hb';cases hb'⟩
 ·intro x _
  unfold zX
  simp only
  rw[u3,List.flatMap_append,List.flatMap_singleton,zg,zg,zg,zC6 hm,hb,zH7,List.map_nil,zGf]
  omega
theorem zUE {a:Auc}(hm:zAT a=true)(hs:a.sealed=false):(a.bids=[]∧(zAD a).2=false)∨∃ b,a.bids=[b]∧zAD a=(b,true):=by
 have hl:=(zFH hm hs).1
 have ht:=zRq hm
 match hb:a.bids with
 | []=>left;refine⟨rfl,?_⟩;rw[ht,hb];decide
 | [b] =>
   right
   refine⟨b,rfl,?_⟩
   have h2:(zAD a).2=true:=by rw[ht,hb];simp
   have h1:(zAD a).1=b:=by
    unfold zAD
    rw[hb]
    have:hi [b]=0:=by simp[hi,zCL]
    rw[this,hm];rfl
   exact Prod.ext h1 h2
 | b::c::r=>rw[hb] at hl;simp at hl
theorem zOE {s t:Sta}{n:List Int}{sl:Bool}(h:Good s)(he:zJz s n sl=(t,0)):Good t:=by
 unfold zJz at he
 simp only at he
 by_cases h1:zAV s (nF n 0)<0∨(au_ s.aucs (zAV s (nF n 0)).toNat).sealed≠sl
 ·rw[if_pos h1] at he;exact absurd (Prod.mk.inj he).2 (by decide)
 rw[if_neg h1] at he
 obtain⟨hi,hid⟩:=zR2 (fun e=>h1 (.inl e))
 generalize (zAV s (nF n 0)).toNat=i at *
 generalize ha:au_ s.aucs i=a at *
 have hsl:a.sealed=sl:=Decidable.of_not_not fun e=>h1 (.inr e)
 have hmem:a∈s.aucs:=ha ▸ zk hi
 by_cases h2:zAG s (nF n 1)=true
 ·rw[if_pos h2] at he
  by_cases h3:zAA a s.clock=true
  ·rw[if_pos h3] at he;exact absurd (Prod.mk.inj he).2 (by decide)
  rw[if_neg h3] at he
  generalize hb:(⟨nF n 1,nF n 2⟩:Bid)=b at he
  have hbo:zAG s b.acct=true:=by rw[← hb];exact h2
  by_cases h4:(zU a b).2≠0
  ·rw[if_pos h4] at he;exact absurd (Prod.mk.inj he).2 h4
  rw[if_neg h4] at he
  have tk:Taken a b (zU a b).1:=taken (Prod.ext rfl (Decidable.of_not_not h4))
  generalize (zU a b).1=c at tk he
  generalize hP:(⟨nF n 1,0,-nF n 2,nF n 2⟩::(if (zAD a).2=true∧sl=false then[⟨(zAD a).1.acct,0,(zAD a).1.amount,-(zAD a).1.amount⟩] else[]):List Pst)=P at he
  rw[show nF n 1=b.acct by rw[← hb],show nF n 2=b.amount by rw[← hb]] at hP
  by_cases h5:(zm s P).2≠0
  ·rw[if_pos h5] at he;rw[he] at h5;exact absurd rfl h5
  rw[if_neg h5] at he
  obtain rfl:=(Prod.mk.inj he).1
  obtain⟨r1,r2⟩:=zC4 (s:=s) (p:=P) (t:=(zm s P).1) (Prod.ext rfl (Decidable.of_not_not h5))
  generalize (zm s P).1=u at r1 r2 ⊢
  have u1:u.accts=s.accts:=by rw[r2]
  have u2:u.insts=s.insts:=by rw[r2]
  have u3:u.orders=s.orders:=by rw[r2]
  have u4:u.clock=s.clock∧u.fee=s.fee∧u.nextO=s.nextO∧u.nextA=s.nextA:=by rw[r2];exact⟨rfl,rfl,rfl,rfl⟩
  have hma:=tk.may
  have hmc:=zPU tk
  have cid:c.id=a.id∧c.seller=a.seller∧c.inst=a.inst∧c.qty=a.qty:=by rw[tk.put];exact⟨rfl,rfl,rfl,rfl⟩
  obtain⟨l1,l2,l3⟩:=zp.1 h.aucs
  have hA:=zAW.1 (h.aucsIn a hmem)
  have z:(0:Int)≤s.insts.length:=by omega
  have hbid:(∀ x,zo (c.bids.map bP3) x=zo (a.bids.map bP3) x+(dlF P x).2)∧InP s P∧∀ y∈c.bids,zAG s y.acct=true:=by
   cases hsl':sl with
   | true =>
     have e:=(zGD tk (hsl.trans hsl')).1
     have ec:c.bids=a.bids++[b]:=by rw[e];rfl
     rw[hsl',if_neg (fun g=>by cases g.2)] at hP
     refine⟨fun x=>?_,fun q hq=>?_,fun y hy=>?_⟩
     ·rw[ec,List.map_append,zg,← hP,zH7,List.map_cons,List.map_nil,bP3,zC5]
     ·rw[← hP,List.mem_singleton] at hq;subst hq;exact⟨.inr hbo,z⟩
     ·rw[ec] at hy
      rcases List.mem_append.1 hy with g|g
      ·exact hA.2.2.2 y g
      ·rw[List.mem_singleton] at g;subst g;exact hbo
   | false =>
     have e:=(zI4 tk (hsl.trans hsl')).1
     have ec:c.bids=[b]:=by rw[e];rfl
     rcases zUE hma (hsl.trans hsl') with ⟨g1,g2⟩|⟨d,g1,g2⟩
     ·rw[hsl',if_neg (fun g=>by rw[g2] at g;cases g.1)] at hP
      refine⟨fun x=>?_,fun q hq=>?_,fun y hy=>?_⟩
      ·rw[ec,g1,← hP,zH7,List.map_cons,List.map_nil,bP3,zC5,zGf];omega
      ·rw[← hP,List.mem_singleton] at hq;subst hq;exact⟨.inr hbo,z⟩
      ·rw[ec,List.mem_singleton] at hy;subst hy;exact hbo
     ·rw[hsl',g2,if_pos ⟨rfl,rfl⟩] at hP
      have hd:zAG s d.acct=true:=hA.2.2.2 d (by rw[g1];exact zz2 _)
      refine⟨fun x=>?_,fun q hq=>?_,fun y hy=>?_⟩
      ·rw[ec,g1,← hP,zGh]
       simp only[List.map_cons,List.map_nil,bP3,zC5,List.sum_cons,List.sum_nil]
       split<;>split<;>omega
      ·rw[← hP] at hq
       simp only[List.mem_cons,List.not_mem_nil,or_false] at hq
       rcases hq with rfl|rfl
       ·exact⟨.inr hbo,z⟩
       ·exact⟨.inr hd,z⟩
      ·rw[ec,List.mem_singleton] at hy;subst hy;exact hbo
  obtain⟨b1,b2,b3⟩:=hbid
  have hsp:=zIA hi
  rw[ha] at hsp
  have hset:s.aucs.set i c=s.aucs.take i++c::s.aucs.drop (i+1):=List.set_eq_take_append_cons_drop .. |>.trans (if_pos hi)
  refine h.upd (t:={ u with aucs:=s.aucs.set i c }) r1 b2 u1 u2 (zAP.2 (by simp only;rw[u4.1,u4.2.1,u4.2.2.1,u4.2.2.2];exact zAP.1 h.nums)) (by simp only;rw[u3];exact h.ords) ?_ (zp.2 ⟨by rw[List.length_set];exact l1,?_,?_⟩) ?_ ?_
  ·simp only
   rw[u3]
   exact zGI (s:=s) h u1 u2 u4.2.2.1 fun x hx=>⟨x,hx,rfl,rfl,rfl,rfl⟩
  ·intro x hx
   rcases List.mem_or_eq_of_mem_set hx with e|e
   ·exact l2 x e
   ·rw[e];exact hmc
  ·simp only
   rw[hset]
   rw[hsp] at l3
   rw[List.pairwise_append,List.pairwise_cons] at l3 ⊢
   refine⟨l3.1,⟨fun y hy=>by rw[cid.1];exact l3.2.1.1 y hy,l3.2.1.2⟩,fun x hx y hy=>?_⟩
   rcases List.mem_cons.1 hy with e|e
   ·subst e;rw[cid.1];exact l3.2.2 x hx a (zz2 _)
   ·exact l3.2.2 x hx y (zz5 _ e)
  ·intro x hx
   refine zAW.2 ?_
   unfold zAG zBD at *
   simp only
   rw[u1,u2,u4.2.2.2]
   rcases List.mem_or_eq_of_mem_set hx with e|e
   ·exact zAW.1 (h.aucsIn x e)
   ·subst e
    rw[cid.1,cid.2.1,cid.2.2.1]
    exact⟨hA.1,hA.2.1,hA.2.2.1,b3⟩
  ·intro x _
   unfold zX
   simp only
   rw[u3,hset]
   have e:zo (s.aucs.flatMap zV) x=zo ((s.aucs.take i).flatMap zV) x+(zo (zV a) x+zo ((s.aucs.drop (i+1)).flatMap zV) x):=by
    conv=>lhs;rw[hsp]
    rw[List.flatMap_append,List.flatMap_cons,zg,zg]
   rw[zg,zg,e,List.flatMap_append,List.flatMap_cons,zg,zg,zC6 hmc,zC6 hma,cid.2.1,cid.2.2.1,cid.2.2.2,b1 x]
   omega
 ·rw[if_neg h2] at he;exact absurd (Prod.mk.inj he).2 (by decide)
theorem zIB {s t:Sta}{i:Nat}{p:List Pst}(h:Good s)(hi:i<s.aucs.length)(hp:InP s p)(h0:∀ q∈p,q.held=0)(he:zAz s i p=(t,0)):Good t:=by
 unfold zAz at he
 simp only at he
 generalize ha:au_ s.aucs i=a at he
 have hmem:a∈s.aucs:=ha ▸ zk hi
 have hA:=zAW.1 (h.aucsIn a hmem)
 obtain⟨l1,l2,l3⟩:=zp.1 h.aucs
 by_cases h5:(zm s (p++zAg a)).2≠0
 ·rw[if_pos h5] at he;rw[he] at h5;exact absurd rfl h5
 rw[if_neg h5] at he
 obtain rfl:=(Prod.mk.inj he).1
 obtain⟨r1,r2⟩:=zC4 (s:=s) (p:=p++zAg a) (t:=(zm s (p++zAg a)).1) (Prod.ext rfl (Decidable.of_not_not h5))
 generalize (zm s (p++zAg a)).1=u at r1 r2 ⊢
 have u1:u.accts=s.accts:=by rw[r2]
 have u2:u.insts=s.insts:=by rw[r2]
 have u3:u.orders=s.orders:=by rw[r2]
 have u4:u.clock=s.clock∧u.fee=s.fee∧u.nextO=s.nextO∧u.nextA=s.nextA:=by rw[r2];exact⟨rfl,rfl,rfl,rfl⟩
 have hsp:=zIA hi
 rw[ha] at hsp
 have her:s.aucs.eraseIdx i=s.aucs.take i++s.aucs.drop (i+1):=List.eraseIdx_eq_take_drop_succ ..
 have hsub:∀ x,x∈s.aucs.eraseIdx i→x∈s.aucs:=fun x hx=>List.mem_of_mem_eraseIdx hx
 have hin:InP s (p++zAg a):=fun q hq=>by
  rcases List.mem_append.1 hq with e|e
  ·exact hp q e
  ·unfold zAg at e
   rcases List.mem_append.1 e with g|g
   ·obtain⟨b,hb,rfl⟩:=List.mem_map.1 g
    exact⟨.inr (hA.2.2.2 b hb),by show(0:Int)≤_;omega⟩
   ·rw[List.mem_singleton] at g;subst g
    exact⟨.inr hA.2.1,(zAe.1 hA.2.2.1).2⟩
 refine h.upd (t:={ u with aucs:=s.aucs.eraseIdx i }) r1 hin u1 u2 (zAP.2 (by simp only;rw[u4.1,u4.2.1,u4.2.2.1,u4.2.2.2];exact zAP.1 h.nums)) (by simp only;rw[u3];exact h.ords) ?_ (zp.2 ⟨?_,fun x hx=>l2 x (hsub x hx),?_⟩) ?_ ?_
 ·simp only
  rw[u3]
  exact zGI (s:=s) h u1 u2 u4.2.2.1 fun x hx=>⟨x,hx,rfl,rfl,rfl,rfl⟩
 ·have:=List.length_eraseIdx_le s.aucs i
  simp only;omega
 ·exact l3.sublist (List.eraseIdx_sublist ..)
 ·intro x hx
  have:=zKC (s:=s) (u:={ u with aucs:=s.aucs.eraseIdx i }) h u1 u2 u4.2.2.2 x (hsub x hx)
  exact this
 ·intro x _
  unfold zX
  simp only
  have e:zo (s.aucs.flatMap zV) x=zo ((s.aucs.take i).flatMap zV) x+(zo (zV a) x+zo ((s.aucs.drop (i+1)).flatMap zV) x):=by
   conv=>lhs;rw[hsp]
   rw[List.flatMap_append,List.flatMap_cons,zg,zg]
  rw[u3,zg,zg,e,her,List.flatMap_append,zg,dl_app,zOD h0,zOC,zC6 (l2 a hmem)]
  omega
theorem zUF {a:Auc}(hm:zAT a=true)(hw:(zL a).2=true):∃ b∈a.bids,(zL a).1.acct=b.acct:=by
 obtain⟨m,h1,h2,_⟩:=zDm hm hw
 exact⟨_,zk h1,h2⟩
theorem zDq {s:Sta}{a:Auc}(h:(zM s a).2.2=true):(zL a).2=true∧(zM s a).1=(zL a).1∧(zM s a).2.1=(zBa (zL a).1.amount s.fee).1∧zAi s.rows a.seller 0+(zL a).1.amount - (zBa (zL a).1.amount s.fee).1≤1125899906842624∧zAi s.rows (zL a).1.acct a.inst+a.qty≤1125899906842624:=by
 unfold zM at h ⊢
 by_cases h1:(zL a).2=true
 ·rw[if_pos h1] at h ⊢
  simp only at h ⊢
  by_cases h2:zAi s.rows a.seller 0+(zL a).1.amount - (zBa (zL a).1.amount s.fee).1>1125899906842624∨zAi s.rows (zL a).1.acct a.inst+a.qty>1125899906842624
  ·rw[if_pos h2] at h;cases h
  ·rw[if_neg h2];exact⟨h1,rfl,rfl,by omega,by omega⟩
 ·rw[if_neg h1] at h;cases h
theorem zR3 {s t:Sta}{n:List Int}(h:Good s)(he:zF9 s n=(t,0)):Good t:=by
 unfold zF9 at he
 simp only at he
 by_cases h1:zAV s (nF n 0)<0
 ·rw[if_pos h1] at he;exact absurd (Prod.mk.inj he).2 (by decide)
 rw[if_neg h1] at he
 obtain⟨hi,hid⟩:=zR2 h1
 generalize (zAV s (nF n 0)).toNat=i at *
 generalize ha:au_ s.aucs i=a at *
 have hmem:a∈s.aucs:=ha ▸ zk hi
 have hA:=zAW.1 (h.aucsIn a hmem)
 have hm:=(zp.1 h.aucs).2.1 a hmem
 split at he
 ·rename_i h2
  obtain⟨w1,w2,w3,_,_⟩:=zDq h2.2.1
  obtain⟨b,hb,e⟩:=zUF hm w1
  have hw:zAG s (zM s a).1.acct=true:=by rw[w2,e];exact hA.2.2.2 b hb
  have z:(0:Int)≤s.insts.length:=by omega
  have hh:=(zAe.1 hA.2.2.1).2
  refine zIB h hi (fun q hq=>?_) (fun q hq=>?_) he
  ·unfold zDg at hq
   simp only[List.mem_cons,List.not_mem_nil,or_false] at hq
   rcases hq with rfl|rfl|rfl|rfl|rfl
   ·exact⟨.inr hw,z⟩
   ·exact⟨.inr hA.2.1,z⟩
   ·exact⟨.inl (Int.le_refl _),z⟩
   ·exact⟨.inr hA.2.1,hh⟩
   ·exact⟨.inr hw,hh⟩
  ·unfold zDg at hq
   simp only[List.mem_cons,List.not_mem_nil,or_false] at hq
   rcases hq with rfl|rfl|rfl|rfl|rfl<;>rfl
 ·exact absurd (Prod.mk.inj he).2 (by decide)
theorem zMu {s t:Sta}{n:List Int}(h:Good s)(he:zCg s n=(t,0)):Good t:=by
 unfold zCg at he
 simp only at he
 by_cases h1:zAV s (nF n 0)<0
 ·rw[if_pos h1] at he;exact absurd (Prod.mk.inj he).2 (by decide)
 rw[if_neg h1] at he
 obtain⟨hi,_⟩:=zR2 h1
 split at he
 ·exact absurd (Prod.mk.inj he).2 (by decide)
 ·exact zIB h hi (fun q hq=>by cases hq) (fun q hq=>by cases hq) he
theorem wi {n m:Int}(h:1≤n∧n≤m):zu n m=true:=by simp[zu,h]
theorem zOF {a:Auc}(hb:a.bids=[])(h1:1≤a.id∧a.id≤1099511627776)(h2:1≤a.seller∧a.seller≤64)(h3:1≤a.inst∧a.inst≤16)(h4:1≤a.qty∧a.qty≤1048576)(h5:1≤a.reserve∧a.reserve≤1125899906842624)(h6:1≤a.fin∧a.fin≤1099511627776)(h7:a.sealed=true→a.step=0)(h8:a.sealed=false→1≤a.step∧a.step≤1125899906842624):zAT a=true :=
 mayP.2 ⟨wi h1,wi h2,wi h3,wi h4,wi h5,wi h6,h7,fun e=>wi (h8 e),by rw[hb];decide,fun _=>by rw[hb];decide,fun _ j hj=>by rw[hb] at hj;exact absurd hj (zzE _),fun j hj=>by rw[hb] at hj;exact absurd hj (zzE _)⟩
theorem kinds {k:Int}(h:1≤k∧k≤23):k=1∨k=2∨k=3∨k=4∨k=5∨k=6∨k=7∨k=8∨k=9∨k=10∨k=11∨k=12∨k=13∨k=14∨k=15∨k=16∨k=17∨k=18∨k=19∨k=20∨k=21∨k=22∨k=23:=by omega
theorem zR4 {s t:Sta}{e:Evt}(h:Good s)(he:EvOk e)(hd:zCG s e.kind e.nums (e.texts.getD 0 ByteArray.empty)=(t,0)):Good t:=by
 have hat:=fun(i c:Nat) (hc:(zMm e.kind)[i]?=some c)=>he.at i hc
 have htx:=he.text
 obtain⟨k,hk⟩:∃ k,e.kind=k:=⟨_,rfl⟩
 have hkk:=he.kind
 rw[hk] at hd hat htx hkk
 clear he hk
 generalize e.nums=n at *
 generalize e.texts.getD 0 ByteArray.empty=nm at *
 have z:(0:Int)≤s.insts.length:=by omega
 unfold zCG at hd
 rcases kinds hkk with rfl|rfl|rfl|rfl|rfl|rfl|rfl|rfl|rfl|rfl|rfl|rfl|rfl|rfl|rfl|rfl|rfl|rfl|rfl|rfl|rfl|rfl|rfl<;>simp only[Int.reduceEq,if_false,if_true] at hd
 ·exact zMn h (zH5 (hat 0 97 rfl)).2 (htx rfl) hd
 ·exact zMr h hd
 ·exact zMp h (zDn (hat 0 105 rfl)).2 (bnd_k (hat 1 107 rfl)) (htx rfl) hd
 ·exact zLQ h hd
 ·exact zLQ h hd
 ·split at hd
  ·rename_i g;exact zEv h hd (.inl (Int.le_refl _)) (.inr g) z
  ·exact absurd (Prod.mk.inj hd).2 (by decide)
 ·split at hd
  ·rename_i g;exact zEv h hd (.inr g) (.inl (Int.le_refl _)) z
  ·exact absurd (Prod.mk.inj hd).2 (by decide)
 ·split at hd
  ·rename_i g;exact zEv h hd (.inl (Int.le_refl _)) (.inr g.1) (zAe.1 g.2).2
  ·exact absurd (Prod.mk.inj hd).2 (by decide)
 ·split at hd
  ·rename_i g;exact zEv h hd (.inr g.1) (.inl (Int.le_refl _)) (zAe.1 g.2).2
  ·exact absurd (Prod.mk.inj hd).2 (by decide)
 ·obtain rfl:=(Prod.mk.inj hd).1
  exact zUD h (bnd_b (hat 0 98 rfl))
 ·exact zMs h ((zAf _).2 ⟨bnd_o (hat 0 111 rfl),zH5 (hat 1 97 rfl),zDn (hat 2 105 rfl),by have:=zRw (hat 3 115 rfl);show nF n 3=1∨nF n 3=2;omega,zOA (hat 4 112 rfl),zGG (hat 5 113 rfl)⟩) hd
 ·exact zIh h hd
 ·exact zMt h hd
 ·exact zI9 h (zOF rfl (bnd_c (hat 0 99 rfl)) (zH5 (hat 1 97 rfl)) (zDn (hat 2 105 rfl)) (zGG (hat 3 113 rfl)) (zG5 (hat 4 109 rfl)) (zRx (hat 6 116 rfl)) (fun e=>by cases e) (fun _=>zG5 (hat 5 109 rfl))) rfl hd
 ·exact zOE h hd
 ·exact zI9 h (zOF rfl (bnd_c (hat 0 99 rfl)) (zH5 (hat 1 97 rfl)) (zDn (hat 2 105 rfl)) (zGG (hat 3 113 rfl)) (zG5 (hat 4 109 rfl)) (zRx (hat 5 116 rfl)) (fun _=>rfl) (fun e=>by cases e)) rfl hd
 ·exact zOE h hd
 ·exact zR3 h hd
 ·exact zMu h hd
 ·exact zPY h (zRx (hat 0 116 rfl)).2 hd
 ·unfold zCF at hd
  split at hd
  ·rename_i g
   split at hd
   ·exact absurd (Prod.mk.inj hd).2 (by decide)
   ·exact zEv h hd (.inr g.1) (.inr g.2) z
  ·exact absurd (Prod.mk.inj hd).2 (by decide)
 ·exact zLO h (htx rfl) hd
 ·exact zMq h (bnd_k (hat 1 107 rfl)) hd
theorem zIC {s t:Sta}{e:Evt}(h:Good s)(hd:zAN s e=(t,0)):Good t:=by
 unfold zAN at hd
 by_cases h1:e.v=3∧zCE e=true
 ·rw[if_pos h1] at hd
  split at hd
  ·exact zR4 h (zN9 h1.1 h1.2) hd
  ·rename_i g;exact absurd (Prod.mk.inj hd).2 g
 ·rw[if_neg h1] at hd;exact absurd (Prod.mk.inj hd).2 (by decide)
theorem zCm {s t:Sta}{e:Evt}(hd:zN s e=(t,0)):Good s∧Good t:=by
 unfold zN at hd
 by_cases h1:zCY s=true
 ·rw[if_pos h1] at hd;exact⟨zBB.1 h1,zIC (zBB.1 h1) hd⟩
 ·rw[if_neg h1] at hd;exact absurd (Prod.mk.inj hd).2 (by decide)
theorem all_cons (e:Evt)(l:List Evt)(s:Sta)(i:Int):zBA s (e::l) i=if (zAN s e).2=0 then zBA (zAN s e).1 l (i+1) else(zCz,i,(zAN s e).2):=rfl
theorem zKD:∀ {l m:List Evt} {s:Sta} {i:Int},zBA s (l++m) i=if (zBA s l i).2.2=0 then zBA (zBA s l i).1 m (zBA s l i).2.1 else zBA s l i
 | [],m,s,i=>by rw[List.nil_append];rfl
 | e::l,m,s,i=>by
   rw[List.cons_append,all_cons,all_cons]
   by_cases h1:(zAN s e).2=0
   ·rw[if_pos h1,if_pos h1];exact zKD
   ·rw[if_neg h1,if_neg h1];simp only;rw[if_neg h1]
theorem zHQ:∀ {l:List Evt} {s:Sta} {i:Int},zBA s l i=((zBA s l 0).1,i+(zBA s l 0).2.1,(zBA s l 0).2.2)
 | [],s,i=>by simp[zBA]
 | e::l,s,i=>by
   unfold zBA
   by_cases h1:(zAN s e).2=0
   ·rw[if_pos h1,if_pos h1,zHQ (i:=i+1),zHQ (i:=0+1)]
    simp only;congr 2;omega
   ·rw[if_neg h1,if_neg h1];simp
def zID:Int:=1125899906842624
theorem zPa {E:Pl→Int × Int}:(zBH E=0↔∀ x∈zBo,zAS x.1 (E x).1 (E x).2=0)∧((∃ x∈zBo,zAS x.1 (E x).1 (E x).2=47)→zBH E=47)∧((∀ x∈zBo,zAS x.1 (E x).1 (E x).2≠47)→(∃ x∈zBo,zAS x.1 (E x).1 (E x).2=41)→zBH E=41):=by
 refine⟨zH0,fun⟨x,hx,e⟩=>?_,fun h ⟨x,hx,e⟩=>?_⟩
 ·unfold zBH
  rw[if_pos (List.any_eq_true.2 ⟨x,hx,by simp[e]⟩)]
 ·unfold zBH
  rw[if_neg,if_pos (List.any_eq_true.2 ⟨x,hx,by simp[e]⟩)]
  rw[List.any_eq_true]
  rintro⟨y,hy,g⟩
  exact h y hy (by simpa using g)
theorem zOG {l:List Row4}{p:List Pst}(h:zAY l=true)(hp:zAv p=0):zBF l p=if zBH (zAK l p)=0 then(mkR (zAK l p),0) else([],zBH (zAK l p)):=by
 unfold zBF;rw[if_pos h,if_pos hp]
theorem zPb {p:List Pst}:zAv p=0↔p.length≤64∧p.any zCb=false∧∀ s:Nat,s<17→zBj p s=0:=by
 refine⟨zHz,fun⟨h1,h2,h3⟩=>?_⟩
 unfold zAv
 rw[if_neg qO,h2,if_neg (by simp),if_neg]
 rw[List.any_eq_true]
 rintro⟨s,hs,e⟩
 rw[h3 s (List.mem_range.1 hs)] at e
 simp at e
def PlOk (a s:Int):Prop:=(0≤a∧a≤64)∧0≤s∧s≤16
theorem zKE {q:Pst}:zCb q=false↔PlOk q.acct q.asset∧(-zID≤q.free∧q.free≤zID)∧(-zID≤q.held∧q.held≤zID)∧(q.acct=0→q.held=0):=by
 unfold zCb zCO zIf PlOk zID
 simp only[Bool.or_eq_false_iff,Bool.not_eq_false',Bool.and_eq_true,decide_eq_true_eq,decide_eq_false_iff_not,Bool.and_eq_false_iff,beq_eq_false_iff_ne,bne_eq_false_iff_eq]
 constructor
 ·rintro⟨⟨⟨⟨⟨⟨a,b⟩,c⟩,d⟩,e,f⟩,g,h⟩,i⟩
  exact⟨⟨⟨a,b⟩,c,d⟩,⟨by omega,by omega⟩,⟨by omega,by omega⟩,fun h0=>i.resolve_left fun n=>n h0⟩
 ·rintro⟨⟨⟨a,b⟩,c,d⟩,⟨e,f⟩,⟨g,h⟩,i⟩
  refine⟨⟨⟨⟨⟨⟨a,b⟩,c⟩,d⟩,by omega,by omega⟩,by omega,by omega⟩,?_⟩
  by_cases h0:q.acct=0
  ·exact .inr (i h0)
  ·exact .inl h0
theorem zLV {l:List Row4}(h:zAY l=true){a s:Int}(ha:a≠0):zAi l a s=(atR l (a,s)).1+(atR l (a,s)).2:=by
 have g:=(zDk h (a,s)).2 ha
 unfold zAi zMU zBz
 rw[if_neg qO]
def SameW (r t:Sta × Int):Prop:=r.2=t.2∧(t.2=0→r.1=t.1)
theorem SameW.refl (r:Sta × Int):SameW r r:=⟨rfl,fun _=>rfl⟩
theorem zPc (p r:List Pst)(x:Pl):dlF (p++r) x=((dlF p x).1+(dlF r x).1,(dlF p x).2+(dlF r x).2):=by
 induction p with
 | nil=>simp[dlF]
 | cons q p ih =>
   rw[List.cons_append,zBN,zBN,ih]
   split
   ·ext<;>simp only<;>omega
   ·rfl
theorem zR5 {p:List Pst}(h:∀ q∈p,q.free+q.held=0)(x:Pl):(dlF p x).1+(dlF p x).2=0:=by
 induction p with
 | nil=>rfl
 | cons q p ih =>
   have h1:=ih fun y hy=>h y (zz5 _ hy)
   have h2:=h q (zz2 _)
   rw[zBN]
   split
   ·simp only;omega
   ·exact h1
theorem zLW {s:Sta}(h:Good s):s.accts.length≤64:=(zB1.1 h.accts).1
theorem zLX {s:Sta}(h:Good s):s.insts.length≤16:=(zB2.1 h.insts).1
end
section
open Go Go.Sk Go.RowKit
attribute [local irreducible] Go.Calls
def ev_ (l:List Evt)(j:Nat):Evt:=l.getD j ⟨0,0,[],[]⟩
def EvsM (F:zC)(a:Option Addr)(cap:Nat)(l:List Evt)(q:Nat→EPt):Prop:=SlA F 4 a l.length cap (fun j=>(ev_ l j).cells (q j))∧∀ j,j<l.length→EvtM F (ev_ l j) (q j)
theorem EvsM.mono {F G:zC}{a:Option Addr}{cap:Nat}{l:List Evt}{q:Nat→EPt}(h:EvsM F a cap l q)(hs:F⊆G):EvsM G a cap l q:=⟨SlA.mono h.1 hs,fun j hj=>(h.2 j hj).mono hs⟩
theorem zAl {F:zC}{b:Nat}{T:TypeId}(n:List Int)(hl:n.length≤1000)(h:cb b (n.map (Value.int .i64)) T∈F):Ints F (some ⟨b,0,none⟩) n.length n:=by
 refine⟨zzC _,by omega,b,0,_,T,(0,0),fun _=>⟨rfl,h,fun j hj=>?_⟩⟩
 refine⟨by simp;omega,?_⟩
 simp only[Nat.zero_add,Nat.mul_one]
 rw[List.drop_eq_getElem_cons (by simpa using hj)]
 simp[iel,List.getElem?_eq_getElem hj]
theorem zUG {F:zC}{b:Nat}{T:TypeId}(t:ByteArray)(h:cb b [.string t] T∈F):SlA F 1 (some ⟨b,0,none⟩) 1 1 fun j=>[Value.string (([t]:List ByteArray).getD j ByteArray.empty)] :=
 ⟨Nat.le_refl 1,(show 1≤140737488355328 by decide),b,0,_,T,(0,0),fun _=>⟨rfl,h,fun j hj=>by
  have:j=0:=by have:j<1:=hj;omega
  subst this
  exact⟨Nat.le_refl 1,rfl⟩⟩⟩
theorem zCi {F:zC}{b:Nat}{T:TypeId}(k:Int)(n:List Int)(hl:n.length≤1000)(h:cb b (n.map (Value.int .i64)) T∈F):EvtM F (evF k n) ⟨some ⟨b,0,none⟩,n.length,none,0⟩:=⟨zAl n hl h,⟨zzD _,zzD _,0,0,[],0,(0,0),fun h=>absurd h (Nat.lt_irrefl 0)⟩⟩
end
section
open Go Go.Sk Go.RowKit Go.ChangeShapes
structure StaA (s:Sta):Prop where
 acN:∀ k,k<s.accts.length→(ac_ s.accts k).name.size≤140737488355328
 insN:∀ k,k<s.insts.length→(in_ s.insts k).name.size≤140737488355328
 rw:∀ j,j<s.rows.length→(rw_ s.rows j).wf
 od:∀ k,k<s.orders.length→0≤(od_ s.orders k).side∧(od_ s.orders k).side<256
theorem zR6 {i:Int}(h:(Lit.int .i64 i).wf=true):-9223372036854775808≤i∧i≤9223372036854775807:=by
 simpa [Lit.wf,IntKind.min,IntKind.max,IntKind.signed,IntKind.bits] using h
theorem wf_u8 {i:Int}(h:(Lit.int .u8 i).wf=true):0≤i∧i<256:=by
 have:0≤i∧i≤255:=by simpa [Lit.wf,IntKind.min,IntKind.max,IntKind.signed,IntKind.bits] using h
 omega
section
variable {H:Type}{enc:TypeId × Value→H}{w:World}
set_option maxRecDepth 20000 in
theorem rz_ac {cs:List Value}(h:Rz enc Tryz.prog w 92 cs):∃ x:Ac,cs=x.cells∧x.name.size≤140737488355328:=by
 have h:=h.struct (sg.desc rfl rfl) (by kernel_rfl)
 obtain⟨x0,cs,rfl,b0,h⟩:=h.string (sg.desc rfl rfl) (sg.ncells rfl rfl)
 obtain⟨x1,cs,rfl,_,h⟩:=h.bool (sg.desc rfl rfl) (sg.ncells rfl rfl)
 obtain rfl:=h.nil
 exact⟨⟨x0,x1⟩,rfl,b0⟩
set_option maxRecDepth 20000 in
theorem rz_ins {cs:List Value}(h:Rz enc Tryz.prog w 94 cs):∃ x:Ins,cs=x.cells∧x.name.size≤140737488355328:=by
 have h:=h.struct (sg.desc rfl rfl) (by kernel_rfl)
 obtain⟨x0,cs,rfl,b0,h⟩:=h.string (sg.desc rfl rfl) (sg.ncells rfl rfl)
 obtain⟨x1,cs,rfl,_,h⟩:=h.int (sg.desc rfl rfl) (sg.ncells rfl rfl)
 obtain⟨x2,cs,rfl,_,h⟩:=h.bool (sg.desc rfl rfl) (sg.ncells rfl rfl)
 obtain rfl:=h.nil
 exact⟨⟨x0,x1,x2⟩,rfl,b0⟩
set_option maxRecDepth 20000 in
theorem rz_row {cs:List Value}(h:Rz enc Tryz.prog w 137 cs):∃ x:Row4,cs=x.cells∧x.wf:=by
 have h:=h.struct (sg.desc rfl rfl) (by kernel_rfl)
 obtain⟨x0,cs,rfl,_,h⟩:=h.int (sg.desc rfl rfl) (sg.ncells rfl rfl)
 obtain⟨x1,cs,rfl,_,h⟩:=h.int (sg.desc rfl rfl) (sg.ncells rfl rfl)
 obtain⟨x2,cs,rfl,b2,h⟩:=h.int (sg.desc rfl rfl) (sg.ncells rfl rfl)
 obtain⟨x3,cs,rfl,b3,h⟩:=h.int (sg.desc rfl rfl) (sg.ncells rfl rfl)
 obtain rfl:=h.nil
 exact⟨⟨x0,x1,x2,x3⟩,rfl,zR6 b2,zR6 b3⟩
set_option maxRecDepth 20000 in
theorem rz_odr {cs:List Value}(h:Rz enc Tryz.prog w 55 cs):∃ x:Odr,cs=x.cells∧(0≤x.side∧x.side<256):=by
 have h:=h.struct (sg.desc rfl rfl) (by kernel_rfl)
 obtain⟨x0,cs,rfl,_,h⟩:=h.int (sg.desc rfl rfl) (sg.ncells rfl rfl)
 obtain⟨x1,cs,rfl,_,h⟩:=h.int (sg.desc rfl rfl) (sg.ncells rfl rfl)
 obtain⟨x2,cs,rfl,_,h⟩:=h.int (sg.desc rfl rfl) (sg.ncells rfl rfl)
 obtain⟨x3,cs,rfl,b3,h⟩:=h.int (sg.desc rfl rfl) (sg.ncells rfl rfl)
 obtain⟨x4,cs,rfl,_,h⟩:=h.int (sg.desc rfl rfl) (sg.ncells rfl rfl)
 obtain⟨x5,cs,rfl,_,h⟩:=h.int (sg.desc rfl rfl) (sg.ncells rfl rfl)
 obtain rfl:=h.nil
 exact⟨⟨x0,x1,x2,x3,x4,x5⟩,rfl,wf_u8 b3⟩
set_option maxRecDepth 20000 in
theorem rz_bid {cs:List Value}(h:Rz enc Tryz.prog w 72 cs):∃ x:Bid,cs=x.cells∧True:=by
 have h:=h.struct (sg.desc rfl rfl) (by kernel_rfl)
 obtain⟨x0,cs,rfl,_,h⟩:=h.int (sg.desc rfl rfl) (sg.ncells rfl rfl)
 obtain⟨x1,cs,rfl,_,h⟩:=h.int (sg.desc rfl rfl) (sg.ncells rfl rfl)
 obtain rfl:=h.nil
 exact⟨⟨x0,x1⟩,rfl,trivial⟩
set_option maxRecDepth 20000 in
theorem rz_auc {cs:List Value}(h:Rz enc Tryz.prog w 67 cs):∃ x:Auc × (Option Addr × Nat),cs=x.1.cells x.2.1 x.2.2∧Bids (zEi w) x.2.1 x.2.2 x.1.bids:=by
 have h:=h.struct (sg.desc rfl rfl) (by kernel_rfl)
 obtain⟨x0,cs,rfl,_,h⟩:=h.int (sg.desc rfl rfl) (sg.ncells rfl rfl)
 obtain⟨x1,cs,rfl,_,h⟩:=h.int (sg.desc rfl rfl) (sg.ncells rfl rfl)
 obtain⟨x2,cs,rfl,_,h⟩:=h.int (sg.desc rfl rfl) (sg.ncells rfl rfl)
 obtain⟨x3,cs,rfl,_,h⟩:=h.bool (sg.desc rfl rfl) (sg.ncells rfl rfl)
 obtain⟨x4,cs,rfl,_,h⟩:=h.int (sg.desc rfl rfl) (sg.ncells rfl rfl)
 obtain⟨x5,cs,rfl,_,h⟩:=h.int (sg.desc rfl rfl) (sg.ncells rfl rfl)
 obtain⟨x6,cs,rfl,_,h⟩:=h.int (sg.desc rfl rfl) (sg.ncells rfl rfl)
 obtain⟨x7,cs,rfl,_,h⟩:=h.int (sg.desc rfl rfl) (sg.ncells rfl rfl)
 obtain⟨a,len,cap,cs,rfl,hs,h⟩:=h.slice (sg.desc rfl rfl) (sg.ncells rfl rfl) (sg.ncells rfl rfl) (sg.nbytes rfl rfl)
 obtain rfl:=h.nil
 obtain⟨l,rfl,hl,_⟩:=hs.named (el:=Bid.cells) (fun _=>rz_bid)
 exact⟨⟨⟨x0,x1,x2,x3,x4,x5,x6,x7,l⟩,a,cap⟩,rfl,hl⟩
set_option maxRecDepth 20000 in
theorem rz_sta {cs:List Value}(h:Rz enc Tryz.prog w 48 cs):∃ (s:Sta) (p:SPt),cs=s.cells p∧StaM (zEi w) s p∧StaA s:=by
 have h:=h.struct (sg.desc rfl rfl) (by kernel_rfl)
 obtain⟨x0,cs,rfl,_,h⟩:=h.int (sg.desc rfl rfl) (sg.ncells rfl rfl)
 obtain⟨x1,cs,rfl,_,h⟩:=h.int (sg.desc rfl rfl) (sg.ncells rfl rfl)
 obtain⟨x2,cs,rfl,_,h⟩:=h.int (sg.desc rfl rfl) (sg.ncells rfl rfl)
 obtain⟨x3,cs,rfl,_,h⟩:=h.int (sg.desc rfl rfl) (sg.ncells rfl rfl)
 obtain⟨a4,n4,c4,cs,rfl,h4,h⟩:=h.slice (sg.desc rfl rfl) (sg.ncells rfl rfl) (sg.ncells rfl rfl) (sg.nbytes rfl rfl)
 obtain⟨a5,n5,c5,cs,rfl,h5,h⟩:=h.slice (sg.desc rfl rfl) (sg.ncells rfl rfl) (sg.ncells rfl rfl) (sg.nbytes rfl rfl)
 obtain⟨a6,n6,c6,cs,rfl,h6,h⟩:=h.slice (sg.desc rfl rfl) (sg.ncells rfl rfl) (sg.ncells rfl rfl) (sg.nbytes rfl rfl)
 obtain⟨a7,n7,c7,cs,rfl,h7,h⟩:=h.slice (sg.desc rfl rfl) (sg.ncells rfl rfl) (sg.ncells rfl rfl) (sg.nbytes rfl rfl)
 obtain⟨a8,n8,c8,cs,rfl,h8,h⟩:=h.slice (sg.desc rfl rfl) (sg.ncells rfl rfl) (sg.ncells rfl rfl) (sg.nbytes rfl rfl)
 obtain rfl:=h.nil
 obtain⟨l4,rfl,m4,w4⟩:=h4.named (el:=Ac.cells) (fun _=>rz_ac)
 obtain⟨l5,rfl,m5,w5⟩:=h5.named (el:=Ins.cells) (fun _=>rz_ins)
 obtain⟨l6,rfl,m6,w6⟩:=h6.named (el:=Row4.cells) (fun _=>rz_row)
 obtain⟨l7,rfl,m7,w7⟩:=h7.named (el:=Odr.cells) (fun _=>rz_odr)
 obtain⟨l8,rfl,m8,w8⟩:=h8.named (α:=Auc × (Option Addr × Nat)) (el:=fun x=>x.1.cells x.2.1 x.2.2) (fun _=>rz_auc)
 have hg:∀ j,(l8.map (·.1)).getD j default=(l8.getD j default).1:=fun j=>by
  simp only[List.getD_eq_getElem?_getD,List.getElem?_map]
  cases l8[j]?<;>rfl
 refine⟨⟨x0,x1,x2,x3,l4,l5,l6,l7,l8.map (·.1)⟩,⟨a4,c4,a5,c5,a6,c6,a7,c7,a8,c8,fun j=>(l8.getD j default).2⟩,?_,⟨m4,m5,m6,m7,?_,?_⟩,w4,w5,w6,w7⟩
 ·simp[Sta.cells]
 ·simp only[List.length_map]
  have:ael (l8.map (·.1)) (fun j=>(l8.getD j default).2)=fun j=>(l8.getD j default).1.cells (l8.getD j default).2.1 (l8.getD j default).2.2:=by
   funext j
   unfold ael
   rw[hg]
  rw[this]
  exact m8
 ·intro j hj
  simp only[List.length_map] at hj
  simp only[hg]
  exact w8 j hj
set_option maxRecDepth 20000 in
theorem zOH {v:Value}{d:DataW H}{p:List MemPlace}(h:DataW.Trod enc Tryz.prog w 0 (fun _=>true) true 48 v d p)(hz:∀ n∈d.weights Tryz.prog 48,n≤reachBytes)(hv:Value.okWide Tryz.prog w .any 0 48 v) :
  ∃ (s:Sta) (p:SPt),v=.agg (s.cells p).toArray∧StaM (zEi w) s p∧StaA s:=by
 obtain⟨cs,rfl,_⟩:=Go.WideShapes.okWide_struct (sg.desc rfl rfl) hv
 obtain⟨s,p,e,hM,hA⟩:=rz_sta (Rz.of h hz)
 refine⟨s,p,?_,hM,hA⟩
 have:cs.toList=s.cells p:=e
 rw[← this]
instance:Inhabited Evt:=⟨⟨0,0,[],[]⟩⟩
instance:Inhabited EPt:=⟨⟨none,0,none,0⟩⟩
theorem rz_i64 {cs:List Value}(h:Rz enc Tryz.prog w 2 cs):∃ x:Int,cs=[.int .i64 x]∧True:=by
 obtain⟨i,rfl,_⟩:=Rd.int (Rz.rd h) (sg.desc rfl rfl)
 exact⟨i,rfl,trivial⟩
end
end
section
open Go Go.Sk Go.RowKit
def priF (s a b:Int):Int:=if s=1 then zB7 b a else zB7 a b
def zGi (a b:Odr):Int:=orF (priF a.side a.price b.price) (zB7 a.id b.id)
theorem zR7 {a b:Odr}:zGi a b<0↔zAF a b=true:=by
 unfold zGi zAF priF orF zB7
 by_cases h1:a.price=b.price
 ·rw[if_pos h1,h1];simp;split<;>(try split)<;>omega
 ·rw[if_neg h1]
  by_cases h2:a.side=1
  ·simp only[if_pos h2,decide_eq_true_eq];repeat' split
   all_goals omega
  ·simp only[if_neg h2,decide_eq_true_eq];repeat' split
   all_goals omega
def ofS (i s:Int)(o:Odr):Bool:=o.inst==i&&o.side==s
def zEK (a b:Odr):Prop:=zAF a b=true∧zAF b a=false
theorem zPd (a:Odr):¬ zEK a a:=fun h=>by have g:=h.2;rw[h.1] at g;cases g
theorem zPe (a b:Odr)(h:zEK a b):¬ zEK b a:=fun k=>by have g:=k.2;rw[h.1] at g;cases g
theorem zPf {a b:Odr}(hs:a.side=b.side)(hi:a.id≠b.id)(h:zAF b a=false):zEK a b:=by
 refine⟨?_,h⟩
 unfold zAF at h ⊢
 by_cases h1:a.price=b.price
 ·rw[if_pos h1.symm,decide_eq_false_iff_not] at h;rw[if_pos h1,decide_eq_true_eq];omega
 ·rw[if_neg (Ne.symm h1),← hs] at h
  rw[if_neg h1]
  by_cases h2:a.side=1
  ·rw[if_pos h2,decide_eq_false_iff_not] at h;rw[if_pos h2,decide_eq_true_eq];omega
  ·rw[if_neg h2,decide_eq_false_iff_not] at h;rw[if_neg h2,decide_eq_true_eq];omega
theorem zMv {s:Int}{l:List Odr}(hs:∀ o∈l,o.side=s)(hn:(l.map (·.id)).Nodup)(h:l.Pairwise fun a b=>zAF b a=false):l.Pairwise zEK:=by
 rw[List.nodup_iff_pairwise_ne,List.pairwise_map] at hn
 refine(h.and hn).imp_of_mem fun{a b} ha hb hab=>zPf ((hs a ha).trans (hs b hb).symm) hab.2 hab.1
theorem zIE {s:Int}{a b c:Odr}(ha:a.side=s)(hb:b.side=s)(hc:c.side=s)(h1:zAF b a=false)(h2:zAF c b=false):zAF c a=false:=by
 unfold zAF at *
 rw[hb] at h1;rw[hc] at h2 ⊢
 by_cases hs:s=1
 ·simp only[if_pos hs] at *
  revert h1 h2
  repeat' split
  all_goals simp only[decide_eq_false_iff_not];omega
 ·simp only[if_neg hs] at *
  revert h1 h2
  repeat' split
  all_goals simp only[decide_eq_false_iff_not];omega
theorem zR8 {s:Int}{a b:Odr}(ha:a.side=s)(hb:b.side=s):zAF b a=false∨zAF a b=false:=by
 unfold zAF
 rw[hb,ha]
 by_cases hs:s=1
 ·simp only[if_pos hs];repeat' split
  all_goals simp only[decide_eq_false_iff_not];omega
 ·simp only[if_neg hs];repeat' split
  all_goals simp only[decide_eq_false_iff_not];omega
def zMw:List Odr→Option Odr→Option Odr
 | [],b=>b
 | o::l,b=>zMw l (match b with|none=>some o|some x=>some (if zAF o x then o else x))
theorem zPg (l:List Odr)(b:Option Odr):l.foldl (fun b o=>match b with|none=>some o|some x=>some (if zAF o x then o else x)) b=zMw l b:=by
 induction l generalizing b with
 | nil=>rfl
 | cons o l ih=>rw[List.foldl_cons,ih];rfl
theorem zJA {s:Int}:∀ (l:List Odr) (x:Odr),(∀ o∈l,o.side=s)→x.side=s→∃ m,zMw l (some x)=some m∧(m=x∨m∈l)∧zAF x m=false∧∀ o∈l,zAF o m=false
 | [],x,_,_=>⟨x,rfl,.inl rfl,by unfold zAF;simp,fun o h=>nomatch h⟩
 | o::l,x,hs,hx=>by
   have ho:=hs o (zz2 _)
   have hl:∀ q∈l,q.side=s:=fun q hq=>hs q (zz5 _ hq)
   have key:∀ y:Odr,y.side=s→zAF x y=false→zAF o y=false→(y=x∨y=o)→∃ m,zMw l (some y)=some m∧(m=x∨m∈o::l)∧zAF x m=false∧∀ q∈o::l,zAF q m=false:=by
    intro y hy h1 h2 h3
    obtain⟨m,e,hm,h4,h5⟩:=zJA l y hl hy
    have hms:m.side=s:=by rcases hm with rfl|h;exact hy;exact hl m h
    refine⟨m,e,?_,zIE hms hy hx h4 h1,fun q hq=>?_⟩
    ·rcases hm with rfl|h
     ·rcases h3 with h|h
      ·exact .inl h
      ·exact .inr (h ▸ zz2 _)
     ·exact .inr (zz5 _ h)
    ·rcases List.mem_cons.1 hq with rfl|hq
     ·exact zIE hms hy ho h4 h2
     ·exact h5 q hq
   have hself:∀ y:Odr,zAF y y=false:=fun y=>by unfold zAF;simp
   show ∃ m,zMw l (some (if zAF o x then o else x))=some m∧_
   by_cases h:zAF o x=true
   ·rw[if_pos h]
    refine key o ho ?_ (hself o) (.inr rfl)
    rcases zR8 hx ho with e|e
    ·rw[h] at e;cases e
    ·exact e
   ·rw[if_neg h]
    exact key x hx (hself x) (by simpa using h) (.inl rfl)
theorem zPh {s:Int}{l m:List Odr}(hs:∀ o∈l,o.side=s)(hp:m.Perm l)(hm:m.Pairwise zEK):zMw l none=m.head?:=by
 cases l with
 | nil=>rw[List.perm_nil.1 hp];rfl
 | cons o l =>
   show zMw l (some o)=_
   obtain⟨x,e,hx,h1,h2⟩:=zJA l o (fun q hq=>hs q (zz5 _ hq)) (hs o (zz2 _))
   rw[e]
   cases m with
   | nil=>exact absurd hp.length_eq (by simp)
   | cons y m =>
     rw[List.head?_cons]
     have hxm:x∈y::m:=hp.mem_iff.2 (by rcases hx with rfl|h;exact zz2 _;exact zz5 _ h)
     have hyl:y∈o::l:=hp.mem_iff.1 (zz2 _)
     have hyx:zAF y x=false:=by rcases List.mem_cons.1 hyl with rfl|h;exact h1;exact h2 y h
     rcases List.mem_cons.1 hxm with rfl|h
     ·rfl
     ·have:=(List.pairwise_cons.1 hm).1 x h
      have g:=this.1;rw[hyx] at g;cases g
def zDY (s:Int)(a b:Odr):Bool:=if a.price=b.price then decide (a.id<b.id) else if s=1 then decide (a.price>b.price) else decide (a.price<b.price)
def zB3 (l:List Odr)(i s:Int):List Odr:=if ze l=true then(l.filter (ofS i s)).mergeSort (fun a b=>!zDY s b a) else[]
theorem zB4 {l:List Odr}{i s:Int}(h:ze l=true):(zB3 l i s).Perm (l.filter (ofS i s)):=by
 unfold zB3;rw[if_pos h];exact List.mergeSort_perm _ _
theorem zC7 {l:List Odr}{i s:Int}:∀ o∈l.filter (ofS i s),o.side=s:=fun o ho=>by
 have:=(List.mem_filter.1 ho).2
 unfold ofS at this
 rw[Bool.and_eq_true,beq_iff_eq,beq_iff_eq] at this
 exact this.2
theorem zGj {l:List Odr}(h:ze l=true)(p:Odr→Bool):((l.filter p).map (·.id)).Nodup:=by
 rw[List.nodup_iff_pairwise_ne,List.pairwise_map]
 exact((zAO.1 h).2.2.sublist List.filter_sublist).imp fun h=>Int.ne_of_lt h
theorem zPi (s:Int)(a b c:Odr)(h1:(!zDY s b a)=true)(h2:(!zDY s c b)=true):(!zDY s c a)=true:=by
 simp only[Bool.not_eq_true'] at *
 unfold zDY at *
 by_cases hs:s=1
 ·simp only[if_pos hs] at *
  revert h1 h2
  repeat' split
  all_goals simp only[decide_eq_false_iff_not];omega
 ·simp only[if_neg hs] at *
  revert h1 h2
  repeat' split
  all_goals simp only[decide_eq_false_iff_not];omega
theorem zPj (s:Int)(a b:Odr):((!zDY s b a)||(!zDY s a b))=true:=by
 simp only[Bool.or_eq_true,Bool.not_eq_true']
 unfold zDY
 by_cases hs:s=1
 ·simp only[if_pos hs];repeat' split
  all_goals simp only[decide_eq_false_iff_not];omega
 ·simp only[if_neg hs];repeat' split
  all_goals simp only[decide_eq_false_iff_not];omega
theorem zG6 {s:Int}{l:List Odr}(hs:∀ o∈l,o.side=s):(l.mergeSort fun a b=>!zDY s b a).Pairwise fun a b=>zAF b a=false:=by
 refine(List.pairwise_mergeSort (zPi s) (zPj s) l).imp_of_mem fun{a b} ha hb hab=>?_
 have hb:=hs b ((List.mergeSort_perm _ _).mem_iff.1 hb)
 show zDY b.side b a=false
 rw[hb];simpa using hab
theorem zPk {l m:List Odr}{i s:Int}(h:ze l=true)(hp:m.Perm (l.filter (ofS i s)))(hm:m.Pairwise fun a b=>zAF b a=false):m=zB3 l i s∧m.Pairwise zEK:=by
 have hms:=zMv (s:=s) (fun o ho=>zC7 o (hp.mem_iff.1 ho)) ((hp.map _).nodup_iff.2 (zGj h _)) hm
 refine⟨?_,hms⟩
 have hq:=zB4 (i:=i) (s:=s) h
 have hls:(zB3 l i s).Pairwise zEK:=by
  refine zMv (s:=s) (fun o ho=>zC7 o (hq.mem_iff.1 ho)) ((hq.map _).nodup_iff.2 (zGj h _)) ?_
  unfold zB3;rw[if_pos h];exact zG6 zC7
 exact zHO zPd zPe hms hls fun x=>by rw[hp.mem_iff,hq.mem_iff]
theorem zLY {l:List Odr}{i s:Int}(h:ze l=true):(zB3 l i s).Pairwise zEK:=by
 have hq:=zB4 (i:=i) (s:=s) h
 refine zMv (s:=s) (fun o ho=>zC7 o (hq.mem_iff.1 ho)) ((hq.map _).nodup_iff.2 (zGj h _)) ?_
 unfold zB3;rw[if_pos h];exact zG6 zC7
theorem zEL {l:List Odr}{i s:Int}:zA9 l i s=match (zB3 l i s).head? with|some o=>(o,true)|none=>(Odr.zero,false):=by
 unfold zA9
 by_cases h:ze l=true
 ·rw[if_pos h]
  refine Eq.trans (congrArg (fun r:Option Odr=>(match r with|some o=>(o,true)|none=>(Odr.zero,false):Odr × Bool)) (zPg (l.filter (ofS i s)) none)) ?_
  rw[zPh zC7 (zB4 h) (zLY h)]
 ·rw[if_neg h];unfold zB3;rw[if_neg h];rfl
structure Cmd where
 kind:Int
 nums:List Int
 text:ByteArray
def comT:List (List Nat × Bool):=[([],true),([97],false),([107],true),([105],false),([105],false),([97,109],false),([97,109],false),([97,105,113],false),([97,105,113],false),([98],false),([97,105,115,112,113],false),([97,111],false),([97,105,113,109,109,116],false),([97,99,109],false),([97,105,113,109,116],false),([97,99,109],false),([116],false),([97,97,109],false),([97],true),([105,107],false)]
def zLZ (k:Int):List Nat × Bool:=comT.getD (k - 1).toNat ([32],false)
def zEx (c:Cmd):Bool:=decide (1≤c.kind)&&decide (c.kind≤20)&&zBG 3 (zLZ c.kind).1 c.nums&&(if (zLZ c.kind).2 then zAI c.text else c.text.size==0)
def zLa:List (Int × List (Option Nat)):=[(1,[none]),(2,[some 0]),(3,[none,some 0]),(4,[some 0]),(5,[some 0]),(6,[some 0,some 1]),(7,[some 0,some 1]),(8,[some 0,some 1,some 2]),(9,[some 0,some 1,some 2]),(10,[some 0]),(11,[none,some 0,some 1,some 2,some 3,some 4]),(12,[some 1]),(14,[none,some 0,some 1,some 2,some 3,some 4,some 5]),(15,[some 1,some 0,some 2]),(16,[none,some 0,some 1,some 2,some 3,some 4]),(17,[some 1,some 0,some 2]),(20,[some 0]),(21,[some 0,some 1,some 2]),(22,[some 0]),(23,[some 0,some 1])]
def zAr (k:Int):Int × List (Option Nat):=zLa.getD (k - 1).toNat (0,[])
def zDP (s:Sta)(k:Int):Int × Int:=if k=1 then((s.accts.length:Int)+1,64) else if k=3 then((s.insts.length:Int)+1,16) else if k=11 then(s.nextO,1099511627776) else(s.nextA,1099511627776)
def evZ:Evt:=⟨0,0,[],[]⟩
def zc (s:Sta)(c:Cmd):Evt × Int :=
 if zCY s=false then(evZ,4) else
 if zEx c=false then(evZ,1) else
 if c.kind=12∧(zW s.orders (nF c.nums 1)).2=false then(evZ,5) else
 if c.kind=12∧(zW s.orders (nF c.nums 1)).1.acct≠nF c.nums 0 then(evZ,49) else
 if none∈(zAr c.kind).2∧(zDP s (zAr c.kind).1).1>(zDP s (zAr c.kind).1).2 then(evZ,40) else
 (⟨3,(zAr c.kind).1,(zAr c.kind).2.map fun o=>match o with|some i=>nF c.nums i|none=>(zDP s (zAr c.kind).1).1,if c.text.size=0 then[] else[c.text]⟩,0)
theorem zEy {c:Cmd}(h:zEx c=true):1≤c.kind∧c.kind≤20:=by
 unfold zEx at h
 simp only[Bool.and_eq_true,decide_eq_true_eq] at h
 exact⟨h.1.1.1,h.1.1.2⟩
theorem zFJ {k:Int}(h:1≤k∧k≤20):k=1∨k=2∨k=3∨k=4∨k=5∨k=6∨k=7∨k=8∨k=9∨k=10∨k=11∨k=12∨k=13∨k=14∨k=15∨k=16∨k=17∨k=18∨k=19∨k=20:=by omega
def cmF (k:Int)(n:List Int):Cmd:=⟨k,n,ByteArray.empty⟩
def cmN (k:Int)(t:ByteArray)(n:List Int):Cmd:=⟨k,n,t⟩
def zGk:List Cmd:=[cmN 1 ⟨#[97]⟩ [],cmN 1 ⟨#[98]⟩ [],cmN 1 ⟨#[99]⟩ [],cmN 3 ⟨#[103,111,108,100]⟩ [1],cmF 6 [1,1000],cmF 6 [2,1000],cmF 6 [3,1000],cmF 8 [1,1,50],cmF 8 [2,1,50],cmF 10 [100]]
theorem zFK {α β:Type}{f g:α→List β}:∀ {l:List α},(∀ x∈l,f x=g x)→l.flatMap f=l.flatMap g
 | [],_=>rfl
 | x::l,h=>by rw[List.flatMap_cons,List.flatMap_cons,h x (List.Mem.head _),zFK fun y hy=>h y (List.mem_cons_of_mem _ hy)]
end
section
open Go Go.Sk Go.RowKit
attribute [local irreducible] Go.Calls
def comW:List (List Nat):=[[111,112,101,110],[99,108,111,115,101],[108,105,115,116],[104,97,108,116],[114,101,115,117,109,101],[100,101,112,111,115,105,116],[119,105,116,104,100,114,97,119],[105,115,115,117,101],[114,101,100,101,101,109],[102,101,101],[112,108,97,99,101],[99,97,110,99,101,108],[101,110,103,108,105,115,104],[114,97,105,115,101],[115,101,97,108,101,100],[98,105,100],[109,111,118,101],[116,114,97,110,115,102,101,114],[114,101,110,97,109,101],[116,105,99,107]]
def zHG (i:Nat):KRow:=⟨comW.getD i [],[32],[32],(comT.getD i ([32],false)).1,(comT.getD i ([32],false)).2⟩
def ComM (F:zC):Prop:=∃ cs T fr,SlB F 5 (some ⟨1,0,none⟩) 20 1 0 cs T fr (fun i=>(zHG i).cells)
theorem ComM.mono {F G:zC}(h:ComM F)(hs:F⊆G):ComM G:=let ⟨a,b,c,d⟩:=h;⟨a,b,c,d.mono hs⟩
def zBm (kind:Int):KRow:=if 1≤kind∧kind≤20 then zHG (kind - 1).toNat else⟨[],[32],[32],[32],false⟩
theorem zR9 (kind:Int):zK9 (zBm kind):=by
 have key:∀ i,i<20→zK9 (zHG i):=by
  intro i hi
  have:∀ r∈(List.range 20).map zHG,(r.f1.all (fun x=>decide (x<128))&&r.f2.all (fun x=>decide (x<128))&&r.f3.all (fun x=>decide (x<128))&&decide (r.f1.length≤100)&&decide (r.f2.length≤100)&&decide (r.f3.length≤100))=true:=by
   unfold zHG
   decide
  have h:=this _ (List.mem_map.2 ⟨i,List.mem_range.2 hi,rfl⟩)
  simp only[Bool.and_eq_true,List.all_eq_true,decide_eq_true_eq] at h
  exact⟨h.1.1.1.1.1,h.1.1.1.1.2,h.1.1.1.2,h.1.1.2,h.1.2,h.2⟩
 unfold zBm
 split
 ·exact key _ qO
 ·exact⟨by simp,by simp,by simp,by simp,by simp,by simp⟩
theorem cls_co {kind:Int}(h:32 ∉ zBc (zBm kind) 3):∀ c∈zBc (zBm kind) 3,c∈clsL:=by
 have key:∀ r∈(List.range 20).map zHG,∀ c∈r.f3,c∈clsL:=by
  unfold zHG
  decide
 have h2:∀ r,zBc r 3=r.f3:=fun r=>rfl
 rw[h2] at h ⊢
 unfold zBm at h ⊢
 split at h
 ·rename_i hk
  rw[if_pos hk]
  exact key _ (List.mem_map.2 ⟨(kind - 1).toNat,List.mem_range.2 qO,rfl⟩)
 ·exact absurd (zz2 _) h
theorem co_len (kind:Int):(zBc (zBm kind) 3).length≤100:=(zR9 kind).2.2.2.2.2
theorem zSA {kind:Int}:32 ∉ zBc (zBm kind) 3↔1≤kind∧kind≤20:=by
 have key:∀ r∈(List.range 20).map zHG,32 ∉ r.f3:=by
  unfold zHG
  decide
 show 32 ∉ (zBm kind).f3↔_
 unfold zBm
 by_cases hk:1≤kind∧kind≤20
 ·rw[if_pos hk]
  exact⟨fun _=>hk,fun _=>key _ (List.mem_map.2 ⟨(kind - 1).toNat,List.mem_range.2 qO,rfl⟩)⟩
 ·rw[if_neg hk]
  exact⟨fun h=>absurd (zz2 _) h,fun h=>absurd h hk⟩
theorem co_f {kind:Int}(hk:1≤kind∧kind≤20):zBc (zBm kind) 3=(zLZ kind).1∧(zBm kind).text=(zLZ kind).2:=by
 unfold zBm
 rw[if_pos hk]
 exact⟨rfl,rfl⟩
attribute [local irreducible] zHG
theorem zMx {F:zC}(kind:Int)(hk:0≤kind∧kind≤255)(w0:World)(hF:Mem w0 F)(hK:ComM F) :
  Calls Tryz.prog 138 [.int .u8 kind].toArray w0 (Ret (.agg (zBm kind).cells.toArray) w0):=by
 obtain⟨cs,T,fr,hs⟩:=hK
 rcases Int.lt_or_le kind 1 with h1|h1
 ·have hlt:decide (kind<1)=true:=decide_eq_true h1
  refine enter [.cell 2 188] Tryz.func138 rfl Tryz.ntmps138 rfl rfl ?_
  have H:=zA w0
  repeat' (first|refine yT ?_|(refine y10 sg H ?_;intro b w H)|(refine y11 sg H ?_;intro w H)|refine z13 (Yq.buildR (cs:=#[.string ⟨#[32]⟩,.string ⟨#[32]⟩,.string ⟨#[32]⟩]) sg rfl rfl rfl rfl rfl) ?_|refine yU ?_|(refine y17 ?_ ?_;all_goals(intro h;try (exfalso;first|((rw[hlt] at h;cases h);done))))|fail)
  refine zA5 (vs:=[_]) ⟨zy sg rfl H.mem (zz2 _) rfl rfl,trivial⟩ H.cl ?_
  unfold zBm
  rw[if_neg qO];rfl
 rcases Int.lt_or_le 20 kind with h2|h2
 ·have hlt:decide (kind<1)=false:=decide_eq_false qO
  have hgt:decide (IntKind.i64.wrap kind>20)=true:=by rw[w64 qO qO];exact decide_eq_true h2
  refine enter [.cell 2 188] Tryz.func138 rfl Tryz.ntmps138 rfl rfl ?_
  have H:=zA w0
  repeat' (first|refine yT ?_|(refine y10 sg H ?_;intro b w H)|(refine y11 sg H ?_;intro w H)|refine z13 (Yq.buildR (cs:=#[.string ⟨#[32]⟩,.string ⟨#[32]⟩,.string ⟨#[32]⟩]) sg rfl rfl rfl rfl rfl) ?_|refine yU ?_|((first|refine y17 ?_ ?_|refine y23 ?_ ?_);all_goals(intro h;try (exfalso;first|((rw[hlt] at h;cases h);done)|((rw[hgt] at h;cases h);done))))|fail)
  refine zA5 (vs:=[_]) ⟨zy sg rfl H.mem (zz2 _) rfl rfl,trivial⟩ H.cl ?_
  unfold zBm
  rw[if_neg qO];rfl
 ·have hlt:decide (kind<1)=false:=decide_eq_false qO
  have hgt:decide (IntKind.i64.wrap kind>20)=false:=by rw[w64 qO qO];exact decide_eq_false qO
  have hq:IntKind.u8.wrap (kind - 1)=((kind - 1).toNat:Int):=by
   obtain⟨m,hm⟩:∃ m:Nat,kind - 1=(m:Int):=⟨(kind - 1).toNat,by omega⟩
   rw[hm,Int.toNat_natCast]
   have:m<256:=by omega
   simp[IntKind.wrap,IntKind.bits,IntKind.signed]
   omega
  refine enter [.cell 2 188] Tryz.func138 rfl Tryz.ntmps138 rfl rfl ?_
  have H:=zA w0
  repeat' (first|refine yT ?_|(refine y10 sg H ?_;intro b w H)|(refine y11 sg H ?_;intro w H)|(refine zd rfl rfl (Yq.ixP sg (n:=20) (j:=(kind - 1).toNat) (by rw[hq];exact zz1 _) (by rw[hq];omega) (by rw[hq];omega) rfl rfl rfl rfl rfl rfl) ?_)|(refine zd rfl rfl (zAn sg hs (H.memF hF) rfl rfl rfl rfl rfl qO) ?_)|refine yU ?_|((first|refine y17 ?_ ?_|refine y23 ?_ ?_);all_goals(intro h;try (exfalso;first|((rw[hlt] at h;cases h);done)|((rw[hgt] at h;cases h);done))))|fail)
  refine zA5 (vs:=[_]) ⟨zy sg rfl H.mem (zz2 _) rfl rfl,trivial⟩ H.cl ?_
  unfold zBm
  rw[if_pos qO];rfl
theorem zMy {F:zC}(kind:Int)(hk:0≤kind∧kind≤255)(w0:World)(hF:Mem w0 F)(hK:ComM F) :
  Calls Tryz.prog 87 [.int .u8 kind].toArray w0 (zi (ToldR (zBm kind) 3) w0):=by
 refine enter [.tmp 2,.tmp 3,.tmp 4] Tryz.func87 rfl Tryz.ntmps87 rfl rfl ?_
 have H:=zA w0
 repeat' (first|refine yT ?_|(refine' y30 ent138 ?_ ?_;rotate_left;exact zMx kind hk _ (H.memF hF) hK;refine w2 H ?_;clear H;intro w H)|(refine' y32 zQg ?_ ?_;rotate_left;exact zN0 (zBm kind) (zR9 kind) 3 _;intro z M w hR hS;replace H:=H.addR hS;clear hS;(try simp only[List.cons_append,List.nil_append] at H);obtain⟨a,n,cap,t,i,rfl,hR⟩:=hR.out)|refine yU ?_|fail)
 exact zq (vs:=[_,_,_]) (M:=M) ⟨zb rfl,zb rfl,zb rfl,trivial⟩ H hR
theorem zKF (t:ByteArray):(t.toList==(⟨#[]⟩:ByteArray).toList)=(t.size==0):=by
 rw[ByteArray.toList_eq,ByteArray.toList_eq,Bool.eq_iff_iff,beq_iff_eq,beq_iff_eq]
 show t.data.toList=[]↔t.data.size=0
 rw[← Array.length_toList,List.length_eq_zero_iff]
def Cmd.cells (c:Cmd)(a:Option Addr)(cap:Nat):List Value:=[.int .u8 c.kind,.slice a c.nums.length cap,.string c.text]
def zDr (c:Cmd):Prop:=(0≤c.kind∧c.kind≤255)∧c.text.size≤140737488355328
theorem zKG {F:zC}{na:Option Addr}{nc:Nat}(c:Cmd)(hc:zDr c)(w0:World)(hF:Mem w0 F)(hK:ComM F)(hN:Ints F na nc c.nums) :
  Calls Tryz.prog 50 [.agg (c.cells na nc).toArray].toArray w0 (Ret (.bool (zEx c)) w0):=by
 refine enter [.tmp 2] Tryz.func50 rfl Tryz.ntmps50 rfl rfl ?_
 have H:=zA w0
 repeat' (first|refine yT ?_|refine y7 sg H ?_|(refine y9 H ?_;intro b w H)|(refine' y32 ent87 ?_ ?_;rotate_left;exact zMy c.kind hc.1 _ (H.memF hF) hK;intro z M w hR hS;replace H:=H.addR hS;clear hS;(try simp only[List.cons_append,List.nil_append] at H);obtain⟨hx,a,cap,rfl,hO⟩|⟨hx,rfl⟩:=hR.cases (co_len _))|(refine' y30 ent88 ?_ ?_;rotate_left;exact zRe 3 _ (cls_co hx.2.2) c.nums _ (H.memF hF) H.mem (hO.mono (fun x hx=>zz4 _ hx)) hN;refine w2 H ?_;clear H;intro w H)|refine yU ?_|fail)
 ·have hk:=zSA.1 hx.2.2
  obtain⟨e1,e2⟩:=co_f hk
  have hf:zEx c=(zBG 3 (zBc (zBm c.kind) 3) c.nums&&(if (zBm c.kind).text then zAI c.text else c.text.size==0)):=by
   unfold zEx;rw[decide_eq_true hk.1,decide_eq_true hk.2,e1,e2,Bool.true_and,Bool.true_and]
  rw[hf]
  clear e1 e2 hf
  generalize zBG 3 (zBc (zBm c.kind) 3) c.nums=q1
  generalize (zBm c.kind).text=q2
  cases q1<;>cases q2<;>repeat' (first|refine yT ?_|refine y7 sg H ?_|(refine' y30 zQf ?_ ?_;rotate_left;exact zGU c.text hc.2 _;refine w2 H ?_;clear H;intro w H)|refine yU ?_|(refine y17 ?_ ?_;all_goals(intro h;try (exfalso;first|((cases h);done))))|fail)
  all_goals first
   | exact zP rfl H.cl rfl
   | exact zP rfl H.cl (by rw[h];rfl)
   | exact zP rfl H.cl (congrArg Value.bool (zKF c.text))
 ·have hf:zEx c=false:=by
   unfold zEx
   have:=fun e=>hx ⟨by decide,by decide,zSA.2 e⟩
   by_cases h1:1≤c.kind
   ·rw[decide_eq_false (fun h2=>this ⟨h1,h2⟩)];simp
   ·rw[decide_eq_false h1];simp
  exact zP rfl H.cl (by rw[hf])
end
end Go.Proofs.YthbflajpdhgfiaaGreatDoor
