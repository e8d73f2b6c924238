/- Steps of the proof. -/
import Derived.Test.YtejhijhnlogikaaGreatDoorMe11
set_option linter.all false
set_option maxHeartbeats 16000000
namespace Go.Proofs.YtejhijhnlogikaaGreatDoor
open Go Go.Sk Go.RowKit Tryz
attribute [local irreducible] Go.Calls
theorem Row4.clen (r:Row4):r.cells.length=4:=rfl
theorem Row4.cone (r:Row4):∀ u∈r.cells,u.oneCell'=true:=by intro u hu;simp only[Row4.cells,List.mem_cons,List.not_mem_nil,or_false] at hu;rcases hu with rfl|rfl|rfl|rfl<;>rfl
theorem Odr.clen (r:Odr):r.cells.length=6:=rfl
theorem Odr.cone (r:Odr):∀ u∈r.cells,u.oneCell'=true:=by intro u hu;simp only[Odr.cells,List.mem_cons,List.not_mem_nil,or_false] at hu;rcases hu with rfl|rfl|rfl|rfl|rfl|rfl<;>rfl
def zCX {α:Type}(p:Nat->Bool)(n:Nat)(d:Nat->α)(t:Nat):α:=d ((kp p n).getD t 0)
def zG1 {α:Type}(d:Nat->α)(k:Nat)(v:α):Nat->α:=fun t=>if t=k then v else d t
theorem zRb {w0 w:World}{g n cap:Nat}{G:zA}{d:Nat->Row4}{cs:List Value}{f:FuncId}{caps:List Value}(p:Nat->Bool)(H:St w0 (cb g cs 104::G) w)(he:Els cs 4 n (fun j=>(d j).cells))(hn:n<=8796093022208)(hnc:n<=cap)
  (hf:Ent prog f) (hp:∀ j,j<n->∀ L cs' w',St w0 (L++cb g cs' 104::G) w'->Calls prog f ([Value.agg (d j).cells.toArray]++caps).toArray w' (Ret (.bool (p j)) w')) :
  Calls prog 255 [.slice (some ⟨g,0,none⟩) n cap,.func (.func f) #[] caps.toArray].toArray w
   (zZ (fun M v=>v=.slice (some ⟨g,0,none⟩) (kp p n).length cap/\∃ cs',M=cb g cs' 104::G/\cs'.length=cs.length/\Els cs' 4 (kp p n).length (fun t=>(zCX p n d t).cells)) w0):=by{
refine eN func255 ntmps255 ?_;(repeat' first|refine yX ?_|(refine OX.call rfl rfl (En.fn zLE rfl rfl) (zEZ p _ H.mem ⟨hnc,by omega,g,0,cs,_,(0,0),he.slb (zz2 _)⟩ hf (fun j hj w' hw=>hp j hj [] _ _ (H.ext hw))) ?_;refine wQ H ?_;clear H;intro w H)|fail);refine zB rfl (fun h=>?_) (fun h=>?_)
·(repeat' first|refine yX ?_|fail);rcases zX p n with ⟨k,hk,hlo,hpk,hix⟩|⟨hall,hix⟩
 .rw[hix] at h;have:=eqI h;omega
 .have hkp:=zHl hall;have hkl:(kp p n).length=n:=by{rw[hkp,List.length_range]};refine zc (vs:=[_]) (M:=_) ⟨zP rfl,trivial⟩ H ⟨by rw[hkl];rfl,cs,rfl,rfl,?_⟩
  rw[hkl];exact he.congr (fun j hj=>by show(d j).cells=(d _).cells;rw[hkp,yy2,List.getElem?_range hj];rfl)
.rcases zX p n with ⟨k,hk,hlo,hpk,hix⟩|⟨_,hix⟩
 .rw[hix];clear h;have hk1:kp p (k+1)=List.range k:=by rw[zBz,if_pos hpk];exact zHl hlo
  have hlt:∀ j,k+1<=j->(kp p j).length<j:=by
   intro j hj;induction j with
   | zero=>omega
   | succ j ih =>
     rw[zBz];rcases Nat.lt_or_ge k j with h1|h1
     .have:=ih qO;split
      .omega
      .rw[yy4,yyo];omega
     .obtain rfl:j=k:=by{omega};rw[if_pos hpk]
      have:=zLq p j;omega
  (repeat' first|refine yX ?_|fail)
  refine zD [(5,7),(16,35)] (fun x:Nat × (Nat->Row4) × List Value=>[(5,.int .i64 ((kp p x.1).length:Int)),(6,.int .i64 (x.1:Int))])
   (fun x w=>k+1<=x.1/\x.1<=n/\(∀ t,t<(kp p x.1).length->x.2.1 t=zCX p x.1 d t)/\(∀ t,x.1<=t->x.2.1 t=d t)/\Els x.2.2 4 n (fun t=>(x.2.1 t).cells)/\x.2.2.length=cs.length/\St w0 (cb g x.2.2 104::G) w)
   (fun x=>n - x.1) (k+1,d,cs) ⟨by show Value.int .i64 _=Value.int .i64 ((kp p (k+1)).length:Int);rw[hk1,List.length_range],zU qO,trivial⟩
   ⟨zzC _,hk,fun t ht=>by rw[hk1,List.length_range] at ht;unfold zCX;rw[hk1,yy2,List.getElem?_range ht];rfl,fun _ _=>rfl,he,rfl,H⟩ ?_
  clear H he;rintro⟨j,d2,cs2⟩ gh w ⟨hj1,hj2,hj3,hj4,he,hl,H⟩;simp only at hj1 hj2 hj3 hj4 he hl H ⊢;have hil:=hlt j hj1;(repeat' first|refine yX ?_|fail);refine zB rfl (fun h=>?_) (fun h=>?_)
  .have hjn:j<n:=by{simpa using h};have hdj:d2 j=d j:=hj4 j (zzC _)
   have hs:=he.slb (F:=cb g cs2 104::G) (T:=104) (g:=g) (zz2 _);(repeat' first|refine yX ?_|(refine yB ?_;intro b w H)|(refine y11 sg H ?_;intro w H)|refine x40 sg hs ?_|refine x42 sg hs H.mem ?_|(refine OX.call rfl rfl (zAq hf rfl rfl rfl) (by have:=hp j hjn [_] _ _ H;rw[<- hdj] at this;exact this) ?_;refine wQ H ?_;clear H;intro w H)|fail);refine zB rfl (fun h2=>?_) (fun h2=>?_)
   ·(repeat' first|refine yX ?_|refine x40 sg hs ?_|(refine OX.storeB sg (H.perm (List.Perm.swap _ _ _)) rfl rfl rfl (vs:=(d2 j).cells) rfl rfl (Row4.clen _) (by have:=(he _ (Nat.lt_of_lt_of_le hil hj2)).1;rw[Row4.clen];omega) (Row4.cone _) ?_;intro w HS)|fail);have hin:(kp p j).length<n:=Nat.lt_of_lt_of_le hil hj2;have hkp:kp p (j+1)=kp p j++[j]:=by{rw[zBz,if_neg (by simpa using h2)]};have hkl:(kp p (j+1)).length=(kp p j).length+1:=by rw[hkp,yy4,yyo]
    refine zC (j+1,zG1 d2 (kp p j).length (d2 j),wr cs2 (0+(kp p j).length*4) (d2 j).cells) rfl ⟨by show Value.int .i64 _=Value.int .i64 ((kp p (j+1)).length:Int);rw[hkl];exact zU qO,zU qO,trivial⟩
     ⟨by show k+1<=j+1;omega,hjn,fun t ht=>?_,fun t ht=>?_,?_,?_,HS.sub (yy5 _ (zz7 _ _))⟩ (by show n - (j+1)<n - j;omega)
    .replace ht:t<(kp p (j+1)).length:=ht;rw[hkl] at ht;show zG1 d2 (kp p j).length (d2 j) t=zCX p (j+1) d t;unfold zG1 zCX;rw[hkp,yy2];by_cases ht2:t=(kp p j).length
     .rw[if_pos ht2,ht2,yym (Nat.le_refl _),Nat.sub_self,hdj];rfl
     .rw[if_neg ht2,yyl qO,hj3 t qO];unfold zCX;rw[yy2]
    .replace ht:j+1<=t:=ht;show zG1 d2 (kp p j).length (d2 j) t=d t;unfold zG1;rw[if_neg qO,hj4 t qO]
    .show Els (wr cs2 (0+(kp p j).length*4) (d2 j).cells) 4 n _;rw[yyv];exact(he.wr hin (Row4.clen _)).congr (fun t _=>by show(if t=_ then _ else _)=(Row4.cells (zG1 _ _ _ t));unfold zG1;split<;>rfl)
    .show(wr _ _ _).length=_;rw[zCC (by have:=(he _ hin).1;rw[Row4.clen];omega)];exact hl
   ·(repeat' first|refine yX ?_|fail);have hkp:kp p (j+1)=kp p j:=by rw[zBz,if_pos (by simpa using h2)]
    refine zC (j+1,d2,cs2) rfl ⟨by show Value.int .i64 _=Value.int .i64 ((kp p (j+1)).length:Int);rw[hkp],zU qO,trivial⟩
     ⟨by show k+1<=j+1;omega,hjn,fun t ht=>?_,fun t ht=>hj4 t (by replace ht:j+1<=t:=ht;omega),he,hl,H.sub (zz7 _ _)⟩ (by show n - (j+1)<n - j;omega)
    replace ht:t<(kp p (j+1)).length:=ht;show d2 t=zCX p (j+1) d t;unfold zCX;rw[hkp];rw[hkp] at ht;exact hj3 t ht
  .have hjn:j=n:=by simp at h;omega
   subst hjn;(repeat' first|refine yX ?_|(refine za rfl rfl (Yq.sliceLoB sg rfl rfl rfl rfl rfl rfl (zz1 _) qO qO hnc) ?_)|(refine OX.clearP sg H qO rfl rfl rfl rfl rfl rfl rfl rfl rfl (by have:=(he (j - 1) qO).1;show 0+(kp p j).length*4+(j - (kp p j).length)*4<=cs2.length;omega) ?_;intro cs3 w hl3 hk3 H)|(refine za rfl rfl (Yq.sliceHi sg rfl rfl rfl rfl rfl rfl (zz1 _) qO qO) ?_)|fail);exact zc (vs:=[_]) (M:=_) ⟨zP rfl,trivial⟩ H ⟨rfl,cs3,rfl,hl3.trans hl,(he.keep (Nat.le_of_lt hil) hl3 (fun q hq=>hk3 q (by show q<0+(kp p j).length*4;omega))).congr (fun t ht=>by show(d2 t).cells=_;rw[hj3 t ht])⟩
 .rw[hix] at h;exact absurd h (by decide)}
theorem zRc {w0 w:World}{g n cap:Nat}{G:zA}{d:Nat->Odr}{cs:List Value}{f:FuncId}{caps:List Value}(p:Nat->Bool)(H:St w0 (cb g cs 45::G) w)(he:Els cs 6 n (fun j=>(d j).cells))(hn:n<=8796093022208)(hnc:n<=cap)
  (hf:Ent prog f) (hp:∀ j,j<n->∀ L cs' w',St w0 (L++cb g cs' 45::G) w'->Calls prog f ([Value.agg (d j).cells.toArray]++caps).toArray w' (Ret (.bool (p j)) w')) :
  Calls prog 92 [.slice (some ⟨g,0,none⟩) n cap,.func (.func f) #[] caps.toArray].toArray w
   (zZ (fun M v=>v=.slice (some ⟨g,0,none⟩) (kp p n).length cap/\∃ cs',M=cb g cs' 45::G/\cs'.length=cs.length/\Els cs' 6 (kp p n).length (fun t=>(zCX p n d t).cells)) w0):=by{
refine eN func92 ntmps92 ?_;(repeat' first|refine yX ?_|(refine OX.call rfl rfl (En.fn zOG rfl rfl) (zGW p _ H.mem ⟨hnc,by omega,g,0,cs,_,(0,0),he.slb (zz2 _)⟩ hf (fun j hj w' hw=>hp j hj [] _ _ (H.ext hw))) ?_;refine wQ H ?_;clear H;intro w H)|fail);refine zB rfl (fun h=>?_) (fun h=>?_)
·(repeat' first|refine yX ?_|fail);rcases zX p n with ⟨k,hk,hlo,hpk,hix⟩|⟨hall,hix⟩
 .rw[hix] at h;have:=eqI h;omega
 .have hkp:=zHl hall;have hkl:(kp p n).length=n:=by{rw[hkp,List.length_range]};refine zc (vs:=[_]) (M:=_) ⟨zP rfl,trivial⟩ H ⟨by rw[hkl];rfl,cs,rfl,rfl,?_⟩
  rw[hkl];exact he.congr (fun j hj=>by show(d j).cells=(d _).cells;rw[hkp,yy2,List.getElem?_range hj];rfl)
.rcases zX p n with ⟨k,hk,hlo,hpk,hix⟩|⟨_,hix⟩
 .rw[hix];clear h;have hk1:kp p (k+1)=List.range k:=by rw[zBz,if_pos hpk];exact zHl hlo
  have hlt:∀ j,k+1<=j->(kp p j).length<j:=by
   intro j hj;induction j with
   | zero=>omega
   | succ j ih =>
     rw[zBz];rcases Nat.lt_or_ge k j with h1|h1
     .have:=ih qO;split
      .omega
      .rw[yy4,yyo];omega
     .obtain rfl:j=k:=by{omega};rw[if_pos hpk]
      have:=zLq p j;omega
  (repeat' first|refine yX ?_|fail)
  refine zD [(5,7),(16,35)] (fun x:Nat × (Nat->Odr) × List Value=>[(5,.int .i64 ((kp p x.1).length:Int)),(6,.int .i64 (x.1:Int))])
   (fun x w=>k+1<=x.1/\x.1<=n/\(∀ t,t<(kp p x.1).length->x.2.1 t=zCX p x.1 d t)/\(∀ t,x.1<=t->x.2.1 t=d t)/\Els x.2.2 6 n (fun t=>(x.2.1 t).cells)/\x.2.2.length=cs.length/\St w0 (cb g x.2.2 45::G) w)
   (fun x=>n - x.1) (k+1,d,cs) ⟨by show Value.int .i64 _=Value.int .i64 ((kp p (k+1)).length:Int);rw[hk1,List.length_range],zU qO,trivial⟩
   ⟨zzC _,hk,fun t ht=>by rw[hk1,List.length_range] at ht;unfold zCX;rw[hk1,yy2,List.getElem?_range ht];rfl,fun _ _=>rfl,he,rfl,H⟩ ?_
  clear H he;rintro⟨j,d2,cs2⟩ gh w ⟨hj1,hj2,hj3,hj4,he,hl,H⟩;simp only at hj1 hj2 hj3 hj4 he hl H ⊢;have hil:=hlt j hj1;(repeat' first|refine yX ?_|fail);refine zB rfl (fun h=>?_) (fun h=>?_)
  .have hjn:j<n:=by{simpa using h};have hdj:d2 j=d j:=hj4 j (zzC _)
   have hs:=he.slb (F:=cb g cs2 45::G) (T:=45) (g:=g) (zz2 _);(repeat' first|refine yX ?_|(refine yB ?_;intro b w H)|(refine y11 sg H ?_;intro w H)|refine x40 sg hs ?_|refine x42 sg hs H.mem ?_|(refine OX.call rfl rfl (zAq hf rfl rfl rfl) (by have:=hp j hjn [_] _ _ H;rw[<- hdj] at this;exact this) ?_;refine wQ H ?_;clear H;intro w H)|fail);refine zB rfl (fun h2=>?_) (fun h2=>?_)
   ·(repeat' first|refine yX ?_|refine x40 sg hs ?_|(refine OX.storeB sg (H.perm (List.Perm.swap _ _ _)) rfl rfl rfl (vs:=(d2 j).cells) rfl rfl (Odr.clen _) (by have:=(he _ (Nat.lt_of_lt_of_le hil hj2)).1;rw[Odr.clen];omega) (Odr.cone _) ?_;intro w HS)|fail);have hin:(kp p j).length<n:=Nat.lt_of_lt_of_le hil hj2;have hkp:kp p (j+1)=kp p j++[j]:=by{rw[zBz,if_neg (by simpa using h2)]};have hkl:(kp p (j+1)).length=(kp p j).length+1:=by rw[hkp,yy4,yyo]
    refine zC (j+1,zG1 d2 (kp p j).length (d2 j),wr cs2 (0+(kp p j).length*6) (d2 j).cells) rfl ⟨by show Value.int .i64 _=Value.int .i64 ((kp p (j+1)).length:Int);rw[hkl];exact zU qO,zU qO,trivial⟩
     ⟨by show k+1<=j+1;omega,hjn,fun t ht=>?_,fun t ht=>?_,?_,?_,HS.sub (yy5 _ (zz7 _ _))⟩ (by show n - (j+1)<n - j;omega)
    .replace ht:t<(kp p (j+1)).length:=ht;rw[hkl] at ht;show zG1 d2 (kp p j).length (d2 j) t=zCX p (j+1) d t;unfold zG1 zCX;rw[hkp,yy2];by_cases ht2:t=(kp p j).length
     .rw[if_pos ht2,ht2,yym (Nat.le_refl _),Nat.sub_self,hdj];rfl
     .rw[if_neg ht2,yyl qO,hj3 t qO];unfold zCX;rw[yy2]
    .replace ht:j+1<=t:=ht;show zG1 d2 (kp p j).length (d2 j) t=d t;unfold zG1;rw[if_neg qO,hj4 t qO]
    .show Els (wr cs2 (0+(kp p j).length*6) (d2 j).cells) 6 n _;rw[yyv];exact(he.wr hin (Odr.clen _)).congr (fun t _=>by show(if t=_ then _ else _)=(Odr.cells (zG1 _ _ _ t));unfold zG1;split<;>rfl)
    .show(wr _ _ _).length=_;rw[zCC (by have:=(he _ hin).1;rw[Odr.clen];omega)];exact hl
   ·(repeat' first|refine yX ?_|fail);have hkp:kp p (j+1)=kp p j:=by rw[zBz,if_pos (by simpa using h2)]
    refine zC (j+1,d2,cs2) rfl ⟨by show Value.int .i64 _=Value.int .i64 ((kp p (j+1)).length:Int);rw[hkp],zU qO,trivial⟩
     ⟨by show k+1<=j+1;omega,hjn,fun t ht=>?_,fun t ht=>hj4 t (by replace ht:j+1<=t:=ht;omega),he,hl,H.sub (zz7 _ _)⟩ (by show n - (j+1)<n - j;omega)
    replace ht:t<(kp p (j+1)).length:=ht;show d2 t=zCX p (j+1) d t;unfold zCX;rw[hkp];rw[hkp] at ht;exact hj3 t ht
  .have hjn:j=n:=by simp at h;omega
   subst hjn;(repeat' first|refine yX ?_|(refine za rfl rfl (Yq.sliceLoB sg rfl rfl rfl rfl rfl rfl (zz1 _) qO qO hnc) ?_)|(refine OX.clearP sg H qO rfl rfl rfl rfl rfl rfl rfl rfl rfl (by have:=(he (j - 1) qO).1;show 0+(kp p j).length*6+(j - (kp p j).length)*6<=cs2.length;omega) ?_;intro cs3 w hl3 hk3 H)|(refine za rfl rfl (Yq.sliceHi sg rfl rfl rfl rfl rfl rfl (zz1 _) qO qO) ?_)|fail);exact zc (vs:=[_]) (M:=_) ⟨zP rfl,trivial⟩ H ⟨rfl,cs3,rfl,hl3.trans hl,(he.keep (Nat.le_of_lt hil) hl3 (fun q hq=>hk3 q (by show q<0+(kp p j).length*6;omega))).congr (fun t ht=>by show(d2 t).cells=_;rw[hj3 t ht])⟩
 .rw[hix] at h;exact absurd h (by decide)}
theorem zUK {α:Type}(l:List α)(p:α->Bool)(d:α):∀ n,n<=l.length->(kp (fun j=>p (l.getD j d)) n).map (fun j=>l.getD j d)=(l.take n).filter fun x=>!p x
 | 0,_=>rfl
 | n+1,h=>by
   have e:l.take (n+1)=l.take n++[l.getD n d]:=by
    rw[yyj qO];simp[yy1 (show n<l.length by omega)]
   rw[e,List.filter_append,<- zUK l p d n qO,zBz]
   cases hp:p (l.getD n d)
   .rw[if_neg (by decide),List.map_append,List.filter_cons_of_pos (by rw[hp];rfl),List.filter_nil];rfl
   .rw[if_pos rfl,List.filter_cons_of_neg (by rw[hp];decide),List.filter_nil,List.append_nil]
theorem zIF {α:Type}(l:List α)(p:α->Bool)(d:α):(kp (fun j=>p (l.getD j d)) l.length).length=(l.filter fun x=>!p x).length/\∀ t,t<(l.filter fun x=>!p x).length->zCX (fun j=>p (l.getD j d)) l.length (fun j=>l.getD j d) t=(l.filter fun x=>!p x).getD t d:=by have h:=zUK l p d l.length (zzC _);rw[List.take_length] at h;refine⟨by rw[<- h,yyp],fun t ht=>?_⟩;rw[<- h] at ht ⊢;rw[yyp] at ht;unfold zCX;rw[yy2 (l:=List.map _ _),List.getElem?_map,yy2 (l:=kp _ _),yy1 ht];rfl
theorem zRd {w0:World}{a:OA}{cap:Nat}{f:FuncId}{caps:List Value}(hf:Ent prog f) :
  Cr 255 [.slice a 0 cap,.func (.func f) #[] caps.toArray] (.slice a 0 cap) w0:=by refine eS func255 ntmps255 fun H=>?_;(repeat' first|refine yW ?_|(refine c0 zLE ?_;refine⟨_,zEZ (n:=0) (el:=fun _=>[]) (F:=[]) (fun _=>false) _ (fun _ h=>nomatch h) ⟨zzD _,zzD _,0,0,[],0,(0,0),fun h=>absurd h (yyz 0)⟩ hf (fun j hj=>absurd hj (zzE _)),?_⟩;clear H;intro w H)|fail);all_goals exact zG rfl H.cl rfl
theorem zRe {w0:World}{a:OA}{cap:Nat}{f:FuncId}{caps:List Value}(hf:Ent prog f) :
  Cr 92 [.slice a 0 cap,.func (.func f) #[] caps.toArray] (.slice a 0 cap) w0:=by refine eS func92 ntmps92 fun H=>?_;(repeat' first|refine yW ?_|(refine c0 zOG ?_;refine⟨_,zGW (n:=0) (el:=fun _=>[]) (F:=[]) (fun _=>false) _ (fun _ h=>nomatch h) ⟨zzD _,zzD _,0,0,[],0,(0,0),fun h=>absurd h (yyz 0)⟩ hf (fun j hj=>absurd hj (zzE _)),?_⟩;clear H;intro w H)|fail);all_goals exact zG rfl H.cl rfl
def ofF (l:List Row4)(a:Int):List Row4:=l.filter fun r=>!(r.acct != a)
theorem c_Of {a0:OA}{cap:Nat}(l:List Row4)(a:Int)(hl:l.length<=1000000){F:zA}(w0:World)(hF:Mem w0 F)(hs0:SlA F 4 a0 l.length cap (rwl l)) :
  Cf 212 [.slice a0 l.length cap,.int .i64 a] (fun _ v=>∃ a1 c1,v=.slice a1 (ofF l a).length c1) w0:=by{
refine eS func212 ntmps212 fun H=>?_;(repeat' first|refine yX ?_|(refine yB ?_;intro b w H)|(refine f0 ent83 ?_;refine⟨_,zJH _ (H.memF hF) hs0 (fun j _=>Row4.cone _) (fun j _=>rfl) qO,?_⟩;clear H;intro v M w hR H;(try simp only[zca,zcb] at H);obtain⟨a',cap',rfl,hO⟩:=hR)|fail);rcases yyn l.length with h0|h0
.obtain rfl:=List.length_eq_zero_iff.1 h0;(repeat' first|refine yW ?_|(refine c0 zTT ?_;refine⟨_,zRd (a:=a') (cap:=cap') (caps:=[(pt b)]) zTU,?_⟩;clear H;intro w H)|fail);exact zL (M:=[]) rfl (H.sub (zz9 _)) ⟨a',cap',rfl⟩
.obtain⟨g,cs,rfl,rfl,hnc,he⟩:=hO.els h0 (fun j _=>rfl);clear hO;replace H:=H.perm (List.Perm.swap _ _ _);(repeat' first|refine yW ?_|(refine zW rfl rfl (En.fn zTT rfl rfl) (zRb (n:=l.length) (d:=rw_ l) (caps:=[(pt b)]) (fun j=>(rw_ l j).acct != a) H he qO hnc zTU (fun j hj L cs' w' H'=>c_Of1 (rw_ l j) a b w' H'.mem (zz3 _ (zz5 _ (zz2 _))))) ?_;rintro _ _ w ⟨rfl,cs2,rfl,hl2,he2⟩ H2;clear H;have H:=H2;clear H2)|fail);have hk:=(zIF l (fun r=>r.acct != a) default).1;exact zL (M:=[]) rfl (H.sub (zz9 _)) ⟨_,_,congrArg (fun n=>Value.slice (some ⟨g,0,none⟩) n cap') hk⟩}
def zIT (E:Pl->Int × Int)(s:Int):Int:=((List.range 65).map fun(a:Nat)=>(E ((a:Int),s)).1+(E ((a:Int),s)).2).sum
def wR (s:Int)(r:Row4):Int:=if r.asset=s then r.free+r.held else 0
theorem zLr {l:List Row4}{s:Int}:∀ k,k<=l.length->smR l s k=((l.take k).map (wR s)).sum
 | 0,_=>by simp[smR]
 | k+1,h=>by
   have ih:=zLr (l:=l) (s:=s) k qO
   rw[smR,ih,yyj qO,List.map_append,List.sum_append]
   simp[wR,rw_,yy2,yy1 (show k<l.length by omega)]
theorem zUL {α β:Type}{f:α->Option β}{g:β->Int}:∀ (l:List α),((l.filterMap f).map g).sum=(l.map fun x=>match f x with|some y=>g y|none=>0).sum
 | []=>rfl
 | a::l=>by
   rw[List.filterMap_cons,List.map_cons,List.sum_cons,<- zUL l]
   cases f a<;>simp
theorem zM1 {α β:Type}{f:α->List β}{g:β->Int}:∀ (l:List α),((l.flatMap f).map g).sum=(l.map fun x=>((f x).map g).sum).sum
 | []=>rfl
 | a::l=>by rw[List.flatMap_cons,List.map_append,List.sum_append,zM1 l,List.map_cons,List.sum_cons]
theorem zG2 {α:Type}{g:α->Int}:∀ {l:List α},(∀ x∈l,g x=0)->(l.map g).sum=0
 | [],_=>rfl
 | a::l,h=>by rw[List.map_cons,List.sum_cons,h a (List.Mem.head _),zG2 fun x hx=>h x (List.Mem.tail _ hx)];rfl
theorem zLs {α:Type}{f g:α->Int}:∀ (l:List α),(l.map fun x=>f x+g x).sum=(l.map f).sum+(l.map g).sum
 | []=>rfl
 | a::l=>by simp only[List.map_cons,List.sum_cons,zLs l];omega
theorem zEE {α:Type}{f g:α->Int}:∀ {l:List α},(∀ x∈l,f x=g x)->(l.map f).sum=(l.map g).sum
 | [],_=>rfl
 | a::l,h=>by rw[List.map_cons,List.map_cons,List.sum_cons,List.sum_cons,h a (List.Mem.head _),zEE fun x hx=>h x (List.Mem.tail _ hx)]
theorem zQE {n k:Nat}(hk:k<n)(z:Int):((List.range n).map fun a=>if a=k then z else 0).sum=z:=by{
induction n with
| zero=>omega
| succ n ih =>
  rw[yys,List.map_append,List.sum_append];by_cases h:k=n
  .subst h;rw[zG2 fun x hx=>if_neg (by have:=List.mem_range.1 hx;omega)];simp
  .rw[ih qO];simp[show ¬ n=k by omega]}
theorem zQF (E:Pl->Int × Int)(s:Nat)(hs:s<17):((mkR E).map (wR s)).sum=zIT E s:=by{
unfold mkR;rw[zUL];unfold zB5 zIT;rw[zM1];refine zEE fun a ha=>?_;rw[List.map_map];rw[zEE (g:=fun t=>if t=s then(E ((a:Int),(s:Int))).1+(E ((a:Int),(s:Int))).2 else 0) fun t ht=>?_]
.exact zQE hs _
.simp only[Function.comp];by_cases h0:E ((a:Int),(t:Int))=(0,0)
 .rw[if_pos h0];by_cases hts:t=s
  .subst hts;rw[if_pos rfl,h0];rfl
  .rw[if_neg hts]
 .rw[if_neg h0];simp only[wR];by_cases hts:t=s
  .subst hts;simp
  .rw[if_neg qO,if_neg hts]}
theorem zM2 {l:List Row4}(h:zAZ l=true)(s:Nat)(hs:s<17):zIT (atR l) s=0:=by have h1:=(zBw.1 h).2 s hs;rw[zLr _ (Nat.le_refl _),List.take_length] at h1;rw[<- zQF _ s hs,zQD h];exact h1
structure GoodE (E:Pl->Int × Int):Prop where
 out:∀ x∈zB5,x.1=0->(E x).2=0
 acc:∀ x∈zB5,x.1≠0->0<=(E x).1/\0<=(E x).2/\(E x).1+(E x).2<=1125899906842624
 col:∀ s:Nat,s<17->zIT E s=0
theorem zWt {E:Pl->Int × Int}(h:GoodE E):zAZ (mkR E)=true:=by{
rw[zBw];refine⟨fun j hj=>?_,fun s hs=>?_⟩
.have hr:rw_ (mkR E) j∈mkR E:=by simp[rw_,yy2,yy1 hj]
 have hm:=zF0.1 hr;have hg:=zDU.1 hm.1;refine⟨⟨⟨hg.1.1,hg.1.2,hg.2⟩,hm.2.2,fun h0=>?_,fun h0=>?_⟩,?_⟩
 .have:=h.out _ hm.1 h0;rw[hm.2.1] at this;exact this
 .have:=h.acc _ hm.1 h0;rw[hm.2.1] at this;exact this
 .rcases yyn j with h0|h0
  .exact .inl h0
  .right;have:=List.pairwise_iff_getElem.1 (zIg E) (j - 1) j qO hj qO;simpa [rw_,yy2,yy1 hj,yy1 (show j - 1<(mkR E).length by omega)] using this
.rw[zLr _ (Nat.le_refl _),List.take_length,zQF E s hs];exact h.col s hs}
theorem zBb (q:Pst)(p:List Pst)(x:Pl):dlF (q::p) x=if q.acct=x.1/\q.asset=x.2 then((dlF p x).1+q.free,(dlF p x).2+q.held) else dlF p x:=by{
have key:∀ (p:List Pst) (z:Int × Int),p.foldl (fun z q=>if q.acct=x.1/\q.asset=x.2 then(z.1+q.free,z.2+q.held) else z) z=(z.1+(dlF p x).1,z.2+(dlF p x).2):=by
 intro p;induction p with
 | nil=>intro z;simp[dlF]
 | cons q p ih =>
   intro z;unfold dlF;simp only[List.foldl_cons];rw[ih,ih];split
   .simp only[Int.zero_add];ext<;>simp only<;>omega
   .simp
show(q::p).foldl _ _=_;rw[List.foldl_cons,key];split
.simp only[Int.zero_add];ext<;>simp only<;>omega
.simp}
theorem zC7 (q:Pst)(p:List Pst)(s:Int):zBx (q::p) s=zBx p s+if q.asset=s then q.free+q.held else 0:=by{
have key:∀ (p:List Pst) (z:Int),p.foldl (fun z q=>if q.asset=s then z+(q.free+q.held) else z) z=z+zBx p s:=by
 intro p;induction p with
 | nil=>intro z;simp[zBx]
 | cons q p ih =>
   intro z;unfold zBx;simp only[List.foldl_cons];rw[ih,ih];split<;>omega
show(q::p).foldl _ _=_;rw[List.foldl_cons,key];split<;>omega}
theorem dl_col {p:List Pst}(hp:p.any zCw=false)(s:Nat):zIT (dlF p) s=zBx p s:=by{
induction p with
| nil=>unfold zIT;exact zG2 fun a _=>rfl
| cons q p ih =>
  rw[List.any_cons,Bool.or_eq_false_iff] at hp;have hq:(0<=q.acct/\q.acct<=64):=by have:=hp.1;simp only[zCw,zCf,Bool.or_eq_false_iff,Bool.not_eq_false',yy3,decide_eq_true_eq] at this;exact⟨this.1.1.1.1.1.1,this.1.1.1.1.1.2⟩
  rw[zC7,<- ih hp.2];unfold zIT;have e:∀ a:Nat,(dlF (q::p) ((a:Int),(s:Int))).1+(dlF (q::p) ((a:Int),(s:Int))).2=((dlF p ((a:Int),(s:Int))).1+(dlF p ((a:Int),(s:Int))).2)+if a=q.acct.toNat then(if q.asset=(s:Int) then q.free+q.held else 0) else 0:=by
   intro a;rw[zBb];simp only;by_cases ha:a=q.acct.toNat
   .by_cases hs:q.asset=(s:Int)
    .rw[if_pos ⟨by omega,hs⟩,if_pos ha,if_pos hs];omega
    .rw[if_neg (fun h=>hs h.2),if_pos ha,if_neg hs];omega
   .rw[if_neg (fun h=>ha qO),if_neg ha];omega
  rw[zEE fun a _=>e a,zLs,zQE qO]}
theorem zJJ {p:List Pst}(h:zA5 p=0):p.length<=64/\p.any zCw=false/\∀ s:Nat,s<17->zBx p s=0:=by{
unfold zA5 at h;by_cases h1:p.length>64
.rw[if_pos h1] at h;cases h
rw[if_neg h1] at h;by_cases h2:p.any zCw=true
.rw[if_pos h2] at h;cases h
rw[if_neg h2] at h;by_cases h3:((List.range 17).any fun s=>zBx p (s:Nat) != 0)=true
.rw[if_pos h3] at h;cases h
refine⟨by omega,by simpa using h2,fun s hs=>?_⟩;have:=List.any_eq_false.1 (by simpa using h3:((List.range 17).any fun s=>zBx p (s:Nat) != 0)=false) s (List.mem_range.2 hs);simpa using this}
theorem dl_out {p:List Pst}(hp:p.any zCw=false)(s:Int):(dlF p (0,s)).2=0:=by{
induction p with
| nil=>rfl
| cons q p ih =>
  rw[List.any_cons,Bool.or_eq_false_iff] at hp;rw[zBb];split
  .rename_i h;have:=hp.1;simp only[zCw,Bool.or_eq_false_iff,Bool.and_eq_false_iff] at this;have h2:q.held=0:=by
    rcases this.2 with e|e
    .simp[h.1] at e
    .simpa using e
   simp only[ih hp.2,h2];rfl
  .exact ih hp.2}
theorem zDo (a f h:Int):(zAR a f h=0/\(a≠0->0<=f/\0<=h/\f+h<=1125899906842624))\/(zAR a f h=47/\a≠0/\(f<0\/h<0))\/(zAR a f h=41/\a≠0/\0<=f/\0<=h/\1125899906842624<f+h):=by{
unfold zAR;by_cases h1:a=0
.rw[if_pos h1];exact .inl ⟨rfl,fun h=>absurd h1 h⟩
rw[if_neg h1];by_cases h2:f<0\/h<0
.rw[if_pos h2];exact .inr (.inl ⟨rfl,h1,h2⟩)
rw[if_neg h2];by_cases h3:f>1125899906842624\/h>1125899906842624\/f+h>1125899906842624
.rw[if_pos h3];exact .inr (.inr ⟨rfl,h1,by omega,by omega,by omega⟩)
.rw[if_neg h3];exact .inl ⟨rfl,fun _=>by omega⟩}
theorem zJK {E:Pl->Int × Int}:zBV E=0↔∀ x∈zB5,zAR x.1 (E x).1 (E x).2=0:=by{
unfold zBV;constructor
.intro h x hx;by_cases h1:(zB5.any fun x=>zAR x.1 (E x).1 (E x).2==47)=true
 .rw[if_pos h1] at h;cases h
 rw[if_neg h1] at h;by_cases h2:(zB5.any fun x=>zAR x.1 (E x).1 (E x).2==41)=true
 .rw[if_pos h2] at h;cases h
 have a1:=List.any_eq_false.1 (by simpa only[Bool.not_eq_true] using h1) x hx;have a2:=List.any_eq_false.1 (by simpa only[Bool.not_eq_true] using h2) x hx;simp only[beq_iff_eq] at a1 a2;rcases zDo x.1 (E x).1 (E x).2 with e|e|e
 .exact e.1
 .exact absurd e.1 a1
 .exact absurd e.1 a2
.intro h;rw[if_neg,if_neg]
 .rw[List.any_eq_true];rintro⟨x,hx,e⟩;rw[h x hx] at e;cases e
 .rw[List.any_eq_true];rintro⟨x,hx,e⟩;rw[h x hx] at e;cases e}
theorem zUM (l:List Row4)(p:List Pst)(s:Int):zIT (zAH l p) s=zIT (atR l) s+zIT (dlF p) s:=by unfold zIT;rw[<- zLs];exact zEE fun a _=>by unfold zAH;simp only;omega
theorem zRf {l:List Row4}{p:List Pst}(h:zAZ l=true)(hp:zA5 p=0)(hw:zBV (zAH l p)=0):GoodE (zAH l p):=by{
obtain⟨_,hb,hs⟩:=zJJ hp;refine⟨fun x hx h0=>?_,fun x hx h0=>?_,fun s hs'=>?_⟩
.unfold zAH;have h1:=(zED h x).1 h0;have h2:=dl_out hb x.2;have h3:x=(0,x.2):=Prod.ext h0 rfl;rw[<- h3] at h2;simp only[h1,h2];rfl
.rcases zDo x.1 (zAH l p x).1 (zAH l p x).2 with e|e|e
 .exact e.2 h0
 .have:=zJK.1 hw x hx;omega
 .have:=zJK.1 hw x hx;omega
.rw[zUM,zM2 h s hs',dl_col hb,hs s hs'];rfl}
theorem zQG {l m:List Row4}{p:List Pst}(h:zBR l p=(m,0)):zAZ l=true/\zA5 p=0/\zBV (zAH l p)=0/\m=mkR (zAH l p)/\zAZ m=true/\∀ x∈zB5,atR m x=zAH l p x:=by{
unfold zBR at h;by_cases h1:zAZ l=true
.rw[if_pos h1] at h;by_cases h2:zA5 p=0
 .rw[if_pos h2] at h;by_cases h3:zBV (zAH l p)=0
  .rw[if_pos h3] at h;obtain rfl:=(Prod.mk.inj h).1;exact⟨h1,h2,h3,rfl,zWt (zRf h1 h2 h3),fun x hx=>zWq _ hx⟩
  .rw[if_neg h3] at h;exact absurd (Prod.mk.inj h).2 h3
 .rw[if_neg h2] at h;exact absurd (Prod.mk.inj h).2 h2
.rw[if_neg h1] at h;exact absurd (Prod.mk.inj h).2 (by decide)}
theorem zEp {el:Nat->List Value}{size n:Nat}(hel:∀ j,j<n->(el j).length=size):((List.range n).flatMap el).length=n*size:=by{
induction n with
| zero=>simp
| succ n ih=>rw[yys,yy9,yy4,ih (fun j hj=>hel j qO),yya,hel n qO,Nat.succ_mul]}
theorem zRg {size n b off:Nat}{a:OA}{cs:List Value}{T:TypeId}{fr:Nat × Nat}{F:zA}{el:Nat->List Value}(hs:SlB F size a n b off cs T fr el)(hel:∀ j,j<n->(el j).length=size) :
  ∀ m,m<=n->∀ j u,((List.range m).flatMap el)[j]?=some u->cs[off+j]?=some u:=by{
intro m;induction m with
| zero=>intro _ j u hj;cases hj
| succ m ih =>
  intro hm j u hj;have hlen:((List.range m).flatMap el).length=m*size:=zEp fun j hj=>hel j qO;rw[yys,yy9,yya] at hj;by_cases hjm:j<m*size
  .rw[yyl (by rw[hlen];exact hjm)] at hj;exact ih qO j u hj
  .rw[yym (by rw[hlen];omega),hlen] at hj;have h2:=((hs qO).2.2 m qO).2;rw[<- h2,List.getElem?_take] at hj;split at hj
   .rw[yyr] at hj;rw[show off+j=off+m*size+(j - m*size) by omega];exact hj
   .cases hj}
theorem zJL {size n cap b off:Nat}{a:OA}{cs:List Value}{T:TypeId}{fr:Nat × Nat}{F:zA}{el:Nat->List Value}(hs:SlB F size a n b off cs T fr el)(hel:∀ j,j<n->(el j).length=size){w:World}(hM:Mem w F) :
  Src w (.slice a n cap) n ((List.range n).flatMap el):=by{
rcases yyn n with h0|h0
.subst h0;cases a with
 | none=>exact .inr ⟨cap,rfl,rfl⟩
 | some a=>exact .inl ⟨a,cap,rfl,fun j u hj=>by cases hj⟩
.obtain⟨rfl,hm,_⟩:=hs h0;refine .inl ⟨_,_,rfl,fun j u hj=>?_⟩;rw[zAA,zB9 hM hm];exact zRg hs hel n (zzC _) j u hj}
theorem zG3 {el:Nat->List Value}{n:Nat}(h1:∀ j,j<n->∀ u∈el j,u.oneCell'=true):∀ u∈(List.range n).flatMap el,u.oneCell'=true:=by intro u hu;obtain⟨j,hj,hu⟩:=List.mem_flatMap.1 hu;exact h1 j (List.mem_range.1 hj) u hu
theorem c_Row1 {a:OA}{cap:Nat}(x:Auc)(clock:Int){b:Nat}{T:TypeId}{F:zA}(w0:World)(hF:Mem w0 F)(hs:Bids F a cap x.bids)(hm:(b,Obj.cells [Value.int .i64 clock].toArray T (0,0))∈F) :
  Cr 45 [.agg (x.cells a cap).toArray,(pt b)] (.bool (!zAW x clock)) w0:=by refine eS func45 ntmps45 fun H=>?_;(repeat' first|refine yW ?_|(refine yB ?_;intro b w H)|refine z13 (zF sg rfl rfl (H.memF hF) hm rfl rfl) ?_|(refine c0 zKO ?_;refine⟨_,zKV x clock _ (H.memF hF) hs,?_⟩;clear H;intro w H)|fail);exact zG rfl H.cl rfl
def aed (l:List Auc)(ad:Nat->OA × Nat)(j:Nat):AE:=(l.getD j default,ad j)
def zGE (l:List Auc)(clock:Int):Nat:=(kp (fun j=>!zAW (l.getD j default) clock) l.length).length
def OwnI (M:zA)(a:OA)(cap:Nat)(l:List Int):Prop:=Go.Sk.Own M 2 1 a l.length cap (l.map fun i=>Value.int .i64 i)
theorem Bids.none (F:zA):Bids F none 0 []:=⟨zzC _,by decide,0,0,[],0,(0,0),fun h=>absurd h (by decide)⟩
theorem Bids.blk {F:zA}{b cap:Nat}{T:TypeId}(l:List Bid)(hm:cb b ((List.range l.length).flatMap (bel l)) T∈F)(hc:l.length<=cap)(hn:l.length<=140737488355328):Bids F (some ⟨b,0,Option.none⟩) cap l:=by refine⟨hc,hn,b,0,_,T,(0,0),fun _=>⟨rfl,hm,fun j hj=>?_⟩⟩;have hl:=flat_len (el:=bel l) (size:=2) l.length (fun j _=>zFz l j);refine⟨by rw[hl];omega,?_⟩;rw[yyv];exact flat_at l.length (fun j _=>zFz l j) j hj
theorem Aucs.blk {F:zA}{b cap:Nat}{T:TypeId}(l:List Auc)(ad:Nat->OA × Nat)(hm:cb b ((List.range l.length).flatMap (ael l ad)) T∈F)(hc:l.length<=cap)(hn:l.length<=140737488355328)(hb:∀ j,j<l.length->Bids F (ad j).1 (ad j).2 (l.getD j default).bids):Aucs F (some ⟨b,0,Option.none⟩) cap l ad:=by refine⟨⟨hc,hn,b,0,_,T,(0,0),fun _=>⟨rfl,hm,fun j hj=>?_⟩⟩,hb⟩;have hl:=flat_len (el:=ael l ad) (size:=9) l.length (fun j _=>rfl);refine⟨by rw[hl];omega,?_⟩;rw[yyv];exact flat_at (el:=ael l ad) (size:=9) l.length (fun j _=>rfl) j hj
theorem Bids.b1 {F:zA}{b:Nat}{T:TypeId}{x y:Int}(hm:cb b [.int .i64 x,.int .i64 y] T∈F):Bids F (some ⟨b,0,Option.none⟩) 1 [⟨x,y⟩]:=Bids.blk (cap:=1) [⟨x,y⟩] hm (zzC _) (Nat.le_trans (Nat.le_refl 1) (by decide))
def no3:Nat->OA × Nat:=fun _=>(none,0)
theorem Bids.b2 {F:zA}{b:Nat}{T:TypeId}{x y x' y':Int}(hm:cb b [.int .i64 x,.int .i64 y,.int .i64 x',.int .i64 y'] T∈F):Bids F (some ⟨b,0,Option.none⟩) 2 [⟨x,y⟩,⟨x',y'⟩]:=Bids.blk (cap:=2) [⟨x,y⟩,⟨x',y'⟩] hm (zzC _) (Nat.le_trans (Nat.le_refl 2) (by decide))
theorem Bids.b3 {F:zA}{b:Nat}{T:TypeId}{x y x' y' x'' y'':Int}(hm:cb b [.int .i64 x,.int .i64 y,.int .i64 x',.int .i64 y',.int .i64 x'',.int .i64 y''] T∈F):Bids F (some ⟨b,0,Option.none⟩) 3 [⟨x,y⟩,⟨x',y'⟩,⟨x'',y''⟩]:=Bids.blk (cap:=3) [⟨x,y⟩,⟨x',y'⟩,⟨x'',y''⟩] hm (zzC _) (Nat.le_trans (Nat.le_refl 3) (by decide))
def zFb (l:List Bid)(res:Int):Nat->Bool
 | 0=>false
 | k+1=>zFb l res k||decide ((l.getD k default).amount >= res)
theorem zEq {l:List Bid}{res:Int}:∀ k,zFb l res k=true↔∃ j,j<k/\(l.getD j default).amount >= res
 | 0=>by simp[zFb]
 | k+1=>by
   rw[zFb,Bool.or_eq_true,zEq k,decide_eq_true_eq]
   constructor
   .rintro(⟨j,h1,h2⟩|h)
    .exact⟨j,by omega,h2⟩
    .exact⟨k,by omega,h⟩
   .rintro⟨j,h1,h2⟩
    by_cases hj:j=k
    .subst hj;exact .inr h2
    .exact .inl ⟨j,by omega,h2⟩
theorem zG4 (l:List Bid):∀ k,0<k->0<=zCg l k/\(∀ j,j<k->(l.getD j default).amount<=(l.getD (zCg l k).toNat default).amount)/\∀ j,j<(zCg l k).toNat->(l.getD j default).amount<(l.getD (zCg l k).toNat default).amount
 | 0,h=>by omega
 | k+1,_=>by
   rcases yyn k with rfl|hk
   .rw[zCg,if_pos (.inl (by simp[zCg]))]
    exact ⟨by omega, fun j hj => by obtain rfl:j=0:=by omega
                                    exact Int.le_refl _,fun j hj=>by simp at hj⟩
   .obtain⟨h0,h1,h2⟩:=zG4 l k hk
    have hlt:=(zEa l k).2
    rw[zCg]
    split
    .rename_i hc
     have hc:=hc.resolve_left qO
     refine⟨by omega,fun j hj=>?_,fun j hj=>?_⟩
     .rw[Int.toNat_natCast]
      by_cases hj':j=k
      .subst hj';exact Int.le_refl _
      .have:=h1 j qO;omega
     .rw[Int.toNat_natCast] at hj ⊢
      have:=h1 j hj;omega
    .rename_i hc
     refine⟨h0,fun j hj=>?_,h2⟩
     by_cases hj':j=k
     .subst hj'
      rcases Int.lt_or_le (l.getD (zCg l j).toNat default).amount (l.getD j default).amount with h|h
      .exact absurd (.inr h) hc
      .exact h
     .exact h1 j qO
theorem zF1 {x:Auc}(h:zAS x=true)(he:x.sealed=false):x.bids.length<=1/\(x.bids.length=0\/(x.bids.getD 0 default).amount >= x.reserve):=by{
simp only[zAS,yy3,zAb,he,zFS,Bool.false_eq_true,if_false,Bool.or_eq_true,decide_eq_true_eq,beq_iff_eq] at h;obtain⟨h1,h2⟩:=h.1.2.2;refine⟨by omega,?_⟩;rcases h2 with h2|h2
.exact .inl qO
.exact .inr h2}
theorem zWu {x:Auc}(h:zAS x=true):(zH x).2=zFb x.bids x.reserve x.bids.length:=by{
rw[Bool.eq_iff_iff,zEq];rcases Bool.eq_false_or_eq_true x.sealed with he|he
.rcases yyn x.bids.length with h0|h0
 .have:hi x.bids=-1:=by unfold hi;rw[h0];rfl
  simp[zH,h,he,zDm,this,h0]
 .obtain⟨h1,h2,_⟩:=zG4 x.bids x.bids.length h0;have hl:=(zEa x.bids x.bids.length).2;rw[show zCg x.bids x.bids.length=hi x.bids from rfl] at h1 h2 hl;simp only[zH,h,he,if_true,zDm];constructor
  .intro hw;split at hw
   .simp at hw
   .rename_i hc;simp only[Bool.or_eq_true,decide_eq_true_eq,not_or,Int.not_lt] at hc;exact⟨_,by omega,hc.2⟩
  .rintro⟨j,hj,hr⟩;have:=h2 j hj;rw[if_neg (by simp only[Bool.or_eq_true,decide_eq_true_eq,not_or,Int.not_lt];omega)]
.obtain⟨h1,h2⟩:=zF1 h he;simp only[zH,h,he,if_true,Bool.false_eq_true,if_false,zIE];constructor
 .intro hw;split at hw
  .simp at hw
  .rename_i hc;simp only[beq_iff_eq] at hc;exact⟨0,by omega,h2.resolve_left qO⟩
 .rintro⟨j,hj,hr⟩;rw[if_neg (by simp only[beq_iff_eq];omega)]}
theorem zUN {x:Auc}(h:zAS x=true):(zAN x).2=decide ((x.bids.length:Int)>0):=by{
unfold zAN;rcases yyn x.bids.length with h0|h0
.have:hi x.bids=-1:=by unfold hi;rw[h0];rfl
 simp[this,h0]
.obtain⟨h1,_,_⟩:=zG4 x.bids x.bids.length h0;rw[show zCg x.bids x.bids.length=hi x.bids from rfl] at h1;rw[if_neg (by simp[h];omega)];simp;omega}
theorem zUO {x:Auc}(h:(zH x).2=false):(zH x).1=Bid.zero:=by{
unfold zH at h ⊢;split at h
.rename_i hm;rw[if_pos hm];split at h
 .rename_i hs;rw[if_pos hs];unfold zDm at h ⊢;split at h
  .rename_i hc;rw[if_pos hc]
  .simp at h
 .rename_i hs;rw[if_neg hs];unfold zIE at h ⊢;split at h
  .rename_i hc;rw[if_pos hc]
  .simp at h
.rename_i hm;rw[if_neg hm]}
theorem zUP {x:Auc}(h:zAS x=true):∀ i j,i<j->j<x.bids.length->(x.bids.getD i default).acct≠(x.bids.getD j default).acct:=by{
intro i j hij hj he;simp only[zAS,yy3] at h;have hb:=h.2;simp only[zCT,decide_eq_true_eq] at hb;rcases zX (zBf x) x.bids.length with ⟨k,_,_,_,h4⟩|⟨hall,_⟩
.omega
.have:=hall j hj;simp only[zBf,Bool.or_eq_false_iff,yyy] at this;rcases zX (fun i=>(x.bids.getD i default).acct==(x.bids.getD j default).acct) j with ⟨k,_,_,_,h4⟩|⟨hn,_⟩
 .rw[h4] at this;exact this.2 qO
 .have:=hn i hij;rw[he,beq_self_eq_true] at this;cases this}
theorem zIG {l:List Bid}{j:Nat}:∀ k,j<k->(∀ i,j<i->i<k->(l.getD j default).acct≠(l.getD i default).acct)->zGu l (l.getD j default).acct k=(l.getD j default).amount
 | 0,h,_=>by omega
 | k+1,h,hu=>by
   rw[zGu]
   by_cases hj:j=k
   .subst hj;rw[if_pos (by simp)]
   .rw[if_neg (by have:=hu k qO qO;simp;exact fun h=>this h.symm)]
    exact zIG k qO (fun i h1 h2=>hu i h1 qO)
theorem zQH (l:List Bid)(res i:Int):∀ k,res<=zGa l res i k/\(∀ j:Nat,j<k->(j:Int)≠i->(l.getD j default).amount<=zGa l res i k)/\(zGa l res i k=res\/∃ j:Nat,j<k/\(j:Int)≠i/\(l.getD j default).amount=zGa l res i k)
 | 0=>⟨Int.le_refl _,fun j h=>by omega,.inl rfl⟩
 | k+1=>by
   obtain⟨h1,h2,h3⟩:=zQH l res i k
   rw[zGa]
   split
   .rename_i hc
    have hc:(k:Int)≠i:=by simpa using hc
    unfold mx
    split
    .rename_i hg
     refine⟨by omega,fun j hj hji=>?_,.inr ⟨k,by omega,hc,rfl⟩⟩
     by_cases hjk:j=k
     .subst hjk;exact Int.le_refl _
     .have:=h2 j qO hji;omega
    .rename_i hg
     refine⟨h1,fun j hj hji=>?_,?_⟩
     .by_cases hjk:j=k
      .subst hjk;omega
      .exact h2 j qO hji
     .rcases h3 with h3|⟨j,h4,h5,h6⟩
      .exact .inl h3
      .exact .inr ⟨j,by omega,h5,h6⟩
   .rename_i hc
    have hc:(k:Int)=i:=by simpa using hc
    refine⟨h1,fun j hj hji=>h2 j qO hji,?_⟩
    rcases h3 with h3|⟨j,h4,h5,h6⟩
    .exact .inl h3
    .exact .inr ⟨j,by omega,h5,h6⟩
theorem zF2 {x:Auc}(h:zAS x=true)(hw:(zH x).2=true):∃ m,m<x.bids.length/\(zH x).1.acct=(x.bids.getD m default).acct/\(zAN x).1=x.bids.getD m default /\
  zGu x.bids (zH x).1.acct x.bids.length=(x.bids.getD m default).amount/\x.reserve<=(zH x).1.amount/\(zH x).1.amount<=(x.bids.getD m default).amount /\
  (x.sealed=false->(zH x).1.amount=(x.bids.getD m default).amount)/\(∀ j,j<x.bids.length->j≠m->(x.bids.getD j default).amount<=(x.bids.getD m default).amount/\(x.bids.getD j default).amount<=(zH x).1.amount) /\
  ((zH x).1.amount=x.reserve\/x.sealed=false\/∃ j,j<x.bids.length/\j≠m/\(x.bids.getD j default).amount=(zH x).1.amount):=by{
have hu:=zUP h;have h0:0<x.bids.length:=by rw[zWu h,zEq] at hw;obtain⟨j,hj,_⟩:=hw;omega
obtain⟨h1,h2,_⟩:=zG4 x.bids x.bids.length h0;have hl:=(zEa x.bids x.bids.length).2;rw[show zCg x.bids x.bids.length=hi x.bids from rfl] at h1 h2 hl;have ht:(zAN x).1=x.bids.getD (hi x.bids).toNat default:=by unfold zAN;rw[if_neg (by simp[h];omega)]
have hat:=zIG (l:=x.bids) (j:=(hi x.bids).toNat) x.bids.length qO (fun i h3 h4=>hu _ _ h3 h4);rcases Bool.eq_false_or_eq_true x.sealed with he|he
.have e:zH x=zDm x:=by simp[zH,h,he]
 rw[e] at hw ⊢;have hc:¬ (hi x.bids<0||decide ((x.bids.getD (hi x.bids).toNat default).amount<x.reserve))=true:=by intro hc;unfold zDm at hw;rw[if_pos hc] at hw;simp at hw
 have e2:zDm x=(⟨(x.bids.getD (hi x.bids).toNat default).acct,zGa x.bids x.reserve (hi x.bids) x.bids.length⟩,true):=by unfold zDm;rw[if_neg hc]
 rw[e2];simp only[Bool.or_eq_true,decide_eq_true_eq,not_or,Int.not_lt] at hc;obtain⟨g1,g2,g3⟩:=zQH x.bids x.reserve (hi x.bids) x.bids.length;refine⟨(hi x.bids).toNat,by omega,rfl,ht,hat,g1,?_,fun hf=>absurd (he.symm.trans hf) (by decide),fun j hj hjm=>⟨h2 j hj,g2 j hj qO⟩,?_⟩
 .rcases g3 with g3|⟨j,g4,g5,g6⟩
  .show zGa _ _ _ _<=_;omega
  .show zGa _ _ _ _<=_;rw[<- g6];exact h2 j g4
 .rcases g3 with g3|⟨j,g4,g5,g6⟩
  .exact .inl g3
  .exact .inr (.inr ⟨j,g4,by omega,g6⟩)
.obtain⟨k1,k2⟩:=zF1 h he;have e:zH x=(x.bids.getD 0 default,true):=by simp only[zH,h,he,if_true,Bool.false_eq_true,if_false,zIE];rw[if_neg (by simp only[beq_iff_eq];omega)]
 rw[e];have hz:(hi x.bids).toNat=0:=by omega
 rw[hz] at ht hat;exact⟨0,h0,rfl,ht,hat,by have:=k2.resolve_left qO;exact this,Int.le_refl _,fun _=>rfl,fun j hj hjm=>by omega,.inr (.inl he)⟩}
end Go.Proofs.YtejhijhnlogikaaGreatDoor
