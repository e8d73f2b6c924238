/- Texts of ours, joined: the steps of the proof, or the claim's theorem. -/
import Derived.Test.YthbflajpdhgfiaaGreatDoorQd10
import Derived.Test.YthbflajpdhgfiaaGreatDoorQd20
set_option linter.all false
set_option maxHeartbeats 16000000
namespace Go.Proofs.YthbflajpdhgfiaaGreatDoor
open Go Go.Sk Go.RowKit
attribute [local irreducible] Go.Calls
theorem slt.trans {x y z:AE}(h:slt x y)(k:slt y z):slt x z:=by
 unfold slt at *
 omega
theorem zSi {d:Nat→AE}{j:Nat}:sw d (j+1) j=zAd d j (j+1) (j+2):=by
 have:=zFV (d:=d) (i:=j) (m:=j+1) (Nat.lt_succ_self j)
 rwa [zGm] at this
theorem zFW {a e:Nat}:∀ (j:Nat) (d:Nat→AE),a≤j→j<e→Seg d a j→Seg d j e→(∀ p q,a≤p→p<j→j<q→q<e→slt (d p) (d q))→(∀ p,a≤p→p<j→(d p).1.id<(d j).1.id) →
  Seg (zBK a j d) a e∧Out d (zBK a j d) a e∧Pm d (zBK a j d) a e
 | 0,d,h1,_,_,s2,_,_=>by
   obtain rfl:a=0:=by omega
   exact⟨s2,fun _ _=>rfl,Pm.refl _ _ _⟩
 | j+1,d,h1,h2,s1,s2,hc,hi=>by
   rw[zBK]
   split
   ·rename_i hh
    obtain⟨ha,hlt⟩:=hh
    have hlt:(d (j+1)).1.fin<(d j).1.fin:=zzA hlt
    have e1:∀ k,k≠j→k≠j+1→sw d (j+1) j k=d k:=fun k g1 g2=>by unfold sw;rw[if_neg g2,if_neg g1]
    have e2:sw d (j+1) j j=d (j+1):=by unfold sw;rw[if_neg qO,if_pos rfl]
    have e3:sw d (j+1) j (j+1)=d j:=by unfold sw;rw[if_pos rfl]
    obtain⟨q1,q2,q3⟩:=zFW (a:=a) (e:=e) j (sw d (j+1) j) qO qO
     (fun p q g1 g2 g3=>by rw[e1 p qO qO,e1 q qO qO];exact s1 p q g1 g2 qO)
     (fun p q g1 g2 g3=>by
      rcases(show p=j∨p=j+1∨j+1<p by omega) with rfl|rfl|g
      ·rw[e2]
       rcases(show q=p+1∨p+1<q by omega) with rfl|g4
       ·rw[e3];exact .inl hlt
       ·rw[e1 q qO qO];exact s2 _ _ qO g4 g3
      ·rw[e3,e1 q qO qO];exact hc _ _ qO qO g2 g3
      ·rw[e1 p qO qO,e1 q qO qO];exact s2 _ _ qO g2 g3)
     (fun p q g1 g2 g3 g4=>by
      rw[e1 p qO qO]
      rcases(show q=j+1∨j+1<q by omega) with rfl|g5
      ·rw[e3];exact s1 _ _ g1 g2 qO
      ·rw[e1 q qO qO];exact hc _ _ g1 qO g5 g4)
     (fun p g1 g2=>by rw[e1 p qO qO,e2];exact hi p g1 qO)
    have o1:Out d (sw d (j+1) j) j (j+2):=by rw[zSi];exact zFN qO qO
    have o2:Pm d (sw d (j+1) j) j (j+2):=by rw[zSi];exact zKP qO qO
    exact⟨q1,fun k hk=>by rw[q2 k hk,o1 k qO],(o2.wide o1 qO qO qO).trans q3⟩
   ·rename_i hh
    refine⟨?_,fun _ _=>rfl,Pm.refl _ _ _⟩
    rcases Nat.lt_or_ge a (j+1) with ha|ha
    ·have hge:¬ (d (j+1)).1.fin<(d j).1.fin:=fun g=>hh ⟨ha,decide_eq_true g⟩
     have hx:slt (d j) (d (j+1)):=by
      have:=hi j qO (Nat.lt_succ_self j)
      unfold slt;omega
     intro p q g1 g2 g3
     rcases(show q<j+1∨q=j+1∨j+1<q by omega) with g|rfl|g
     ·exact s1 p q g1 g2 g
     ·rcases(show p=j∨p<j by omega) with rfl|g4
      ·exact hx
      ·exact slt.trans (s1 p j g1 g4 (Nat.lt_succ_self j)) hx
     ·rcases(show p<j+1∨j+1≤p by omega) with g4|g4
      ·exact hc p q g1 g4 g g3
      ·exact s2 p q g4 g2 g3
    ·obtain rfl:a=j+1:=by omega
     exact s2
def Asc (d:Nat→AE)(a b:Nat):Prop:=∀ p q,a≤p→p<q→q<b→(d p).1.id<(d q).1.id
theorem zEb {a e:Nat}:∀ (m i:Nat) (d:Nat→AE),m=e - i→a+1≤i→i≤e→Seg d a i→(∀ p q,a≤p→p<i→i≤q→q<e→(d p).1.id<(d q).1.id)→Asc d i e →
  Seg (zBQ a m i d) a e∧Out d (zBQ a m i d) a e∧Pm d (zBQ a m i d) a e
 | 0,i,d,hm,h1,h2,s,_,_=>by
   obtain rfl:i=e:=by omega
   exact⟨s,fun _ _=>rfl,Pm.refl _ _ _⟩
 | m+1,i,d,hm,h1,h2,s,hc,hi=>by
   rw[zBQ]
   obtain⟨q1,q2,q3⟩:=zFW (a:=a) (e:=i+1) i d qO (Nat.lt_succ_self i) s (fun p q g1 g2 g3=>by omega) (fun p q g1 g2 g3 g4=>by omega) (fun p g1 g2=>hc p i g1 g2 (zzC _) qO)
   obtain⟨p1,p2,p3⟩:=zEb (a:=a) (e:=e) m (i+1) (zBK a i d) qO qO qO q1
    (fun p q g1 g2 g3 g4=>by
     rw[q2 q qO]
     have:zBK a i d p∈seg d a (i+1):=q3.mem_iff.1 (zCU.2 ⟨p,g1,g2,rfl⟩)
     obtain⟨k,k1,k2,k3⟩:=zCU.1 this
     rw[← k3]
     rcases(show k=i∨k<i by omega) with rfl|k4
     ·exact hi _ _ (zzC _) qO g4
     ·exact hc _ _ k1 k4 qO g4)
    (fun p q g1 g2 g3=>by rw[q2 p qO,q2 q qO];exact hi _ _ qO g2 g3)
   exact⟨p1,fun k hk=>by rw[p2 k hk,q2 k qO],(q3.wide q2 (zzC _) qO qO).trans p3⟩
theorem zE4 {a e:Nat}{d:Nat→AE}(h:a≤e)(hi:Asc d a e):Seg (zEZ a e d) a e∧Out d (zEZ a e d) a e∧Pm d (zEZ a e d) a e:=by
 rcases Nat.lt_or_ge a e with h1|h1
 ·exact zEb _ _ d rfl (zzC _) h1 (fun p q g1 g2 g3=>by omega) (fun p q g1 g2 g3 g4=>hi p q g1 qO g4) (fun p q g1 g2 g3=>hi p q qO g2 g3)
 ·obtain rfl:a=e:=by omega
  unfold zEZ
  rw[show a - (a+1)=0 by omega,zBQ]
  exact⟨fun p q g1 g2 g3=>by omega,fun _ _=>rfl,Pm.refl _ _ _⟩
def zSj (w0:World)(g len n:Nat)(G:zC)(d:Nat→AE):Ending→World→Prop :=
 zi (fun M v=>v=.tuple #[]∧∃ d' cs',M=cb g cs' 67::G∧cs'.length=len∧Els cs' 9 n (fun j=>(d' j).c)∧Seg d' 0 n∧Out d d' 0 n∧Pm d d' 0 n) w0
theorem zP1 {w0 w:World}{g len n cap:Nat}{G:zC}{d:Nat→AE}{cs:List Value}(hA:Arr w0 g len n G d cs w)(hn:n<40)(hi:Asc d 0 n) :
  Calls Tryz.prog 93 [.slice (some ⟨g,0,none⟩) n cap,.int .i64 (n:Int),.func (.func 62) #[] #[]].toArray w (zSj w0 g len n G d):=by
 rcases Nat.lt_or_ge n 20 with h20|h20
 ·obtain⟨q1,q2,q3⟩:=zE4 (zzD n) hi
  exact(zRm hA h20).mono fun e w' ⟨v,M,he,⟨hv,cs',hM,hl,hels⟩,hs⟩=>⟨v,M,he,⟨hv,_,cs',hM,hl,hels,q1,q2,q3⟩,hs⟩
 obtain⟨a1,a2,a3⟩:=zE4 (a:=0) (e:=20) (Nat.zero_le 20) (fun p q g1 g2 g3=>hi p q g1 g2 qO)
 obtain⟨b1,b2,b3⟩:=zE4 (a:=20) (e:=n) (d:=zEZ 0 20 d) h20 (fun p q g1 g2 g3=>by rw[a2 p qO,a2 q qO];exact hi p q (zzD _) g2 g3)
 generalize hd1:zEZ 0 20 d=d1 at *
 generalize hd2:zEZ 20 n d1=d2 at *
 have m0:∀ k,k<20→∃ j,j<20∧d2 k=d j:=fun k hk=>by
  rw[b2 k qO]
  obtain⟨j,j1,j2,j3⟩:=zCU.1 (a3.mem_iff.1 (zCU.2 ⟨k,zzD _,hk,rfl⟩))
  exact⟨j,j2,j3.symm⟩
 have m1:∀ k,20≤k→k<n→∃ j,20≤j∧j<n∧d2 k=d j:=fun k hk hk2=>by
  obtain⟨j,j1,j2,j3⟩:=zCU.1 (b3.mem_iff.1 (zCU.2 ⟨k,hk,hk2,rfl⟩))
  exact⟨j,j1,j2,by rw[← j3,a2 j qO]⟩
 have hcr:zIR d2 0 20 n:=fun p q g1 g2 g3 g4 _=>by
  obtain⟨j,j1,j2⟩:=m0 p g2
  obtain⟨k,k1,k2,k3⟩:=m1 q g3 g4
  rw[j2,k3]
  exact hi _ _ (zzD _) qO k2
 have s1:Seg d2 0 20:=fun p q g1 g2 g3=>by rw[b2 p qO,b2 q qO];exact a1 p q g1 g2 g3
 have o2:Out d d2 0 n:=fun k hk=>by rw[b2 k qO,a2 k qO]
 have p2:Pm d d2 0 n:=(a3.wide a2 (zzC _) (zzD _) h20).trans (b3.wide b2 (zzD _) h20 (zzC _))
 refine enter [] Tryz.func93 rfl Tryz.ntmps93 rfl rfl ?_
 have H:=hA
 clear hA
 repeat' (first|refine yT ?_|refine yU ?_|with_reducible apply zB|fail)
 refine zI [(7,8),(11,22)] (fun x:Nat × (Nat→AE) × List Value=>[(7,.int .i64 (x.1:Int)),(8,.int .i64 ((x.1+20:Nat):Int))]) (fun x w=>(x.1=0∧x.2.1=d∨x.1=20∧x.2.1=d1)∧Arr w0 g len n G x.2.1 x.2.2 w) (fun x=>20 - x.1) (0,d,cs) ⟨rfl,rfl,trivial⟩ ⟨.inl ⟨rfl,rfl⟩,H⟩ ?_
 clear H
 rintro⟨i,D,cs1⟩ gh w ⟨hi0,H⟩
 simp only at hi0 H ⊢
 repeat' (first|refine yT ?_|refine yU ?_|fail)
 refine zD rfl (fun h=>?_) (fun h=>?_)
 ·obtain⟨rfl,rfl⟩:i=0∧D=d:=by
   rcases hi0 with h0|⟨rfl,_⟩
   ·exact h0
   ·exfalso;have:=zzA h;omega
  repeat' (first|refine yT ?_|(refine' y33 zJV ?_ ?_;rotate_left 2;exact zJ3 (a:=0) (e:=20) H (zzD _) h20 qO;rintro _ _ w ⟨rfl,cs',rfl,hl,he⟩ HS;have H':Arr w0 g len n G d1 cs' w:=⟨HS,hl,hd1 ▸ he⟩;clear H HS hl he;have H:=H';clear H')|refine yU ?_|with_reducible apply zB|fail)
  exact zF (20,d1,_) rfl ⟨rfl,rfl,trivial⟩ ⟨.inr ⟨rfl,rfl⟩,H⟩ (by show 20 - 20<20 - 0;omega)
 ·obtain⟨rfl,rfl⟩:i=20∧D=d1:=by
   rcases hi0 with ⟨rfl,_⟩|h0
   ·exfalso;have:=zzB h;omega
   ·exact h0
  repeat' (first|refine yT ?_|(refine' y33 zJV ?_ ?_;rotate_left 2;exact zJ3 (a:=20) (e:=n) H h20 (zzC _) qO;rintro _ _ w ⟨rfl,cs',rfl,hl,he⟩ HS;have H':Arr w0 g len n G d2 cs' w:=⟨HS,hl,hd2 ▸ he⟩;clear H HS hl he;have H:=H';clear H')|refine yU ?_|with_reducible apply zB|fail)
  refine zI [(6,9),(28,62)] (fun x:Nat × (Nat→AE) × List Value=>[(6,.int .i64 (x.1:Int))]) (fun x w=>(x.1=20∧x.2.1=d2∨x.1=40∧Seg x.2.1 0 n∧Out d x.2.1 0 n∧Pm d x.2.1 0 n)∧Arr w0 g len n G x.2.1 x.2.2 w) (fun x=>40 - x.1) (20,d2,_) ⟨rfl,trivial⟩ ⟨.inl ⟨rfl,rfl⟩,H⟩ ?_
  clear H
  rintro⟨i,D,cs2⟩ gh2 w ⟨hi0,H⟩
  simp only at hi0 H ⊢
  repeat' (first|refine yT ?_|refine yU ?_|fail)
  refine zD rfl (fun h2=>?_) (fun h2=>?_)
  ·obtain⟨rfl,rfl⟩:i=20∧D=d2:=by
    rcases hi0 with h0|⟨rfl,_⟩
    ·exact h0
    ·exfalso;have:=zzA h2;omega
   have hlt:20<n:=by have:=zzA h2;omega
   repeat' (first|refine yT ?_|refine yU ?_|with_reducible apply zB|fail)
   refine zI [(7,8),(33,48)] (fun _:Unit=>[(7,.int .i64 0),(8,.int .i64 40)]) (fun _ w=>Arr w0 g len n G D cs2 w) (fun _=>0) () ⟨rfl,rfl,trivial⟩ H ?_
   clear H
   rintro _ gh3 w H
   repeat' (first|refine yT ?_|refine yU ?_|fail)
   refine zD rfl (fun h3=>?_) (fun h3=>?_)
   ·exact absurd (zzA h3) qO
   have hw20:decide ((20:Int)<n)=true:=decide_eq_true qO
   repeat' (first|refine yT ?_|(refine' y33 zJW ?_ ?_;rotate_left 2;exact zNE qO n (a:=0) (m:=20) (b:=n) qO qO hlt (zzC _) H s1 b1 hcr;rintro _ _ w ⟨rfl,d3,cs',rfl,hl,he,q1,q2,q3⟩ HS;have H':Arr w0 g len n G d3 cs' w:=⟨HS,hl,he⟩;clear H HS hl he;have H:=H';clear H')|refine yU ?_|(refine y23 ?_ ?_;all_goals(intro h;try (exfalso;first|(rw[w64 qO qO] at h;(simp only[decide_eq_true_eq,decide_eq_false_iff_not,beq_iff_eq,beq_eq_false_iff_ne,bne_iff_ne,ne_eq,Bool.not_eq_true,Int.not_lt,Int.not_le,gt_iff_lt,ge_iff_le] at h;omega);done))))|fail)
   exact zCj (40,d3,_) rfl ⟨rfl,trivial⟩ ⟨.inr ⟨rfl,q1,fun k hk=>(q2 k hk).trans (o2 k hk),p2.trans q3⟩,H⟩ (by show 40 - 40<40 - 20;omega)
  ·have h3:i=40∧Seg D 0 n∧Out d D 0 n∧Pm d D 0 n∨(i=20∧n=20∧D=d2):=by
    rcases hi0 with ⟨rfl,rfl⟩|h0
    ·right;exact⟨rfl,by have:=zzB h2;omega,rfl⟩
    ·exact .inl h0
   have h4:Seg D 0 n∧Out d D 0 n∧Pm d D 0 n:=by
    rcases h3 with ⟨_,q⟩|⟨_,rfl,rfl⟩
    ·exact q
    ·exact⟨s1,o2,p2⟩
   repeat' (first|refine yU ?_|fail)
   exact zBn (vs:=[]) (M:=_) trivial H.st ⟨rfl,D,_,rfl,H.len,H.els,h4.1,h4.2.1,h4.2.2⟩
theorem zIj {w0 w:World}{g len n cap:Nat}{G:zC}{d:Nat→AE}{cs:List Value}(hA:Arr w0 g len n G d cs w)(hn:n<40)(hi:Asc d 0 n) :
  Calls Tryz.prog 61 [.slice (some ⟨g,0,none⟩) n cap,.func (.func 62) #[] #[]].toArray w (zSj w0 g len n G d):=by
 refine enter [] Tryz.func61 rfl Tryz.ntmps61 rfl rfl ?_
 have H:=hA
 clear hA
 repeat' (first|refine yT ?_|(refine' y33 ent93 ?_ ?_;rotate_left 2;exact zP1 H hn hi;rintro _ _ w ⟨rfl,d',cs',rfl,hl,he,q⟩ HS)|refine yU ?_|fail)
 exact zBn (vs:=[]) (M:=_) trivial HS ⟨rfl,d',cs',rfl,hl,he,q⟩
def ltA (x y:Auc):Prop:=x.fin<y.fin∨(x.fin=y.fin∧x.id<y.id)
def IsRow (l:List Auc)(clock:Int)(r:List Auc):Prop :=
 (zAJ l=true∧r.Pairwise ltA∧r.Perm (l.filter fun x=>zAA x clock))∨(zAJ l=false∧r=[])
theorem IsRow.uniq {l:List Auc}{clock:Int}{r r':List Auc}(h:IsRow l clock r)(h':IsRow l clock r'):r=r':=by
 rcases h with ⟨h0,h1,h2⟩|⟨h0,h1⟩
 ·rcases h' with ⟨_,k1,k2⟩|⟨k0,_⟩
  ·exact List.Perm.eq_of_pairwise (le:=ltA) (fun a b _ _ g1 g2=>by unfold ltA at *;omega) h1 k1 (h2.trans k2.symm)
  ·rw[h0] at k0;cases k0
 ·rcases h' with ⟨k0,_⟩|⟨_,k1⟩
  ·rw[h0] at k0;cases k0
  ·rw[h1,k1]
theorem zNF {l:List Auc}:(List.range l.length).map (fun i=>l.getD i default)=l:=by
 apply List.ext_getElem
 ·simp
 ·intro i h1 h2
  simp at h1
  simp[h1]
theorem zKR (l:List Auc)(q:Auc→Bool):((List.range l.length).filter fun i=>q (l.getD i default)).map (fun i=>l.getD i default)=l.filter q:=by
 conv=>rhs;rw[← zNF (l:=l),List.filter_map]
 rfl
theorem zJG {l:List Auc}(h:zAJ l=true):l.length≤32∧(∀ i,i<l.length→zAT (l.getD i default)=true)∧∀ i j,i<j→j<l.length→(l.getD i default).id<(l.getD j default).id:=by
 simp only[zAJ,Bool.and_eq_true,decide_eq_true_eq] at h
 have hb:∀ k,k<l.length→zBY l k=false:=by
  rcases zZ (zBY l) l.length with ⟨k,hk,_,_,hix⟩|⟨hall,_⟩
  ·rw[hix] at h;omega
  ·exact hall
 have hs:∀ i,i+1<l.length→(l.getD i default).id<(l.getD (i+1) default).id:=by
  intro i hi
  have:=hb (i+1) hi
  simp only[zBY,Bool.or_eq_false_iff,decide_eq_false_iff_not,Int.not_le] at this
  exact this.1
 refine⟨by omega,fun i hi=>?_,fun i j hij=>?_⟩
 ·have:=hb i hi
  simp only[zBY,Bool.or_eq_false_iff,Bool.not_eq_false'] at this
  exact this.2
 ·induction j with
  | zero=>omega
  | succ j ih =>
    intro hj
    rcases(show i=j∨i<j by omega) with rfl|h2
    ·exact hs i hj
    ·exact Int.lt_trans (ih h2 qO) (hs j hj)
theorem zLm (d:Nat→AE)(n:Nat):seg d 0 n=(List.range n).map d:=by
 unfold seg
 rw[Nat.sub_zero]
 refine List.map_congr_left fun t _=>?_
 rw[Nat.zero_add]
theorem kp_asc {p:Nat→Bool}{n i j:Nat}(h:i<j)(hj:j<(kp p n).length):(kp p n).getD i 0<(kp p n).getD j 0:=by
 have hp:(kp p n).Pairwise (·<·):=(List.pairwise_lt_range).filter _
 rw[List.pairwise_iff_getElem] at hp
 have:=hp i j qO hj h
 simpa [List.getD_eq_getElem?_getD,List.getElem?_eq_getElem (show i<(kp p n).length by omega),List.getElem?_eq_getElem hj] using this
theorem kp_mem {p:Nat→Bool}{n i:Nat}(h:i<(kp p n).length):(kp p n).getD i 0<n∧p ((kp p n).getD i 0)=false:=by
 have:(kp p n).getD i 0∈kp p n:=by
  rw[List.getD_eq_getElem?_getD,List.getElem?_eq_getElem h]
  exact List.getElem_mem h
 unfold kp at this ⊢
 simpa [List.mem_filter] using this
theorem row_is {l:List Auc}{ad:Nat→Option Addr × Nat}{clock:Int}{D:Nat→AE}(hm:zAJ l=true)(h1:Seg D 0 (zFQ l clock))(h2:Pm (zHE (fun j=>!zAA (l.getD j default) clock) l.length (aed l ad)) D 0 (zFQ l clock)) :
  IsRow l clock ((List.range (zFQ l clock)).map fun t=>(D t).1):=by
 left
 refine⟨hm,?_,?_⟩
 ·rw[List.pairwise_map]
  refine List.Pairwise.imp_of_mem (R:=(·<·)) (fun ha hb hab=>?_) List.pairwise_lt_range
  exact h1 _ _ (zzD _) hab (List.mem_range.1 hb)
 ·have:=List.Perm.map (fun p:AE=>p.1) h2
  rw[zLm,zLm,List.map_map,List.map_map] at this
  refine this.trans ?_
  have he:(List.range (zFQ l clock)).map ((fun p:AE=>p.1) ∘ zHE (fun j=>!zAA (l.getD j default) clock) l.length (aed l ad))=l.filter fun x=>zAA x clock:=by
   rw[← zKR l fun x=>zAA x clock]
   have hk:kp (fun j=>!zAA (l.getD j default) clock) l.length=(List.range l.length).filter fun i=>zAA (l.getD i default) clock:=by
    unfold kp;simp
   unfold zFQ
   rw[hk]
   apply List.ext_getElem
   ·simp
   ·intro i g1 g2
    simp only[List.length_map,List.length_range] at g1
    simp only[List.getElem_map,List.getElem_range,Function.comp,zHE,aed,hk]
    rw[List.getD_eq_getElem?_getD (l:=List.filter _ _),List.getElem?_eq_getElem g1]
    rfl
  rw[he]
theorem zSk {a:Option Addr}{cap:Nat}(l:List Auc)(ad:Nat→Option Addr × Nat)(clock:Int){F:zC}(w0:World)(hF:Mem w0 F)(hs0:Aucs F a cap l ad)(hm:zAJ l=false) :
  Calls Tryz.prog 31 [.slice a l.length cap,.int .i64 clock].toArray w0 (Ret (.slice none 0 0) w0):=by
 refine enter [.tmp 4] Tryz.func31 rfl Tryz.ntmps31 rfl rfl ?_
 have H:=zA w0
 repeat' (first|refine yT ?_|(refine y9 H ?_;intro b w H)|(refine' y30 zNi ?_ ?_;rotate_left;exact zF2 l ad _ (H.memF hF) hs0;refine w2 H ?_;clear H;intro w H)|refine yU ?_|fail)
 refine zD rfl (fun h=>?_) (fun h=>?_)
 ·repeat' (first|refine yT ?_|refine yU ?_|fail)
  exact zP rfl H.cl rfl
 ·rw[hm] at h;cases h
theorem c_Row0 {a:Option Addr}{cap:Nat}(clock:Int){F:zC}(w0:World)(hF:Mem w0 F)(hs0:Aucs F a cap [] fun _=>(none,0)) :
  Calls Tryz.prog 31 [.slice a 0 cap,.int .i64 clock].toArray w0 (zi (fun M v=>∃ a' cap',v=.slice a' 0 cap'∧OwnI M a' cap' []) w0):=by
 have c_Index0:∀ {a:Option Addr} {cap:Nat} {b:Nat} {w:World},Calls Tryz.prog 45 [.slice a 0 cap,.func (.func 60) #[] #[.pointer (some ⟨b,0,none⟩)]].toArray w (Ret (.int .i64 (-1)) w):=by
  intro a cap b w
  refine enter [.tmp 4] Tryz.func45 rfl Tryz.ntmps45 rfl rfl ?_
  have H:=zA w
  repeat' (first|refine yT ?_|refine yU ?_|with_reducible apply zB|fail)
  refine zI [(4,5),(8,18)] (fun _:Unit=>[(8,.int .i64 0)]) (fun _ w'=>St w [] w') (fun _=>0) () ⟨rfl,trivial⟩ H ?_
  clear H
  rintro _ gh w H
  repeat' (first|refine yT ?_|refine yU ?_|fail)
  exact zP rfl H.cl rfl
 have c_Del0:∀ {a:Option Addr} {cap:Nat} {b:Nat} {w:World},Calls Tryz.prog 58 [.slice a 0 cap,.func (.func 60) #[] #[.pointer (some ⟨b,0,none⟩)]].toArray w (Ret (.slice a 0 cap) w):=by
  intro a cap b w
  refine enter [.tmp 4] Tryz.func58 rfl Tryz.ntmps58 rfl rfl ?_
  have H:=zA w
  repeat' (first|refine yT ?_|(refine' y30 zKt ?_ ?_;rotate_left;exact c_Index0;refine w2 H ?_;clear H;intro w H)|refine yU ?_|fail)
  exact zP rfl H.cl rfl
 have c_ins0:∀ {a:Option Addr} {cap:Nat} {w:World},Calls Tryz.prog 149 [.slice a 0 cap,.int .i64 0,.int .i64 0,.func (.func 62) #[] #[]].toArray w (Ret (.tuple #[]) w):=by
  intro a cap w
  refine enter [] Tryz.func149 rfl Tryz.ntmps149 rfl rfl ?_
  have H:=zA w
  repeat' (first|refine yT ?_|refine yU ?_|with_reducible apply zB|fail)
  refine zI [(8,9),(12,52)] (fun _:Unit=>[(8,.int .i64 1)]) (fun _ w'=>St w [] w') (fun _=>0) () ⟨rfl,trivial⟩ H ?_
  clear H
  rintro _ gh w H
  repeat' (first|refine yT ?_|refine yU ?_|fail)
  exact zKj (vs:=[]) trivial H.cl rfl
 have c_sta0:∀ {a:Option Addr} {cap:Nat} {w1:World},Calls Tryz.prog 93 [.slice a 0 cap,.int .i64 0,.func (.func 62) #[] #[]].toArray w1 (Ret (.tuple #[]) w1):=by
  intro a cap w1
  refine enter [] Tryz.func93 rfl Tryz.ntmps93 rfl rfl ?_
  have H:=zA w1
  repeat' (first|refine yT ?_|refine yU ?_|with_reducible apply zB|fail)
  refine zI [(7,8),(11,22)] (fun _:Unit=>[(7,.int .i64 0),(8,.int .i64 20)]) (fun _ w'=>St w1 [] w') (fun _=>0) () ⟨rfl,rfl,trivial⟩ H ?_
  clear H
  rintro _ gh w H
  repeat' (first|refine yT ?_|(refine' y30 zJV ?_ ?_;rotate_left;exact c_ins0;refine w2 H ?_;clear H;intro w H)|refine yU ?_|with_reducible apply zB|fail)
  refine zI [(6,9),(28,62)] (fun _:Unit=>[(6,.int .i64 20)]) (fun _ w'=>St w1 [] w') (fun _=>0) () ⟨rfl,trivial⟩ H ?_
  clear H
  rintro _ gh w H
  repeat' (first|refine yT ?_|refine yU ?_|fail)
  exact zKj (vs:=[]) trivial H.cl rfl
 have c_sort0:∀ {a:Option Addr} {cap:Nat} {w:World},Calls Tryz.prog 61 [.slice a 0 cap,.func (.func 62) #[] #[]].toArray w (Ret (.tuple #[]) w):=by
  intro a cap w
  refine enter [] Tryz.func61 rfl Tryz.ntmps61 rfl rfl ?_
  have H:=zA w
  repeat' (first|refine yT ?_|(refine' y30 ent93 ?_ ?_;rotate_left;exact c_sta0;refine w2 H ?_;clear H;intro w H)|refine yU ?_|fail)
  exact zKj (vs:=[]) trivial H.cl rfl
 refine enter [.tmp 4] Tryz.func31 rfl Tryz.ntmps31 rfl rfl ?_
 have H:=zA w0
 repeat' (first|refine yT ?_|(refine y9 H ?_;intro b w H)|(refine' y30 zNi ?_ ?_;rotate_left;exact zF2 [] (fun _=>(none,0)) _ (H.memF hF) hs0;refine w2 H ?_;clear H;intro w H)|refine yU ?_|fail)
 repeat' (first|refine yT ?_|(refine' y32 zQa ?_ ?_;rotate_left;exact zFc (n:=0) _ (H.memF hF) hs0.1 (fun j hj=>absurd hj (zzE _)) (fun j hj=>absurd hj (zzE _)) qO;intro v M w hR hS;replace H:=H.addR hS;clear hS;(try simp only[List.cons_append,List.nil_append] at H);obtain⟨a',cap',rfl,hO⟩:=hR)|(refine' y30 ent58 ?_ ?_;rotate_left;exact c_Del0;refine w2 H ?_;clear H;intro w H)|(refine' y30 ent61 ?_ ?_;rotate_left;exact c_sort0;refine w2 H ?_;clear H;intro w H)|refine yU ?_|with_reducible apply zB|fail)
 refine zI [(6,6),(8,8),(20,29)] (fun _:Unit=>[(6,.slice none 0 0),(20,.int .i64 0)]) (fun _ w=>St w0 (cb b [Value.int .i64 clock] 2::M) w) (fun _=>0) () ⟨rfl,rfl,trivial⟩ H ?_
 clear H
 rintro _ gh w H
 repeat' (first|refine yT ?_|refine yU ?_|fail)
 exact zq (vs:=[_]) (M:=[]) ⟨zb rfl,trivial⟩ (H.sub (zz9 _)) ⟨none,0,rfl,zTP _ _ _⟩
theorem zKS {a:Option Addr}{cap:Nat}(l:List Auc)(ad:Nat→Option Addr × Nat)(clock:Int){F:zC}(w0:World)(hF:Mem w0 F)(hs0:Aucs F a cap l ad) :
  Calls Tryz.prog 31 [.slice a l.length cap,.int .i64 clock].toArray w0 (zi (fun M v=>∃ r a' cap',IsRow l clock r∧v=.slice a' r.length cap'∧OwnI M a' cap' (r.map (·.id))) w0):=by
 cases hm:zAJ l with
 | false=>exact(zSk l ad clock w0 hF hs0 hm).mono fun e w' ⟨he,hc⟩=>⟨_,[],he,⟨[],none,0,.inr ⟨hm,rfl⟩,rfl,zTP _ _ _⟩,(zA w0).ext hc⟩
 | true =>
 obtain⟨h32,hall,hasc⟩:=zJG hm
 rcases Nat.eq_zero_or_pos l.length with h0|h0
 ·obtain rfl:l=[]:=List.eq_nil_of_length_eq_zero h0
  refine(c_Row0 clock w0 hF (show Aucs F a cap [] fun _=>(none,0) from⟨⟨hs0.1.1,hs0.1.2.1,0,0,[],0,(0,0),fun h=>absurd h (Nat.lt_irrefl 0)⟩,fun j hj=>absurd hj (zzE _)⟩)).mono fun e w' ⟨v,M,he,⟨a',cap',hv,hO⟩,hs⟩=>⟨v,M,he,⟨[],a',cap',.inl ⟨hm,List.Pairwise.nil,List.Perm.refl _⟩,hv,hO⟩,hs⟩
 refine enter [.tmp 4] Tryz.func31 rfl Tryz.ntmps31 rfl rfl ?_
 have H:=zA w0
 repeat' (first|refine yT ?_|(refine y9 H ?_;intro b w H)|(refine' y30 zNi ?_ ?_;rotate_left;exact zF2 l ad _ (H.memF hF) hs0;refine w2 H ?_;clear H;intro w H)|refine yU ?_|fail)
 refine zD rfl (fun h=>?_) (fun h=>?_)
 ·rw[hm] at h;cases h
 clear h
 repeat' (first|refine yT ?_|(refine' y32 zQa ?_ ?_;rotate_left;exact zFc _ (H.memF hF) hs0.1 (fun j _=>AE.c_one (aed l ad j)) (fun j _=>rfl) qO;intro v M w hR hS;replace H:=H.addR hS;clear hS;(try simp only[List.cons_append,List.nil_append] at H);obtain⟨a',cap',rfl,hO⟩:=hR)|refine yU ?_|fail)
 obtain⟨g,cs,rfl,rfl,hnc,he⟩:=hO.els h0 (fun j _=>rfl)
 clear hO
 replace H:=H.perm (List.Perm.swap _ _ _)
 have hkl:=zJ4 (fun j=>!zAA (l.getD j default) clock) l.length
 have hA:Asc (zHE (fun j=>!zAA (l.getD j default) clock) l.length (aed l ad)) 0 (kp (fun j=>!zAA (l.getD j default) clock) l.length).length:=fun p q g1 g2 g3=>hasc _ _ (kp_asc g2 g3) (kp_mem g3).1
 repeat' (first|refine yT ?_|(refine' y33 ent58 ?_ ?_;rotate_left 2;exact zLB (n:=l.length) (d:=aed l ad) (caps:=[.pointer (some ⟨b,0,none⟩)]) (fun j=>!zAA (l.getD j default) clock) H he qO hnc ent60 (fun j hj L cs' w' H'=>c_Row1 (l.getD j default) clock w' (H'.all hF) ((hs0.2 j hj).mono (zz8 _ _)) (zz6 _ (zz3 _ (zz5 _ (zz2 _)))));rintro _ _ w ⟨rfl,cs2,rfl,hl2,he2⟩ H2;clear H;have H:=H2;clear H2)|(refine' y33 ent61 ?_ ?_;rotate_left 2;exact zIj ⟨H,rfl,he2⟩ qO hA;rintro _ _ w ⟨rfl,D,cs3,rfl,hl3,he3,hD1,hD2,hD3⟩ H2;clear H;have H:=H2;clear H2)|refine yU ?_|with_reducible apply zB|fail)
 change Els cs3 9 (zFQ l clock) (fun t=>(D t).c) at he3
 change (zFQ l clock)≤l.length at hkl
 change Seg D 0 (zFQ l clock) at hD1
 have hrow:=row_is (ad:=ad) hm hD1 hD3
 refine zI [(6,6),(8,8),(20,29)] (fun x:Nat × Option Addr × Nat × zC=>[(6,.slice x.2.1 x.1 x.2.2.1),(20,.int .i64 (x.1:Int))])
  (fun x w=>x.1≤zFQ l clock∧Go.Sk.Own x.2.2.2 2 1 x.2.1 x.1 x.2.2.1 ((List.range x.1).map fun t=>Value.int .i64 (D t).1.id)∧St w0 (x.2.2.2++[cb g cs3 67,cb b [Value.int .i64 clock] 2]) w)
  (fun x=>zFQ l clock - x.1) (0,none,0,[]) ⟨rfl,rfl,trivial⟩ ⟨zzD _,zTP _ _ _,H⟩ ?_
 clear H he2
 rintro⟨k,a1,cap1,M1⟩ gh w ⟨hk,hO,H⟩
 simp only at hk hO H ⊢
 repeat' (first|refine yT ?_|refine yU ?_|fail)
 refine zD rfl (fun h=>?_) (fun h=>?_)
 ·have hlt:k<zFQ l clock:=by have:=zzA h;unfold zFQ;omega
  have hs:=he3.slb (F:=M1++[cb g cs3 67,cb b [Value.int .i64 clock] 2]) (T:=67) (g:=g) (zz3 _ (zz2 _))
  repeat' (first|refine yT ?_|refine y7 sg H ?_|(refine y10 sg H ?_;intro b w H)|(refine y11 sg H ?_;intro w H)|refine x40 sg hs ?_|refine x42 sg hs H.mem ?_|(refine z14 sg H ?_;intro b w H)|(refine zj sg 1 8 (M:=M1) (G:=[_,_,_,_]) (H.perm (List.perm_append_comm_assoc [_,_] M1 [_,_])) rfl rfl rfl rfl rfl rfl rfl rfl rfl rfl rfl hO (zAL H.mem (zz2 _)) rfl (by intro u hu;simp only[List.mem_cons,List.not_mem_nil,or_false] at hu;subst hu;rfl) (by unfold maxLen;omega) qO ?_;intro a2 cap2 M2 w hO2 H2)|refine yU ?_|with_reducible apply zB|fail)
  refine zF (k+1,a2,cap2,M2) rfl ⟨rfl,zf qO,trivial⟩ ⟨hlt,?_,H2.sub (List.Sublist.append (List.Sublist.refl _) (List.Sublist.cons _ (List.Sublist.cons _ (List.Sublist.refl _))))⟩ (by show zFQ l clock - (k+1)<zFQ l clock - k;omega)
  show Go.Sk.Own M2 _ 1 a2 (k+1) cap2 ((List.range (k+1)).map fun t=>Value.int .i64 (D t).1.id)
  rw[List.range_succ,List.map_append]
  exact hO2
 ·have hkn:k=zFQ l clock:=by have:=zzB h;unfold zFQ at *;omega
  subst hkn
  repeat' (first|refine yT ?_|refine yU ?_|fail)
  refine zq (vs:=[_]) (M:=M1) ⟨zb rfl,trivial⟩ (H.sub (List.sublist_append_left _ _)) ⟨_,a1,cap1,hrow,by rw[List.length_map,List.length_range];rfl,?_⟩
  unfold OwnI
  rw[List.length_map,List.length_map,List.length_range,List.map_map,List.map_map]
  exact hO
end Go.Proofs.YthbflajpdhgfiaaGreatDoor
