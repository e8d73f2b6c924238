/- Texts of ours, joined: the steps of the proof, or the claim's theorem. -/
import Derived.Test.YtibmaifoaajllaaGreatDoorQa24
import Derived.Test.YtibmaifoaajllaaGreatDoorQa26
set_option linter.unusedSimpArgs false
set_option linter.unusedVariables false
set_option maxHeartbeats 16000000
namespace Go.Proofs.YtibmaifoaajllaaGreatDoor
section
open Go Go.Sk Go.RowKit
attribute [local irreducible] Go.Calls
theorem zPB {w0:World}{a:Option Addr}{cap:Nat}{f:FuncId}{caps:List Value}(hf:Ent Tryz.prog f) :
  Calls Tryz.prog 189 [.slice a 0 cap,.func (.func f) #[] caps.toArray].toArray w0 (Ret (.slice a 0 cap) w0):=by
 refine enter [.tmp 4] Tryz.func189 rfl Tryz.ntmps189 rfl rfl ?_
 have H:=zB w0
 repeat' (first|refine yT ?_|(refine' y30 zNY ?_ ?_;rotate_left;exact zEE (n:=0) (el:=fun _=>[]) (F:=[]) (fun _=>false) _ (fun _ h=>nomatch h) ⟨zzD _,zzD _,0,0,[],0,(0,0),fun h=>absurd h (Nat.lt_irrefl 0)⟩ hf (fun j hj=>absurd hj (zzE _));intro w hcl;replace H:=H.ext hcl;clear hcl)|refine yU ?_|fail)
 all_goals exact zQ rfl H.cl rfl
theorem zPC {w0:World}{a:Option Addr}{cap:Nat}{f:FuncId}{caps:List Value}(hf:Ent Tryz.prog f) :
  Calls Tryz.prog 66 [.slice a 0 cap,.func (.func f) #[] caps.toArray].toArray w0 (Ret (.slice a 0 cap) w0):=by
 refine enter [.tmp 4] Tryz.func66 rfl Tryz.ntmps66 rfl rfl ?_
 have H:=zB w0
 repeat' (first|refine yT ?_|(refine' y30 zL5 ?_ ?_;rotate_left;exact zFk (n:=0) (el:=fun _=>[]) (F:=[]) (fun _=>false) _ (fun _ h=>nomatch h) ⟨zzD _,zzD _,0,0,[],0,(0,0),fun h=>absurd h (Nat.lt_irrefl 0)⟩ hf (fun j hj=>absurd hj (zzE _));intro w hcl;replace H:=H.ext hcl;clear hcl)|refine yU ?_|fail)
 all_goals exact zQ rfl H.cl rfl
def ofF (l:List Row4)(a:Int):List Row4:=l.filter fun r=>!(r.acct != a)
theorem c_Of {a0:Option Addr}{cap:Nat}(l:List Row4)(a:Int)(hl:l.length≤1000000){F:zH}(w0:World)(hF:Mem w0 F)(hs0:SlA F 4 a0 l.length cap (rwl l)) :
  Calls Tryz.prog 139 [.slice a0 l.length cap,.int .i64 a].toArray w0 (zn (fun _ v=>∃ a1 c1,v=.slice a1 (ofF l a).length c1) w0):=by
 refine enter [.tmp 4] Tryz.func139 rfl Tryz.ntmps139 rfl rfl ?_
 have H:=zB w0
 repeat' (first|refine yT ?_|(refine y9 H ?_;intro b w H)|(refine' y32 ent77 ?_ ?_;rotate_left;exact zH8 _ (H.memF hF) hs0 (fun j _=>Row4.cone _) (fun j _=>rfl) (by omega);intro v M w hR hS;replace H:=H.addR hS;clear hS;(try simp only[List.cons_append,List.nil_append] at H);obtain⟨a',cap',rfl,hO⟩:=hR)|refine yU ?_|fail)
 rcases Nat.eq_zero_or_pos l.length with h0|h0
 ·obtain rfl:=List.length_eq_zero_iff.1 h0
  repeat' (first|refine yT ?_|(refine' y30 zQd ?_ ?_;rotate_left;exact zPB (a:=a') (cap:=cap') (caps:=[.pointer (some ⟨b,0,none⟩)]) zQe;intro w hcl;replace H:=H.ext hcl;clear hcl)|refine yU ?_|fail)
  exact zU (M:=[]) rfl (H.sub (zz9 _)) ⟨a',cap',rfl⟩
 ·obtain⟨g,cs,rfl,rfl,hnc,he⟩:=hO.els h0 (fun j _=>rfl)
  clear hO
  replace H:=H.perm (List.Perm.swap _ _ _)
  repeat' (first|refine yT ?_|(refine zc rfl rfl (En.fn zQd rfl rfl) (zO9 (n:=l.length) (d:=rw_ l) (caps:=[.pointer (some ⟨b,0,none⟩)]) (fun j=>(rw_ l j).acct != a) H he (by omega) hnc zQe (fun j hj L cs' w' H'=>c_Of1 (rw_ l j) a b w' H'.mem (zz3 _ (zz5 _ (zz2 _))))) ?_;rintro _ _ w ⟨rfl,cs2,rfl,hl2,he2⟩ H2;clear H;have H:=H2;clear H2)|refine yU ?_|fail)
  have hk:=(zHG l (fun r=>r.acct != a) default).1
  exact zU (M:=[]) rfl (H.sub (zz9 _)) ⟨_,_,congrArg (fun n=>Value.slice (some ⟨g,0,none⟩) n cap') hk⟩
end
section
open Go Go.Sk Go.RowKit
def zGr (E:Pl→Int × Int)(s:Int):Int:=((List.range 65).map fun(a:Nat)=>(E ((a:Int),s)).1+(E ((a:Int),s)).2).sum
def wR (s:Int)(r:Row4):Int:=if r.asset=s then r.free+r.held else 0
theorem zHY {l:List Row4}{s:Int}:∀ k,k≤l.length→smR l s k=((l.take k).map (wR s)).sum
 | 0,_=>by simp[smR]
 | k+1,h=>by
   have ih:=zHY (l:=l) (s:=s) k (by omega)
   rw[smR,ih,List.take_succ_eq_append_getElem (by omega),List.map_append,List.sum_append]
   simp[wR,rw_,List.getD_eq_getElem?_getD,List.getElem?_eq_getElem (show k<l.length by omega)]
theorem zRb {α β:Type}{f:α→Option β}{g:β→Int}:∀ (l:List α),((l.filterMap f).map g).sum=(l.map fun x=>match f x with|some y=>g y|none=>0).sum
 | []=>rfl
 | a::l=>by
   rw[List.filterMap_cons,List.map_cons,List.sum_cons,← zRb l]
   cases f a<;>simp
theorem zK8 {α β:Type}{f:α→List β}{g:β→Int}:∀ (l:List α),((l.flatMap f).map g).sum=(l.map fun x=>((f x).map g).sum).sum
 | []=>rfl
 | a::l=>by rw[List.flatMap_cons,List.map_append,List.sum_append,zK8 l,List.map_cons,List.sum_cons]
theorem zDx {α:Type}{g:α→Int}:∀ {l:List α},(∀ x∈l,g x=0)→(l.map g).sum=0
 | [],_=>rfl
 | a::l,h=>by rw[List.map_cons,List.sum_cons,h a (List.Mem.head _),zDx fun x hx=>h x (List.Mem.tail _ hx)];rfl
theorem zKB {α:Type}{f g:α→Int}:∀ (l:List α),(l.map fun x=>f x+g x).sum=(l.map f).sum+(l.map g).sum
 | []=>rfl
 | a::l=>by simp only[List.map_cons,List.sum_cons,zKB l];omega
theorem zC3 {α:Type}{f g:α→Int}:∀ {l:List α},(∀ x∈l,f x=g x)→(l.map f).sum=(l.map g).sum
 | [],_=>rfl
 | a::l,h=>by rw[List.map_cons,List.map_cons,List.sum_cons,List.sum_cons,h a (List.Mem.head _),zC3 fun x hx=>h x (List.Mem.tail _ hx)]
theorem zNt {n k:Nat}(hk:k<n)(z:Int):((List.range n).map fun a=>if a=k then z else 0).sum=z:=by
 induction n with
 | zero=>omega
 | succ n ih =>
   rw[List.range_succ,List.map_append,List.sum_append]
   by_cases h:k=n
   ·subst h
    rw[zDx fun x hx=>if_neg (by have:=List.mem_range.1 hx;omega)]
    simp
   ·rw[ih (by omega)]
    simp[show ¬ n=k by omega]
theorem zNu (E:Pl→Int × Int)(s:Nat)(hs:s<17):((mkR E).map (wR s)).sum=zGr E s:=by
 unfold mkR
 rw[zRb]
 unfold zBb zGr
 rw[zK8]
 refine zC3 fun a ha=>?_
 rw[List.map_map]
 rw[zC3 (g:=fun t=>if t=s then(E ((a:Int),(s:Int))).1+(E ((a:Int),(s:Int))).2 else 0) fun t ht=>?_]
 ·exact zNt hs _
 ·simp only[Function.comp]
  by_cases h0:E ((a:Int),(t:Int))=(0,0)
  ·rw[if_pos h0]
   by_cases hts:t=s
   ·subst hts;rw[if_pos rfl,h0];rfl
   ·rw[if_neg hts]
  ·rw[if_neg h0]
   simp only[wR]
   by_cases hts:t=s
   ·subst hts;simp
   ·rw[if_neg (by omega),if_neg hts]
theorem zIA {l:List Row4}(h:zAJ l=true)(s:Nat)(hs:s<17):zGr (atR l) s=0:=by
 have h1:=(zBN.1 h).2 s hs
 rw[zHY _ (Nat.le_refl _),List.take_length] at h1
 rw[← zNu _ s hs,zHX h]
 exact h1
structure GoodE (E:Pl→Int × Int):Prop where
 out:∀ x∈zBb,x.1=0→(E x).2=0
 acc:∀ x∈zBb,x.1≠0→0≤(E x).1∧0≤(E x).2∧(E x).1+(E x).2≤1125899906842624
 col:∀ s:Nat,s<17→zGr E s=0
theorem zTt {E:Pl→Int × Int}(h:GoodE E):zAJ (mkR E)=true:=by
 rw[zBN]
 refine⟨fun j hj=>?_,fun s hs=>?_⟩
 ·have hr:rw_ (mkR E) j∈mkR E:=by simp[rw_,List.getD_eq_getElem?_getD,List.getElem?_eq_getElem hj]
  have hm:=zFF.1 hr
  have hg:=zCL.1 hm.1
  refine⟨⟨⟨hg.1.1,hg.1.2,hg.2⟩,hm.2.2,fun h0=>?_,fun h0=>?_⟩,?_⟩
  ·have:=h.out _ hm.1 h0;rw[hm.2.1] at this;exact this
  ·have:=h.acc _ hm.1 h0;rw[hm.2.1] at this;exact this
  ·rcases Nat.eq_zero_or_pos j with h0|h0
   ·exact .inl h0
   ·right
    have:=List.pairwise_iff_getElem.1 (zHW E) (j - 1) j (by omega) hj (by omega)
    simpa [rw_,List.getD_eq_getElem?_getD,List.getElem?_eq_getElem hj,List.getElem?_eq_getElem (show j - 1<(mkR E).length by omega)] using this
 ·rw[zHY _ (Nat.le_refl _),List.take_length,zNu E s hs]
  exact h.col s hs
theorem zAW (q:Pst)(p:List Pst)(x:Pl):dlF (q::p) x=if q.acct=x.1∧q.asset=x.2 then((dlF p x).1+q.free,(dlF p x).2+q.held) else dlF p x:=by
 have key:∀ (p:List Pst) (z:Int × Int),p.foldl (fun z q=>if q.acct=x.1∧q.asset=x.2 then(z.1+q.free,z.2+q.held) else z) z=(z.1+(dlF p x).1,z.2+(dlF p x).2):=by
  intro p
  induction p with
  | nil=>intro z;simp[dlF]
  | cons q p ih =>
    intro z
    unfold dlF
    simp only[List.foldl_cons]
    rw[ih,ih]
    split
    ·simp only[Int.zero_add];ext<;>simp only<;>omega
    ·simp
 show(q::p).foldl _ _=_
 rw[List.foldl_cons,key]
 split
 ·simp only[Int.zero_add];ext<;>simp only<;>omega
 ·simp
theorem zBh (q:Pst)(p:List Pst)(s:Int):zBU (q::p) s=zBU p s+if q.asset=s then q.free+q.held else 0:=by
 have key:∀ (p:List Pst) (z:Int),p.foldl (fun z q=>if q.asset=s then z+(q.free+q.held) else z) z=z+zBU p s:=by
  intro p
  induction p with
  | nil=>intro z;simp[zBU]
  | cons q p ih =>
    intro z
    unfold zBU
    simp only[List.foldl_cons]
    rw[ih,ih]
    split<;>omega
 show(q::p).foldl _ _=_
 rw[List.foldl_cons,key]
 split<;>omega
theorem dl_col {p:List Pst}(hp:p.any zCs=false)(s:Nat):zGr (dlF p) s=zBU p s:=by
 induction p with
 | nil=>unfold zGr;exact zDx fun a _=>rfl
 | cons q p ih =>
   rw[List.any_cons,Bool.or_eq_false_iff] at hp
   have hq:(0≤q.acct∧q.acct≤64):=by
    have:=hp.1
    simp only[zCs,zCX,Bool.or_eq_false_iff,Bool.not_eq_false',Bool.and_eq_true,decide_eq_true_eq] at this
    exact⟨this.1.1.1.1.1.1,this.1.1.1.1.1.2⟩
   rw[zBh,← ih hp.2]
   unfold zGr
   have e:∀ a:Nat,(dlF (q::p) ((a:Int),(s:Int))).1+(dlF (q::p) ((a:Int),(s:Int))).2=((dlF p ((a:Int),(s:Int))).1+(dlF p ((a:Int),(s:Int))).2)+if a=q.acct.toNat then(if q.asset=(s:Int) then q.free+q.held else 0) else 0:=by
    intro a
    rw[zAW]
    simp only
    by_cases ha:a=q.acct.toNat
    ·by_cases hs:q.asset=(s:Int)
     ·rw[if_pos ⟨by omega,hs⟩,if_pos ha,if_pos hs];omega
     ·rw[if_neg (fun h=>hs h.2),if_pos ha,if_neg hs];omega
    ·rw[if_neg (fun h=>ha (by omega)),if_neg ha];omega
   rw[zC3 fun a _=>e a,zKB,zNt (by omega)]
theorem zIB {p:List Pst}(h:zAd p=0):p.length≤64∧p.any zCs=false∧∀ s:Nat,s<17→zBU p s=0:=by
 unfold zAd at h
 by_cases h1:p.length>64
 ·rw[if_pos h1] at h;cases h
 rw[if_neg h1] at h
 by_cases h2:p.any zCs=true
 ·rw[if_pos h2] at h;cases h
 rw[if_neg h2] at h
 by_cases h3:((List.range 17).any fun s=>zBU p (s:Nat) != 0)=true
 ·rw[if_pos h3] at h;cases h
 refine⟨by omega,by simpa using h2,fun s hs=>?_⟩
 have:=List.any_eq_false.1 (by simpa using h3:((List.range 17).any fun s=>zBU p (s:Nat) != 0)=false) s (List.mem_range.2 hs)
 simpa using this
theorem dl_out {p:List Pst}(hp:p.any zCs=false)(s:Int):(dlF p (0,s)).2=0:=by
 induction p with
 | nil=>rfl
 | cons q p ih =>
   rw[List.any_cons,Bool.or_eq_false_iff] at hp
   rw[zAW]
   split
   ·rename_i h
    have:=hp.1
    simp only[zCs,Bool.or_eq_false_iff,Bool.and_eq_false_iff] at this
    have h2:q.held=0:=by
     rcases this.2 with e|e
     ·simp[h.1] at e
     ·simpa using e
    simp only[ih hp.2,h2];rfl
   ·exact ih hp.2
theorem zCm (a f h:Int):(zAN a f h=0∧(a≠0→0≤f∧0≤h∧f+h≤1125899906842624))∨(zAN a f h=47∧a≠0∧(f<0∨h<0))∨(zAN a f h=41∧a≠0∧0≤f∧0≤h∧1125899906842624<f+h):=by
 unfold zAN
 by_cases h1:a=0
 ·rw[if_pos h1];exact .inl ⟨rfl,fun h=>absurd h1 h⟩
 rw[if_neg h1]
 by_cases h2:f<0∨h<0
 ·rw[if_pos h2];exact .inr (.inl ⟨rfl,h1,h2⟩)
 rw[if_neg h2]
 by_cases h3:f>1125899906842624∨h>1125899906842624∨f+h>1125899906842624
 ·rw[if_pos h3];exact .inr (.inr ⟨rfl,h1,by omega,by omega,by omega⟩)
 ·rw[if_neg h3];exact .inl ⟨rfl,fun _=>by omega⟩
theorem zIC {E:Pl→Int × Int}:zAt E=0↔∀ x∈zBb,zAN x.1 (E x).1 (E x).2=0:=by
 unfold zAt
 constructor
 ·intro h x hx
  by_cases h1:(zBb.any fun x=>zAN x.1 (E x).1 (E x).2==47)=true
  ·rw[if_pos h1] at h;cases h
  rw[if_neg h1] at h
  by_cases h2:(zBb.any fun x=>zAN x.1 (E x).1 (E x).2==41)=true
  ·rw[if_pos h2] at h;cases h
  have a1:=List.any_eq_false.1 (by simpa only[Bool.not_eq_true] using h1) x hx
  have a2:=List.any_eq_false.1 (by simpa only[Bool.not_eq_true] using h2) x hx
  simp only[beq_iff_eq] at a1 a2
  rcases zCm x.1 (E x).1 (E x).2 with e|e|e
  ·exact e.1
  ·exact absurd e.1 a1
  ·exact absurd e.1 a2
 ·intro h
  rw[if_neg,if_neg]
  ·rw[List.any_eq_true];rintro⟨x,hx,e⟩;rw[h x hx] at e;cases e
  ·rw[List.any_eq_true];rintro⟨x,hx,e⟩;rw[h x hx] at e;cases e
theorem zRc (l:List Row4)(p:List Pst)(s:Int):zGr (zm l p) s=zGr (atR l) s+zGr (dlF p) s:=by
 unfold zGr
 rw[← zKB]
 exact zC3 fun a _=>by unfold zm;simp only;omega
theorem zPD {l:List Row4}{p:List Pst}(h:zAJ l=true)(hp:zAd p=0)(hw:zAt (zm l p)=0):GoodE (zm l p):=by
 obtain⟨_,hb,hs⟩:=zIB hp
 refine⟨fun x hx h0=>?_,fun x hx h0=>?_,fun s hs'=>?_⟩
 ·unfold zm
  have h1:=(zBc h x).1 h0
  have h2:=dl_out hb x.2
  have h3:x=(0,x.2):=Prod.ext h0 rfl
  rw[← h3] at h2
  simp only[h1,h2];rfl
 ·rcases zCm x.1 (zm l p x).1 (zm l p x).2 with e|e|e
  ·exact e.2 h0
  ·have:=zIC.1 hw x hx;omega
  ·have:=zIC.1 hw x hx;omega
 ·rw[zRc,zIA h s hs',dl_col hb,hs s hs'];rfl
theorem zHZ {l m:List Row4}{p:List Pst}(h:zAn l p=(m,0)):zAJ l=true∧zAd p=0∧zAt (zm l p)=0∧m=mkR (zm l p)∧zAJ m=true∧∀ x∈zBb,atR m x=zm l p x:=by
 unfold zAn at h
 by_cases h1:zAJ l=true
 ·rw[if_pos h1] at h
  by_cases h2:zAd p=0
  ·rw[if_pos h2] at h
   by_cases h3:zAt (zm l p)=0
   ·rw[if_pos h3] at h
    obtain rfl:=(Prod.mk.inj h).1
    exact⟨h1,h2,h3,rfl,zTt (zPD h1 h2 h3),fun x hx=>zTq _ hx⟩
   ·rw[if_neg h3] at h;exact absurd (Prod.mk.inj h).2 h3
  ·rw[if_neg h2] at h;exact absurd (Prod.mk.inj h).2 h2
 ·rw[if_neg h1] at h;exact absurd (Prod.mk.inj h).2 (by decide)
theorem zFs {el:Nat→List Value}{size n:Nat}(hel:∀ j,j<n→(el j).length=size):((List.range n).flatMap el).length=n*size:=by
 induction n with
 | zero=>simp
 | succ n ih=>rw[List.range_succ,List.flatMap_append,List.length_append,ih (fun j hj=>hel j (by omega)),List.flatMap_singleton,hel n (by omega),Nat.succ_mul]
theorem zPE {size n b off:Nat}{a:Option Addr}{cs:List Value}{T:TypeId}{fr:Nat × Nat}{F:zH}{el:Nat→List Value}(hs:SlB F size a n b off cs T fr el)(hel:∀ j,j<n→(el j).length=size) :
  ∀ m,m≤n→∀ j u,((List.range m).flatMap el)[j]?=some u→cs[off+j]?=some u:=by
 intro m
 induction m with
 | zero=>intro _ j u hj;cases hj
 | succ m ih =>
   intro hm j u hj
   have hlen:((List.range m).flatMap el).length=m*size:=zFs fun j hj=>hel j (by omega)
   rw[List.range_succ,List.flatMap_append,List.flatMap_singleton] at hj
   by_cases hjm:j<m*size
   ·rw[List.getElem?_append_left (by rw[hlen];exact hjm)] at hj
    exact ih (by omega) j u hj
   ·rw[List.getElem?_append_right (by rw[hlen];omega),hlen] at hj
    have h2:=((hs (by omega)).2.2 m (by omega)).2
    rw[← h2,List.getElem?_take] at hj
    split at hj
    ·rw[List.getElem?_drop] at hj
     rw[show off+j=off+m*size+(j - m*size) by omega];exact hj
    ·cases hj
theorem zKC {size n cap b off:Nat}{a:Option Addr}{cs:List Value}{T:TypeId}{fr:Nat × Nat}{F:zH}{el:Nat→List Value}(hs:SlB F size a n b off cs T fr el)(hel:∀ j,j<n→(el j).length=size){w:World}(hM:Mem w F) :
  Src w (.slice a n cap) n ((List.range n).flatMap el):=by
 rcases Nat.eq_zero_or_pos n with h0|h0
 ·subst h0
  cases a with
  | none=>exact .inr ⟨cap,rfl,rfl⟩
  | some a=>exact .inl ⟨a,cap,rfl,fun j u hj=>by cases hj⟩
 ·obtain⟨rfl,hm,_⟩:=hs h0
  refine .inl ⟨_,_,rfl,fun j u hj=>?_⟩
  rw[zz,zBw hM hm]
  exact zPE hs hel n (zzC _) j u hj
theorem zID {el:Nat→List Value}{n:Nat}(h1:∀ j,j<n→∀ u∈el j,u.oneCell'=true):∀ u∈(List.range n).flatMap el,u.oneCell'=true:=by
 intro u hu;obtain⟨j,hj,hu⟩:=List.mem_flatMap.1 hu;exact h1 j (List.mem_range.1 hj) u hu
theorem c_Row1 {a:Option Addr}{cap:Nat}(x:Auc)(clock:Int){b:Nat}{T:TypeId}{F:zH}(w0:World)(hF:Mem w0 F)(hs:Bids F a cap x.bids)(hm:(b,Obj.cells [Value.int .i64 clock].toArray T (0,0))∈F) :
  Calls Tryz.prog 200 [.agg (x.cells a cap).toArray,.pointer (some ⟨b,0,none⟩)].toArray w0 (Ret (.bool (!zA6 x clock)) w0):=by
 refine enter [.tmp 3] Tryz.func200 rfl Tryz.ntmps200 rfl rfl ?_
 have H:=zB w0
 repeat' (first|refine yT ?_|refine y7 sg H ?_|(refine y9 H ?_;intro b w H)|refine z13 (zG sg rfl rfl (H.memF hF) hm rfl rfl) ?_|(refine' y30 zGh ?_ ?_;rotate_left;exact zI0 x clock _ (H.memF hF) hs;intro w hcl;replace H:=H.ext hcl;clear hcl)|refine yU ?_|fail)
 exact zQ rfl H.cl rfl
def aed (l:List Auc)(ad:Nat→Option Addr × Nat)(j:Nat):AE:=(l.getD j default,ad j)
def zFU (l:List Auc)(clock:Int):Nat:=(kp (fun j=>!zA6 (l.getD j default) clock) l.length).length
def OwnI (M:zH)(a:Option Addr)(cap:Nat)(l:List Int):Prop:=Go.Sk.Own M 2 1 a l.length cap (l.map fun i=>Value.int .i64 i)
end
section
open Go Go.Sk Go.RowKit
attribute [local irreducible] Go.Calls
theorem Bids.none (F:zH):Bids F none 0 []:=⟨zzC _,by decide,0,0,[],0,(0,0),fun h=>absurd h (by decide)⟩
theorem Bids.blk {F:zH}{b cap:Nat}{T:TypeId}(l:List Bid)(hm:cb b ((List.range l.length).flatMap (bel l)) T∈F)(hc:l.length≤cap)(hn:l.length≤140737488355328):Bids F (some ⟨b,0,Option.none⟩) cap l:=by
 refine⟨hc,hn,b,0,_,T,(0,0),fun _=>⟨rfl,hm,fun j hj=>?_⟩⟩
 have hl:=flat_len (el:=bel l) (size:=2) l.length (fun j _=>zFC l j)
 refine⟨by rw[hl];omega,?_⟩
 rw[Nat.zero_add]
 exact flat_at l.length (fun j _=>zFC l j) j hj
theorem Aucs.blk {F:zH}{b cap:Nat}{T:TypeId}(l:List Auc)(ad:Nat→Option Addr × Nat)(hm:cb b ((List.range l.length).flatMap (ael l ad)) T∈F)(hc:l.length≤cap)(hn:l.length≤140737488355328)(hb:∀ j,j<l.length→Bids F (ad j).1 (ad j).2 (l.getD j default).bids):Aucs F (some ⟨b,0,Option.none⟩) cap l ad:=by
 refine⟨⟨hc,hn,b,0,_,T,(0,0),fun _=>⟨rfl,hm,fun j hj=>?_⟩⟩,hb⟩
 have hl:=flat_len (el:=ael l ad) (size:=9) l.length (fun j _=>rfl)
 refine⟨by rw[hl];omega,?_⟩
 rw[Nat.zero_add]
 exact flat_at (el:=ael l ad) (size:=9) l.length (fun j _=>rfl) j hj
theorem Bids.b1 {F:zH}{b:Nat}{T:TypeId}{x y:Int}(hm:cb b [.int .i64 x,.int .i64 y] T∈F):Bids F (some ⟨b,0,Option.none⟩) 1 [⟨x,y⟩]:=Bids.blk (cap:=1) [⟨x,y⟩] hm (zzC _) (Nat.le_trans (Nat.le_refl 1) (by decide))
def no3:Nat→Option Addr × Nat:=fun _=>(none,0)
theorem Bids.b2 {F:zH}{b:Nat}{T:TypeId}{x y x' y':Int}(hm:cb b [.int .i64 x,.int .i64 y,.int .i64 x',.int .i64 y'] T∈F):Bids F (some ⟨b,0,Option.none⟩) 2 [⟨x,y⟩,⟨x',y'⟩]:=Bids.blk (cap:=2) [⟨x,y⟩,⟨x',y'⟩] hm (zzC _) (Nat.le_trans (Nat.le_refl 2) (by decide))
theorem Bids.b3 {F:zH}{b:Nat}{T:TypeId}{x y x' y' x'' y'':Int}(hm:cb b [.int .i64 x,.int .i64 y,.int .i64 x',.int .i64 y',.int .i64 x'',.int .i64 y''] T∈F):Bids F (some ⟨b,0,Option.none⟩) 3 [⟨x,y⟩,⟨x',y'⟩,⟨x'',y''⟩]:=Bids.blk (cap:=3) [⟨x,y⟩,⟨x',y'⟩,⟨x'',y''⟩] hm (zzC _) (Nat.le_trans (Nat.le_refl 3) (by decide))
end
section
open Go Go.Sk Go.RowKit
def zEw (l:List Bid)(res:Int):Nat→Bool
 | 0=>false
 | k+1=>zEw l res k||decide ((l.getD k default).amount ≥ res)
theorem zEQ {l:List Bid}{res:Int}:∀ k,zEw l res k=true↔∃ j,j<k∧(l.getD j default).amount ≥ res
 | 0=>by simp[zEw]
 | k+1=>by
   rw[zEw,Bool.or_eq_true,zEQ k,decide_eq_true_eq]
   constructor
   ·rintro(⟨j,h1,h2⟩|h)
    ·exact⟨j,by omega,h2⟩
    ·exact⟨k,by omega,h⟩
   ·rintro⟨j,h1,h2⟩
    by_cases hj:j=k
    ·subst hj;exact .inr h2
    ·exact .inl ⟨j,by omega,h2⟩
theorem zGK (l:List Bid):∀ k,0<k→0≤zCY l k∧(∀ j,j<k→(l.getD j default).amount≤(l.getD (zCY l k).toNat default).amount)∧∀ j,j<(zCY l k).toNat→(l.getD j default).amount<(l.getD (zCY l k).toNat default).amount
 | 0,h=>by omega
 | k+1,_=>by
   rcases Nat.eq_zero_or_pos k with rfl|hk
   ·rw[zCY,if_pos (.inl (by simp[zCY]))]
    exact ⟨by omega, fun j hj => by obtain rfl:j=0:=by omega
                                    exact Int.le_refl _,fun j hj=>by simp at hj⟩
   ·obtain⟨h0,h1,h2⟩:=zGK l k hk
    have hlt:=(zEG l k).2
    rw[zCY]
    split
    ·rename_i hc
     have hc:=hc.resolve_left (by omega)
     refine⟨by omega,fun j hj=>?_,fun j hj=>?_⟩
     ·rw[Int.toNat_natCast]
      by_cases hj':j=k
      ·subst hj';exact Int.le_refl _
      ·have:=h1 j (by omega);omega
     ·rw[Int.toNat_natCast] at hj ⊢
      have:=h1 j hj;omega
    ·rename_i hc
     refine⟨h0,fun j hj=>?_,h2⟩
     by_cases hj':j=k
     ·subst hj'
      rcases Int.lt_or_le (l.getD (zCY l j).toNat default).amount (l.getD j default).amount with h|h
      ·exact absurd (.inr h) hc
      ·exact h
     ·exact h1 j (by omega)
theorem zFG {x:Auc}(h:zAV x=true)(he:x.sealed=false):x.bids.length≤1∧(x.bids.length=0∨(x.bids.getD 0 default).amount ≥ x.reserve):=by
 simp only[zAV,Bool.and_eq_true,zAc,he,zEo,Bool.false_eq_true,if_false,Bool.or_eq_true,decide_eq_true_eq,beq_iff_eq] at h
 obtain⟨h1,h2⟩:=h.1.2.2
 refine⟨by omega,?_⟩
 rcases h2 with h2|h2
 ·exact .inl (by omega)
 ·exact .inr h2
theorem zTu {x:Auc}(h:zAV x=true):(zN x).2=zEw x.bids x.reserve x.bids.length:=by
 rw[Bool.eq_iff_iff,zEQ]
 rcases Bool.eq_false_or_eq_true x.sealed with he|he
 ·rcases Nat.eq_zero_or_pos x.bids.length with h0|h0
  ·have:hi x.bids=-1:=by unfold hi;rw[h0];rfl
   simp[zN,h,he,zDW,this,h0]
  ·obtain⟨h1,h2,_⟩:=zGK x.bids x.bids.length h0
   have hl:=(zEG x.bids x.bids.length).2
   rw[show zCY x.bids x.bids.length=hi x.bids from rfl] at h1 h2 hl
   simp only[zN,h,he,if_true,zDW]
   constructor
   ·intro hw
    split at hw
    ·simp at hw
    ·rename_i hc
     simp only[Bool.or_eq_true,decide_eq_true_eq,not_or,Int.not_lt] at hc
     exact⟨_,by omega,hc.2⟩
   ·rintro⟨j,hj,hr⟩
    have:=h2 j hj
    rw[if_neg (by simp only[Bool.or_eq_true,decide_eq_true_eq,not_or,Int.not_lt];omega)]
 ·obtain⟨h1,h2⟩:=zFG h he
  simp only[zN,h,he,if_true,Bool.false_eq_true,if_false,zHF]
  constructor
  ·intro hw
   split at hw
   ·simp at hw
   ·rename_i hc
    simp only[beq_iff_eq] at hc
    exact⟨0,by omega,h2.resolve_left (by omega)⟩
  ·rintro⟨j,hj,hr⟩
   rw[if_neg (by simp only[beq_iff_eq];omega)]
theorem zRd {x:Auc}(h:zAV x=true):(zAH x).2=decide ((x.bids.length:Int)>0):=by
 unfold zAH
 rcases Nat.eq_zero_or_pos x.bids.length with h0|h0
 ·have:hi x.bids=-1:=by unfold hi;rw[h0];rfl
  simp[this,h0]
 ·obtain⟨h1,_,_⟩:=zGK x.bids x.bids.length h0
  rw[show zCY x.bids x.bids.length=hi x.bids from rfl] at h1
  rw[if_neg (by simp[h];omega)]
  simp;omega
theorem zRe {x:Auc}(h:(zN x).2=false):(zN x).1=Bid.zero:=by
 unfold zN at h ⊢
 split at h
 ·rename_i hm
  rw[if_pos hm]
  split at h
  ·rename_i hs
   rw[if_pos hs]
   unfold zDW at h ⊢
   split at h
   ·rename_i hc;rw[if_pos hc]
   ·simp at h
  ·rename_i hs
   rw[if_neg hs]
   unfold zHF at h ⊢
   split at h
   ·rename_i hc;rw[if_pos hc]
   ·simp at h
 ·rename_i hm;rw[if_neg hm]
theorem zRf {x:Auc}(h:zAV x=true):∀ i j,i<j→j<x.bids.length→(x.bids.getD i default).acct≠(x.bids.getD j default).acct:=by
 intro i j hij hj he
 simp only[zAV,Bool.and_eq_true] at h
 have hb:=h.2
 simp only[zCE,decide_eq_true_eq] at hb
 rcases zY (zBQ x) x.bids.length with ⟨k,_,_,_,h4⟩|⟨hall,_⟩
 ·omega
 ·have:=hall j hj
  simp only[zBQ,Bool.or_eq_false_iff,decide_eq_false_iff_not] at this
  rcases zY (fun i=>(x.bids.getD i default).acct==(x.bids.getD j default).acct) j with ⟨k,_,_,_,h4⟩|⟨hn,_⟩
  ·rw[h4] at this;exact this.2 (by omega)
  ·have:=hn i hij
   rw[he,beq_self_eq_true] at this
   cases this
theorem zHH {l:List Bid}{j:Nat}:∀ k,j<k→(∀ i,j<i→i<k→(l.getD j default).acct≠(l.getD i default).acct)→zGA l (l.getD j default).acct k=(l.getD j default).amount
 | 0,h,_=>by omega
 | k+1,h,hu=>by
   rw[zGA]
   by_cases hj:j=k
   ·subst hj;rw[if_pos (by simp)]
   ·rw[if_neg (by have:=hu k (by omega) (by omega);simp;exact fun h=>this h.symm)]
    exact zHH k (by omega) (fun i h1 h2=>hu i h1 (by omega))
theorem zNv (l:List Bid)(res i:Int):∀ k,res≤zFo l res i k∧(∀ j:Nat,j<k→(j:Int)≠i→(l.getD j default).amount≤zFo l res i k)∧(zFo l res i k=res∨∃ j:Nat,j<k∧(j:Int)≠i∧(l.getD j default).amount=zFo l res i k)
 | 0=>⟨Int.le_refl _,fun j h=>by omega,.inl rfl⟩
 | k+1=>by
   obtain⟨h1,h2,h3⟩:=zNv l res i k
   rw[zFo]
   split
   ·rename_i hc
    have hc:(k:Int)≠i:=by simpa using hc
    unfold mx
    split
    ·rename_i hg
     refine⟨by omega,fun j hj hji=>?_,.inr ⟨k,by omega,hc,rfl⟩⟩
     by_cases hjk:j=k
     ·subst hjk;exact Int.le_refl _
     ·have:=h2 j (by omega) hji;omega
    ·rename_i hg
     refine⟨h1,fun j hj hji=>?_,?_⟩
     ·by_cases hjk:j=k
      ·subst hjk;omega
      ·exact h2 j (by omega) hji
     ·rcases h3 with h3|⟨j,h4,h5,h6⟩
      ·exact .inl h3
      ·exact .inr ⟨j,by omega,h5,h6⟩
   ·rename_i hc
    have hc:(k:Int)=i:=by simpa using hc
    refine⟨h1,fun j hj hji=>h2 j (by omega) hji,?_⟩
    rcases h3 with h3|⟨j,h4,h5,h6⟩
    ·exact .inl h3
    ·exact .inr ⟨j,by omega,h5,h6⟩
theorem zFH {x:Auc}(h:zAV x=true)(hw:(zN x).2=true):∃ m,m<x.bids.length∧(zN x).1.acct=(x.bids.getD m default).acct∧(zAH x).1=x.bids.getD m default ∧
  zGA x.bids (zN x).1.acct x.bids.length=(x.bids.getD m default).amount∧x.reserve≤(zN x).1.amount∧(zN x).1.amount≤(x.bids.getD m default).amount ∧
  (x.sealed=false→(zN x).1.amount=(x.bids.getD m default).amount)∧(∀ j,j<x.bids.length→j≠m→(x.bids.getD j default).amount≤(x.bids.getD m default).amount∧(x.bids.getD j default).amount≤(zN x).1.amount) ∧
  ((zN x).1.amount=x.reserve∨x.sealed=false∨∃ j,j<x.bids.length∧j≠m∧(x.bids.getD j default).amount=(zN x).1.amount):=by
 have hu:=zRf h
 have h0:0<x.bids.length:=by
  rw[zTu h,zEQ] at hw
  obtain⟨j,hj,_⟩:=hw;omega
 obtain⟨h1,h2,_⟩:=zGK x.bids x.bids.length h0
 have hl:=(zEG x.bids x.bids.length).2
 rw[show zCY x.bids x.bids.length=hi x.bids from rfl] at h1 h2 hl
 have ht:(zAH x).1=x.bids.getD (hi x.bids).toNat default:=by unfold zAH;rw[if_neg (by simp[h];omega)]
 have hat:=zHH (l:=x.bids) (j:=(hi x.bids).toNat) x.bids.length (by omega) (fun i h3 h4=>hu _ _ h3 h4)
 rcases Bool.eq_false_or_eq_true x.sealed with he|he
 ·have e:zN x=zDW x:=by simp[zN,h,he]
  rw[e] at hw ⊢
  have hc:¬ (hi x.bids<0||decide ((x.bids.getD (hi x.bids).toNat default).amount<x.reserve))=true:=by
   intro hc;unfold zDW at hw;rw[if_pos hc] at hw;simp at hw
  have e2:zDW x=(⟨(x.bids.getD (hi x.bids).toNat default).acct,zFo x.bids x.reserve (hi x.bids) x.bids.length⟩,true):=by unfold zDW;rw[if_neg hc]
  rw[e2]
  simp only[Bool.or_eq_true,decide_eq_true_eq,not_or,Int.not_lt] at hc
  obtain⟨g1,g2,g3⟩:=zNv x.bids x.reserve (hi x.bids) x.bids.length
  refine⟨(hi x.bids).toNat,by omega,rfl,ht,hat,g1,?_,fun hf=>absurd (he.symm.trans hf) (by decide),fun j hj hjm=>⟨h2 j hj,g2 j hj (by omega)⟩,?_⟩
  ·rcases g3 with g3|⟨j,g4,g5,g6⟩
   ·show zFo _ _ _ _≤_;omega
   ·show zFo _ _ _ _≤_;rw[← g6];exact h2 j g4
  ·rcases g3 with g3|⟨j,g4,g5,g6⟩
   ·exact .inl g3
   ·exact .inr (.inr ⟨j,g4,by omega,g6⟩)
 ·obtain⟨k1,k2⟩:=zFG h he
  have e:zN x=(x.bids.getD 0 default,true):=by simp only[zN,h,he,if_true,Bool.false_eq_true,if_false,zHF];rw[if_neg (by simp only[beq_iff_eq];omega)]
  rw[e]
  have hz:(hi x.bids).toNat=0:=by omega
  rw[hz] at ht hat
  exact⟨0,h0,rfl,ht,hat,by have:=k2.resolve_left (by omega);exact this,Int.le_refl _,fun _=>rfl,fun j hj hjm=>by omega,.inr (.inl he)⟩
theorem zER {l:List Bid}{y:Bid}{i:Nat}(h:i<l.length):(l++[y]).getD i default=l.getD i default:=by
 simp[List.getD,List.getElem?_append_left h]
theorem zPF {l:List Bid}{y:Bid}:(l++[y]).getD l.length default=y:=by simp[List.getD]
theorem zC4 {x:Auc}(h:zAV x=true):zp x.id 1099511627776=true∧zp x.seller 64=true∧zp x.inst 16=true∧zp x.qty 1048576=true∧zp x.reserve 1125899906842624=true∧zp x.fin 1099511627776=true∧zAc x=true∧zCE x=true:=by
 simp only[zAV,Bool.and_eq_true] at h
 exact⟨h.1.1.1.1.1.1.1,h.1.1.1.1.1.1.2,h.1.1.1.1.1.2,h.1.1.1.1.2,h.1.1.1.2,h.1.1.2,h.1.2,h.2⟩
theorem zGs {x:Auc}(h:∀ j,j<x.bids.length→zBQ x j=false):zCE x=true:=by
 unfold zCE
 rw[zBB h]
 rfl
theorem take_zero {x:Auc}{y:Bid}(h:(zW x y).2≠0):(zW x y).1=Auc.zero:=by
 unfold zW at h ⊢
 repeat' split
 all_goals first|rfl|(exfalso;simp_all;done)
structure Taken (x:Auc)(y:Bid)(c:Auc):Prop where
 may:zAV x=true
 acct:zp y.acct 64=true
 amount:zp y.amount 1125899906842624=true
 other:y.acct≠x.seller
 put:c=x.put (zFp x y).1
 ok:(zFp x y).2=0
theorem taken {x:Auc}{y:Bid}{c:Auc}(h:zW x y=(c,0)):Taken x y c:=by
 unfold zW at h
 split at h
 ·simp at h
 rename_i h1
 split at h
 ·simp at h
 rename_i h2
 split at h
 ·simp at h
 rename_i h3
 split at h
 ·rename_i h4;simp at h;simp[h.2] at h4
 rename_i h4
 simp only[Bool.not_eq_false,Bool.and_eq_true] at h1 h2
 simp only[Prod.mk.injEq,and_true] at h
 exact⟨h1,h2.1,h2.2,by simpa using h3,h.symm,by simpa using h4⟩
theorem zGL {x c:Auc}{y:Bid}(t:Taken x y c)(he:x.sealed=true):c=x.put (x.bids++[y])∧x.bids.length<16∧∀ j,j<x.bids.length→(x.bids.getD j default).acct≠y.acct:=by
 have h:=t.ok
 have hp:=t.put
 simp only[zFp,he,if_true,zCI] at h hp
 split at h
 ·simp at h
 rename_i h1
 split at h
 ·simp at h
 rename_i h2
 rw[if_neg h1,if_neg h2] at hp
 refine⟨hp,by omega,fun j hj e=>?_⟩
 rcases zY (fun i=>(x.bids.getD i default).acct==y.acct) x.bids.length with ⟨k,_,_,_,h4⟩|⟨hn,_⟩
 ·rw[h4] at h1;omega
 ·have:=hn j hj
  rw[e,beq_self_eq_true] at this;cases this
theorem zJA {x c:Auc}{y:Bid}(t:Taken x y c)(he:x.sealed=false):c=x.put [y]∧y.amount ≥ zEO x:=by
 have h:=t.ok
 have hp:=t.put
 simp only[zFp,he,Bool.false_eq_true,if_false,zCr] at h hp
 split at h
 ·simp at h
 rename_i h1
 rw[if_neg h1] at hp
 exact⟨hp,by omega⟩
theorem zPG {x:Auc}(h:zAV x=true)(he:x.sealed=false):x.reserve≤zEO x:=by
 unfold zEO
 split
 ·exact Int.le_refl _
 ·rename_i h0
  have hpos:0<x.bids.length:=by simp at h0;exact List.length_pos_iff.2 h0
  have hb:=zI8 h 0 hpos
  have hst:=zNp h he
  have:=(zFG h he).2
  have:(x.bids.getD 0 default).amount ≥ x.reserve:=by omega
  simp only[zMI,zBj]
  rw[if_neg (by omega)]
  simp only;omega
theorem zES {x:Auc}{j:Nat}:zBQ x j=false↔zp (x.bids.getD j default).acct 64=true∧(x.bids.getD j default).acct≠x.seller∧zp (x.bids.getD j default).amount 1125899906842624=true∧∀ i,i<j→(x.bids.getD i default).acct≠(x.bids.getD j default).acct:=by
 unfold zBQ
 simp only[Bool.or_eq_false_iff,Bool.not_eq_false',decide_eq_false_iff_not,beq_eq_false_iff_ne,ne_eq,and_assoc]
 refine⟨fun⟨h1,h2,h3,h4⟩=>⟨h1,h2,h3,fun i hi e=>?_⟩,fun⟨h1,h2,h3,h4⟩=>⟨h1,h2,h3,fun hc=>?_⟩⟩
 ·rcases zY (fun i=>(x.bids.getD i default).acct==(x.bids.getD j default).acct) j with ⟨k,_,_,_,h5⟩|⟨hn,_⟩
  ·rw[h5] at h4;omega
  ·have:=hn i hi
   rw[e,beq_self_eq_true] at this;cases this
 ·rcases zY (fun i=>(x.bids.getD i default).acct==(x.bids.getD j default).acct) j with ⟨k,hk,_,h6,h5⟩|⟨_,h5⟩
  ·exact h4 k hk (by simpa using h6)
  ·rw[h5] at hc;omega
theorem zK9 {x:Auc}(h:zAV x=true){j:Nat}(hj:j<x.bids.length):zBQ x j=false:=zNo (zC4 h).2.2.2.2.2.2.2 j hj
theorem zPH {x c:Auc}{y:Bid}(t:Taken x y c):zAV c=true:=by
 obtain⟨h1,h2,h3,h4,h5,h6,h7,h8⟩:=zC4 t.may
 rcases Bool.eq_false_or_eq_true x.sealed with he|he
 ·obtain⟨rfl,hl,hn⟩:=zGL t he
  have hm:zAc (x.put (x.bids++[y]))=true:=by
   simp only[zAc,Auc.put,he,if_true,zF8,Bool.and_eq_true] at h7 ⊢
   refine⟨h7.1,?_⟩
   rw[List.length_append,List.length_singleton]
   exact decide_eq_true (by omega)
  have hb:zCE (x.put (x.bids++[y]))=true:=by
   refine zGs fun j hj=>?_
   simp only[Auc.put,List.length_append,List.length_singleton] at hj
   rw[zES]
   simp only[Auc.put]
   by_cases hjn:j=x.bids.length
   ·subst hjn
    rw[zPF]
    exact⟨t.acct,t.other,t.amount,fun i hi=>by rw[zER hi];exact hn i hi⟩
   ·have hj:j<x.bids.length:=by omega
    have:=zES.1 (zK9 t.may hj)
    rw[zER hj]
    exact⟨this.1,this.2.1,this.2.2.1,fun i hi=>by rw[zER (by omega)];exact this.2.2.2 i hi⟩
  simp only[zAV,Bool.and_eq_true]
  exact⟨⟨⟨⟨⟨⟨⟨h1,h2⟩,h3⟩,h4⟩,h5⟩,h6⟩,hm⟩,hb⟩
 ·obtain⟨rfl,hl⟩:=zJA t he
  have hge:=zPG t.may he
  have hm:zAc (x.put [y])=true:=by
   simp only[zAc,Auc.put,he,Bool.false_eq_true,if_false,zEo,Bool.and_eq_true] at h7 ⊢
   refine⟨h7.1,rfl,?_⟩
   rw[Bool.or_eq_true]
   exact .inr (decide_eq_true (by show y.amount ≥ x.reserve;omega))
  have hb:zCE (x.put [y])=true:=by
   refine zGs fun j hj=>?_
   obtain rfl:j=0:=by simp only[Auc.put,List.length_singleton] at hj;omega
   rw[zES]
   exact⟨t.acct,t.other,t.amount,fun i hi=>by omega⟩
  simp only[zAV,Bool.and_eq_true]
  exact⟨⟨⟨⟨⟨⟨⟨h1,h2⟩,h3⟩,h4⟩,h5⟩,h6⟩,hm⟩,hb⟩
structure MayP (x:Auc):Prop where
 id:zp x.id 1099511627776=true
 seller:zp x.seller 64=true
 inst:zp x.inst 16=true
 qty:zp x.qty 1048576=true
 reserve:zp x.reserve 1125899906842624=true
 fin:zp x.fin 1099511627776=true
 step0:x.sealed=true→x.step=0
 step1:x.sealed=false→zp x.step 1125899906842624=true
 len16:x.bids.length≤16
 len1:x.sealed=false→x.bids.length≤1
 high:x.sealed=false→∀ j,j<x.bids.length→x.reserve≤(x.bids.getD j default).amount
 ok:∀ j,j<x.bids.length→zBQ x j=false
theorem mayP {x:Auc}:zAV x=true↔MayP x:=by
 constructor
 ·intro h
  obtain⟨h1,h2,h3,h4,h5,h6,h7,h8⟩:=zC4 h
  refine⟨h1,h2,h3,h4,h5,h6,fun he=>?_,fun he=>?_,?_,fun he=>?_,fun he j hj=>?_,fun j hj=>zK9 h hj⟩
  ·simp only[zAc,he,if_true,zF8,Bool.and_eq_true,beq_iff_eq] at h7;exact h7.1
  ·simp only[zAc,he,Bool.false_eq_true,if_false,zEo,Bool.and_eq_true] at h7;exact h7.1
  ·rcases Bool.eq_false_or_eq_true x.sealed with he|he
   ·simp only[zAc,he,if_true,zF8,Bool.and_eq_true,decide_eq_true_eq] at h7;omega
   ·simp only[zAc,he,Bool.false_eq_true,if_false,zEo,Bool.and_eq_true,decide_eq_true_eq] at h7;omega
  ·exact(zFG h he).1
  ·obtain⟨g1,g2⟩:=zFG h he
   obtain rfl:j=0:=by omega
   rcases g2 with g2|g2
   ·omega
   ·exact g2
 ·intro h
  have h8:zCE x=true:=zGs h.ok
  have h7:zAc x=true:=by
   have hl:=h.len16
   rcases Bool.eq_false_or_eq_true x.sealed with he|he
   ·simp only[zAc,he,if_true,zF8,Bool.and_eq_true,beq_iff_eq,decide_eq_true_eq]
    exact⟨h.step0 he,by omega⟩
   ·have g:=h.len1 he
    simp only[zAc,he,Bool.false_eq_true,if_false,zEo,Bool.and_eq_true,decide_eq_true_eq,Bool.or_eq_true,beq_iff_eq]
    refine⟨h.step1 he,by omega,?_⟩
    rcases Nat.eq_zero_or_pos x.bids.length with h0|h0
    ·left;omega
    ·right;exact h.high he 0 h0
  simp only[zAV,h.id,h.seller,h.inst,h.qty,h.reserve,h.fin,h7,h8,Bool.and_self]
end
section
open Go Go.Sk Go.RowKit
attribute [local irreducible] Go.Calls
def zKD (l:List Row4)(a q:Int):Row4:=(l.find? fun r=>r.acct==a&&r.asset==q).getD ⟨a,q,0,0⟩
theorem zTv {l:List Row4}{p:Row4→Bool}{k:Nat}(hk:k<l.length)(hno:∀ j,j<k→p (rw_ l j)=false)(hy:p (rw_ l k)=true):l.find? p=some (rw_ l k):=by
 induction l generalizing k with
 | nil=>exact absurd hk (zzE k)
 | cons x xs ih =>
   rcases k with _|k
   ·have:p x=true:=hy
    rw[List.find?_cons_of_pos this];rfl
   ·have h0:p x=false:=hno 0 (by omega)
    rw[List.find?_cons_of_neg (by rw[h0];simp)]
    exact ih (by simpa using hk) (fun j hj=>hno (j+1) (by omega)) hy
theorem zPI {l:List Row4}{p:Row4→Bool}(hno:∀ j,j<l.length→p (rw_ l j)=false):l.find? p=none:=by
 rw[List.find?_eq_none]
 intro x hx
 obtain⟨j,hj,rfl⟩:=List.mem_iff_getElem.1 hx
 have:=hno j hj
 unfold rw_ at this
 rw[List.getD_eq_getElem?_getD,List.getElem?_eq_getElem hj] at this
 simpa using this
def zGM (l:List Odr)(a q:Int):Nat→Int
 | 0=>0
 | k+1=>if (od_ l k).acct=a∧(zT (od_ l k)).1=q then IntKind.i64.wrap (zGM l a q k+(zT (od_ l k)).2) else zGM l a q k
def zGN (l:List Bid)(a q z:Int):Nat→Int
 | 0=>z
 | k+1=>if (l.getD k default).acct=a∧q=0 then IntKind.i64.wrap (zGN l a q z k+(l.getD k default).amount) else zGN l a q z k
def zIE (l:List Auc)(a q z:Int):Nat→Int
 | 0=>z
 | k+1=>if zAV (l.getD k default)=true then zGN (l.getD k default).bids a q (if (l.getD k default).seller=a∧(l.getD k default).inst=q then IntKind.i64.wrap (zIE l a q z k+(l.getD k default).qty) else zIE l a q z k) (l.getD k default).bids.length else zIE l a q z k
def zLA (s:Sta)(a q:Int):Int:=zIE s.aucs a q (zGM s.orders a q s.orders.length) s.aucs.length
def zNw (s:Sta)(a q:Nat):Bool:=(zKD s.rows (a:Int) (q:Int)).held==zLA s (a:Int) (q:Int)
def zRg (s:Sta):Bool:=(List.range 65).all fun a=>(List.range 17).all fun q=>zNw s a q
theorem zJB {s:Sta}:zRg s=true↔∀ a,a<65→∀ q,q<17→zNw s a q=true:=by
 unfold zRg
 simp only[List.all_eq_true,List.mem_range]
end
end Go.Proofs.YtibmaifoaajllaaGreatDoor
