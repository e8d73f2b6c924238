/- Texts of ours, joined: the steps of the proof, or the claim's theorem. -/
import Derived.Laws.MakeOwn
import Derived.Test.YtibmaifoaajllaaGreatDoorQa03
set_option linter.unusedSimpArgs false
set_option linter.unusedVariables false
set_option maxHeartbeats 16000000
namespace Go.Proofs.YtibmaifoaajllaaGreatDoor
open Go Go.Sk Go.RowKit
def zp (n m:Int):Bool:=decide (n ≥ 1)&&decide (n≤m)
theorem zCW (n m:Int)(w:World):Calls Tryz.prog 133 [.int .i64 n,.int .i64 m].toArray w (Ret (.bool (zp n m)) w):=by
 refine enter [.tmp 4] Tryz.func133 rfl Tryz.ntmps133 rfl rfl ?_
 have H:=zB w
 repeat' (first|refine yT ?_|refine yU ?_|(refine y17 ?_ ?_;all_goals intro h)|fail)
 all_goals exact zQ rfl H.cl (by simp[zp,h])
theorem zDt (n m:Int)(w:World):Calls Tryz.prog 134 [.int .i64 n,.int .i64 m].toArray w (Ret (.bool (zp n m)) w):=by
 refine enter [.tmp 4] Tryz.func134 rfl Tryz.ntmps134 rfl rfl ?_
 have H:=zB w
 repeat' (first|refine yT ?_|refine yU ?_|(refine y17 ?_ ?_;all_goals intro h)|fail)
 all_goals exact zQ rfl H.cl (by simp[zp,h])
structure Bid where
 acct:Int
 amount:Int
 deriving DecidableEq,Inhabited
def Bid.cells (b:Bid):List Value:=[.int .i64 b.acct,.int .i64 b.amount]
structure Auc where
 id:Int
 seller:Int
 inst:Int
 sealed:Bool
 qty:Int
 reserve:Int
 step:Int
 fin:Int
 bids:List Bid
 deriving DecidableEq,Inhabited
def Auc.cells (x:Auc)(a:Option Addr)(cap:Nat):List Value :=
 [.int .i64 x.id,.int .i64 x.seller,.int .i64 x.inst,.bool x.sealed,.int .i64 x.qty,.int .i64 x.reserve,.int .i64 x.step,.int .i64 x.fin,.slice a x.bids.length cap]
def bel (l:List Bid)(j:Nat):List Value:=(l.getD j default).cells
def Bids (F:zH)(a:Option Addr)(cap:Nat)(l:List Bid):Prop:=SlA F 2 a l.length cap (bel l)
theorem c_of (x:Auc)(a:Option Addr)(cap:Nat)(w:World):Calls Tryz.prog 130 [.agg (x.cells a cap).toArray].toArray w (Ret (.iface (if x.sealed then 223 else 224) (.agg #[])) w):=by
 refine enter [.tmp 2] Tryz.func130 rfl Tryz.ntmps130 rfl rfl ?_
 have H:=zB w
 repeat' (first|refine yT ?_|refine y7 sg H ?_|(refine y9 H ?_;intro b w H)|refine yU ?_|(refine y23 ?_ ?_;all_goals intro h)|fail)
 all_goals exact zQ rfl H.cl (by simp[h])
theorem zTG (c d:Bid)(T:TypeId)(b:Nat)(w:World)(F:zH)(hF:Mem w F)(hm:(b,Obj.cells d.cells.toArray T (0,0))∈F) :
  Calls Tryz.prog 185 [.agg c.cells.toArray,.pointer (some ⟨b,0,none⟩)].toArray w (Ret (.bool (c.acct==d.acct)) w):=by
 refine enter [.tmp 3] Tryz.func185 rfl Tryz.ntmps185 rfl rfl ?_
 have H:=zB w
 repeat' (first|refine yT ?_|refine y7 sg H ?_|(refine y9 H ?_;intro b w H)|(refine zf rfl rfl (zG sg rfl rfl (H.memF hF) hm rfl rfl) ?_)|refine yU ?_|fail)
 all_goals exact zQ rfl H.cl rfl
def zE9 (p:Nat→Bool):Nat→Nat→Int
 | _,0=>-1
 | k,n+1=>if p k then(k:Int) else zE9 p (k+1) n
def idx (p:Nat→Bool)(n:Nat):Int:=zE9 p 0 n
theorem zEC (p:Nat→Bool):∀ (k s m:Nat),(∀ j,j<k→p (s+j)=false)→k≤m→zE9 p s m=zE9 p (s+k) (m - k)
 | 0,s,m,_,_=>rfl
 | k+1,s,m,h,hm=>by
   obtain⟨m',rfl⟩:∃ m',m=m'+1:=⟨m - 1,by omega⟩
   have h0:=h 0 (by omega)
   simp only[Nat.add_zero] at h0
   rw[zE9,h0]
   simp only[Bool.false_eq_true,if_false]
   rw[zEC p k (s+1) m' (fun j hj=>by have:=h (j+1) (by omega);rwa [show s+1+j=s+(j+1) by omega]) (by omega)]
   congr 1<;>omega
theorem zBx {p:Nat→Bool}{n k:Nat}(hk:k<n)(h:∀ j,j<k→p j=false)(h1:p k=true):idx p n=k:=by
 unfold idx
 rw[zEC p k 0 n (by simpa using h) (by omega)]
 obtain⟨m,hm⟩:∃ m,n - k=m+1:=⟨n - k - 1,by omega⟩
 rw[hm,zE9,Nat.zero_add,h1];rfl
theorem zBB {p:Nat→Bool}{n:Nat}(h:∀ j,j<n→p j=false):idx p n=-1:=by
 unfold idx
 rw[zEC p n 0 n (by simpa using h) (Nat.le_refl _),Nat.sub_self];rfl
theorem zY (p:Nat→Bool)(n:Nat):(∃ k,k<n∧(∀ j,j<k→p j=false)∧p k=true∧idx p n=k)∨((∀ j,j<n→p j=false)∧idx p n=-1):=by
 by_cases h:∃ k,k<n∧p k=true
 ·have:∃ k,k<n∧(∀ j,j<k→p j=false)∧p k=true:=by
   obtain⟨k,hk⟩:=h
   induction k using Nat.strongRecOn with
   | _ k ih =>
     by_cases h2:∃ j,j<k∧p j=true
     ·obtain⟨j,hj,hp⟩:=h2
      exact ih j hj ⟨by omega,hp⟩
     ·exact⟨k,hk.1,fun j hj=>by cases hp:p j with|false=>rfl|true=>exact absurd ⟨j,hj,hp⟩ h2,hk.2⟩
  obtain⟨k,h1,h2,h3⟩:=this
  exact .inl ⟨k,h1,h2,h3,zBx h1 h2 h3⟩
 ·have h':∀ j,j<n→p j=false:=fun j hj=>by cases hp:p j with|false=>rfl|true=>exact absurd ⟨j,hj,hp⟩ h
  exact .inr ⟨h',zBB h'⟩
theorem zMD {n cap:Nat}{a:Option Addr}{el:Nat→List Value}{f:FuncId}{caps:List Value}{F:zH}(p:Nat→Bool)(w0:World)(hF:Mem w0 F)(hs:SlA F 2 a n cap el)(hf:Ent Tryz.prog f)
  (hp:∀ j,j<n→∀ w,Cl w0 w→Calls Tryz.prog f ([Value.agg (el j).toArray]++caps).toArray w (Ret (.bool (p j)) w)) :
  Calls Tryz.prog 216 [.slice a n cap,.func (.func f) #[] caps.toArray].toArray w0 (Ret (.int .i64 (idx p n)) w0):=by
 obtain⟨hn,hc,b,off,cs,T,fr,hs⟩:=hs
 refine enter [.tmp 4] Tryz.func216 rfl Tryz.ntmps216 rfl rfl ?_
 have H:=zB w0
 repeat' (first|refine yT ?_|refine yU ?_|with_reducible apply zA|fail)
 refine zM [(4,5),(8,18)] (fun k:Nat=>[(8,.int .i64 (k:Int))]) (fun k w=>k≤n∧(∀ j,j<k→p j=false)∧St w0 [] w) (fun k=>n - k) 0 ⟨rfl,trivial⟩ ⟨zzD _,fun j hj=>by omega,H⟩ ?_
 clear H
 rintro k g w ⟨hk,hpk,H⟩
 repeat' (first|refine yT ?_|refine yU ?_|fail)
 refine zJ rfl (fun h=>?_) (fun h=>?_)
 ·have hlt:k<n:=by simpa using h
  repeat' (first|refine yT ?_|(refine zf rfl rfl (zF sg hs rfl rfl rfl rfl rfl rfl rfl rfl (by omega) (by omega)) ?_)|(refine zf rfl rfl (zBX sg hs (H.memF hF) rfl rfl rfl rfl rfl hlt) ?_)|(refine OX.call rfl rfl (zBf hf rfl rfl rfl) (hp k hlt _ H.cl) ?_;intro w hcl;replace H:=H.ext hcl;clear hcl)|refine yU ?_|with_reducible apply zA|fail)
  refine zJ rfl (fun h2=>?_) (fun h2=>?_)
  ·repeat' (first|refine yT ?_|refine yU ?_|fail)
   exact zQ rfl H.cl (by rw[zBx hlt hpk h2])
  ·repeat' (first|refine yT ?_|refine yU ?_|fail)
   refine zK (k+1) rfl ⟨zZ (by omega),trivial⟩ ⟨hlt,fun j hj=>?_,H⟩ (by omega)
   by_cases hj':j=k
   ·rw[hj',h2]
   ·exact hpk j (by omega)
 ·repeat' (first|refine yT ?_|refine yU ?_|fail)
  have hkn:k=n:=by simp at h;omega
  exact zQ rfl H.cl (by rw[zBB (hkn ▸ hpk)])
theorem zDj {n cap:Nat}{a:Option Addr}{el:Nat→List Value}{f:FuncId}{caps:List Value}{F:zH}(p:Nat→Bool)(w0:World)(hF:Mem w0 F)(hs:SlA F 2 a n cap el)(hf:Ent Tryz.prog f)
  (hp:∀ j,j<n→∀ w,Cl w0 w→Calls Tryz.prog f ([Value.agg (el j).toArray]++caps).toArray w (Ret (.bool (p j)) w)) :
  Calls Tryz.prog 182 [.slice a n cap,.func (.func f) #[] caps.toArray].toArray w0 (Ret (.bool (decide (idx p n ≥ 0))) w0):=by
 refine enter [.tmp 4] Tryz.func182 rfl Tryz.ntmps182 rfl rfl ?_
 have H:=zB w0
 repeat' (first|refine yT ?_|(refine' y30 ent216 ?_ ?_;rotate_left;exact zMD p _ (H.memF hF) hs hf (fun j hj w' hw'=>hp j hj w' (H.cl.trans hw'));intro w hcl;replace H:=H.ext hcl;clear hcl)|refine yU ?_|fail)
 all_goals exact zQ rfl H.cl rfl
theorem zED {n cap:Nat}{a:Option Addr}{el:Nat→List Value}{f:FuncId}{caps:List Value}{F:zH}(p:Nat→Bool)(w0:World)(hF:Mem w0 F)(hs:SlA F 9 a n cap el)(hf:Ent Tryz.prog f)
  (hp:∀ j,j<n→∀ w,Cl w0 w→Calls Tryz.prog f ([Value.agg (el j).toArray]++caps).toArray w (Ret (.bool (p j)) w)) :
  Calls Tryz.prog 81 [.slice a n cap,.func (.func f) #[] caps.toArray].toArray w0 (Ret (.int .i64 (idx p n)) w0):=by
 obtain⟨hn,hc,b,off,cs,T,fr,hs⟩:=hs
 refine enter [.tmp 4] Tryz.func81 rfl Tryz.ntmps81 rfl rfl ?_
 have H:=zB w0
 repeat' (first|refine yT ?_|refine yU ?_|with_reducible apply zA|fail)
 refine zM [(4,5),(8,18)] (fun k:Nat=>[(8,.int .i64 (k:Int))]) (fun k w=>k≤n∧(∀ j,j<k→p j=false)∧St w0 [] w) (fun k=>n - k) 0 ⟨rfl,trivial⟩ ⟨zzD _,fun j hj=>by omega,H⟩ ?_
 clear H
 rintro k g w ⟨hk,hpk,H⟩
 repeat' (first|refine yT ?_|refine yU ?_|fail)
 refine zJ rfl (fun h=>?_) (fun h=>?_)
 ·have hlt:k<n:=by simpa using h
  repeat' (first|refine yT ?_|(refine zf rfl rfl (zF sg hs rfl rfl rfl rfl rfl rfl rfl rfl (by omega) (by omega)) ?_)|(refine zf rfl rfl (zBX sg hs (H.memF hF) rfl rfl rfl rfl rfl hlt) ?_)|(refine OX.call rfl rfl (zBf hf rfl rfl rfl) (hp k hlt _ H.cl) ?_;intro w hcl;replace H:=H.ext hcl;clear hcl)|refine yU ?_|with_reducible apply zA|fail)
  refine zJ rfl (fun h2=>?_) (fun h2=>?_)
  ·repeat' (first|refine yT ?_|refine yU ?_|fail)
   exact zQ rfl H.cl (by rw[zBx hlt hpk h2])
  ·repeat' (first|refine yT ?_|refine yU ?_|fail)
   refine zK (k+1) rfl ⟨zZ (by omega),trivial⟩ ⟨hlt,fun j hj=>?_,H⟩ (by omega)
   by_cases hj':j=k
   ·rw[hj',h2]
   ·exact hpk j (by omega)
 ·repeat' (first|refine yT ?_|refine yU ?_|fail)
  have hkn:k=n:=by simp at h;omega
  exact zQ rfl H.cl (by rw[zBB (hkn ▸ hpk)])
theorem zFi {n cap:Nat}{a:Option Addr}{el:Nat→List Value}{F:zH}(w0:World)(hF:Mem w0 F)(hs:SlA F 2 a n cap el)(h1:∀ j,j<n→∀ u∈el j,u.oneCell'=true)(hel:∀ j,j<n→(el j).length=2)(hn:n*16≤140737488355328) :
  Calls Tryz.prog 79 [.slice a n cap].toArray w0 (zn (fun M v=>∃ a' cap',v=.slice a' n cap'∧Go.Sk.Own M 91 2 a' n cap' ((List.range n).flatMap el)) w0):=by
 obtain⟨hnc,hcb,b,off,cs,T,fr,hs⟩:=hs
 refine enter [.tmp 2] Tryz.func79 rfl Tryz.ntmps79 rfl rfl ?_
 have H:=zB w0
 repeat' (first|refine yT ?_|(refine zf rfl rfl (Yq.nilS sg rfl rfl rfl rfl) ?_)|refine yU ?_|fail)
 refine zJ rfl (fun h=>?_) (fun h=>?_)
 ·have hn0:n=0:=by
   rcases Nat.eq_zero_or_pos n with h0|h0
   ·exact h0
   ·rw[(hs h0).1] at h;cases h
  subst hn0
  repeat' (first|refine yT ?_|refine yU ?_|fail)
  exact zU rfl H ⟨_,_,rfl,zTC _ _ _⟩
 ·have hM:=H.memF hF
  have hlen:∀ m,m≤n→((List.range m).flatMap el).length=m*2:=by
   intro m
   induction m with
   | zero=>intro _;rfl
   | succ m ih=>intro hm;rw[List.range_succ,List.flatMap_append,List.length_append,ih (by omega),List.flatMap_singleton,hel m (by omega)];omega
  have hflat:∀ m,m≤n→∀ j u,((List.range m).flatMap el)[j]?=some u→0<n→cs[off+j]?=some u:=by
   intro m
   induction m with
   | zero=>intro _ j u hj;cases hj
   | succ m ih =>
     intro hm j u hj h0
     rw[List.range_succ,List.flatMap_append,List.flatMap_singleton] at hj
     by_cases hjm:j<m*2
     ·rw[List.getElem?_append_left (by rw[hlen m (by omega)];exact hjm)] at hj
      exact ih (by omega) j u hj h0
     ·rw[List.getElem?_append_right (by rw[hlen m (by omega)];omega),hlen m (by omega)] at hj
      have h2:=((hs h0).2.2 m (by omega)).2
      rw[← h2,List.getElem?_take] at hj
      split at hj
      ·rw[List.getElem?_drop] at hj
       rw[show off+j=off+m*2+(j - m*2) by omega];exact hj
      ·cases hj
  have hsrc:∀ w,Mem w F→Src w (.slice a n cap) n ((List.range n).flatMap el):=by
   intro w hM
   rcases Nat.eq_zero_or_pos n with h0|h0
   ·subst h0
    cases a with
    | none=>cases h
    | some a=>exact .inl ⟨a,cap,rfl,fun j u hj=>by cases hj⟩
   ·obtain⟨rfl,hm,_⟩:=hs h0
    refine .inl ⟨_,_,rfl,fun j u hj=>?_⟩
    rw[zz,zBw hM hm]
    exact hflat n (zzC _) j u hj h0
  clear hM
  have hone:∀ u∈(List.range n).flatMap el,u.oneCell'=true:=by
   intro u hu;obtain⟨j,hj,hu⟩:=List.mem_flatMap.1 hu;exact h1 j (List.mem_range.1 hj) u hu
  repeat' (first|refine yT ?_|(refine zCV sg H rfl rfl rfl rfl rfl rfl ?_;intro b w H _)|(refine zo sg 2 16 (M:=[]) (G:=[]) H rfl rfl rfl rfl rfl rfl rfl rfl rfl rfl rfl (zTC _ _ _) (hsrc _ (H.memF hF)) (hlen n (zzC _)) hone (by unfold maxLen;omega) (by omega) ?_;intro a' cap' M w hO H;simp only[Nat.zero_add,List.nil_append] at hO;rw[List.append_nil] at H;rw[Nat.zero_add])|refine yU ?_|fail)
  exact zU rfl H ⟨_,_,rfl,hO⟩
theorem zFj {n cap:Nat}{a:Option Addr}{el:Nat→List Value}{F:zH}(w0:World)(hF:Mem w0 F)(hs:SlA F 9 a n cap el)(h1:∀ j,j<n→∀ u∈el j,u.oneCell'=true)(hel:∀ j,j<n→(el j).length=9)(hn:n*88≤140737488355328) :
  Calls Tryz.prog 78 [.slice a n cap].toArray w0 (zn (fun M v=>∃ a' cap',v=.slice a' n cap'∧Go.Sk.Own M 62 9 a' n cap' ((List.range n).flatMap el)) w0):=by
 obtain⟨hnc,hcb,b,off,cs,T,fr,hs⟩:=hs
 refine enter [.tmp 2] Tryz.func78 rfl Tryz.ntmps78 rfl rfl ?_
 have H:=zB w0
 repeat' (first|refine yT ?_|(refine zf rfl rfl (Yq.nilS sg rfl rfl rfl rfl) ?_)|refine yU ?_|fail)
 refine zJ rfl (fun h=>?_) (fun h=>?_)
 ·have hn0:n=0:=by
   rcases Nat.eq_zero_or_pos n with h0|h0
   ·exact h0
   ·rw[(hs h0).1] at h;cases h
  subst hn0
  repeat' (first|refine yT ?_|refine yU ?_|fail)
  exact zU rfl H ⟨_,_,rfl,zTC _ _ _⟩
 ·have hM:=H.memF hF
  have hlen:∀ m,m≤n→((List.range m).flatMap el).length=m*9:=by
   intro m
   induction m with
   | zero=>intro _;rfl
   | succ m ih=>intro hm;rw[List.range_succ,List.flatMap_append,List.length_append,ih (by omega),List.flatMap_singleton,hel m (by omega)];omega
  have hflat:∀ m,m≤n→∀ j u,((List.range m).flatMap el)[j]?=some u→0<n→cs[off+j]?=some u:=by
   intro m
   induction m with
   | zero=>intro _ j u hj;cases hj
   | succ m ih =>
     intro hm j u hj h0
     rw[List.range_succ,List.flatMap_append,List.flatMap_singleton] at hj
     by_cases hjm:j<m*9
     ·rw[List.getElem?_append_left (by rw[hlen m (by omega)];exact hjm)] at hj
      exact ih (by omega) j u hj h0
     ·rw[List.getElem?_append_right (by rw[hlen m (by omega)];omega),hlen m (by omega)] at hj
      have h2:=((hs h0).2.2 m (by omega)).2
      rw[← h2,List.getElem?_take] at hj
      split at hj
      ·rw[List.getElem?_drop] at hj
       rw[show off+j=off+m*9+(j - m*9) by omega];exact hj
      ·cases hj
  have hsrc:∀ w,Mem w F→Src w (.slice a n cap) n ((List.range n).flatMap el):=by
   intro w hM
   rcases Nat.eq_zero_or_pos n with h0|h0
   ·subst h0
    cases a with
    | none=>cases h
    | some a=>exact .inl ⟨a,cap,rfl,fun j u hj=>by cases hj⟩
   ·obtain⟨rfl,hm,_⟩:=hs h0
    refine .inl ⟨_,_,rfl,fun j u hj=>?_⟩
    rw[zz,zBw hM hm]
    exact hflat n (zzC _) j u hj h0
  clear hM
  have hone:∀ u∈(List.range n).flatMap el,u.oneCell'=true:=by
   intro u hu;obtain⟨j,hj,hu⟩:=List.mem_flatMap.1 hu;exact h1 j (List.mem_range.1 hj) u hu
  repeat' (first|refine yT ?_|(refine zCV sg H rfl rfl rfl rfl rfl rfl ?_;intro b w H _)|(refine zo sg 9 88 (M:=[]) (G:=[]) H rfl rfl rfl rfl rfl rfl rfl rfl rfl rfl rfl (zTC _ _ _) (hsrc _ (H.memF hF)) (hlen n (zzC _)) hone (by unfold maxLen;omega) (by omega) ?_;intro a' cap' M w hO H;simp only[Nat.zero_add,List.nil_append] at hO;rw[List.append_nil] at H;rw[Nat.zero_add])|refine yU ?_|fail)
  exact zU rfl H ⟨_,_,rfl,hO⟩
theorem zFk {n cap:Nat}{a:Option Addr}{el:Nat→List Value}{f:FuncId}{caps:List Value}{F:zH}(p:Nat→Bool)(w0:World)(hF:Mem w0 F)(hs:SlA F 6 a n cap el)(hf:Ent Tryz.prog f)
  (hp:∀ j,j<n→∀ w,Cl w0 w→Calls Tryz.prog f ([Value.agg (el j).toArray]++caps).toArray w (Ret (.bool (p j)) w)) :
  Calls Tryz.prog 117 [.slice a n cap,.func (.func f) #[] caps.toArray].toArray w0 (Ret (.int .i64 (idx p n)) w0):=by
 obtain⟨hn,hc,b,off,cs,T,fr,hs⟩:=hs
 refine enter [.tmp 4] Tryz.func117 rfl Tryz.ntmps117 rfl rfl ?_
 have H:=zB w0
 repeat' (first|refine yT ?_|refine yU ?_|with_reducible apply zA|fail)
 refine zM [(4,5),(8,18)] (fun k:Nat=>[(8,.int .i64 (k:Int))]) (fun k w=>k≤n∧(∀ j,j<k→p j=false)∧St w0 [] w) (fun k=>n - k) 0 ⟨rfl,trivial⟩ ⟨zzD _,fun j hj=>by omega,H⟩ ?_
 clear H
 rintro k g w ⟨hk,hpk,H⟩
 repeat' (first|refine yT ?_|refine yU ?_|fail)
 refine zJ rfl (fun h=>?_) (fun h=>?_)
 ·have hlt:k<n:=by simpa using h
  repeat' (first|refine yT ?_|(refine zf rfl rfl (zF sg hs rfl rfl rfl rfl rfl rfl rfl rfl (by omega) (by omega)) ?_)|(refine zf rfl rfl (zBX sg hs (H.memF hF) rfl rfl rfl rfl rfl hlt) ?_)|(refine OX.call rfl rfl (zBf hf rfl rfl rfl) (hp k hlt _ H.cl) ?_;intro w hcl;replace H:=H.ext hcl;clear hcl)|refine yU ?_|with_reducible apply zA|fail)
  refine zJ rfl (fun h2=>?_) (fun h2=>?_)
  ·repeat' (first|refine yT ?_|refine yU ?_|fail)
   exact zQ rfl H.cl (by rw[zBx hlt hpk h2])
  ·repeat' (first|refine yT ?_|refine yU ?_|fail)
   refine zK (k+1) rfl ⟨zZ (by omega),trivial⟩ ⟨hlt,fun j hj=>?_,H⟩ (by omega)
   by_cases hj':j=k
   ·rw[hj',h2]
   ·exact hpk j (by omega)
 ·repeat' (first|refine yT ?_|refine yU ?_|fail)
  have hkn:k=n:=by simp at h;omega
  exact zQ rfl H.cl (by rw[zBB (hkn ▸ hpk)])
theorem zDk {n cap:Nat}{a:Option Addr}{el:Nat→List Value}{f:FuncId}{caps:List Value}{F:zH}(p:Nat→Bool)(w0:World)(hF:Mem w0 F)(hs:SlA F 6 a n cap el)(hf:Ent Tryz.prog f)
  (hp:∀ j,j<n→∀ w,Cl w0 w→Calls Tryz.prog f ([Value.agg (el j).toArray]++caps).toArray w (Ret (.bool (p j)) w)) :
  Calls Tryz.prog 60 [.slice a n cap,.func (.func f) #[] caps.toArray].toArray w0 (Ret (.bool (decide (idx p n ≥ 0))) w0):=by
 refine enter [.tmp 4] Tryz.func60 rfl Tryz.ntmps60 rfl rfl ?_
 have H:=zB w0
 repeat' (first|refine yT ?_|(refine' y30 zL5 ?_ ?_;rotate_left;exact zFk p _ (H.memF hF) hs hf (fun j hj w' hw'=>hp j hj w' (H.cl.trans hw'));intro w hcl;replace H:=H.ext hcl;clear hcl)|refine yU ?_|fail)
 all_goals exact zQ rfl H.cl rfl
theorem zEE {n cap:Nat}{a:Option Addr}{el:Nat→List Value}{f:FuncId}{caps:List Value}{F:zH}(p:Nat→Bool)(w0:World)(hF:Mem w0 F)(hs:SlA F 4 a n cap el)(hf:Ent Tryz.prog f)
  (hp:∀ j,j<n→∀ w,Cl w0 w→Calls Tryz.prog f ([Value.agg (el j).toArray]++caps).toArray w (Ret (.bool (p j)) w)) :
  Calls Tryz.prog 56 [.slice a n cap,.func (.func f) #[] caps.toArray].toArray w0 (Ret (.int .i64 (idx p n)) w0):=by
 obtain⟨hn,hc,b,off,cs,T,fr,hs⟩:=hs
 refine enter [.tmp 4] Tryz.func56 rfl Tryz.ntmps56 rfl rfl ?_
 have H:=zB w0
 repeat' (first|refine yT ?_|refine yU ?_|with_reducible apply zA|fail)
 refine zM [(4,5),(8,18)] (fun k:Nat=>[(8,.int .i64 (k:Int))]) (fun k w=>k≤n∧(∀ j,j<k→p j=false)∧St w0 [] w) (fun k=>n - k) 0 ⟨rfl,trivial⟩ ⟨zzD _,fun j hj=>by omega,H⟩ ?_
 clear H
 rintro k g w ⟨hk,hpk,H⟩
 repeat' (first|refine yT ?_|refine yU ?_|fail)
 refine zJ rfl (fun h=>?_) (fun h=>?_)
 ·have hlt:k<n:=by simpa using h
  repeat' (first|refine yT ?_|(refine zf rfl rfl (zF sg hs rfl rfl rfl rfl rfl rfl rfl rfl (by omega) (by omega)) ?_)|(refine zf rfl rfl (zBX sg hs (H.memF hF) rfl rfl rfl rfl rfl hlt) ?_)|(refine OX.call rfl rfl (zBf hf rfl rfl rfl) (hp k hlt _ H.cl) ?_;intro w hcl;replace H:=H.ext hcl;clear hcl)|refine yU ?_|with_reducible apply zA|fail)
  refine zJ rfl (fun h2=>?_) (fun h2=>?_)
  ·repeat' (first|refine yT ?_|refine yU ?_|fail)
   exact zQ rfl H.cl (by rw[zBx hlt hpk h2])
  ·repeat' (first|refine yT ?_|refine yU ?_|fail)
   refine zK (k+1) rfl ⟨zZ (by omega),trivial⟩ ⟨hlt,fun j hj=>?_,H⟩ (by omega)
   by_cases hj':j=k
   ·rw[hj',h2]
   ·exact hpk j (by omega)
 ·repeat' (first|refine yT ?_|refine yU ?_|fail)
  have hkn:k=n:=by simp at h;omega
  exact zQ rfl H.cl (by rw[zBB (hkn ▸ hpk)])
theorem zIh {n cap:Nat}{a:Option Addr}{el:Nat→List Value}{f:FuncId}{caps:List Value}{F:zH}(p:Nat→Bool)(w0:World)(hF:Mem w0 F)(hs:SlA F 4 a n cap el)(hf:Ent Tryz.prog f)
  (hp:∀ j,j<n→∀ w,Cl w0 w→Calls Tryz.prog f ([Value.agg (el j).toArray]++caps).toArray w (Ret (.bool (p j)) w)) :
  Calls Tryz.prog 176 [.slice a n cap,.func (.func f) #[] caps.toArray].toArray w0 (Ret (.bool (decide (idx p n ≥ 0))) w0):=by
 refine enter [.tmp 4] Tryz.func176 rfl Tryz.ntmps176 rfl rfl ?_
 have H:=zB w0
 repeat' (first|refine yT ?_|(refine' y30 zNY ?_ ?_;rotate_left;exact zEE p _ (H.memF hF) hs hf (fun j hj w' hw'=>hp j hj w' (H.cl.trans hw'));intro w hcl;replace H:=H.ext hcl;clear hcl)|refine yU ?_|fail)
 all_goals exact zQ rfl H.cl rfl
theorem zIi {n cap:Nat}{a:Option Addr}{el:Nat→List Value}{f:FuncId}{caps:List Value}{F:zH}(p:Nat→Bool)(w0:World)(hF:Mem w0 F)(hs:SlA F 9 a n cap el)(hf:Ent Tryz.prog f)
  (hp:∀ j,j<n→∀ w,Cl w0 w→Calls Tryz.prog f ([Value.agg (el j).toArray]++caps).toArray w (Ret (.bool (p j)) w)) :
  Calls Tryz.prog 184 [.slice a n cap,.func (.func f) #[] caps.toArray].toArray w0 (Ret (.bool (decide (idx p n ≥ 0))) w0):=by
 refine enter [.tmp 4] Tryz.func184 rfl Tryz.ntmps184 rfl rfl ?_
 have H:=zB w0
 repeat' (first|refine yT ?_|(refine' y30 zKo ?_ ?_;rotate_left;exact zED p _ (H.memF hF) hs hf (fun j hj w' hw'=>hp j hj w' (H.cl.trans hw'));intro w hcl;replace H:=H.ext hcl;clear hcl)|refine yU ?_|fail)
 all_goals exact zQ rfl H.cl rfl
def zCB (x y:Int):Int:=if x<y then -1 else if x>y then 1 else 0
theorem zF3 (x y:Int):decide (zCB x y<0)=decide (x<y):=by
 unfold zCB
 split
 ·simp[*]
 ·split<;>simp[*]
theorem zTH (x:Int)(w:World):Calls Tryz.prog 118 [.int .i64 x].toArray w (Ret (.bool false) w):=by
 refine enter [.tmp 2] Tryz.func118 rfl Tryz.ntmps118 rfl rfl ?_
 have H:=zB w
 repeat' (first|refine yT ?_|refine yU ?_|fail)
 exact zQ rfl H.cl (by simp)
theorem zDu (x y:Int)(w:World):Calls Tryz.prog 65 [.int .i64 x,.int .i64 y].toArray w (Ret (.int .i64 (zCB x y)) w):=by
 refine enter [.tmp 4] Tryz.func65 rfl Tryz.ntmps65 rfl rfl ?_
 have H:=zB w
 repeat' (first|refine yT ?_|(refine' y30 ent118 ?_ ?_;rotate_left;exact zTH _ _;intro w hcl;replace H:=H.ext hcl;clear hcl)|refine yU ?_|(refine y23 ?_ ?_;all_goals intro h)|fail)
 all_goals simp only[decide_eq_true_eq,decide_eq_false_iff_not] at *
 all_goals exact zQ rfl H.cl (congrArg (Value.int .i64) (by unfold zCB;split<;>(try split)<;>omega))
theorem zQr (x:Int)(w:World):Calls Tryz.prog 239 [.int .i64 x].toArray w (Ret (.bool false) w):=by
 refine enter [.tmp 2] Tryz.func239 rfl Tryz.ntmps239 rfl rfl ?_
 have H:=zB w
 repeat' (first|refine yT ?_|refine yU ?_|fail)
 exact zQ rfl H.cl (by simp)
theorem zME (x y:Int)(w:World):Calls Tryz.prog 225 [.int .i64 x,.int .i64 y].toArray w (Ret (.int .i64 (zCB x y)) w):=by
 refine enter [.tmp 4] Tryz.func225 rfl Tryz.ntmps225 rfl rfl ?_
 have H:=zB w
 repeat' (first|refine yT ?_|(refine' y30 ent239 ?_ ?_;rotate_left;exact zQr _ _;intro w hcl;replace H:=H.ext hcl;clear hcl)|refine yU ?_|(refine y23 ?_ ?_;all_goals intro h)|fail)
 all_goals simp only[decide_eq_true_eq,decide_eq_false_iff_not] at *
 all_goals exact zQ rfl H.cl (congrArg (Value.int .i64) (by unfold zCB;split<;>(try split)<;>omega))
end Go.Proofs.YtibmaifoaajllaaGreatDoor
namespace Go.Sk
open Go Go.RowKit
section
attribute [local semireducible] OX OW QX QW RA
variable {P:Program}{n:Nw}{ops:Array Oper}{Q:zAX}{o:Oper}{rest:List Oper}{L:List (Nat × Value)}{b0:Env}{w:World}(S:Sig P)
end
section
variable {P:Program}{n:Nw}{ops:Array Oper}{Q:zAX}{K:Env→World→Prop}{o:Oper}{rest:List Oper}{L:List (Nat × Value)}{b:Env}{w:World}(S:Sig P)
theorem y46 {F:zH}{a:Option Addr}{m b' off:Nat}{cs:List Value}{T:TypeId}{fr:Nat × Nat}{el:Nat→List Value}{d:Nat}{t:TypeId}{x:Operand}{j:Nat}{ti:TI}{v:Value}(hs:SlB F 1 a m b' off cs T fr el)(hM:Mem w F)(hj:j<m)
  (kk:OW P n ops Q rest (ovl ((d,v)::L) b) w) (hd:o.dst=some d:=by exact rfl) (hlt:Nat.blt d n.n=true:=by exact rfl) (ho:o.op=.load t x:=by exact rfl) (hx:ev (ovl L b) x=.pointer (some ⟨b',off+j*1,none⟩):=by exact rfl) (ht:lk S.tab t=some ti:=by exact rfl) (hag:zB6 ti.d=false:=by exact rfl) (hv:(match (el j)[0]? with|some v=>nf v|none=>none)=some v:=by exact rfl):OX P n ops Q o rest (ovl L b) w :=
 zf hd hlt (Yq.loadB1 S hs hM ho hx ht hag hj hv) kk
end
end Go.Sk
