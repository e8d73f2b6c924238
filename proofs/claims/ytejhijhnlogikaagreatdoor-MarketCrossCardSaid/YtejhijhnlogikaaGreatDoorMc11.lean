/- Texts of ours, joined: the steps of the proof, or the claim's theorem. -/
import Derived.Test.YtejhijhnlogikaaGreatDoorMc10
set_option linter.all false
set_option maxHeartbeats 16000000
namespace Go.Proofs.YtejhijhnlogikaaGreatDoor
section
open Go Go.Sk Go.RowKit Tryz
theorem zM9 {n cap:Nat}{a:Option Addr}{el:Nat→List Value}{f:FuncId}{caps:List Value}{F:zB}(p:Nat→Bool)(w0:World)(hF:Mem w0 F)(hs:SlA F 2 a n cap el)(hf:Ent prog f)
  (hp:∀ j,j<n→∀ w,Cl w0 w→Calls prog f ([Value.agg (el j).toArray]++caps).toArray w (Ret (.bool (p j)) w)) :
  Calls prog 253 [.slice a n cap,.func (.func f) #[] caps.toArray].toArray w0 (Ret (.int .i64 (idx p n)) w0):=by
 obtain⟨hn,hc,b,off,cs,T,fr,hs⟩:=hs
 refine eN func253 ntmps253 ?_
 have H:=zA w0
 repeat' (first|refine yX ?_|with_reducible apply zC|fail)
 refine zI [(4,5),(8,18)] (fun k:Nat=>[(8,.int .i64 (k:Int))]) (fun k w=>k≤n∧(∀ j,j<k→p j=false)∧St w0 [] w) (fun k=>n - k) 0 ⟨rfl,trivial⟩ ⟨zzD _,fun j hj=>by omega,H⟩ ?_
 clear H
 rintro k g w ⟨hk,hpk,H⟩
 repeat' (first|refine yX ?_|fail)
 refine zD rfl (fun h=>?_) (fun h=>?_)
 ·have hlt:k<n:=by simpa using h
  repeat' (first|refine yX ?_|(refine zb rfl rfl (zG sg hs rfl rfl rfl rfl rfl rfl rfl rfl qO qO) ?_)|(refine zb rfl rfl (zBD sg hs (H.memF hF) rfl rfl rfl rfl rfl hlt) ?_)|(refine OX.call rfl rfl (zA3 hf rfl rfl rfl) (hp k hlt _ H.cl) ?_;refine wQ H ?_;clear H;intro w H)|with_reducible apply zC|fail)
  refine zD rfl (fun h2=>?_) (fun h2=>?_)
  ·repeat' (first|refine yX ?_|fail)
   exact zP rfl H.cl (by rw[zBm hlt hpk h2])
  ·repeat' (first|refine yX ?_|fail)
   refine zF (k+1) rfl ⟨zd qO,trivial⟩ ⟨hlt,fun j hj=>?_,H⟩ qO
   by_cases hj':j=k
   ·rw[hj',h2]
   ·exact hpk j qO
 ·repeat' (first|refine yX ?_|fail)
  have hkn:k=n:=by simp at h;omega
  exact zP rfl H.cl (by rw[zA4 (hkn ▸ hpk)])
theorem zNA {n cap:Nat}{a:Option Addr}{el:Nat→List Value}{f:FuncId}{caps:List Value}{F:zB}(p:Nat→Bool)(w0:World)(hF:Mem w0 F)(hs:SlA F 3 a n cap el)(hf:Ent prog f)
  (hp:∀ j,j<n→∀ w,Cl w0 w→Calls prog f ([Value.agg (el j).toArray]++caps).toArray w (Ret (.bool (p j)) w)) :
  Calls prog 257 [.slice a n cap,.func (.func f) #[] caps.toArray].toArray w0 (Ret (.int .i64 (idx p n)) w0):=by
 obtain⟨hn,hc,b,off,cs,T,fr,hs⟩:=hs
 refine eN func257 ntmps257 ?_
 have H:=zA w0
 repeat' (first|refine yX ?_|with_reducible apply zC|fail)
 refine zI [(4,5),(8,18)] (fun k:Nat=>[(8,.int .i64 (k:Int))]) (fun k w=>k≤n∧(∀ j,j<k→p j=false)∧St w0 [] w) (fun k=>n - k) 0 ⟨rfl,trivial⟩ ⟨zzD _,fun j hj=>by omega,H⟩ ?_
 clear H
 rintro k g w ⟨hk,hpk,H⟩
 repeat' (first|refine yX ?_|fail)
 refine zD rfl (fun h=>?_) (fun h=>?_)
 ·have hlt:k<n:=by simpa using h
  repeat' (first|refine yX ?_|(refine zb rfl rfl (zG sg hs rfl rfl rfl rfl rfl rfl rfl rfl qO qO) ?_)|(refine zb rfl rfl (zBD sg hs (H.memF hF) rfl rfl rfl rfl rfl hlt) ?_)|(refine OX.call rfl rfl (zA3 hf rfl rfl rfl) (hp k hlt _ H.cl) ?_;refine wQ H ?_;clear H;intro w H)|with_reducible apply zC|fail)
  refine zD rfl (fun h2=>?_) (fun h2=>?_)
  ·repeat' (first|refine yX ?_|fail)
   exact zP rfl H.cl (by rw[zBm hlt hpk h2])
  ·repeat' (first|refine yX ?_|fail)
   refine zF (k+1) rfl ⟨zd qO,trivial⟩ ⟨hlt,fun j hj=>?_,H⟩ qO
   by_cases hj':j=k
   ·rw[hj',h2]
   ·exact hpk j qO
 ·repeat' (first|refine yX ?_|fail)
  have hkn:k=n:=by simp at h;omega
  exact zP rfl H.cl (by rw[zA4 (hkn ▸ hpk)])
theorem zIw {n cap:Nat}{a:Option Addr}{el:Nat→List Value}{f:FuncId}{caps:List Value}{F:zB}(p:Nat→Bool)(w0:World)(hF:Mem w0 F)(hs:SlA F 3 a n cap el)(hf:Ent prog f)
  (hp:∀ j,j<n→∀ w,Cl w0 w→Calls prog f ([Value.agg (el j).toArray]++caps).toArray w (Ret (.bool (p j)) w)) :
  Calls prog 214 [.slice a n cap,.func (.func f) #[] caps.toArray].toArray w0 (Ret (.bool (decide (idx p n ≥ 0))) w0):=by
 refine eN func214 ntmps214 ?_
 have H:=zA w0
 repeat' (first|refine yW ?_|(refine c0 ent257 ?_;refine⟨_,zNA p _ (H.memF hF) hs hf (fun j hj w' hw'=>hp j hj w' (H.cl.trans hw')),?_⟩;clear H;intro w H)|fail)
 all_goals exact zP rfl H.cl rfl
theorem zNB {n cap:Nat}{a:Option Addr}{el:Nat→List Value}{F:zB}(w0:World)(hF:Mem w0 F)(hs:SlA F 2 a n cap el)(h1:∀ j,j<n→∀ u∈el j,u.oneCell'=true)(hel:∀ j,j<n→(el j).length=2)(hn:n*24≤140737488355328) :
  Calls prog 81 [.slice a n cap].toArray w0 (zf (fun M v=>∃ a' cap',v=.slice a' n cap'∧Go.Sk.Own M 97 2 a' n cap' ((List.range n).flatMap el)) w0):=by
 obtain⟨hnc,hcb,b,off,cs,T,fr,hs⟩:=hs
 refine eN func81 ntmps81 ?_
 have H:=zA w0
 repeat' (first|refine yX ?_|(refine zb rfl rfl (Yq.nilS sg rfl rfl rfl rfl) ?_)|fail)
 refine zD rfl (fun h=>?_) (fun h=>?_)
 ·have hn0:n=0:=by
   rcases Nat.eq_zero_or_pos n with h0|h0
   ·exact h0
   ·rw[(hs h0).1] at h;cases h
  subst hn0
  repeat' (first|refine yX ?_|fail)
  exact zO rfl H ⟨_,_,rfl,zUB _ _ _⟩
 ·have hM:=H.memF hF
  have hlen:∀ m,m≤n→((List.range m).flatMap el).length=m*2:=by
   intro m
   induction m with
   | zero=>intro _;rfl
   | succ m ih=>intro hm;rw[List.range_succ,List.flatMap_append,List.length_append,ih qO,List.flatMap_singleton,hel m qO];omega
  have hflat:∀ m,m≤n→∀ j u,((List.range m).flatMap el)[j]?=some u→0<n→cs[off+j]?=some u:=by
   intro m
   induction m with
   | zero=>intro _ j u hj;cases hj
   | succ m ih =>
     intro hm j u hj h0
     rw[List.range_succ,List.flatMap_append,List.flatMap_singleton] at hj
     by_cases hjm:j<m*2
     ·rw[List.getElem?_append_left (by rw[hlen m qO];exact hjm)] at hj
      exact ih qO j u hj h0
     ·rw[List.getElem?_append_right (by rw[hlen m qO];omega),hlen m qO] at hj
      have h2:=((hs h0).2.2 m qO).2
      rw[← h2,List.getElem?_take] at hj
      split at hj
      ·rw[List.getElem?_drop] at hj
       rw[show off+j=off+m*2+(j - m*2) by omega];exact hj
      ·cases hj
  have hsrc:∀ w,Mem w F→Src w (.slice a n cap) n ((List.range n).flatMap el):=by
   intro w hM
   rcases Nat.eq_zero_or_pos n with h0|h0
   ·subst h0
    cases a with
    | none=>cases h
    | some a=>exact .inl ⟨a,cap,rfl,fun j u hj=>by cases hj⟩
   ·obtain⟨rfl,hm,_⟩:=hs h0
    refine .inl ⟨_,_,rfl,fun j u hj=>?_⟩
    rw[zAA,zBx hM hm]
    exact hflat n (zzC _) j u hj h0
  clear hM
  have hone:∀ u∈(List.range n).flatMap el,u.oneCell'=true:=by
   intro u hu;obtain⟨j,hj,hu⟩:=List.mem_flatMap.1 hu;exact h1 j (List.mem_range.1 hj) u hu
  repeat' (first|refine yX ?_|(refine zB4 sg H rfl rfl rfl rfl rfl rfl ?_;intro b w H _)|(refine zc sg 2 24 (M:=[]) (G:=[]) H rfl rfl rfl rfl rfl rfl rfl rfl rfl rfl rfl (zUB _ _ _) (hsrc _ (H.memF hF)) (hlen n (zzC _)) hone (by unfold maxLen;omega) qO ?_;intro a' cap' M w hO H;simp only[Nat.zero_add,List.nil_append] at hO;rw[List.append_nil] at H;rw[Nat.zero_add])|fail)
  exact zO rfl H ⟨_,_,rfl,hO⟩
theorem zNC {n cap:Nat}{a:Option Addr}{el:Nat→List Value}{F:zB}(w0:World)(hF:Mem w0 F)(hs:SlA F 3 a n cap el)(h1:∀ j,j<n→∀ u∈el j,u.oneCell'=true)(hel:∀ j,j<n→(el j).length=3)(hn:n*32≤140737488355328) :
  Calls prog 82 [.slice a n cap].toArray w0 (zf (fun M v=>∃ a' cap',v=.slice a' n cap'∧Go.Sk.Own M 99 3 a' n cap' ((List.range n).flatMap el)) w0):=by
 obtain⟨hnc,hcb,b,off,cs,T,fr,hs⟩:=hs
 refine eN func82 ntmps82 ?_
 have H:=zA w0
 repeat' (first|refine yX ?_|(refine zb rfl rfl (Yq.nilS sg rfl rfl rfl rfl) ?_)|fail)
 refine zD rfl (fun h=>?_) (fun h=>?_)
 ·have hn0:n=0:=by
   rcases Nat.eq_zero_or_pos n with h0|h0
   ·exact h0
   ·rw[(hs h0).1] at h;cases h
  subst hn0
  repeat' (first|refine yX ?_|fail)
  exact zO rfl H ⟨_,_,rfl,zUB _ _ _⟩
 ·have hM:=H.memF hF
  have hlen:∀ m,m≤n→((List.range m).flatMap el).length=m*3:=by
   intro m
   induction m with
   | zero=>intro _;rfl
   | succ m ih=>intro hm;rw[List.range_succ,List.flatMap_append,List.length_append,ih qO,List.flatMap_singleton,hel m qO];omega
  have hflat:∀ m,m≤n→∀ j u,((List.range m).flatMap el)[j]?=some u→0<n→cs[off+j]?=some u:=by
   intro m
   induction m with
   | zero=>intro _ j u hj;cases hj
   | succ m ih =>
     intro hm j u hj h0
     rw[List.range_succ,List.flatMap_append,List.flatMap_singleton] at hj
     by_cases hjm:j<m*3
     ·rw[List.getElem?_append_left (by rw[hlen m qO];exact hjm)] at hj
      exact ih qO j u hj h0
     ·rw[List.getElem?_append_right (by rw[hlen m qO];omega),hlen m qO] at hj
      have h2:=((hs h0).2.2 m qO).2
      rw[← h2,List.getElem?_take] at hj
      split at hj
      ·rw[List.getElem?_drop] at hj
       rw[show off+j=off+m*3+(j - m*3) by omega];exact hj
      ·cases hj
  have hsrc:∀ w,Mem w F→Src w (.slice a n cap) n ((List.range n).flatMap el):=by
   intro w hM
   rcases Nat.eq_zero_or_pos n with h0|h0
   ·subst h0
    cases a with
    | none=>cases h
    | some a=>exact .inl ⟨a,cap,rfl,fun j u hj=>by cases hj⟩
   ·obtain⟨rfl,hm,_⟩:=hs h0
    refine .inl ⟨_,_,rfl,fun j u hj=>?_⟩
    rw[zAA,zBx hM hm]
    exact hflat n (zzC _) j u hj h0
  clear hM
  have hone:∀ u∈(List.range n).flatMap el,u.oneCell'=true:=by
   intro u hu;obtain⟨j,hj,hu⟩:=List.mem_flatMap.1 hu;exact h1 j (List.mem_range.1 hj) u hu
  repeat' (first|refine yX ?_|(refine zB4 sg H rfl rfl rfl rfl rfl rfl ?_;intro b w H _)|(refine zc sg 3 32 (M:=[]) (G:=[]) H rfl rfl rfl rfl rfl rfl rfl rfl rfl rfl rfl (zUB _ _ _) (hsrc _ (H.memF hF)) (hlen n (zzC _)) hone (by unfold maxLen;omega) qO ?_;intro a' cap' M w hO H;simp only[Nat.zero_add,List.nil_append] at hO;rw[List.append_nil] at H;rw[Nat.zero_add])|fail)
  exact zO rfl H ⟨_,_,rfl,hO⟩
theorem zIC {n cap:Nat}{a:Option Addr}{el:Nat→List Value}{F:zB}(w0:World)(hF:Mem w0 F)(hs:SlA F 4 a n cap el)(h1:∀ j,j<n→∀ u∈el j,u.oneCell'=true)(hel:∀ j,j<n→(el j).length=4)(hn:n*32≤140737488355328) :
  Calls prog 83 [.slice a n cap].toArray w0 (zf (fun M v=>∃ a' cap',v=.slice a' n cap'∧Go.Sk.Own M 104 4 a' n cap' ((List.range n).flatMap el)) w0):=by
 obtain⟨hnc,hcb,b,off,cs,T,fr,hs⟩:=hs
 refine eN func83 ntmps83 ?_
 have H:=zA w0
 repeat' (first|refine yX ?_|(refine zb rfl rfl (Yq.nilS sg rfl rfl rfl rfl) ?_)|fail)
 refine zD rfl (fun h=>?_) (fun h=>?_)
 ·have hn0:n=0:=by
   rcases Nat.eq_zero_or_pos n with h0|h0
   ·exact h0
   ·rw[(hs h0).1] at h;cases h
  subst hn0
  repeat' (first|refine yX ?_|fail)
  exact zO rfl H ⟨_,_,rfl,zUB _ _ _⟩
 ·have hM:=H.memF hF
  have hlen:∀ m,m≤n→((List.range m).flatMap el).length=m*4:=by
   intro m
   induction m with
   | zero=>intro _;rfl
   | succ m ih=>intro hm;rw[List.range_succ,List.flatMap_append,List.length_append,ih qO,List.flatMap_singleton,hel m qO];omega
  have hflat:∀ m,m≤n→∀ j u,((List.range m).flatMap el)[j]?=some u→0<n→cs[off+j]?=some u:=by
   intro m
   induction m with
   | zero=>intro _ j u hj;cases hj
   | succ m ih =>
     intro hm j u hj h0
     rw[List.range_succ,List.flatMap_append,List.flatMap_singleton] at hj
     by_cases hjm:j<m*4
     ·rw[List.getElem?_append_left (by rw[hlen m qO];exact hjm)] at hj
      exact ih qO j u hj h0
     ·rw[List.getElem?_append_right (by rw[hlen m qO];omega),hlen m qO] at hj
      have h2:=((hs h0).2.2 m qO).2
      rw[← h2,List.getElem?_take] at hj
      split at hj
      ·rw[List.getElem?_drop] at hj
       rw[show off+j=off+m*4+(j - m*4) by omega];exact hj
      ·cases hj
  have hsrc:∀ w,Mem w F→Src w (.slice a n cap) n ((List.range n).flatMap el):=by
   intro w hM
   rcases Nat.eq_zero_or_pos n with h0|h0
   ·subst h0
    cases a with
    | none=>cases h
    | some a=>exact .inl ⟨a,cap,rfl,fun j u hj=>by cases hj⟩
   ·obtain⟨rfl,hm,_⟩:=hs h0
    refine .inl ⟨_,_,rfl,fun j u hj=>?_⟩
    rw[zAA,zBx hM hm]
    exact hflat n (zzC _) j u hj h0
  clear hM
  have hone:∀ u∈(List.range n).flatMap el,u.oneCell'=true:=by
   intro u hu;obtain⟨j,hj,hu⟩:=List.mem_flatMap.1 hu;exact h1 j (List.mem_range.1 hj) u hu
  repeat' (first|refine yX ?_|(refine zB4 sg H rfl rfl rfl rfl rfl rfl ?_;intro b w H _)|(refine zc sg 4 32 (M:=[]) (G:=[]) H rfl rfl rfl rfl rfl rfl rfl rfl rfl rfl rfl (zUB _ _ _) (hsrc _ (H.memF hF)) (hlen n (zzC _)) hone (by unfold maxLen;omega) qO ?_;intro a' cap' M w hO H;simp only[Nat.zero_add,List.nil_append] at hO;rw[List.append_nil] at H;rw[Nat.zero_add])|fail)
  exact zO rfl H ⟨_,_,rfl,hO⟩
theorem zFo {n cap:Nat}{a:Option Addr}{el:Nat→List Value}{F:zB}(w0:World)(hF:Mem w0 F)(hs:SlA F 6 a n cap el)(h1:∀ j,j<n→∀ u∈el j,u.oneCell'=true)(hel:∀ j,j<n→(el j).length=6)(hn:n*48≤140737488355328) :
  Calls prog 84 [.slice a n cap].toArray w0 (zf (fun M v=>∃ a' cap',v=.slice a' n cap'∧Go.Sk.Own M 45 6 a' n cap' ((List.range n).flatMap el)) w0):=by
 obtain⟨hnc,hcb,b,off,cs,T,fr,hs⟩:=hs
 refine eN func84 ntmps84 ?_
 have H:=zA w0
 repeat' (first|refine yX ?_|(refine zb rfl rfl (Yq.nilS sg rfl rfl rfl rfl) ?_)|fail)
 refine zD rfl (fun h=>?_) (fun h=>?_)
 ·have hn0:n=0:=by
   rcases Nat.eq_zero_or_pos n with h0|h0
   ·exact h0
   ·rw[(hs h0).1] at h;cases h
  subst hn0
  repeat' (first|refine yX ?_|fail)
  exact zO rfl H ⟨_,_,rfl,zUB _ _ _⟩
 ·have hM:=H.memF hF
  have hlen:∀ m,m≤n→((List.range m).flatMap el).length=m*6:=by
   intro m
   induction m with
   | zero=>intro _;rfl
   | succ m ih=>intro hm;rw[List.range_succ,List.flatMap_append,List.length_append,ih qO,List.flatMap_singleton,hel m qO];omega
  have hflat:∀ m,m≤n→∀ j u,((List.range m).flatMap el)[j]?=some u→0<n→cs[off+j]?=some u:=by
   intro m
   induction m with
   | zero=>intro _ j u hj;cases hj
   | succ m ih =>
     intro hm j u hj h0
     rw[List.range_succ,List.flatMap_append,List.flatMap_singleton] at hj
     by_cases hjm:j<m*6
     ·rw[List.getElem?_append_left (by rw[hlen m qO];exact hjm)] at hj
      exact ih qO j u hj h0
     ·rw[List.getElem?_append_right (by rw[hlen m qO];omega),hlen m qO] at hj
      have h2:=((hs h0).2.2 m qO).2
      rw[← h2,List.getElem?_take] at hj
      split at hj
      ·rw[List.getElem?_drop] at hj
       rw[show off+j=off+m*6+(j - m*6) by omega];exact hj
      ·cases hj
  have hsrc:∀ w,Mem w F→Src w (.slice a n cap) n ((List.range n).flatMap el):=by
   intro w hM
   rcases Nat.eq_zero_or_pos n with h0|h0
   ·subst h0
    cases a with
    | none=>cases h
    | some a=>exact .inl ⟨a,cap,rfl,fun j u hj=>by cases hj⟩
   ·obtain⟨rfl,hm,_⟩:=hs h0
    refine .inl ⟨_,_,rfl,fun j u hj=>?_⟩
    rw[zAA,zBx hM hm]
    exact hflat n (zzC _) j u hj h0
  clear hM
  have hone:∀ u∈(List.range n).flatMap el,u.oneCell'=true:=by
   intro u hu;obtain⟨j,hj,hu⟩:=List.mem_flatMap.1 hu;exact h1 j (List.mem_range.1 hj) u hu
  repeat' (first|refine yX ?_|(refine zB4 sg H rfl rfl rfl rfl rfl rfl ?_;intro b w H _)|(refine zc sg 6 48 (M:=[]) (G:=[]) H rfl rfl rfl rfl rfl rfl rfl rfl rfl rfl rfl (zUB _ _ _) (hsrc _ (H.memF hF)) (hlen n (zzC _)) hone (by unfold maxLen;omega) qO ?_;intro a' cap' M w hO H;simp only[Nat.zero_add,List.nil_append] at hO;rw[List.append_nil] at H;rw[Nat.zero_add])|fail)
  exact zO rfl H ⟨_,_,rfl,hO⟩
end
section
open Go Go.Sk Go.RowKit Tryz
attribute [local irreducible] Go.Calls
def SPt.n0:SPt:=⟨none,0,none,0,none,0,none,0,none,0,fun _=>(none,0)⟩
theorem zSF (w0:World):Calls prog 35 [].toArray w0 (Ret (.agg (Sta.cells zGl SPt.n0).toArray) w0):=by
 refine eN func35 ntmps35 ?_
 have H:=zA w0
 repeat' (first|refine yW ?_|(refine yB ?_;intro b w H)|(refine y11 sg H ?_;intro w H)|fail)
 exact zA7 (vs:=[_]) ⟨zm sg rfl H.mem (zz2 _) rfl rfl,trivial⟩ H.cl rfl
theorem zSG (x:Ac)(nm:ByteArray)(b1:Nat){T1:TypeId}{fr1:Nat × Nat}{F:zB}(w0:World)(hF:Mem w0 F)(h1:(b1,Obj.cells [Value.string nm].toArray T1 fr1)∈F) :
  Calls prog 254 [.agg x.cells.toArray,.pointer (some ⟨b1,0,none⟩)].toArray w0 (Ret (.bool (x.name.toList==nm.toList)) w0):=by
 refine eN func254 ntmps254 ?_
 have H:=zA w0
 repeat' (first|refine yW ?_|(refine yB ?_;intro b w H)|refine z13 (zH sg rfl rfl (H.memF hF) h1 rfl rfl) ?_|fail)
 exact zP rfl H.cl rfl
theorem zOW {F:zB}(s:Sta)(p:SPt)(nm:ByteArray)(w0:World)(hF:Mem w0 F)(hs:StaM F s p) :
  Calls prog 210 [.agg (s.cells p).toArray,.string nm].toArray w0 (Ret (.int .i64 (zA9 s.accts nm+1)) w0):=by
 have hb:-1≤idx (fun j=>(ac_ s.accts j).name.toList==nm.toList) s.accts.length∧idx (fun j=>(ac_ s.accts j).name.toList==nm.toList) s.accts.length<s.accts.length:=by
  rcases zZ (fun j=>(ac_ s.accts j).name.toList==nm.toList) s.accts.length with ⟨k,h1,_,_,h2⟩|⟨_,h2⟩<;>(rw[h2];omega)
 have hl:=hs.ac.2.1
 refine eN func210 ntmps210 ?_
 have H:=zA w0
 repeat' (first|refine yW ?_|(refine yB ?_;intro b w H)|(refine c0 ent253 ?_;refine⟨_,zM9 (caps:=[.pointer (some ⟨_,0,none⟩)]) (fun j=>(ac_ s.accts j).name.toList==nm.toList) _ (H.memF hF) hs.ac ent254 (fun j hj w hw=>zSG (ac_ s.accts j) nm _ _ (H.ext hw).mem (zz2 _)),?_⟩;clear H;intro w H)|fail)
 refine zP rfl H.cl ?_
 rw[w64 qO qO,Int.add_comm];rfl
end
section
open Go Go.Sk Go.RowKit Tryz
theorem zHY {α:Type}{lt:α→α→Prop}(hi:∀ a,¬ lt a a)(ha:∀ a b,lt a b→¬ lt b a):∀ {l m:List α},l.Pairwise lt→m.Pairwise lt→(∀ x,x∈l↔x∈m)→l=m
 | [],m,_,_,h=>by
   cases m with
   | nil=>rfl
   | cons b m=>exact absurd ((h b).2 (zz2 _)) (by simp)
 | a::l,[],_,_,h=>absurd ((h a).1 (zz2 _)) (by simp)
 | a::l,b::m,hl,hm,h=>by
   rw[List.pairwise_cons] at hl hm
   have hab:a=b:=by
    rcases List.mem_cons.1 ((h a).1 (zz2 _)) with e|e
    ·exact e
    ·rcases List.mem_cons.1 ((h b).2 (zz2 _)) with e'|e'
     ·exact e'.symm
     ·exact absurd (hl.1 b e') (ha _ _ (hm.1 a e))
   subst hab
   congr 1
   refine zHY hi ha hl.2 hm.2 fun x=>⟨fun hx=>?_,fun hx=>?_⟩
   ·rcases List.mem_cons.1 ((h x).1 (zz5 _ hx)) with e|e
    ·subst e;exact absurd (hl.1 _ hx) (hi _)
    ·exact e
   ·rcases List.mem_cons.1 ((h x).2 (zz5 _ hx)) with e|e
    ·subst e;exact absurd (hm.1 _ hx) (hi _)
    ·exact e
def ltPl (x y:Pl):Prop:=x.1<y.1∨x.1=y.1∧x.2<y.2
theorem zDC {x:Pl}:x∈zBu↔(0≤x.1∧x.1≤64)∧0≤x.2∧x.2≤16:=by
 unfold zBu
 simp only[List.mem_flatMap,List.mem_map,List.mem_range]
 constructor
 ·rintro⟨a,ha,s,hs,rfl⟩;simp only;omega
 ·rintro⟨⟨h1,h2⟩,h3,h4⟩
  exact⟨x.1.toNat,by omega,x.2.toNat,by omega,by ext<;>simp only<;>omega⟩
theorem zLW (n:Nat):(List.range n).Pairwise (·<·):=List.pairwise_lt_range
theorem zSH:zBu.Pairwise ltPl:=by
 unfold zBu
 rw[List.pairwise_flatMap]
 constructor
 ·intro a _
  rw[List.pairwise_map]
  exact(zLW 17).imp fun h=>.inr ⟨rfl,by simpa using h⟩
 ·refine(zLW 65).imp fun{a b} h=>?_
  intro x hx y hy
  obtain⟨s,_,rfl⟩:=List.mem_map.1 hx
  obtain⟨t,_,rfl⟩:=List.mem_map.1 hy
  exact .inl (by simpa using h)
theorem zFK {E:Pl→Int × Int}{r:Row4}:r∈mkR E↔zAE r∈zBu∧E (zAE r)=(r.free,r.held)∧¬ (r.free=0∧r.held=0):=by
 unfold mkR
 rw[List.mem_filterMap]
 constructor
 ·rintro⟨x,hx,he⟩
  by_cases h0:E x=(0,0)
  ·rw[if_pos h0] at he;cases he
  ·rw[if_neg h0] at he
   obtain rfl:=Option.some.inj he
   exact⟨hx,rfl,fun h=>h0 (Prod.ext h.1 h.2)⟩
 ·rintro⟨hx,he,hn⟩
  refine⟨zAE r,hx,?_⟩
  rw[if_neg (by rw[he];exact fun h=>hn (Prod.mk.inj h)),he]
  rfl
theorem zHZ (E:Pl→Int × Int):(mkR E).Pairwise LtR:=by
 unfold mkR
 rw[List.pairwise_filterMap]
 refine zSH.imp fun{x y} h=>?_
 intro r hr t ht
 by_cases h1:E x=(0,0)
 ·rw[if_pos h1] at hr;cases hr
 ·by_cases h2:E y=(0,0)
  ·rw[if_pos h2] at ht;cases ht
  ·rw[if_neg h1] at hr;rw[if_neg h2] at ht
   obtain rfl:=Option.some.inj hr
   obtain rfl:=Option.some.inj ht
   exact h
theorem LtR.tr {a b c:Row4}(h:LtR a b)(k:LtR b c):LtR a c:=by
 unfold LtR at *;omega
theorem LtR.irr (a:Row4):¬ LtR a a:=by unfold LtR;omega
theorem LtR.asy (a b:Row4)(h:LtR a b):¬ LtR b a:=by unfold LtR at *;omega
theorem zPg {l:List Row4}(h:RowsP l l.length):l.Pairwise LtR:=by
 rw[List.pairwise_iff_getElem]
 intro i j hi hj hij
 simpa [rw_,List.getD_eq_getElem?_getD,List.getElem?_eq_getElem hi,List.getElem?_eq_getElem hj] using h.lt hij hj
theorem zUn {l:List Row4}(h:l.Pairwise LtR){r t:Row4}(hr:r∈l)(ht:t∈l)(he:zAE r=zAE t):r=t:=by
 obtain⟨i,hi,rfl⟩:=List.getElem_of_mem hr
 obtain⟨j,hj,rfl⟩:=List.getElem_of_mem ht
 rw[List.pairwise_iff_getElem] at h
 rcases Nat.lt_trichotomy i j with hij|rfl|hij
 ·have:=h i j hi hj hij;unfold LtR at this;unfold zAE at he;have:=Prod.mk.inj he;omega
 ·rfl
 ·have:=h j i hj hi hij;unfold LtR at this;unfold zAE at he;have:=Prod.mk.inj he;omega
theorem zGD {l:List Row4}(h:l.Pairwise LtR){r:Row4}(hr:r∈l):atR l (zAE r)=(r.free,r.held):=by
 unfold atR
 cases hf:l.find? (fun q=>q.acct==(zAE r).1&&q.asset==(zAE r).2) with
 | none=>exact absurd (List.find?_eq_none.1 hf r hr) (by simp[zAE])
 | some q =>
   have h1:=List.find?_some hf
   have h2:=List.mem_of_find?_eq_some hf
   have:q=r:=zUn h h2 hr (by simp only[zAE,Bool.and_eq_true,beq_iff_eq] at h1 ⊢;rw[h1.1,h1.2])
   rw[this]
theorem zID {l:List Row4}{x:Pl}(h:∀ r∈l,zAE r≠x):atR l x=(0,0):=by
 unfold atR
 rw[List.find?_eq_none.2 (fun r hr=>by
  have:=h r hr
  simp only[zAE] at this
  simp only[Bool.and_eq_true,beq_iff_eq,not_and]
  exact fun h1 h2=>this (by rw[h1,h2]))]
theorem zUo (E:Pl→Int × Int){x:Pl}(hx:x∈zBu):atR (mkR E) x=E x:=by
 by_cases h0:E x=(0,0)
 ·rw[h0]
  refine zID fun r hr he=>?_
  have:=zFK.1 hr
  rw[he,h0] at this
  have h1:=Prod.mk.inj this.2.1
  exact this.2.2 ⟨h1.1.symm,h1.2.symm⟩
 ·have hm:(⟨x.1,x.2,(E x).1,(E x).2⟩:Row4)∈mkR E:=zFK.2 ⟨hx,rfl,fun h=>h0 (Prod.ext h.1 h.2)⟩
  exact zGD (zHZ E) hm
theorem zUp {l:List Row4}(h:∀ r∈l,zAE r∈zBu){x:Pl}(hx:x ∉ zBu):atR l x=(0,0):=zID fun r hr he=>hx (he ▸ h r hr)
theorem mkR_at {l:List Row4}(h:l.Pairwise LtR)(hg:∀ r∈l,zAE r∈zBu)(hn:∀ r∈l,¬ (r.free=0∧r.held=0)):mkR (atR l)=l:=by
 refine zHY LtR.irr LtR.asy (zHZ _) h fun r=>?_
 rw[zFK]
 constructor
 ·rintro⟨_,he,hz⟩
  unfold atR at he
  cases hf:l.find? (fun q=>q.acct==(zAE r).1&&q.asset==(zAE r).2) with
  | none=>rw[hf] at he;have h1:=Prod.mk.inj he;exact absurd ⟨h1.1.symm,h1.2.symm⟩ hz
  | some q =>
    rw[hf] at he
    have h1:=List.find?_some hf
    have h2:=List.mem_of_find?_eq_some hf
    simp only[zAE,Bool.and_eq_true,beq_iff_eq] at h1
    have h3:=Prod.mk.inj he
    obtain⟨a,b,c,d⟩:=q
    obtain⟨a',b',c',d'⟩:=r
    simp only at h1 h3
    obtain⟨rfl,rfl⟩:=h1
    obtain⟨rfl,rfl⟩:=h3
    exact h2
 ·exact fun hr=>⟨hg r hr,zGD h hr,hn r hr⟩
theorem zDp {l:List Row4}(h:zAZ l=true):∀ r∈l,zEe r:=fun r hr=>by
 obtain⟨k,hk,rfl⟩:=List.getElem_of_mem hr
 have:=((zBn.1 h).1 k hk).1
 simpa [rw_,List.getD_eq_getElem?_getD,List.getElem?_eq_getElem hk] using this
theorem zEy {l:List Row4}(h:zAZ l=true):l.Pairwise LtR:=zPg (zBn.1 h).1
theorem zGn {r:Row4}(h:zEe r):zAE r∈zBu:=zDC.2 ⟨⟨h.1.1,h.1.2.1⟩,h.1.2.2⟩
theorem zOX {l:List Row4}(h:zAZ l=true):mkR (atR l)=l :=
 mkR_at (zEy h) (fun r hr=>zGn (zDp h r hr)) (fun r hr=>(zDp h r hr).2.1)
theorem zSI {l:List Row4}(h:zAZ l=true){x:Pl}(hx:x ∉ zBu):atR l x=(0,0):=zUp (fun r hr=>zGn (zDp h r hr)) hx
theorem zDq {l:List Row4}(h:zAZ l=true)(x:Pl):(x.1=0→(atR l x).2=0)∧(x.1≠0→0≤(atR l x).1∧0≤(atR l x).2∧(atR l x).1+(atR l x).2≤1125899906842624):=by
 by_cases hm:∃ r∈l,zAE r=x
 ·obtain⟨r,hr,rfl⟩:=hm
  rw[zGD (zEy h) hr]
  have:=zDp h r hr
  exact⟨this.2.2.1,this.2.2.2⟩
 ·rw[zID fun r hr he=>hm ⟨r,hr,he⟩]
  exact⟨fun _=>rfl,fun _=>⟨Int.le_refl _,Int.le_refl _,by decide⟩⟩
end
section
open Go Go.Sk Go.RowKit Tryz
attribute [local irreducible] Go.Calls
theorem zSJ {α:Type}(l:List α)(q:α→Bool)(d:α):l.find? q=if idx (fun j=>q (l.getD j d)) l.length<0 then none else some (l.getD (idx (fun j=>q (l.getD j d)) l.length).toNat d):=by
 rcases zZ (fun j=>q (l.getD j d)) l.length with ⟨k,hk,hlo,hpk,hix⟩|⟨hall,hix⟩
 ·rw[hix,if_neg qO,Int.toNat_natCast]
  rw[List.find?_eq_some_iff_getElem]
  have e:l.getD k d=l[k]:=by simp[List.getElem?_eq_getElem hk]
  refine⟨hpk,k,hk,e.symm,fun j hj=>?_⟩
  have:=hlo j hj
  rw[show l.getD j d=l[j] by simp[List.getElem?_eq_getElem (show j<l.length by omega)]] at this
  simpa using this
 ·rw[hix,if_pos (by decide),List.find?_eq_none]
  intro x hx
  obtain⟨k,hk,rfl⟩:=zBW (d:=d) hx
  simpa using hall k hk
theorem zUq (r:Row4)(a s:Int)(b1 b2:Nat){T1 T2:TypeId}{fr1 fr2:Nat × Nat}{F:zB}(w0:World)(hF:Mem w0 F)(h1:(b1,Obj.cells [Value.int .i64 a].toArray T1 fr1)∈F)(h2:(b2,Obj.cells [Value.int .i64 s].toArray T2 fr2)∈F) :
  Calls prog 109 [.agg r.cells.toArray,.pointer (some ⟨b1,0,none⟩),.pointer (some ⟨b2,0,none⟩)].toArray w0 (Ret (.bool (r.acct==a&&r.asset==s)) w0):=by
 refine eN func109 ntmps109 ?_
 have H:=zA w0
 repeat' (first|refine yW ?_|(refine yB ?_;intro b w H)|refine z13 (zH sg rfl rfl (H.memF hF) h1 rfl rfl) ?_|refine z13 (zH sg rfl rfl (H.memF hF) h2 rfl rfl) ?_|(refine y17 ?_ ?_;all_goals intro h)|fail)
 all_goals exact zP rfl H.cl (by simp[*])
def lgR (l:List Row4)(a s:Int):Row4:=⟨a,s,(atR l (a,s)).1,(atR l (a,s)).2⟩
theorem c_lGet {a0:Option Addr}{cap:Nat}(l:List Row4)(a s:Int){F:zB}(w0:World)(hF:Mem w0 F)(hs0:SlA F 4 a0 l.length cap (rwl l)) :
  Calls prog 75 [.slice a0 l.length cap,.int .i64 a,.int .i64 s].toArray w0 (Ret (.agg (lgR l a s).cells.toArray) w0):=by
 have hs1:=hs0
 obtain⟨hn,hc,b0,off,cs,T,fr,hs⟩:=hs1
 have hfi:=zSJ l (fun r=>r.acct==a&&r.asset==s) default
 refine eN func75 ntmps75 ?_
 have H:=zA w0
 repeat' (first|refine yX ?_|(refine yB ?_;intro b w H)|(refine c0 zJn ?_;refine⟨_,zD9 (caps:=[.pointer (some ⟨_,0,none⟩),.pointer (some ⟨_,0,none⟩)]) (fun j=>(rw_ l j).acct==a&&(rw_ l j).asset==s) _ (H.memF hF) hs0 ent109 (fun j hj w hw=>zUq (rw_ l j) a s _ _ _ (H.ext hw).mem (zz5 _ (zz5 _ (zz2 _))) (zz5 _ (zz2 _))),?_⟩;clear H;intro w H)|fail)
 have hix:-1≤idx (fun j=>(rw_ l j).acct==a&&(rw_ l j).asset==s) l.length∧idx (fun j=>(rw_ l j).acct==a&&(rw_ l j).asset==s) l.length<l.length:=by
  rcases zZ (fun j=>(rw_ l j).acct==a&&(rw_ l j).asset==s) l.length with ⟨k,h1,_,_,h2⟩|⟨_,h2⟩<;>(rw[h2];omega)
 have hfi:l.find? (fun r=>r.acct==a&&r.asset==s)=if idx (fun j=>(rw_ l j).acct==a&&(rw_ l j).asset==s) l.length<0 then none else some (rw_ l (idx (fun j=>(rw_ l j).acct==a&&(rw_ l j).asset==s) l.length).toNat):=hfi
 generalize idx (fun j=>(rw_ l j).acct==a&&(rw_ l j).asset==s) l.length=i at hix hfi ⊢
 refine zD rfl (fun h=>?_) (fun h=>?_)
 ·repeat' (first|refine yX ?_|(refine y11 sg H ?_;intro w H)|fail)
  rw[if_pos (of_decide_eq_true h)] at hfi
  refine zA7 (vs:=[_]) ⟨zm sg rfl H.mem (zz2 _) rfl rfl,trivial⟩ H.cl ?_
  have e:lgR l a s=⟨a,s,0,0⟩:=by unfold lgR atR;rw[hfi]
  rw[e];rfl
 ·have hlt:=zzB h
  rw[if_neg hlt] at hfi
  repeat' (first|refine yX ?_|(refine y11 sg H ?_;intro w H)|refine x40 sg hs ?_|refine x42 sg hs (H.memF hF) ?_|fail)
  refine zA7 (vs:=[_]) ⟨zm sg rfl H.mem (zz2 _) rfl rfl,trivial⟩ H.cl ?_
  have hq:=List.find?_some hfi
  simp only[Bool.and_eq_true,beq_iff_eq] at hq
  have e:lgR l a s=rw_ l i.toNat:=by
   unfold lgR atR;rw[hfi]
   rw[← hq.1,← hq.2]
  rw[e];rfl
def R64 (l:List Row4):Prop:=∀ r∈l,(-9223372036854775808≤r.free∧r.free≤9223372036854775807)∧-9223372036854775808≤r.held∧r.held≤9223372036854775807
theorem atR_64 {l:List Row4}(h:R64 l)(x:Pl):(-9223372036854775808≤(atR l x).1∧(atR l x).1≤9223372036854775807)∧-9223372036854775808≤(atR l x).2∧(atR l x).2≤9223372036854775807:=by
 unfold atR
 cases hf:l.find? fun r=>r.acct==x.1&&r.asset==x.2 with
 | none=>exact⟨⟨by decide,by decide⟩,by decide,by decide⟩
 | some r=>exact h r (List.mem_of_find?_eq_some hf)
theorem zLX {a0:Option Addr}{cap:Nat}(l:List Row4)(h64:R64 l)(a s:Int){F:zB}(w0:World)(hF:Mem w0 F)(hs0:SlA F 4 a0 l.length cap (rwl l)) :
  Calls prog 34 [.slice a0 l.length cap,.int .i64 a,.int .i64 s].toArray w0 (Ret (.int .i64 (zAg l a s)) w0):=by
 obtain⟨⟨h1,h2⟩,h3,h4⟩:=atR_64 h64 (a,s)
 refine eN func34 ntmps34 ?_
 have H:=zA w0
 repeat' (first|refine yW ?_|(refine yB ?_;intro b w H)|(refine y11 sg H ?_;intro w H)|(refine c0 ent75 ?_;refine⟨_,c_lGet l a s _ (H.memF hF) hs0,?_⟩;clear H;intro w H)|(refine c0 ent76 ?_;refine⟨_,c_Add (atR l (a,s)).1 (atR l (a,s)).2 _ h1 h2 h3 h4,?_⟩;clear H;intro w H)|fail)
 exact zP rfl H.cl rfl
theorem c_Of1 (r:Row4)(a:Int)(b1:Nat){T1:TypeId}{fr1:Nat × Nat}{F:zB}(w0:World)(hF:Mem w0 F)(h1:(b1,Obj.cells [Value.int .i64 a].toArray T1 fr1)∈F) :
  Calls prog 256 [.agg r.cells.toArray,.pointer (some ⟨b1,0,none⟩)].toArray w0 (Ret (.bool (r.acct != a)) w0):=by
 refine eN func256 ntmps256 ?_
 have H:=zA w0
 repeat' (first|refine yW ?_|(refine yB ?_;intro b w H)|refine z13 (zH sg rfl rfl (H.memF hF) h1 rfl rfl) ?_|fail)
 exact zP rfl H.cl rfl
theorem zSK (n:Int)(w0:World):Calls prog 284 [.int .i64 n].toArray w0 (Ret (.bool (zIv n)) w0):=by
 refine eN func284 ntmps284 ?_
 have H:=zA w0
 repeat' (first|refine yW ?_|(refine y17 ?_ ?_;all_goals intro h)|fail)
 all_goals exact zP rfl H.cl (by simp[zIv, *])
end
section
open Go Go.Sk Go.RowKit Tryz
abbrev AE:=Auc × Option Addr × Nat
def AE.c (p:AE):List Value:=p.1.cells p.2.1 p.2.2
theorem AE.c_len (p:AE):p.c.length=9:=rfl
theorem AE.c_one (p:AE):∀ u∈p.c,u.oneCell'=true:=by
 intro u hu
 simp only[AE.c,Auc.cells,List.mem_cons,List.not_mem_nil,or_false] at hu
 rcases hu with rfl|rfl|rfl|rfl|rfl|rfl|rfl|rfl|rfl<;>rfl
def altb (x y:AE):Bool:=decide (x.1.fin<y.1.fin)
theorem zKI (x y:AE)(w:World):Calls prog 48 [.agg x.c.toArray,.agg y.c.toArray].toArray w (Ret (.int .i64 (zCC x.1.fin y.1.fin)) w):=by
 obtain⟨x,a,cap⟩:=x
 obtain⟨y,a',cap'⟩:=y
 refine eN func48 ntmps48 ?_
 have H:=zA w
 repeat' (first|refine yW ?_|(refine yB ?_;intro b w H)|(refine' y30 zLE ?_ ?_;rotate_left;exact zDm _ _ _;intro w hcl;replace H:=H.ext hcl;clear hcl)|fail)
 exact zP rfl H.cl rfl
def sw (d:Nat→AE)(i j:Nat):Nat→AE:=fun k=>if k=i then d j else if k=j then d i else d k
def zBP (a:Nat):Nat→(Nat→AE)→(Nat→AE)
 | 0,d=>d
 | j+1,d=>if a<j+1∧altb (d (j+1)) (d j)=true then zBP a j (sw d (j+1) j) else d
def zBX (a:Nat):Nat→Nat→(Nat→AE)→(Nat→AE)
 | 0,_,d=>d
 | m+1,i,d=>zBX a m (i+1) (zBP a i d)
def zEg (a b:Nat)(d:Nat→AE):Nat→AE:=zBX a (b - (a+1)) (a+1) d
structure Arr (w0:World)(g:Nat)(len n:Nat)(G:zB)(d:Nat→AE)(cs:List Value)(w:World):Prop where
 st:St w0 (cb g cs 86::G) w
 len:cs.length=len
 els:Els cs 9 n (fun j=>(d j).c)
theorem Arr.slb {w0 w:World}{g len n:Nat}{G:zB}{d:Nat→AE}{cs:List Value}(h:Arr w0 g len n G d cs w):SlB (cb g cs 86::G) 9 (some ⟨g,0,none⟩) n g 0 cs 86 (0,0) (fun j=>(d j).c):=h.els.slb (zz2 _)
theorem Arr.ext {w0 w w':World}{g len n:Nat}{G:zB}{d:Nat→AE}{cs:List Value}(h:Arr w0 g len n G d cs w)(k:Cl w w'):Arr w0 g len n G d cs w':=⟨h.st.ext k,h.len,h.els⟩
def upd (d:Nat→AE)(k:Nat)(v:AE):Nat→AE:=fun t=>if t=k then v else d t
theorem Arr.fit {w0 w:World}{g len n k:Nat}{G:zB}{d:Nat→AE}{cs:List Value}(h:Arr w0 g len n G d cs w)(hk:k<n)(v:AE):0+k*9+v.c.length≤cs.length:=by
 have:=(h.els k hk).1
 rw[AE.c_len];omega
theorem Arr.put {w0 w w':World}{g len n k:Nat}{G:zB}{d:Nat→AE}{cs:List Value}{v:AE}(h:Arr w0 g len n G d cs w)(hk:k<n)(hs:St w0 (cb g (wr cs (0+k*9) v.c) 86::G) w') :
  Arr w0 g len n G (upd d k v) (wr cs (0+k*9) v.c) w' :=
 ⟨hs,by rw[zB0 (h.fit hk v)];exact h.len,by rw[Nat.zero_add];exact(h.els.wr hk (AE.c_len v)).congr (fun j _=>by unfold upd;split<;>rfl)⟩
theorem zKJ {d:Nat→AE}{i j:Nat}(h:i≠j):upd (upd d i (d j)) j (d i)=sw d i j:=by
 funext k
 unfold upd sw
 by_cases h1:k=j
 ·subst h1;rw[if_pos rfl,if_neg (Ne.symm h),if_pos rfl]
 ·rw[if_neg h1,if_neg h1]
theorem zKK {w0 w:World}{g len n cap a e:Nat}{G:zB}{d:Nat→AE}{cs:List Value}(hA:Arr w0 g len n G d cs w)(hae:a≤e)(hen:e≤n)(hn:n<4611686018427387904) :
  Calls prog 131 [.slice (some ⟨g,0,none⟩) n cap,.int .i64 (a:Int),.int .i64 (e:Int),.func (.func 48) #[] #[]].toArray w
   (zf (fun M v=>v=.tuple #[]∧∃ cs',M=cb g cs' 86::G∧cs'.length=len∧Els cs' 9 n (fun j=>(zEg a e d j).c)) w0):=by
 refine eN func131 ntmps131 ?_
 have H:=hA
 repeat' (first|refine yX ?_|with_reducible apply zC|fail)
 refine zI [(8,9),(12,52)] (fun x:Nat × (Nat→AE) × List Value=>[(8,.int .i64 (x.1:Int))]) (fun x w=>a+1≤x.1∧(x.1≤e∨x.1=a+1)∧zBX a (e - x.1) x.1 x.2.1=zEg a e d∧Arr w0 g len n G x.2.1 x.2.2 w) (fun x=>e - x.1) (a+1,d,cs) ⟨zd qO,trivial⟩ ⟨zzC _,.inr rfl,rfl,H⟩ ?_
 clear H hA
 rintro⟨i,d1,cs1⟩ gh w ⟨hi1,hi2,hi3,H⟩
 simp only at hi1 hi2 hi3 H ⊢
 repeat' (first|refine yX ?_|fail)
 refine zD rfl (fun h=>?_) (fun h=>?_)
 ·have hie:i<e:=by simpa using h
  repeat' (first|refine yX ?_|with_reducible apply zC|fail)
  refine zI [(9,9),(18,52)] (fun x:Nat × (Nat→AE) × List Value=>[(9,.int .i64 (x.1:Int))]) (fun x w=>x.1≤i∧a≤x.1∧zBP a x.1 x.2.1=zBP a i d1∧Arr w0 g len n G x.2.1 x.2.2 w) (fun x=>x.1) (i,d1,cs1) ⟨rfl,trivial⟩ ⟨zzC _,by omega,rfl,H⟩ ?_
  clear H
  rintro⟨j,d2,cs2⟩ gh2 w ⟨hj1,hj2,hj3,H⟩
  simp only at hj1 hj2 hj3 H ⊢
  rcases Nat.lt_or_ge a j with hja|hja
  ·repeat' (first|refine yX ?_|(refine y41 sg (H.slb) ?_ ?_ ?_;(first|omega|(rw[w64 qO qO];omega));(first|omega|(rw[w64 qO qO];omega)))|refine x43 sg H.slb H.st.mem ?_|(refine' y35 zOF ?_ ?_;rotate_left;exact(fun _ hcl=>zKI (d2 j) (d2 (j - 1)) _))|(refine y18 ?_ ?_;all_goals intro h)|(with_reducible apply zGZ;intro w hcl;replace H:=H.ext hcl;clear hcl)|refine y20 mixed ?_|fail)
   all_goals first|(exfalso;simp at h;omega)|skip
   obtain⟨jj,rfl⟩:∃ jj,j=jj+1:=⟨j - 1,by omega⟩
   simp only[Nat.add_sub_cancel] at *
   refine zD rfl (fun h3=>?_) (fun h3=>?_)
   ·repeat' (first|refine yX ?_|(refine zA8 mixed 18 ?_ ?_;exact rfl;intro w hcl;replace H:=H.ext hcl;clear hcl)|((with_reducible apply zEo);decide +kernel)|(refine' z8 0 ?_ ?_;rotate_left;first|exact z9 sg|exact(fun w=>zG sg H.slb rfl rfl rfl rfl rfl rfl rfl (by first|with_reducible exact zz1 _|exact zt qO qO|with_reducible exact zAl|exact zs _) (by first|omega|(rw[w64 qO qO];omega)) (by first|omega|(rw[w64 qO qO];omega))))|(refine' z8 1 ?_ ?_;rotate_left;first|exact z9 sg|exact(fun w=>zG sg H.slb rfl rfl rfl rfl rfl rfl rfl (by first|with_reducible exact zz1 _|exact zt qO qO|with_reducible exact zAl|exact zs _) (by first|omega|(rw[w64 qO qO];omega)) (by first|omega|(rw[w64 qO qO];omega))))|(refine' z8 2 ?_ ?_;rotate_left;first|exact z9 sg|exact(fun w=>zG sg H.slb rfl rfl rfl rfl rfl rfl rfl (by first|with_reducible exact zz1 _|exact zt qO qO|with_reducible exact zAl|exact zs _) (by first|omega|(rw[w64 qO qO];omega)) (by first|omega|(rw[w64 qO qO];omega))))|(refine' z8 3 ?_ ?_;rotate_left;first|exact z9 sg|exact(fun w=>zG sg H.slb rfl rfl rfl rfl rfl rfl rfl (by first|with_reducible exact zz1 _|exact zt qO qO|with_reducible exact zAl|exact zs _) (by first|omega|(rw[w64 qO qO];omega)) (by first|omega|(rw[w64 qO qO];omega))))|(refine' z8 4 ?_ ?_;rotate_left;first|exact z9 sg|exact(fun w=>zG sg H.slb rfl rfl rfl rfl rfl rfl rfl (by first|with_reducible exact zz1 _|exact zt qO qO|with_reducible exact zAl|exact zs _) (by first|omega|(rw[w64 qO qO];omega)) (by first|omega|(rw[w64 qO qO];omega))))|(refine' z8 5 ?_ ?_;rotate_left;first|exact z9 sg|exact(fun w=>zG sg H.slb rfl rfl rfl rfl rfl rfl rfl (by first|with_reducible exact zz1 _|exact zt qO qO|with_reducible exact zAl|exact zs _) (by first|omega|(rw[w64 qO qO];omega)) (by first|omega|(rw[w64 qO qO];omega))))|(refine' z8 6 ?_ ?_;rotate_left;first|exact z9 sg|exact(fun w=>zG sg H.slb rfl rfl rfl rfl rfl rfl rfl (by first|with_reducible exact zz1 _|exact zt qO qO|with_reducible exact zAl|exact zs _) (by first|omega|(rw[w64 qO qO];omega)) (by first|omega|(rw[w64 qO qO];omega))))|(refine' z8 7 ?_ ?_;rotate_left;first|exact z9 sg|exact(fun w=>zG sg H.slb rfl rfl rfl rfl rfl rfl rfl (by first|with_reducible exact zz1 _|exact zt qO qO|with_reducible exact zAl|exact zs _) (by first|omega|(rw[w64 qO qO];omega)) (by first|omega|(rw[w64 qO qO];omega))))|(refine' z8 8 ?_ ?_;rotate_left;first|exact z9 sg|exact(fun w=>zG sg H.slb rfl rfl rfl rfl rfl rfl rfl (by first|with_reducible exact zz1 _|exact zt qO qO|with_reducible exact zAl|exact zs _) (by first|omega|(rw[w64 qO qO];omega)) (by first|omega|(rw[w64 qO qO];omega))))|(refine' z8 10 ?_ ?_;rotate_left;first|exact z9 sg|exact(fun w=>zG sg H.slb rfl rfl rfl rfl rfl rfl rfl (by first|with_reducible exact zz1 _|exact zt qO qO|with_reducible exact zAl|exact zs _) (by first|omega|(rw[w64 qO qO];omega)) (by first|omega|(rw[w64 qO qO];omega))))|(refine' z8 11 ?_ ?_;rotate_left;first|exact z9 sg|exact(fun w=>zG sg H.slb rfl rfl rfl rfl rfl rfl rfl (by first|with_reducible exact zz1 _|exact zt qO qO|with_reducible exact zAl|exact zs _) (by first|omega|(rw[w64 qO qO];omega)) (by first|omega|(rw[w64 qO qO];omega))))|(refine' z8 12 ?_ ?_;rotate_left;first|exact z9 sg|exact(fun w=>zG sg H.slb rfl rfl rfl rfl rfl rfl rfl (by first|with_reducible exact zz1 _|exact zt qO qO|with_reducible exact zAl|exact zs _) (by first|omega|(rw[w64 qO qO];omega)) (by first|omega|(rw[w64 qO qO];omega))))|(refine' z8 14 ?_ ?_;rotate_left;first|exact z9 sg|exact(fun w=>zG sg H.slb rfl rfl rfl rfl rfl rfl rfl (by first|with_reducible exact zz1 _|exact zt qO qO|with_reducible exact zAl|exact zs _) (by first|omega|(rw[w64 qO qO];omega)) (by first|omega|(rw[w64 qO qO];omega))))|(refine' z8 16 ?_ ?_;rotate_left;first|exact z9 sg|exact(fun w=>zG sg H.slb rfl rfl rfl rfl rfl rfl rfl (by first|with_reducible exact zz1 _|exact zt qO qO|with_reducible exact zAl|exact zs _) (by first|omega|(rw[w64 qO qO];omega)) (by first|omega|(rw[w64 qO qO];omega))))|refine z10 9 ?_|refine z10 13 ?_|refine z10 15 ?_|refine z10 17 ?_|refine z11 9 13 ?_ ?_|refine x42 sg H.slb H.st.mem ?_|(refine OX.storeB sg H.st rfl rfl rfl rfl rfl (AE.c_len _) (H.fit qO _) (AE.c_one _) ?_;intro w HS;replace H:=H.put qO HS;clear HS)|with_reducible apply zC|fail)
    all_goals
     rw[show jj+1 - 1=jj from rfl,zKJ qO] at H
     have hlt:altb (d2 (jj+1)) (d2 jj)=true:=by unfold altb;rw[← zF2];exact h3
     exact zF (jj,sw d2 (jj+1) jj,_) rfl ⟨vint qO qO qO,trivial⟩ ⟨by show jj≤i;omega,by show a≤jj;omega,by rw[← hj3,zBP,if_pos ⟨hja,hlt⟩],H⟩ (by show jj<jj+1;omega)
   ·repeat' (first|refine yX ?_|fail)
    have hlt:altb (d2 (jj+1)) (d2 jj)=false:=by unfold altb;rw[← zF2];exact h3
    have hd:zBP a i d1=d2:=by rw[← hj3,zBP,if_neg (fun hh=>by rw[hlt] at hh;exact absurd hh.2 (by simp))]
    exact zDj (i+1,d2,cs2) rfl ⟨zd qO,trivial⟩ ⟨by show a+1≤i+1;omega,.inl hie,by rw[← hi3,show e - i=(e - (i+1))+1 by omega,zBX,hd],H⟩ (by show e - (i+1)<e - i;omega)
  ·repeat' (first|refine yX ?_|(refine y18 ?_ ?_;all_goals intro h)|(with_reducible apply zGZ;intro w hcl;replace H:=H.ext hcl;clear hcl)|refine y20 mixed ?_|fail)
   all_goals first|(exfalso;simp at h;omega)|skip
   have hd:zBP a i d1=d2:=by
    rw[← hj3]
    cases j with
    | zero=>rfl
    | succ j=>rw[zBP,if_neg (fun hh=>by omega)]
   exact zDj (i+1,d2,cs2) rfl ⟨zd qO,trivial⟩ ⟨by show a+1≤i+1;omega,.inl hie,by rw[← hi3,show e - i=(e - (i+1))+1 by omega,zBX,hd],H⟩ (by show e - (i+1)<e - i;omega)
 ·repeat' (first|refine yX ?_|fail)
  have h0:e - i=0:=by simp at h;omega
  rw[h0] at hi3
  exact zBs (vs:=[]) (M:=_) trivial H.st ⟨rfl,cs1,rfl,H.len,by rw[← hi3];exact H.els⟩
def Sorts (w0:World)(g len n:Nat)(G:zB)(d:Nat→AE):Ending→World→Prop:=zf (fun M v=>v=.tuple #[]∧∃ cs',M=cb g cs' 86::G∧cs'.length=len∧Els cs' 9 n (fun j=>(d j).c)) w0
theorem zSL {w0 w:World}{g len n cap:Nat}{G:zB}{d:Nat→AE}{cs:List Value}(hA:Arr w0 g len n G d cs w)(hn:n<20) :
  Calls prog 89 [.slice (some ⟨g,0,none⟩) n cap,.int .i64 (n:Int),.func (.func 48) #[] #[]].toArray w (Sorts w0 g len n G (zEg 0 n d)):=by
 refine eN func89 ntmps89 ?_
 have H:=hA
 clear hA
 repeat' (first|refine yX ?_|with_reducible apply zC|fail)
 refine zI [(7,8),(11,22)] (fun _:Unit=>[(7,.int .i64 0),(8,.int .i64 20)]) (fun _ w=>Arr w0 g len n G d cs w) (fun _=>0) () ⟨rfl,rfl,trivial⟩ H ?_
 clear H
 rintro _ gh w H
 repeat' (first|refine yX ?_|fail)
 refine zD rfl (fun h=>?_) (fun h=>?_)
 ·exact absurd (zzA h) qO
 repeat' (first|refine yX ?_|(refine zY rfl rfl (En.fn zJo rfl rfl) (zKK (a:=0) (e:=n) H (zzD _) (zzC _) qO) ?_;rintro _ _ w ⟨rfl,cs',rfl,hl,he⟩ HS;have H':Arr w0 g len n G (zEg 0 n d) cs' w:=⟨HS,hl,he⟩;clear H HS hl he;have H:=H';clear H')|with_reducible apply zC|fail)
 refine zI [(6,9),(28,62)] (fun _:Unit=>[(6,.int .i64 20)]) (fun _ w=>Arr w0 g len n G (zEg 0 n d) cs' w) (fun _=>0) () ⟨rfl,trivial⟩ H ?_
 clear H
 rintro _ gh w H
 repeat' (first|refine yX ?_|fail)
 refine zD rfl (fun h=>?_) (fun h=>?_)
 ·exact absurd (zzA h) qO
 repeat' (first|refine yX ?_|fail)
 exact zBs (vs:=[]) (M:=_) trivial H.st ⟨rfl,cs',rfl,H.len,H.els⟩
def kp (p:Nat→Bool)(n:Nat):List Nat:=(List.range n).filter fun i=>!p i
theorem zBq (p:Nat→Bool)(n:Nat):kp p (n+1)=if p n then kp p n else kp p n++[n]:=by
 unfold kp
 rw[List.range_succ,List.filter_append]
 cases h:p n<;>simp[h]
theorem zGo {p:Nat→Bool}{n:Nat}(h:∀ j,j<n→p j=false):kp p n=List.range n:=by
 unfold kp
 rw[List.filter_eq_self]
 intro a ha
 rw[h a (List.mem_range.1 ha)];rfl
theorem zKL (p:Nat→Bool)(n:Nat):(kp p n).length≤n:=by
 have:=List.length_filter_le (fun i=>!p i) (List.range n)
 simpa [kp] using this
def zHO (p:Nat→Bool)(n:Nat)(d:Nat→AE)(t:Nat):AE:=d ((kp p n).getD t 0)
theorem zLY {w0 w:World}{g n cap:Nat}{G:zB}{d:Nat→AE}{cs:List Value}{f:FuncId}{caps:List Value}(p:Nat→Bool)(H:St w0 (cb g cs 86::G) w)(he:Els cs 9 n (fun j=>(d j).c))(hn:n≤8796093022208)(hnc:n≤cap)
  (hf:Ent prog f) (hp:∀ j,j<n→∀ L cs' w',St w0 (L++cb g cs' 86::G) w'→Calls prog f ([Value.agg (d j).c.toArray]++caps).toArray w' (Ret (.bool (p j)) w')) :
  Calls prog 43 [.slice (some ⟨g,0,none⟩) n cap,.func (.func f) #[] caps.toArray].toArray w
   (zf (fun M v=>v=.slice (some ⟨g,0,none⟩) (kp p n).length cap∧∃ cs',M=cb g cs' 86::G∧cs'.length=cs.length∧Els cs' 9 (kp p n).length (fun t=>(zHO p n d t).c)) w0):=by
 refine eN func43 ntmps43 ?_
 repeat' (first|refine yX ?_|(refine OX.call rfl rfl (En.fn zLG rfl rfl) (zD8 p _ H.mem ⟨hnc,by omega,g,0,cs,_,(0,0),he.slb (zz2 _)⟩ hf (fun j hj w' hw=>hp j hj [] _ _ (H.ext hw))) ?_;refine wQ H ?_;clear H;intro w H)|fail)
 refine zD rfl (fun h=>?_) (fun h=>?_)
 ·repeat' (first|refine yX ?_|fail)
  rcases zZ p n with ⟨k,hk,hlo,hpk,hix⟩|⟨hall,hix⟩
  ·rw[hix] at h;have:=eqI h;omega
  ·have hkp:=zGo hall
   have hkl:(kp p n).length=n:=by rw[hkp,List.length_range]
   refine zi (vs:=[_]) (M:=_) ⟨zW rfl,trivial⟩ H ⟨by rw[hkl];rfl,cs,rfl,rfl,?_⟩
   rw[hkl]
   exact he.congr (fun j hj=>by show(d j).c=(d _).c;rw[hkp,List.getD_eq_getElem?_getD,List.getElem?_range hj];rfl)
 ·rcases zZ p n with ⟨k,hk,hlo,hpk,hix⟩|⟨_,hix⟩
  ·rw[hix]
   clear h
   have hk1:kp p (k+1)=List.range k:=by rw[zBq,if_pos hpk];exact zGo hlo
   have hlt:∀ j,k+1≤j→(kp p j).length<j:=by
    intro j hj
    induction j with
    | zero=>omega
    | succ j ih =>
      rw[zBq]
      rcases Nat.lt_or_ge k j with h1|h1
      ·have:=ih qO
       split
       ·omega
       ·rw[List.length_append,List.length_singleton];omega
      ·obtain rfl:j=k:=by omega
       rw[if_pos hpk]
       have:=zKL p j;omega
   repeat' (first|refine yX ?_|with_reducible apply zC|fail)
   refine zI [(5,7),(16,35)] (fun x:Nat × (Nat→AE) × List Value=>[(5,.int .i64 ((kp p x.1).length:Int)),(6,.int .i64 (x.1:Int))])
    (fun x w=>k+1≤x.1∧x.1≤n∧(∀ t,t<(kp p x.1).length→x.2.1 t=zHO p x.1 d t)∧(∀ t,x.1≤t→x.2.1 t=d t)∧Els x.2.2 9 n (fun t=>(x.2.1 t).c)∧x.2.2.length=cs.length∧St w0 (cb g x.2.2 86::G) w)
    (fun x=>n - x.1) (k+1,d,cs) ⟨by show Value.int .i64 _=Value.int .i64 ((kp p (k+1)).length:Int);rw[hk1,List.length_range],zd qO,trivial⟩
    ⟨zzC _,hk,fun t ht=>by rw[hk1,List.length_range] at ht;unfold zHO;rw[hk1,List.getD_eq_getElem?_getD,List.getElem?_range ht];rfl,fun _ _=>rfl,he,rfl,H⟩ ?_
   clear H he
   rintro⟨j,d2,cs2⟩ gh w ⟨hj1,hj2,hj3,hj4,he,hl,H⟩
   simp only at hj1 hj2 hj3 hj4 he hl H ⊢
   have hil:=hlt j hj1
   repeat' (first|refine yX ?_|fail)
   refine zD rfl (fun h=>?_) (fun h=>?_)
   ·have hjn:j<n:=by simpa using h
    have hdj:d2 j=d j:=hj4 j (zzC _)
    have hs:=he.slb (F:=cb g cs2 86::G) (T:=86) (g:=g) (zz2 _)
    repeat' (first|refine yX ?_|(refine yB ?_;intro b w H)|(refine y11 sg H ?_;intro w H)|refine x40 sg hs ?_|refine x42 sg hs H.mem ?_|(refine OX.call rfl rfl (zA3 hf rfl rfl rfl) (by have:=hp j hjn [_] _ _ H;rw[← hdj] at this;exact this) ?_;refine wQ H ?_;clear H;intro w H)|with_reducible apply zC|fail)
    refine zD rfl (fun h2=>?_) (fun h2=>?_)
    ·repeat' (first|refine yX ?_|refine x40 sg hs ?_|(refine OX.storeB sg (H.perm (List.Perm.swap _ _ _)) rfl rfl rfl (vs:=(d2 j).c) rfl rfl (AE.c_len _) (by have:=(he _ (Nat.lt_of_lt_of_le hil hj2)).1;rw[AE.c_len];omega) (AE.c_one _) ?_;intro w HS)|fail)
     have hin:(kp p j).length<n:=Nat.lt_of_lt_of_le hil hj2
     have hkp:kp p (j+1)=kp p j++[j]:=by rw[zBq,if_neg (by simpa using h2)]
     have hkl:(kp p (j+1)).length=(kp p j).length+1:=by rw[hkp,List.length_append,List.length_singleton]
     refine zF (j+1,upd d2 (kp p j).length (d2 j),wr cs2 (0+(kp p j).length*9) (d2 j).c) rfl ⟨by show Value.int .i64 _=Value.int .i64 ((kp p (j+1)).length:Int);rw[hkl];exact zd qO,zd qO,trivial⟩
      ⟨by show k+1≤j+1;omega,hjn,fun t ht=>?_,fun t ht=>?_,?_,?_,HS.sub (List.Sublist.cons_cons _ (zz7 _ _))⟩ (by show n - (j+1)<n - j;omega)
     ·replace ht:t<(kp p (j+1)).length:=ht
      rw[hkl] at ht
      show upd d2 (kp p j).length (d2 j) t=zHO p (j+1) d t
      unfold upd zHO
      rw[hkp,List.getD_eq_getElem?_getD]
      by_cases ht2:t=(kp p j).length
      ·rw[if_pos ht2,ht2,List.getElem?_append_right (Nat.le_refl _),Nat.sub_self,hdj];rfl
      ·rw[if_neg ht2,List.getElem?_append_left qO,hj3 t qO]
       unfold zHO;rw[List.getD_eq_getElem?_getD]
     ·replace ht:j+1≤t:=ht
      show upd d2 (kp p j).length (d2 j) t=d t
      unfold upd
      rw[if_neg qO,hj4 t qO]
     ·show Els (wr cs2 (0+(kp p j).length*9) (d2 j).c) 9 n _
      rw[Nat.zero_add]
      exact(he.wr hin (AE.c_len _)).congr (fun t _=>by show(if t=_ then _ else _)=(upd _ _ _ t).c;unfold upd;split<;>rfl)
     ·show(wr _ _ _).length=_;rw[zB0 (by have:=(he _ hin).1;rw[AE.c_len];omega)];exact hl
    ·repeat' (first|refine yX ?_|fail)
     have hkp:kp p (j+1)=kp p j:=by rw[zBq,if_pos (by simpa using h2)]
     refine zF (j+1,d2,cs2) rfl ⟨by show Value.int .i64 _=Value.int .i64 ((kp p (j+1)).length:Int);rw[hkp],zd qO,trivial⟩
      ⟨by show k+1≤j+1;omega,hjn,fun t ht=>?_,fun t ht=>hj4 t (by replace ht:j+1≤t:=ht;omega),he,hl,H.sub (zz7 _ _)⟩ (by show n - (j+1)<n - j;omega)
     replace ht:t<(kp p (j+1)).length:=ht
     show d2 t=zHO p (j+1) d t
     unfold zHO;rw[hkp]
     rw[hkp] at ht
     exact hj3 t ht
   ·have hjn:j=n:=by simp at h;omega
    subst hjn
    repeat' (first|refine yX ?_|(refine zb rfl rfl (Yq.sliceLoB sg rfl rfl rfl rfl rfl rfl (zz1 _) qO qO hnc) ?_)|(refine OX.clearP sg H qO rfl rfl rfl rfl rfl rfl rfl rfl rfl (by have:=(he (j - 1) qO).1;show 0+(kp p j).length*9+(j - (kp p j).length)*9≤cs2.length;omega) ?_;intro cs3 w hl3 hk3 H)|(refine zb rfl rfl (Yq.sliceHi sg rfl rfl rfl rfl rfl rfl (zz1 _) qO qO) ?_)|fail)
    exact zi (vs:=[_]) (M:=_) ⟨zW rfl,trivial⟩ H ⟨rfl,cs3,rfl,hl3.trans hl,(he.keep (Nat.le_of_lt hil) hl3 (fun q hq=>hk3 q (by show q<0+(kp p j).length*9;omega))).congr (fun t ht=>by show(d2 t).c=_;rw[hj3 t ht])⟩
  ·rw[hix] at h;exact absurd h (by decide)
end
end Go.Proofs.YtejhijhnlogikaaGreatDoor
