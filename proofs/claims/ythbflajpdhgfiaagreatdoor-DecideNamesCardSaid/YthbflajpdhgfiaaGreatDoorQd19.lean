/- Texts of ours, joined: the steps of the proof, or the claim's theorem. -/
import Derived.Test.YthbflajpdhgfiaaGreatDoorQd18
set_option linter.all false
set_option maxHeartbeats 16000000
namespace Go.Proofs.YthbflajpdhgfiaaGreatDoor
open Go Go.Sk Go.RowKit
def slt (x y:AE):Prop:=x.1.fin<y.1.fin∨(x.1.fin=y.1.fin∧x.1.id<y.1.id)
def Seg (d:Nat→AE)(a b:Nat):Prop:=∀ i j,a≤i→i<j→j<b→slt (d i) (d j)
def zIR (d:Nat→AE)(a m b:Nat):Prop:=∀ i j,a≤i→i<m→m≤j→j<b→(d i).1.fin=(d j).1.fin→(d i).1.id<(d j).1.id
def Out (d d':Nat→AE)(a b:Nat):Prop:=∀ k,(k<a∨b≤k)→d' k=d k
def seg (d:Nat→AE)(a b:Nat):List AE:=(List.range (b - a)).map fun t=>d (a+t)
def Pm (d d':Nat→AE)(a b:Nat):Prop:=(seg d' a b).Perm (seg d a b)
theorem zCU {d:Nat→AE}{a b:Nat}{x:AE}:x∈seg d a b↔∃ k,a≤k∧k<b∧d k=x:=by
 simp only[seg,List.mem_map,List.mem_range]
 constructor
 ·rintro⟨t,ht,rfl⟩;exact⟨a+t,by omega,by omega,rfl⟩
 ·rintro⟨k,h1,h2,rfl⟩;exact⟨k - a,by omega,by congr 1;omega⟩
theorem zFM {d:Nat→AE}{a m b:Nat}(h1:a≤m)(h2:m≤b):seg d a b=seg d a m++seg d m b:=by
 unfold seg
 rw[show b - a=(m - a)+(b - m) by omega,List.range_add,List.map_append,List.map_map]
 congr 1
 refine List.map_congr_left fun t _=>?_
 show d (a+(m - a+t))=d (m+t)
 congr 1;omega
theorem zJF {d d':Nat→AE}{a b:Nat}(h:∀ k,a≤k→k<b→d' k=d k):seg d' a b=seg d a b:=by
 unfold seg
 exact List.map_congr_left fun t ht=>h _ qO (by have:=List.mem_range.1 ht;omega)
theorem zKP {d:Nat→AE}{a m b:Nat}(h1:a≤m)(h2:m≤b):Pm d (zAd d a m b) a b:=by
 unfold Pm
 rw[zFM (m:=a+(b - m)) qO qO,zFM (d:=d) h1 h2]
 have e1:seg (zAd d a m b) a (a+(b - m))=seg d m b:=by
  unfold seg
  rw[show a+(b - m) - a=b - m by omega]
  refine List.map_congr_left fun t ht=>?_
  have:=List.mem_range.1 ht
  unfold zAd
  rw[if_pos qO]
  congr 1;omega
 have e2:seg (zAd d a m b) (a+(b - m)) b=seg d a m:=by
  unfold seg
  rw[show b - (a+(b - m))=m - a by omega]
  refine List.map_congr_left fun t ht=>?_
  have:=List.mem_range.1 ht
  unfold zAd
  rw[if_neg qO,if_pos qO]
  congr 1;omega
 rw[e1,e2]
 exact List.perm_append_comm
theorem zFN {d:Nat→AE}{a m b:Nat}(h1:a≤m)(h2:m≤b):Out d (zAd d a m b) a b:=by
 intro k hk
 unfold zAd
 rw[if_neg qO,if_neg qO]
theorem Pm.refl (d:Nat→AE)(a b:Nat):Pm d d a b:=List.Perm.refl _
theorem Pm.trans {d d' d'':Nat→AE}{a b:Nat}(h:Pm d d' a b)(k:Pm d' d'' a b):Pm d d'' a b:=List.Perm.trans k h
theorem Pm.wide {d d':Nat→AE}{a b p q:Nat}(h:Pm d d' p q)(ho:Out d d' p q)(h1:a≤p)(h2:p≤q)(h3:q≤b):Pm d d' a b:=by
 unfold Pm
 rw[zFM (m:=p) h1 qO,zFM (d:=d') (m:=q) h2 h3,zFM (d:=d) (m:=p) h1 qO,zFM (d:=d) (m:=q) h2 h3,
  zJF (d:=d) (d':=d') (a:=a) (b:=p) (fun k _ hk=>ho k (.inl hk)),zJF (d:=d) (d':=d') (a:=q) (b:=b) (fun k hk _=>ho k (.inr hk))]
 exact(List.Perm.append_right _ h).append_left _
theorem Seg.join {d:Nat→AE}{a m b:Nat}(h1:Seg d a m)(h2:Seg d m b)(h:∀ i j,a≤i→i<m→m≤j→j<b→slt (d i) (d j)):Seg d a b:=by
 intro i j hi hij hj
 by_cases h3:j<m
 ·exact h1 i j hi hij h3
 ·by_cases h4:i<m
  ·exact h i j hi h4 qO hj
  ·exact h2 i j qO hij hj
theorem Seg.halves {d dl dr:Nat→AE}{a m b:Nat}(ham:a≤m)(hmb:m≤b)(h:∀ i j,a≤i→i<m→m≤j→j<b→slt (d i) (d j))
  (l1:Seg dl a m) (l2:Out d dl a m) (l3:Pm d dl a m) (r1:Seg dr m b) (r2:Out dl dr m b) (r3:Pm dl dr m b):Seg dr a b∧Out d dr a b∧Pm d dr a b:=by
 have el:∀ k,k<m→dr k=dl k:=fun k hk=>r2 k (.inl hk)
 refine⟨Seg.join (m:=m) (fun i j hi hij hj=>by rw[el i qO,el j hj];exact l1 i j hi hij hj) r1 (fun i j hi him hj hjb=>?_),fun k hk=>?_,?_⟩
 ·rw[el i him]
  have h1:dl i∈seg d a m:=l3.mem_iff.1 (zCU.2 ⟨i,hi,him,rfl⟩)
  have h2:dr j∈seg dl m b:=r3.mem_iff.1 (zCU.2 ⟨j,hj,hjb,rfl⟩)
  obtain⟨i',q1,q2,q3⟩:=zCU.1 h1
  obtain⟨j',p1,p2,p3⟩:=zCU.1 h2
  rw[← q3,← p3,l2 j' (.inr p1)]
  exact h i' j' q1 q2 p1 p2
 ·rw[r2 k qO,l2 k qO]
 ·exact(l3.wide l2 (zzC _) ham hmb).trans (r3.wide r2 ham hmb (zzC _))
theorem zP0 {d:Nat→AE}{a m b mid start stop:Nat}(ham:a<m)(hmb:m<b)(hmid:mid=(a+b) / 2)(hstop:stop+start=mid+m)(h1:a≤start)(h2:start≤m)(h3:m≤stop)(h4:stop≤b)
  (s1:Seg d a m) (s2:Seg d m b) (hc:zIR d a m b)
  (lo:a<start→stop<b→(d (start - 1)).1.fin≤(d stop).1.fin) (hi:start<m→m<stop→(d (stop - 1)).1.fin<(d start).1.fin) :
  ∀ i j,a≤i→i<mid→mid≤j→j<b→slt (zAd d start m stop i) (zAd d start m stop j):=by
 intro i j hi1 hi2 hj1 hj2
 have hle:∀ p q,a≤p→p≤q→q<m→(d p).1.fin≤(d q).1.fin:=fun p q g1 g2 g3=>by
  rcases Nat.lt_or_ge p q with g|g
  ·rcases s1 p q g1 g g3 with k|k<;>omega
  ·obtain rfl:p=q:=by omega
   exact Int.le_refl _
 have hle2:∀ p q,m≤p→p≤q→q<b→(d p).1.fin≤(d q).1.fin:=fun p q g1 g2 g3=>by
  rcases Nat.lt_or_ge p q with g|g
  ·rcases s2 p q g1 g g3 with k|k<;>omega
  ·obtain rfl:p=q:=by omega
   exact Int.le_refl _
 have hm2:start+(stop - m)=mid:=by omega
 unfold zAd
 rw[hm2]
 by_cases ci:start≤i∧i<mid
 ·rw[if_pos ci]
  rw[if_neg qO]
  by_cases cj:mid≤j∧j<stop
  ·rw[if_pos cj]
   left
   have k1:=hi qO qO
   have k2:=hle2 (m+(i - start)) (stop - 1) qO qO qO
   have k3:=hle start (j - (stop - m)) h1 qO qO
   omega
  ·rw[if_neg cj]
   exact s2 _ _ qO qO hj2
 ·rw[if_neg ci,if_neg qO,if_neg qO]
  by_cases cj:mid≤j∧j<stop
  ·rw[if_pos cj]
   exact s1 _ _ hi1 qO qO
  ·rw[if_neg cj]
   have k1:=lo qO qO
   have k2:=hle i (start - 1) hi1 qO qO
   have k3:=hle2 stop j h3 qO hj2
   rcases Int.lt_or_eq_of_le (show(d i).1.fin≤(d j).1.fin by omega) with k|k
   ·exact .inl k
   ·exact .inr ⟨k,hc i j hi1 qO qO hj2 k⟩
end Go.Proofs.YthbflajpdhgfiaaGreatDoor
