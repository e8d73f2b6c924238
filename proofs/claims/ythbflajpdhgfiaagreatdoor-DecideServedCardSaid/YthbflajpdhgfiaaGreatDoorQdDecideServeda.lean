/- The statement DecideServedSaid, proved, and its tied card. -/
import Derived.ChangeKeysEq
import Derived.Deep.LoopGhost
import Derived.Deep.QuietTactic
import Derived.Deep.Slices
import Derived.KernelRfl
import Derived.LaidMore
import Derived.Laws.Bits64b
import Derived.Laws.IdiomStrings
import Derived.Laws.MakeOwn
import Derived.Laws.RangeString
import Derived.Laws.StructEq
import Derived.Lib.Mul64
import Derived.Maps.RangeRun
import Derived.OpenShut
import Derived.OrdersHeld
import Derived.ProofKit
import Derived.RangeFuncLeaves
import Derived.RangeFuncNested
import Derived.Shelf.SlLaysE
import Derived.Shelf.SlLaysF0
import Derived.Shelf.SlLaysM
import Derived.Shelf.SlSortCmp.NoneTotal
import Derived.Shelf.SlicesE.Compact
import Derived.Shelf.SortM.Plain
import Derived.Shelf.SortM.SortNone
import Derived.SizedLaws
import Derived.Sort.LoopGhostIn
import Derived.Stop.Joined
import Derived.TacticsIn
import Derived.Test.YthbflajpdhgfiaaGreatDoorChecked
import Derived.Test.YthbflajpdhgfiaaGreatDoorProg
import Derived.Test.YthbflajpdhgfiaaGreatDoorRows
import Derived.WalkKit
import Derived.WalkSpells
import Derived.Test.YthbflajpdhgfiaaGreatDoorQd33
import Derived.Test.YthbflajpdhgfiaaGreatDoorQd34
set_option linter.all false
set_option maxHeartbeats 16000000
namespace Go.Proofs.YthbflajpdhgfiaaGreatDoor
open Go Go.Sk Go.RowKit
def zKc (n:List Int):Odr:=⟨nF n 0,nF n 1,nF n 2,nF n 3,nF n 4,nF n 5⟩
end Go.Proofs.YthbflajpdhgfiaaGreatDoor
namespace Go.Sk
open Go Go.RowKit
attribute [local semireducible] CW OW OX QW QX Yq RA
section
variable {P:Program}{n:Nw}{id:Nat}{Q:zAQ}{e:Env}{w:World}{l:List Oper}{s:Array Bool}{m:Nat}{F0:zC}
end
theorem z5 {w0 w:World}{L F0:zC}(H:St w0 L w)(hs:F0⊆L:=by intro p hp;repeat (first|exact hp|apply zz4)):Mem w F0:=H.mem.sub hs
section
variable {P:Program}{n:Nw}{Q:zAQ}{e:Env}{w:World}{l:List Oper}{s:Array Bool}{m:Nat}{F0:zC}{o:Oper}
end
end Go.Sk
namespace Go.Proofs.YthbflajpdhgfiaaGreatDoor
section
open Go Go.Sk Go.RowKit
theorem zQL {s t:Sta}{n:List Int}(h:Good s)(hm:zw (zKc n)=true)(he:zDK s n=(t,0)):t.orders=s.orders++[zKc n]∧nF n 0=s.nextO∧t.nextO=s.nextO+1∧t.fee=s.fee:=by
 unfold zDK at he
 simp only at he
 split at he
 ·exact absurd (Prod.mk.inj he).2 (by decide)
 rename_i h1
 have h1:nF n 0=s.nextO:=Decidable.of_not_not h1
 split at he
 ·rename_i h2;exact absurd (Prod.mk.inj he).2 h2
 rename_i h2
 split at he
 ·rename_i h3;rw[he] at h3;exact absurd rfl h3
 obtain rfl:=(Prod.mk.inj he).1
 have hlen:s.orders.length<128:=by
  have h2:=Decidable.of_not_not h2
  unfold zAR at h2
  split at h2
  ·simp only at h2
   split at h2
   ·exact absurd h2 (by decide)
   ·split at h2
    ·exact absurd h2 (by decide)
    ·split at h2
     ·exact absurd h2 (by decide)
     ·rename_i g;simpa using g
  ·exact absurd h2 (by decide)
 have hlt:∀ x∈s.orders,x.id<(zKc n).id:=fun x hx=>by
  have:=(zAB.1 (h.ordsIn x hx)).1
  show x.id<nF n 0
  omega
 refine⟨?_,h1,rfl,?_⟩
 ·show(zEp s.orders (zKc n)).1=_
  rw[zLS h.ords hm hlt hlen]
 ·show(zAb s _ _ _).1.fee=s.fee
  exact zDt.2.2.2.2
theorem zUt {n:List Int}{e:Evt}(ev:EvOk e)(hk:e.kind=11)(hn:n=e.nums):zw (zKc n)=true:=by
 subst hn
 have k0:=ev.at (i:=0) (c:=111) (by rw[hk];rfl)
 have k1:=ev.at (i:=1) (c:=97) (by rw[hk];rfl)
 have k2:=ev.at (i:=2) (c:=105) (by rw[hk];rfl)
 have k3:=ev.at (i:=3) (c:=115) (by rw[hk];rfl)
 have k4:=ev.at (i:=4) (c:=112) (by rw[hk];rfl)
 have k5:=ev.at (i:=5) (c:=113) (by rw[hk];rfl)
 have:=bnd_o k0;have:=zH5 k1;have:=zDn k2;have:=zRw k3;have:=zOA k4;have:=zGG k5
 rw[zAf]
 unfold zAX zKc
 simp only
 exact⟨by omega,by omega,by omega,by omega,by omega,by omega⟩
theorem list_tail {l m:List Odr}{i s:Int}(h:ze l=true)(hm:ze m=true){u:Odr}{r:List Odr}(hl:zB3 l i s=u::r)(hf:m.filter (ofS i s)=(l.filter (ofS i s)).filter fun x=>decide (x.id≠u.id)):zB3 m i s=r:=by
 have hp:=zB4 (i:=i) (s:=s) h
 have hr:=zLY (i:=i) (s:=s) h
 rw[hl] at hp hr
 have hnd:((l.filter (ofS i s)).map (·.id)).Nodup:=zGj h _
 have hpr:r.Perm (m.filter (ofS i s)):=by
  rw[hf]
  have h1:=hp.filter fun x=>decide (x.id≠u.id)
  rw[List.filter_cons_of_neg (by simp)] at h1
  have hnd2:((u::r).map (·.id)).Nodup:=(hp.map _).nodup_iff.2 hnd
  rw[List.map_cons,List.nodup_cons] at hnd2
  have h2:(r.filter fun x=>decide (x.id≠u.id))=r:=List.filter_eq_self.2 fun x hx=>decide_eq_true fun e=>hnd2.1 (e ▸ List.mem_map.2 ⟨x,hx,rfl⟩)
  rw[h2] at h1
  exact h1
 exact(zPk hm hpr ((List.pairwise_cons.1 hr).2.imp fun h=>h.2)).1.symm
structure TrF (o0:Odr)(fee:Int)(r:Odr)(e:Evt):Prop where
 kind:e.kind=13
 len:e.nums.length=5
 id:nF e.nums 0=o0.id
 other:nF e.nums 1=r.id
 price:nF e.nums 2=r.price
 prod:0≤nF e.nums 2*nF e.nums 3∧nF e.nums 2*nF e.nums 3≤1125899906842624
 fee:nF e.nums 4=nF e.nums 2*nF e.nums 3*fee / 10000
 qty:1≤nF e.nums 3∧nF e.nums 3≤1048576
 no:if o0.side=1 then r.price≤o0.price else o0.price≤r.price
def sumT (l:List Evt):Nat→Int
 | 0=>0
 | k+1=>sumT l k+nF (ev_ l (k+1)).nums 3
theorem sumT_snoc {l:List Evt}{e:Evt}:∀ {k:Nat},k<l.length→sumT (l++[e]) k=sumT l k
 | 0,_=>rfl
 | k+1,h=>by unfold sumT;rw[sumT_snoc qO,zOo h]
structure SvI (row:List Odr)(o0:Odr)(fee:Int)(x:WS):Prop where
 good:Good x.s
 fe:x.s.fee=fee
 pos:1≤x.l.length
 le:x.l.length≤row.length+1
 tr:∀ i,i+1<x.l.length→TrF o0 fee (od_ row i) (ev_ x.l (i+1))
 full:∀ i,i+2<x.l.length→nF (ev_ x.l (i+1)).nums 3=(od_ row i).left
 st:(∃ o,zW x.s.orders o0.id=(o,true)∧zL2 o o0∧o.left=o0.left - sumT x.l (x.l.length - 1)∧zB3 x.s.orders o0.inst (3 - o0.side)=row.drop (x.l.length - 1)∧∀ i,i+1<x.l.length→nF (ev_ x.l (i+1)).nums 3=(od_ row i).left)∨((zW x.s.orders o0.id).2=false∧sumT x.l (x.l.length - 1)=o0.left)
theorem traded_fee {s t:Sta}{n:List Int}(he:zEE s n=(t,0)):t.fee=s.fee:=by
 unfold zEE at he
 simp only at he
 split at he
 ·split at he
  ·split at he
   ·exact absurd (Prod.mk.inj he).2 (by decide)
   ·split at he
    all_goals
     split at he
     ·rename_i g;rw[he] at g;exact absurd rfl g
     ·obtain rfl:=(Prod.mk.inj he).1
      exact zDt.2.2.2.2
  ·exact absurd (Prod.mk.inj he).2 (by decide)
 ·exact absurd (Prod.mk.inj he).2 (by decide)
theorem trade_at {s:Sta}{id:Int}{e:Evt}{o:Odr}(h:zE5 s id=some e)(hf:zW s.orders id=(o,true)):∃ u r,zB3 s.orders o.inst (3 - o.side)=u::r∧zn o u=true∧e=evF 13 [id,u.id,u.price,min o.left u.left,(zBa (u.price*min o.left u.left) s.fee).1]:=by
 unfold zE5 at h
 simp only at h
 rw[hf] at h
 simp only at h
 split at h
 ·rename_i g
  obtain⟨_,g2,g3⟩:=g
  rw[zEL] at g2 g3 h
  cases hl:zB3 s.orders o.inst (3 - o.side) with
  | nil=>rw[hl] at g2;cases g2
  | cons u r =>
    rw[hl] at g3 h
    exact⟨u,r,rfl,g3,(Option.some.inj h).symm⟩
 ·cases h
theorem SvI.next {row:List Odr}{o0:Odr}{fee:Int}{x:WS}{e:Evt}(hs:o0.side=1∨o0.side=2)(h:SvI row o0 fee x)(he:trN o0.id x=some e)(hk:(zN x.s e).2=0):SvI row o0 fee (x.go e):=by
 have e1:zN x.s e=((zN x.s e).1,0):=Prod.ext rfl hk
 have he:zE5 x.s o0.id=some e:=he
 rcases h.st with ⟨o,hf,⟨li,ls,lp⟩,hleft,hlist,hall⟩|⟨hno,_⟩
 rotate_left
 ·unfold zE5 at he
  simp only at he
  rw[hno] at he
  simp at he
 obtain⟨u,r,hl,hcr,rfl⟩:=trade_at he hf
 obtain⟨_,gt,ev,_,_,hd⟩:=zBf e1
 have hfee:=traded_fee (show zEE x.s _=_ from hd)
 obtain⟨o',u',T⟩:=zKV e1 rfl
 have hords:=h.good.ords
 obtain⟨_,ho,hoid⟩:=zCh (show(zW x.s.orders o0.id).2=true by rw[hf])
 rw[hf] at ho hoid
 simp only at ho hoid
 have hu:u∈x.s.orders:=(List.mem_filter.1 ((zB4 (i:=o.inst) (s:=3 - o.side) hords).mem_iff.1 (by rw[hl];exact zz2 _))).1
 obtain rfl:o=o':=(Prod.mk.inj (hf.symm.trans T.fo)).1
 obtain rfl:u=u':=(Prod.mk.inj ((zBO hords hu).symm.trans T.fu)).1
 obtain⟨mo,mu,c3,c4,c5⟩:=zBe hcr
 rw[li,ls] at hl
 have hl2:=hl
 rw[hlist] at hl2
 obtain⟨t,ht⟩:∃ t,(zN x.s (evF 13 [o0.id,u.id,u.price,min o.left u.left,(zBa (u.price*min o.left u.left) x.s.fee).1])).1=t:=⟨_,rfl⟩
 rw[ht] at T gt hfee
 obtain⟨q,hq⟩:∃ q,min o.left u.left=q:=⟨_,rfl⟩
 have hx:x.go (evF 13 [o0.id,u.id,u.price,min o.left u.left,(zBa (u.price*min o.left u.left) x.s.fee).1])=⟨x.ids.tail,t,x.l++[evF 13 [o0.id,u.id,u.price,q,(zBa (u.price*q) x.s.fee).1]]⟩:=by unfold WS.go;rw[ht,hq]
 rw[hx]
 rw[hq] at T
 obtain⟨k,hk1⟩:∃ k,x.l.length=k+1:=⟨x.l.length - 1,by have:=h.pos;omega⟩
 have hkr:k<row.length:=by
  rw[hk1] at hl2
  have:=congrArg List.length hl2
  simp only[Nat.add_sub_cancel,List.length_drop,List.length_cons] at this
  omega
 have hrk:od_ row k=u∧r=row.drop (k+1):=by
  rw[hk1,Nat.add_sub_cancel,List.drop_eq_getElem_cons hkr] at hl2
  have:=List.cons.inj hl2
  refine⟨?_,this.2.symm⟩
  unfold od_;rw[List.getD_eq_getElem?_getD,List.getElem?_eq_getElem hkr];exact this.1
 have hfr:=(zAP.1 h.good.nums).2.1
 obtain⟨q1,q2,q3,q4⟩:=T.qty
 have q1:1≤q:=q1
 have q2:q≤o.left:=q2
 have q3:q≤u.left:=q3
 have q4:q=o.left∨q=u.left:=q4
 have hprod:0≤u.price*q∧u.price*q≤1125899906842624:=T.prod
 have hlen:(x.l++[evF 13 [o0.id,u.id,u.price,q,(zBa (u.price*q) x.s.fee).1]]).length=k+2:=by rw[List.length_append,hk1];rfl
 have hfe:(zBa (u.price*q) x.s.fee).1=u.price*q*fee / 10000:=by
  unfold zBa
  rw[h.fe] at hfr ⊢
  rw[if_neg qO,if_neg qO]
 have hev:∀ i,i+1<k+1→ev_ (x.l++[evF 13 [o0.id,u.id,u.price,q,(zBa (u.price*q) x.s.fee).1]]) (i+1)=ev_ x.l (i+1):=fun i hi=>zOo qO
 have hevl:ev_ (x.l++[evF 13 [o0.id,u.id,u.price,q,(zBa (u.price*q) x.s.fee).1]]) (k+1)=evF 13 [o0.id,u.id,u.price,q,(zBa (u.price*q) x.s.fee).1]:=by rw[← hk1];exact zOp
 have hsum:sumT (x.l++[evF 13 [o0.id,u.id,u.price,q,(zBa (u.price*q) x.s.fee).1]]) (k+1)=sumT x.l k+q:=by
  show sumT _ k+nF (ev_ _ (k+1)).nums 3=_
  rw[sumT_snoc qO,hevl];rfl
 rw[hk1] at hleft hlist hall
 have hgt:ze t.orders=true:=gt.ords
 refine⟨gt,hfee.trans h.fe,by show 1≤List.length _;rw[hlen];omega,by show List.length _≤_;rw[hlen];omega,fun i hi=>?_,fun i hi=>?_,?_⟩
 ·have hi:i+1<List.length _:=hi
  rw[hlen] at hi
  show TrF o0 fee _ (ev_ (x.l++[_]) (i+1))
  by_cases hik:i=k
  ·subst hik
   rw[hevl,hrk.1]
   refine⟨rfl,rfl,rfl,rfl,rfl,hprod,hfe,⟨q1,by show q≤1048576;have:=mu.2.2.2.2.2.2;omega⟩,?_⟩
   rw[ls,lp] at c5
   exact c5
  ·rw[hev i qO]
   exact h.tr i qO
 ·have hi:i+2<List.length _:=hi
  rw[hlen] at hi
  show nF (ev_ (x.l++[_]) (i+1)).nums 3=_
  rw[hev i qO]
  exact hall i qO
 ·show(∃ o,zW t.orders o0.id=(o,true)∧zL2 o o0∧o.left=o0.left - sumT (x.l++[_]) (List.length (x.l++[_]) - 1)∧zB3 t.orders o0.inst (3 - o0.side)=row.drop (List.length (x.l++[_]) - 1)∧∀ i,i+1<List.length (x.l++[_])→nF (ev_ (x.l++[_]) (i+1)).nums 3=(od_ row i).left)∨((zW t.orders o0.id).2=false∧sumT (x.l++[_]) (List.length (x.l++[_]) - 1)=o0.left)
  rw[hlen,show k+2 - 1=k+1 from rfl,hsum]
  have hleft:o.left=o0.left - sumT x.l k:=hleft
  have hto:∀ y∈t.orders,∃ z∈x.s.orders,zDA o.id u.id q z=y∧y.left≠0:=fun y hy=>by
   rw[T.ords] at hy
   obtain⟨z,hz,rfl⟩:=List.mem_map.1 (List.mem_filter.1 hy).1
   exact⟨z,hz,rfl,by simpa using (List.mem_filter.1 hy).2⟩
  have hlo:zDA o.id u.id q o=zBd o q:=by unfold zDA;rw[if_pos (.inl rfl)]
  by_cases hqo:q=o.left
  ·refine .inr ⟨Bool.eq_false_iff.2 fun g=>?_,by omega⟩
   obtain⟨_,g1,g2⟩:=zCh g
   obtain⟨z,hz,hzy,hne⟩:=hto _ g1
   have hzid:z.id=o.id:=by
    rw[← (zQF o.id u.id q z).2,hzy,g2,hoid]
   obtain rfl:z=o:=by
    have a:=zBO hords hz
    rw[hzid,zBO hords ho] at a
    exact(Prod.mk.inj a).1.symm
   rw[← hzy,hlo] at hne
   exact hne (by show z.left - q=0;omega)
  ·have hqu:q=u.left:=q4.resolve_left hqo
   refine .inl ⟨zBd o q,?_,⟨li,ls,lp⟩,by show o.left - q=_;omega,?_,fun i hi=>?_⟩
   ·have hm:zBd o q∈t.orders:=by
     rw[T.ords,List.mem_filter]
     refine⟨List.mem_map.2 ⟨o,ho,hlo⟩,decide_eq_true ?_⟩
     show o.left - q≠0
     omega
    have:=zBO hgt hm
    rwa [show(zBd o q).id=o0.id from hoid] at this
   ·rw[← hrk.2]
    refine list_tail hords hgt hl ?_
    rw[show t.orders=(x.s.orders.map (zDA o.id u.id q)).filter fun o=>decide (o.left≠0) from T.ords,List.filter_filter,List.filter_map,List.filter_filter]
    have hc:∀ z∈x.s.orders,((fun a=>ofS o0.inst (3 - o0.side) a&&decide (a.left≠0)) ∘ zDA o.id u.id q) z=(decide (z.id≠u.id)&&ofS o0.inst (3 - o0.side) z)∧((decide (z.id≠u.id)&&ofS o0.inst (3 - o0.side) z)=true→zDA o.id u.id q z=z):=fun z hz=>by
     have uniq:∀ y∈x.s.orders,z.id=y.id→z=y:=fun y hy e=>by
      have a:=zBO hords hz
      rw[e,zBO hords hy] at a
      exact(Prod.mk.inj a).1.symm
     by_cases z1:z.id=o.id
     ·obtain rfl:=uniq o ho z1
      have:ofS o0.inst (3 - o0.side) z=false:=by unfold ofS;simp;intro _;omega
      have h2:ofS o0.inst (3 - o0.side) (zDA z.id u.id q z)=false:=by rw[hlo];exact this
      refine⟨?_,fun g=>?_⟩
      ·show(ofS _ _ (zDA z.id u.id q z)&&_)=_
       rw[h2,this];simp
      ·rw[this] at g;simp at g
     ·by_cases z2:z.id=u.id
      ·obtain rfl:=uniq u hu z2
       refine⟨?_,fun g=>by simp at g⟩
       have:(zDA o.id z.id q z).left=0:=by unfold zDA;rw[if_pos (.inr rfl)];show z.left - q=0;omega
       show(_&&decide ((zDA o.id z.id q z).left≠0))=_
       rw[this];simp
      ·have e:zDA o.id u.id q z=z:=by unfold zDA;rw[if_neg (by rintro(g|g);exact z1 g;exact z2 g)]
       refine⟨?_,fun _=>e⟩
       show(ofS _ _ (zDA o.id u.id q z)&&decide ((zDA o.id u.id q z).left≠0))=_
       have hl0:=((zAO.1 hords).2.1 z hz).2.2.2.2.2.1
       rw[e,decide_eq_true (show z.left≠0 by omega),decide_eq_true z2]
       simp
    rw[List.filter_congr (fun z hz=>(hc z hz).1)]
    conv=>rhs;rw[← List.map_id (List.filter _ _)]
    refine List.map_congr_left fun z hz=>?_
    obtain⟨z1,z2⟩:=List.mem_filter.1 hz
    exact(hc z z1).2 z2
   ·by_cases hik:i=k
    ·subst hik
     rw[hevl,hrk.1]
     exact hqu
    ·rw[hev i qO]
     exact hall i qO
structure ServP (s t:Sta)(c:Cmd)(l:List Evt):Prop where
 good:Good t
 side:nF c.nums 2=1∨nF c.nums 2=2
 qty:1≤nF c.nums 4∧nF c.nums 4≤1048576
 len:c.nums.length=5
 pos:1≤l.length
 l32:l.length≤32
 le:l.length≤(zB3 s.orders (nF c.nums 1) (3 - nF c.nums 2)).length+1
 tr:∀ i,i+1<l.length→TrF ⟨s.nextO,nF c.nums 0,nF c.nums 1,nF c.nums 2,nF c.nums 3,nF c.nums 4⟩ s.fee (od_ (zB3 s.orders (nF c.nums 1) (3 - nF c.nums 2)) i) (ev_ l (i+1))
 full:∀ i,i+2<l.length→nF (ev_ l (i+1)).nums 3=(od_ (zB3 s.orders (nF c.nums 1) (3 - nF c.nums 2)) i).left
 fin:(∃ o,zW t.orders s.nextO=(o,true)∧o.price=nF c.nums 3∧o.left=nF c.nums 4 - sumT l (l.length - 1)∧1≤o.left)∨((zW t.orders s.nextO).2=false∧nF c.nums 4 - sumT l (l.length - 1)=0)
theorem serv_p {s:Sta}{c:Cmd}{l:List Evt}(h:zBC s c=(l,0))(hk:c.kind=11):ServP s (zDi s l).1 c l:=by
 obtain⟨f,t,y,h⟩:=zKW h
 have ha:=h.all
 rw[ha.1]
 have hnl:c.nums.length=5:=by
  have:=h.may
  unfold zEx at this
  rw[hk] at this
  simp only[Bool.and_eq_true] at this
  have h2:=this.1.2
  unfold zBG at h2
  simp only[Bool.and_eq_true,beq_iff_eq] at h2
  exact h2.1.symm
 obtain⟨f1,f2⟩:f.kind=11∧f.nums=[s.nextO,nF c.nums 0,nF c.nums 1,nF c.nums 2,nF c.nums 3,nF c.nums 4]:=by
  rcases zCa s c with ⟨g,_⟩|⟨_,_,_,_,g4,g5,_⟩
  ·rw[h.first] at g;exact absurd rfl g
  ·rw[h.first] at g4 g5
   rw[hk] at g4 g5
   exact⟨g4,g5⟩
 obtain⟨_,gt,ev,_,_,hd⟩:=zBf h.ev
 rw[f1] at hd
 have hnm:=zUt ev f1 rfl
 obtain⟨p1,p2,p3,p4⟩:=zQL h.good hnm (show zDK s f.nums=(t,0) from hd)
 have mo:=(zAf _).1 hnm
 rw[f2] at p1 mo
 obtain⟨o0,ho0⟩:∃ o0:Odr,o0=zKc [s.nextO,nF c.nums 0,nF c.nums 1,nF c.nums 2,nF c.nums 3,nF c.nums 4]:=⟨_,rfl⟩
 have e0:zKc [s.nextO,nF c.nums 0,nF c.nums 1,nF c.nums 2,nF c.nums 3,nF c.nums 4]=⟨s.nextO,nF c.nums 0,nF c.nums 1,nF c.nums 2,nF c.nums 3,nF c.nums 4⟩:=rfl
 rw[← ho0] at p1 mo e0
 have hs:o0.side=1∨o0.side=2:=mo.2.2.2.1
 have hmem:o0∈t.orders:=by rw[p1];exact zz3 _ (zz2 _)
 rcases h.beh with ⟨_,z,k1,k2,rfl,rfl,h32⟩|⟨k1,_⟩|⟨k1,_⟩
 rotate_left
 ·omega
 ·omega
 have hid:nF f.nums 0=o0.id:=by rw[f2,e0];rfl
 rw[hid] at k1 k2
 have hrow:zB3 s.orders o0.inst (3 - o0.side)=zB3 t.orders o0.inst (3 - o0.side):=by
  have hp:=zB4 (i:=o0.inst) (s:=3 - o0.side) h.good.ords
  have hr:=zLY (i:=o0.inst) (s:=3 - o0.side) h.good.ords
  refine(zPk gt.ords ?_ (hr.imp fun h=>h.2)).1
  rw[p1,List.filter_append,List.filter_cons_of_neg (by unfold ofS;simp;intro _;omega),List.filter_nil,List.append_nil]
  exact hp
 have I0:SvI (zB3 s.orders o0.inst (3 - o0.side)) o0 s.fee ⟨[],t,[f]⟩:=by
  refine⟨gt,p4,zzC _,by show 1≤_;omega,fun i hi=>?_,fun i hi=>?_,.inl ⟨o0,zBO gt.ords hmem,⟨rfl,rfl,rfl⟩,?_,hrow.symm,fun i hi=>?_⟩⟩
  ·have hi:i+1<1:=hi;omega
  ·have hi:i+2<1:=hi;omega
  ·show o0.left=o0.left - 0;omega
  ·have hi:i+1<1:=hi;omega
 have I:=k1.keeps (I:=SvI (zB3 s.orders o0.inst (3 - o0.side)) o0 s.fee) (fun x e hi he hk=>SvI.next hs hi he hk) I0
 have ho:=mo.2.2.2.2.2
 rw[e0] at I hs ho
 refine⟨ha.2.1,hs,ho,hnl,I.pos,h32,I.le,I.tr,I.full,?_⟩
 rcases I.st with ⟨o,g1,⟨_,_,g2⟩,g3,_,_⟩|⟨g1,g2⟩
 ·have:=((zAO.1 I.good.ords).2.1 o (by have:=zCh (show(zW z.s.orders s.nextO).2=true by rw[show zW z.s.orders s.nextO=(o,true) from g1]);rw[show zW z.s.orders s.nextO=(o,true) from g1] at this;exact this.2.1)).2.2.2.2.2.1
  exact .inl ⟨o,g1,g2,g3,this⟩
 ·refine .inr ⟨g1,?_⟩
  have g2:sumT z.l (z.l.length - 1)=nF c.nums 4:=g2
  omega
end
section
open Go Go.Sk Go.RowKit
attribute [local irreducible] Go.Calls
theorem fee_go {p f:Int}(h1:0≤p∧p≤1125899906842624)(h2:0≤f∧f≤1000):IntKind.i64.wrap ((IntKind.i64.wrap (IntKind.i64.wrap p*f)).tdiv 10000)=p*f / 10000:=by
 have a:0≤p*f:=Int.mul_nonneg h1.1 h2.1
 have b:p*f≤1125899906842624*1000:=Int.mul_le_mul h1.2 h2.2 h2.1 (by decide)
 rw[w64 (x:=p) qO qO]
 generalize p*f=z at *
 rw[w64 (x:=z) qO qO,Int.tdiv_eq_ediv_of_nonneg a,w64 qO qO]
set_option maxRecDepth 20000 in
theorem c_lServ {F:zC}(s:Sta)(p:SPt)(c:Cmd){na:Option Addr}{nc:Nat}(hac:∀ k,k<s.accts.length→(ac_ s.accts k).name.size≤140737488355328)(hin:∀ k,k<s.insts.length→(in_ s.insts k).name.size≤140737488355328)(hr:∀ j,j<s.rows.length→(rw_ s.rows j).wf)(hc:zDr c)(w0:World)(hF:Mem w0 F)(hP:PriM F)(hK:KinM F)(hC:ComM F)(hs:StaM F s p)(hN:Ints F na nc c.nums) :
  Calls Tryz.prog 4 [.agg (s.cells p).toArray,.agg (c.cells na nc).toArray].toArray w0 (Ret (.bool true) w0):=by
 have hwk:=fun w (hG:Mem w F)=>zOs w hG hP hK hC
 have hwg:=fun w (hG:Mem w F)=>zOt s p hac hin w hG hs
 have hlo:=fun w=>zTH (na:=na) (nc:=nc) c w
 by_cases h0:zES s<1500∧zOv c=false∧c.kind=11
 rotate_left
 ·refine enter [.tmp 4] Tryz.func4 rfl Tryz.ntmps4 rfl rfl ?_
  have H:=zA w0
  repeat' (first|refine yT ?_|refine y7 sg H ?_|(refine y9 H ?_;intro b w H)|(refine' y30 zGR ?_ ?_;rotate_left;exact hwk _ (H.memF hF);refine w2 H ?_;clear H;intro w H)|(refine' y30 zDb ?_ ?_;rotate_left;exact hwg _ (H.memF hF);refine w2 H ?_;clear H;intro w H)|(refine' y30 zDc ?_ ?_;rotate_left;exact hlo _;refine w2 H ?_;clear H;intro w H)|refine yU ?_|((first|refine y17 ?_ ?_|refine y23 ?_ ?_);all_goals(intro h;try (exfalso;first|((exact absurd h (by decide));done))))|fail)
  all_goals first
   | exact zP rfl H.cl rfl
   | (exfalso
      simp only[Bool.not_eq_true',Bool.not_eq_false',beq_iff_eq,bne_eq_false_iff_eq,bne_iff_ne,ne_eq,Decidable.not_not,decide_eq_false_iff_not] at *
      exact h0 ⟨by omega,by assumption,by omega⟩)
 obtain⟨hw,hlg,h11⟩:=h0
 have hW:=zOu hw hr
 have d1:decide (zES s ≥ 1500)=false:=decide_eq_false qO
 rw[hlg] at hlo
 have d3:(c.kind != 11)=false:=by simpa using h11
 have hcom:=fun w (G:zC) (hG:Mem w (G++F))=>zFO (s:=s) (p:=p) (c:=c) (na:=na) (nc:=nc) hW hc w hG (hP.mono (zz8 _ _)) (hK.mono (zz8 _ _)) (hC.mono (zz8 _ _)) (hs.mono (zz8 _ _)) (SlA.mono hN (zz8 _ _))
 obtain⟨es,k,hcmd⟩:∃ es k,zBC s c=(es,k):=⟨_,_,rfl⟩
 rw[hcmd] at hcom
 by_cases hk:k=0
 rotate_left
 ·have d4:(k != 0)=true:=by simpa using hk
  refine enter [.tmp 4] Tryz.func4 rfl Tryz.ntmps4 rfl rfl ?_
  have H:=zA w0
  repeat' (first|refine yT ?_|refine y7 sg H ?_|(refine y9 H ?_;intro b w H)|(refine' y30 zGR ?_ ?_;rotate_left;exact hwk _ (H.memF hF);refine w2 H ?_;clear H;intro w H)|(refine' y30 zDb ?_ ?_;rotate_left;exact hwg _ (H.memF hF);refine w2 H ?_;clear H;intro w H)|(refine' y30 zDc ?_ ?_;rotate_left;exact hlo _;refine w2 H ?_;clear H;intro w H)|(refine' y32 zFu ?_ ?_;rotate_left;exact hcom _ _ (H.all hF);intro v M2 w hR hS;replace H:=H.addR hS;clear hS;(try simp only[List.cons_append,List.nil_append] at H);obtain⟨ae,cape,qe,rfl,hE⟩:=hR)|refine yU ?_|((first|refine y17 ?_ ?_|refine y23 ?_ ?_);all_goals(intro h;try (exfalso;first|((exact absurd h (by decide));done)|((cases d1.symm.trans h);done)|((cases d3.symm.trans h);done)|((cases d4.symm.trans h);done))))|fail)
  exact zP rfl H.cl rfl
 subst hk
 have d4:((0:Int) != 0)=false:=rfl
 obtain⟨gs,gt,hev⟩:=zKY hcmd
 have hsp:=serv_p hcmd h11
 have e8:IntKind.u8.wrap (nF c.nums 2)=nF c.nums 2:=by rcases hsp.side with g|g<;>rw[g]<;>rfl
 have e9:IntKind.u8.wrap (3 - IntKind.u8.wrap (nF c.nums 2))=3 - nF c.nums 2:=by rcases hsp.side with g|g<;>rw[g]<;>rfl
 obtain⟨hnn,hcn,bn,offn,csn,Tn,frn,hnb⟩:=id hN
 have hli:=fun w (G:zC) (hG:Mem w (G++F))=>zUT s.orders (nF c.nums 1) (IntKind.u8.wrap (3 - IntKind.u8.wrap (nF c.nums 2))) w hG (hP.mono (zz8 _ _)) (SlA.mono hs.od (zz8 _ _))
 obtain⟨row,hrow⟩:∃ row,zB3 s.orders (nF c.nums 1) (3 - nF c.nums 2)=row:=⟨_,rfl⟩
 rw[show zB3 s.orders (nF c.nums 1) (IntKind.u8.wrap (3 - IntKind.u8.wrap (nF c.nums 2)))=row from(congrArg _ e9).trans hrow] at hli
 have hn5:=hsp.len
 have hnbF:=fun(b:Nat)=>hnb.mono (List.subset_cons_self (cb b (c.cells na nc) 28) F)
 refine enter [.tmp 4] Tryz.func4 rfl Tryz.ntmps4 rfl rfl ?_
 have H:=zA w0
 repeat' (first|refine yT ?_|refine y7 sg H ?_|(refine y9 H ?_;intro b w H)|(refine' y30 zGR ?_ ?_;rotate_left;exact hwk _ (H.memF hF);refine w2 H ?_;clear H;intro w H)|(refine' y30 zDb ?_ ?_;rotate_left;exact hwg _ (H.memF hF);refine w2 H ?_;clear H;intro w H)|(refine' y30 zDc ?_ ?_;rotate_left;exact hlo _;refine w2 H ?_;clear H;intro w H)|(refine' y32 zFu ?_ ?_;rotate_left;exact hcom _ _ (H.all hF);intro v M2 w hR hS;replace H:=H.addR hS;clear hS;(try simp only[List.cons_append,List.nil_append] at H);obtain⟨ae,cape,qe,rfl,hE⟩:=hR)|refine x40 sg hnb ?_|refine z13 (Yq.loadB1 sg hnb (H.memF hF) rfl rfl rfl rfl (show 2<c.nums.length by omega) rfl) ?_|refine yU ?_|((first|refine y17 ?_ ?_|refine y23 ?_ ?_);all_goals(intro h;try (exfalso;first|((exact absurd h (by decide));done)|((cases d1.symm.trans h);done)|((cases d3.symm.trans h);done))))|fail)
 refine CW.named (fun en1 w=>∃ b2 b3 en',en1=ovl [(2,.pointer (some ⟨b2,0,none⟩)),(3,.pointer (some ⟨b3,0,none⟩)),(5,.slice ae es.length cape),(7,.int .u8 (IntKind.u8.wrap (nF c.nums 2)))] en'∧St w0 (cb b3 (c.cells na nc) 28::cb b2 (s.cells p) 48::M2) w) ⟨_,_,_,zAE rfl (zA0 rfl rfl rfl),H⟩ ?_
 clear H
 rintro _ w ⟨b2,b3,en',rfl,H⟩
 have hnb3:=hnb.mono (show F⊆cb b3 (c.cells na nc) 28::cb b2 (s.cells p) 48::F from fun x hx=>zz4 _ (zz4 _ hx))
 repeat' (first|refine yT ?_|refine y7 sg H ?_|(refine CW.regionL mixed 10 (z6 (x:=cb b3 (c.cells na nc) 28) (y:=cb b2 (s.cells p) 48) H hF) [] ?_ ?_;exact rfl;refine w2 H ?_;clear H;intro w H;have qh:=z6 (x:=cb b3 (c.cells na nc) 28) (y:=cb b2 (s.cells p) 48) H hF;refine lT sg 0 qh ?_;refine' l1 1 qh ?_ ?_;rotate_left;(exact z3 sg);refine lT sg 2 qh ?_;refine' l1 3 qh ?_ ?_;rotate_left;(exact z3 sg);refine' l1 4 qh ?_ ?_;rotate_left;(exact(zQ sg hnb));refine' l1 5 qh ?_ ?_;rotate_left;(exact(zK sg hnb3 (show 1<c.nums.length by omega)));refine lT sg 6 qh ?_;refine lT sg 7 qh ?_)|((with_reducible apply RL.nil);decide +kernel)|(refine lT sg 9 (z6 H hF) ?_)|refine l2 8 ?_|(refine l5 (z6 H hF) ?_)|(refine' y32 ent20 ?_ ?_;rotate_left;exact hli _ _ (H.all hF);intro v M4 w hR hS;replace H:=H.addR hS;clear hS;(try simp only[List.cons_append,List.nil_append] at H);obtain⟨ar,capr,rfl,hrm⟩:=hR)|refine x40 sg hnb ?_|refine z13 (Yq.loadB1 sg hnb (H.memF hF) rfl rfl rfl rfl (show 4<c.nums.length by omega) rfl) ?_|refine yU ?_|with_reducible apply zB|fail)
 refine CW.named (fun en1 w=>∃ b2 b3 en',en1=ovl [(2,.pointer (some ⟨b2,0,none⟩)),(3,.pointer (some ⟨b3,0,none⟩)),(5,.slice ae es.length cape),(7,.int .u8 (nF c.nums 2)),(8,.slice ar row.length capr),(9,.int .i64 (nF c.nums 4)),(10,.int .i64 1)] en'∧Cl w0 w∧Mem w ((cb b3 (c.cells na nc) 28::cb b2 (s.cells p) 48::(M2++M4))++F)) ⟨_,_,_,zAE rfl (zAE rfl (zAE rfl (zAE (congrArg (Value.int .u8) e8) (zA0 rfl rfl rfl)))),H.cl,H.all hF⟩ ?_
 clear H
 rintro _ wB ⟨b2,b3,en',rfl,hcl,hM⟩
 obtain⟨F1,hF1⟩:∃ F1,(cb b3 (c.cells na nc) 28::cb b2 (s.cells p) 48::(M2++M4))++F=F1:=⟨_,rfl⟩
 have hm3:cb b3 (c.cells na nc) 28∈F1:=by rw[← hF1];simp
 have hm2:cb b2 (s.cells p) 48∈F1:=by rw[← hF1];simp
 have sF:F⊆F1:=by rw[← hF1];exact zz8 _ _
 have hE:=hE.mono (show M2⊆F1 by rw[← hF1];intro x hx;simp[hx])
 have hrm:=SlA.mono hrm (show M4⊆F1 by rw[← hF1];intro x hx;simp[hx])
 replace hs:=hs.mono sF
 replace hK:=hK.mono sF
 replace hP:=hP.mono sF
 replace hnb:=hnb.mono sF
 rw[hF1] at hM
 replace hF:=hM
 clear hM hF1 sF hwk hwg hlo hcom hC hli hnb3 hnbF
 have hall:=fun w (hG:Mem w F1)=>zNM (s:=s) (p:=p) hW es qe hev w hG hP hK hs hE
 obtain⟨t,n2,e2,hal⟩:∃ t n e2,zDi s es=(t,n,e2):=⟨_,_,_,rfl⟩
 rw[hal] at hall gt hsp
 simp only at gt hsp
 obtain⟨⟨hne,hce,be,offe,cse,Te,fre,hse⟩,hei⟩:=hE
 obtain⟨hnr,hcr,br,offr,csr,Tr,frr,hrb⟩:=hrm
 simp only at hne hce hse hei
 have htr:=hsp.tr
 have hle:=hsp.le
 have hful:=hsp.full
 rw[hrow] at htr hle hful
 have hpos:=hsp.pos
 have h32:=hsp.l32
 have hqt:=hsp.qty
 have hfr:=(zAP.1 gs.nums).2.1
 have hsb:∀ k,k<es.length→0≤sumT es k∧sumT es k≤(k:Int)*1048576:=by
  intro k
  induction k with
  | zero=>intro _;exact⟨Int.le_refl _,by show(0:Int)≤_;omega⟩
  | succ k ih =>
    intro h
    have h1:=ih qO
    have h2:=(htr k qO).qty
    show 0≤sumT es k+_∧sumT es k+_≤_
    constructor<;>omega
 refine zI [(4,4),(9,11),(60,186)] (fun n:Nat=>[(9,.int .i64 (nF c.nums 4 - sumT es (n - 1))),(10,.int .i64 (n:Int))]) (fun n w'=>1≤n∧n≤es.length∧St wB [] w') (fun n=>es.length - n) 1 ⟨congrArg (Value.int .i64) (by show _=_ - 0;omega),rfl,trivial⟩ ⟨zzC _,hpos,zA wB⟩ ?_
 rintro n gh w ⟨hn1,hnl,H⟩
 by_cases hlt:n<es.length
 rotate_left
 ·obtain rfl:n=es.length:=by omega
  have d5:decide ((es.length:Int)<(es.length:Int))=false:=decide_eq_false qO
  have bs:=hsb (es.length - 1) qO
  obtain⟨fo,fi,hfo⟩:∃ fo fi,zW t.orders s.nextO=(fo,fi):=⟨_,_,rfl⟩
  have hfd:=fun w (G:zC) (p3:SPt) (hG:Mem w G) (ht:StaM G t p3)=>zFj t.orders s.nextO w hG ht.od
  rw[hfo] at hfd
  have hfin:=hsp.fin
  rw[hfo] at hfin
  obtain⟨lf,hlf⟩:∃ lf,nF c.nums 4 - sumT es (es.length - 1)=lf:=⟨_,rfl⟩
  rw[hlf] at hfin ⊢
  have hz:decide (lf ≥ 0)=true∧(fi==decide (lf>0))=true∧(fi=true→(fo.left==lf)=true∧(fo.price==c.nums.getD 3 0)=true):=by
   rcases hfin with ⟨o,e,e1,e2,e3⟩|⟨e,e1⟩
   ·obtain⟨rfl,rfl⟩:=Prod.mk.inj e
    refine⟨decide_eq_true qO,by rw[decide_eq_true qO];rfl,fun _=>⟨by simpa using e2,by simpa using e1⟩⟩
   ·have e:fi=false:=e
    subst e
    refine⟨decide_eq_true qO,by rw[decide_eq_false qO];rfl,fun h=>nomatch h⟩
  obtain⟨z1,z2,z3⟩:=hz
  cases fi with
  | true =>
    obtain⟨z4,z5⟩:=z3 rfl
    repeat' (first|refine yT ?_|refine y7 sg H ?_|refine y8 sg H ?_|(refine y10 sg H ?_;intro b w H)|(refine y11 sg H ?_;intro w H)|((with_reducible apply zT);exact rfl;exact rfl;exact zH sg rfl rfl (H.memF hF) hm3 rfl rfl)|refine z13 (zH sg rfl rfl (H.memF hF) hm2 rfl rfl) ?_|refine x41 sg hnb ?_|((with_reducible apply zT);exact rfl;exact rfl;exact Yq.loadB1 sg hnb (H.memF hF) rfl rfl rfl rfl (show 3<c.nums.length by omega) rfl)|(refine' y32 zQX ?_ ?_;rotate_left;exact hall _ (H.memF hF);intro v M3 w hR hS;replace H:=H.addR hS;clear hS;(try simp only[List.cons_append,List.nil_append] at H);obtain⟨p3,Ma,Mi,Mu,R,rfl,rfl,hC3⟩:=hR)|(refine' y30 zFv ?_ ?_;rotate_left;exact hfd _ _ _ (H.mem) ((hC3.sta (zDR gt)).mono (fun x hx=>by repeat (first|exact hx|apply zz4)));refine w2 H ?_;clear H;intro w H)|refine yU ?_|((first|refine y18 ?_ ?_|refine y23 ?_ ?_);all_goals(intro h;try (exfalso;first|((exact absurd h (by decide));done)|((cases d5.symm.trans h);done)|((cases z1.symm.trans h);done)|((cases z2.symm.trans h);done)|((cases z4.symm.trans h);done)|((cases z5.symm.trans h);done))))|(with_reducible apply zO;refine w2 H ?_;clear H;intro w H)|refine y20 mixed ?_|fail)
    all_goals first|exact zP rfl (hcl.trans H.cl) rfl|exact zP rfl (hcl.trans H.cl) (congrArg Value.bool z5)
  | false =>
    repeat' (first|refine yT ?_|refine y7 sg H ?_|(refine y10 sg H ?_;intro b w H)|(refine y11 sg H ?_;intro w H)|refine z13 (zH sg rfl rfl (H.memF hF) hm2 rfl rfl) ?_|(refine' y32 zQX ?_ ?_;rotate_left;exact hall _ (H.memF hF);intro v M3 w hR hS;replace H:=H.addR hS;clear hS;(try simp only[List.cons_append,List.nil_append] at H);obtain⟨p3,Ma,Mi,Mu,R,rfl,rfl,hC3⟩:=hR)|(refine' y30 zFv ?_ ?_;rotate_left;exact hfd _ _ _ (H.mem) ((hC3.sta (zDR gt)).mono (fun x hx=>by repeat (first|exact hx|apply zz4)));refine w2 H ?_;clear H;intro w H)|refine yU ?_|((first|refine y18 ?_ ?_|refine y23 ?_ ?_);all_goals(intro h;try (exfalso;first|((exact absurd h (by decide));done)|((cases d5.symm.trans h);done)|((cases z1.symm.trans h);done)|((cases z2.symm.trans h);done))))|(with_reducible apply zO;refine w2 H ?_;clear H;intro w H)|refine y20 mixed ?_|fail)
    all_goals exact zP rfl (hcl.trans H.cl) rfl
 obtain⟨m,rfl⟩:∃ m,n=m+1:=⟨n - 1,by omega⟩
 have T:=htr m hlt
 obtain⟨hqn,hqc,bq,offq,csq,Tq,frq,hq⟩:=(hei (m+1) hlt).nums
 have hl5:=T.len
 have d5:decide (((m+1:Nat):Int)<(es.length:Int))=true:=decide_eq_true qO
 have g1:decide (((m+1:Nat):Int)>(row.length:Int))=false:=decide_eq_false qO
 have g2:((ev_ es (m+1)).kind != 13)=false:=by rw[T.kind];rfl
 have g3:(((ev_ es (m+1)).nums.length:Int) != 5)=false:=by rw[hl5];rfl
 have g4:((ev_ es (m+1)).nums.getD 0 0 != s.nextO)=false:=by have:=T.id;simpa using this
 have g5:((ev_ es (m+1)).nums.getD 1 0 != (od_ row m).id)=false:=by have:=T.other;simpa using this
 have g6:((ev_ es (m+1)).nums.getD 2 0 != (od_ row m).price)=false:=by have:=T.price;simpa using this
 have hno:if nF c.nums 2=1 then nF (ev_ es (m+1)).nums 2≤nF c.nums 3 else nF c.nums 3≤nF (ev_ es (m+1)).nums 2:=by rw[T.price];exact T.no
 have g7:(nF c.nums 2==1)=true→decide ((ev_ es (m+1)).nums.getD 2 0>c.nums.getD 3 0)=false:=fun h=>by
  rw[if_pos (by simpa using h)] at hno
  exact decide_eq_false (Int.not_lt.2 hno)
 have g8:(nF c.nums 2==2)=true→decide ((ev_ es (m+1)).nums.getD 2 0<c.nums.getD 3 0)=false:=fun h=>by
  have h:=beq_iff_eq.1 h
  rw[if_neg qO] at hno
  exact decide_eq_false (Int.not_lt.2 hno)
 have g9:decide (((m+1:Nat):Int)<IntKind.i64.wrap ((es.length:Int) - 1))=true→((ev_ es (m+1)).nums.getD 3 0 != (od_ row m).left)=false:=fun h=>by
  have h:=zzA h
  rw[w64 qO qO] at h
  have:=hful m qO
  simpa using this
 have g10:((ev_ es (m+1)).nums.getD 4 0 != IntKind.i64.wrap (Int.tdiv (IntKind.i64.wrap (IntKind.i64.wrap ((ev_ es (m+1)).nums.getD 2 0*(ev_ es (m+1)).nums.getD 3 0)*s.fee)) 10000))=false:=by
  rw[fee_go T.prod hfr]
  have:=T.fee
  simpa using this
 repeat' (first|refine yT ?_|((with_reducible apply zT);exact rfl;exact rfl;exact zH sg rfl rfl (H.memF hF) hm3 rfl rfl)|((with_reducible apply zT);exact rfl;exact rfl;exact zH sg rfl rfl (H.memF hF) hm2 rfl rfl)|refine x40 sg hse ?_|refine x41 sg hse ?_|refine x44 sg hse (H.memF hF) ?_|refine x45 sg hse (H.memF hF) ?_|refine x40 sg hq ?_|refine x41 sg hq ?_|((with_reducible apply zT);exact rfl;exact rfl;exact Yq.loadB1 sg hq (H.memF hF) rfl rfl rfl rfl (show 0<(ev_ es (m+1)).nums.length by omega) rfl)|((with_reducible apply zT);exact rfl;exact rfl;exact Yq.loadB1 sg hq (H.memF hF) rfl rfl rfl rfl (show 1<(ev_ es (m+1)).nums.length by omega) rfl)|((with_reducible apply zT);exact rfl;exact rfl;exact Yq.loadB1 sg hq (H.memF hF) rfl rfl rfl rfl (show 2<(ev_ es (m+1)).nums.length by omega) rfl)|refine z13 (Yq.loadB1 sg hq (H.memF hF) rfl rfl rfl rfl (show 3<(ev_ es (m+1)).nums.length by omega) rfl) ?_|((with_reducible apply zT);exact rfl;exact rfl;exact Yq.loadB1 sg hq (H.memF hF) rfl rfl rfl rfl (show 3<(ev_ es (m+1)).nums.length by omega) rfl)|((with_reducible apply zT);exact rfl;exact rfl;exact Yq.loadB1 sg hq (H.memF hF) rfl rfl rfl rfl (show 4<(ev_ es (m+1)).nums.length by omega) rfl)|(refine y41 sg (hrb) ?_ ?_ ?_;(first|omega|(rw[w64 qO qO];omega));(first|omega|(rw[w64 qO qO];omega)))|refine x45 sg hrb (H.memF hF) ?_|refine x41 sg hnb ?_|((with_reducible apply zT);exact rfl;exact rfl;exact Yq.loadB1 sg hnb (H.memF hF) rfl rfl rfl rfl (show 3<c.nums.length by omega) rfl)|refine yU ?_|((first|refine y18 ?_ ?_|refine y23 ?_ ?_);all_goals(intro h;try (exfalso;first|((exact absurd h (by decide));done)|((cases d5.symm.trans h);done)|((cases g1.symm.trans h);done)|((cases g2.symm.trans h);done)|((cases g3.symm.trans h);done)|((cases g4.symm.trans h);done)|((cases g5.symm.trans h);done)|((cases g6.symm.trans h);done)|((cases (g7 ‹_›).symm.trans h);done)|((cases (g8 ‹_›).symm.trans h);done)|((cases (g9 ‹_›).symm.trans h);done)|((cases g10.symm.trans h);done))))|(with_reducible apply zO;refine w2 H ?_;clear H;intro w H)|refine y20 mixed ?_|with_reducible apply zB|fail)
 all_goals
  refine zF (m+1+1) rfl ⟨congrArg (Value.int .i64) ?_,zf qO,trivial⟩ ⟨by omega,hlt,H⟩ qO
  have b1:=hsb m qO
  have b2:=T.qty
  show IntKind.i64.wrap ((nF c.nums 4 - sumT es m) - nF (ev_ es (m+1)).nums 3)=nF c.nums 4 - (sumT es m+nF (ev_ es (m+1)).nums 3)
  rw[w64 qO qO]
  omega
end
end Go.Proofs.YthbflajpdhgfiaaGreatDoor
