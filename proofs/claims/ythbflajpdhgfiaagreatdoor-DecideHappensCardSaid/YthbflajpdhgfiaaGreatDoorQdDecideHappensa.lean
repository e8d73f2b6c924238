/- The statement DecideHappensSaid, proved, and its tied card. -/
import Derived.ChangeKeysEq
import Derived.Deep.LoopGhost
import Derived.Deep.QuietTactic
import Derived.Deep.Slices
import Derived.KernelRfl
import Derived.LaidMore
import Derived.Laws.Bits64b
import Derived.Laws.IdiomStrings
import Derived.Laws.MakeOwn
import Derived.Laws.RangeString
import Derived.Laws.StructEq
import Derived.Lib.Mul64
import Derived.Maps.RangeRun
import Derived.OpenShut
import Derived.OrdersHeld
import Derived.ProofKit
import Derived.RangeFuncLeaves
import Derived.RangeFuncNested
import Derived.Shelf.SlLaysE
import Derived.Shelf.SlLaysF0
import Derived.Shelf.SlLaysM
import Derived.Shelf.SlSortCmp.NoneTotal
import Derived.Shelf.SlicesE.Compact
import Derived.Shelf.SortM.Plain
import Derived.Shelf.SortM.SortNone
import Derived.SizedLaws
import Derived.Sort.LoopGhostIn
import Derived.Stop.Joined
import Derived.TacticsIn
import Derived.Test.YthbflajpdhgfiaaGreatDoorChecked
import Derived.Test.YthbflajpdhgfiaaGreatDoorProg
import Derived.Test.YthbflajpdhgfiaaGreatDoorRows
import Derived.WalkKit
import Derived.WalkSpells
import Derived.Test.YthbflajpdhgfiaaGreatDoorQd33
import Derived.Test.YthbflajpdhgfiaaGreatDoorQd34
set_option linter.all false
set_option maxHeartbeats 16000000
namespace Go.Proofs.YthbflajpdhgfiaaGreatDoor
section
open Go Go.Sk Go.RowKit
theorem ent29:Ent Tryz.prog 29:=em Tryz.func29
theorem zOz:Ent Tryz.prog 32:=em Tryz.func32
theorem ent53:Ent Tryz.prog 53:=em Tryz.func53
theorem ent55:Ent Tryz.prog 55:=em Tryz.func55
theorem ent91:Ent Tryz.prog 91:=em Tryz.func91
def zKc (n:List Int):Odr:=⟨nF n 0,nF n 1,nF n 2,nF n 3,nF n 4,nF n 5⟩
end
section
open Go Go.Sk Go.RowKit
attribute [local irreducible] Go.Calls
theorem zTI (a:Evt):evB a a=true:=by unfold evB numB txtB;simp
end
section
open Go Go.Sk Go.RowKit
theorem zTJ {k:Int}(h:1≤k∧k≤20):(zAr k).1≠13:=by
 rcases zFJ h with rfl|rfl|rfl|rfl|rfl|rfl|rfl|rfl|rfl|rfl|rfl|rfl|rfl|rfl|rfl|rfl|rfl|rfl|rfl|rfl<;>decide
def zET (l:List Odr):Prop:=∃ a∈l,∃ b∈l,zn a b=true
def zDB (l:List Odr):Bool:=(List.range l.length).any fun i=>(List.range i).any fun k=>zn (od_ l i) (od_ l k)
theorem zEU {a b:Odr}(h1:zAX a)(h2:zAX b)(h3:a.inst=b.inst)(h4:a.side≠b.side)(h5:if a.side=1 then b.price≤a.price else a.price≤b.price):zn a b=true:=by
 unfold zn
 simp only[Bool.and_eq_true,zAf,beq_iff_eq,bne_iff_ne]
 refine⟨⟨⟨⟨h1,h2⟩,h3⟩,h4⟩,?_⟩
 split at h5
 ·rename_i e;rw[if_pos e];exact decide_eq_true h5
 ·rename_i e;rw[if_neg e];exact decide_eq_true h5
theorem zG8 {a b:Odr}(h:zn a b=true):zn b a=true:=by
 obtain⟨h1,h2,h3,h4,h5⟩:=zBe h
 refine zEU h2 h1 h3.symm (Ne.symm h4) ?_
 have s1:=h1.2.2.2.1
 have s2:=h2.2.2.2.1
 split at h5
 ·rw[if_neg qO];exact h5
 ·rw[if_pos qO];exact h5
theorem zTK {l:List Odr}{k:Nat}(h:k<l.length):od_ l k∈l:=by
 unfold od_;rw[List.getD_eq_getElem?_getD,List.getElem?_eq_getElem h];exact List.getElem_mem h
theorem zTL {l:List Odr}{o:Odr}(h:o∈l):∃ k,k<l.length∧o=od_ l k:=by
 obtain⟨k,hk,rfl⟩:=List.getElem_of_mem h
 exact⟨k,hk,by unfold od_;rw[List.getD_eq_getElem?_getD,List.getElem?_eq_getElem hk];rfl⟩
theorem zG9 {l:List Odr}:zDB l=true↔zET l:=by
 unfold zDB
 simp only[List.any_eq_true,List.mem_range]
 constructor
 ·rintro⟨i,hi,k,hk,h⟩
  exact⟨_,zTK hi,_,zTK qO,h⟩
 ·rintro⟨a,ha,b,hb,h⟩
  obtain⟨i,hi,rfl⟩:=zTL ha
  obtain⟨k,hk,rfl⟩:=zTL hb
  rcases Nat.lt_trichotomy k i with g|rfl|g
  ·exact⟨i,hi,k,g,h⟩
  ·exact absurd rfl (zBe h).2.2.2.1
  ·exact⟨k,hk,i,g,zG8 h⟩
theorem zNU {l m:List Odr}(hm:∀ x∈m,∃ y∈l,zL2 x y∧zAX y)(h:zET m):zET l:=by
 obtain⟨a,ha,b,hb,h⟩:=h
 obtain⟨a',ha',⟨i1,s1,p1⟩,m1⟩:=hm a ha
 obtain⟨b',hb',⟨i2,s2,p2⟩,m2⟩:=hm b hb
 obtain⟨_,_,h3,h4,h5⟩:=zBe h
 exact⟨a',ha',b',hb',zEU m1 m2 (by rw[← i1,← i2];exact h3) (by rw[← s1,← s2];exact h4) (by rw[← s1,← p1,← p2];exact h5)⟩
theorem zQK {s t:Sta}{k:Int}{n:List Int}{tx:ByteArray}(hk:1≤k∧k≤23)(h1:k≠11)(h2:k≠12)(h3:k≠13)(he:zCG s k n tx=(t,0)):t.orders=s.orders:=by
 have e1:∀ p,(zm s p).1.orders=s.orders:=fun p=>zDt.1
 have hps:∀ {p u},zm s p=(u,0)→u.orders=s.orders:=fun{p u} g=>by
  have:=e1 p
  rw[g] at this
  exact this
 unfold zCG at he
 rcases kinds hk with rfl|rfl|rfl|rfl|rfl|rfl|rfl|rfl|rfl|rfl|rfl|rfl|rfl|rfl|rfl|rfl|rfl|rfl|rfl|rfl|rfl|rfl|rfl<;>first|exact absurd rfl h1|exact absurd rfl h2|exact absurd rfl h3|simp only[Int.reduceEq,if_false,if_true] at he
 all_goals(try unfold zFC at he)
 all_goals(try unfold zFD at he)
 all_goals(try unfold zFE at he)
 all_goals(try unfold zF8 at he)
 all_goals(try unfold zEF at he)
 all_goals(try unfold zJz at he)
 all_goals(try unfold zF9 at he)
 all_goals(try unfold zCg at he)
 all_goals(try unfold zEq at he)
 all_goals(try unfold zCF at he)
 all_goals(try unfold zDh at he)
 all_goals(try unfold zFF at he)
 all_goals(try unfold zAz at he)
 all_goals(try unfold zDJ at he)
 all_goals(try unfold zAb at he)
 all_goals(try simp only at he)
 all_goals(repeat' split at he)
 all_goals first
  | exact absurd (Prod.mk.inj he).2 (by decide)
  | exact absurd (Prod.mk.inj he).2 (by assumption)
  | exact hps he
  | (rename_i g;rw[he] at g;exact absurd rfl g)
  | (obtain rfl:=(Prod.mk.inj he).1
     first|rfl|exact e1 _)
theorem zQL {s t:Sta}{n:List Int}(h:Good s)(hm:zw (zKc n)=true)(he:zDK s n=(t,0)):t.orders=s.orders++[zKc n]∧nF n 0=s.nextO∧t.nextO=s.nextO+1∧t.fee=s.fee:=by
 unfold zDK at he
 simp only at he
 split at he
 ·exact absurd (Prod.mk.inj he).2 (by decide)
 rename_i h1
 have h1:nF n 0=s.nextO:=Decidable.of_not_not h1
 split at he
 ·rename_i h2;exact absurd (Prod.mk.inj he).2 h2
 rename_i h2
 split at he
 ·rename_i h3;rw[he] at h3;exact absurd rfl h3
 obtain rfl:=(Prod.mk.inj he).1
 have hlen:s.orders.length<128:=by
  have h2:=Decidable.of_not_not h2
  unfold zAR at h2
  split at h2
  ·simp only at h2
   split at h2
   ·exact absurd h2 (by decide)
   ·split at h2
    ·exact absurd h2 (by decide)
    ·split at h2
     ·exact absurd h2 (by decide)
     ·rename_i g;simpa using g
  ·exact absurd h2 (by decide)
 have hlt:∀ x∈s.orders,x.id<(zKc n).id:=fun x hx=>by
  have:=(zAB.1 (h.ordsIn x hx)).1
  show x.id<nF n 0
  omega
 refine⟨?_,h1,rfl,?_⟩
 ·show(zEp s.orders (zKc n)).1=_
  rw[zLS h.ords hm hlt hlen]
 ·show(zAb s _ _ _).1.fee=s.fee
  exact zDt.2.2.2.2
theorem zKd {s t:Sta}{n:List Int}(h:Good s)(he:zBb s n=(t,0)):∀ x∈t.orders,x∈s.orders:=by
 unfold zBb at he
 simp only at he
 by_cases h1:(zW s.orders (nF n 0)).2=true
 ·rw[if_pos h1] at he
  obtain⟨_,f1,f2⟩:=zCh h1
  generalize (zW s.orders (nF n 0)).1=o at he f1 f2
  have hm:=(zAO.1 h.ords).2.1 o f1
  have hl:=hm.2.2.2.2.2
  have hd:(zDI s.orders o.id).1=zBU s.orders o.id o.left:=by
   unfold zDI
   rw[zBO h.ords f1,zDp h.ords f1 hl.1 (Int.le_refl _)]
  rw[hd] at he
  have fx:=zGH h.ords f1 hl.1 (Int.le_refl o.left)
  have e:t.orders=zBU s.orders o.id o.left:=by
   have:=(zDt (s:={ s with orders:=zBU s.orders o.id o.left }) (p:=[⟨o.acct,(zY o).1,-(-(zY o).2),-(zY o).2⟩])).1
   have e2:(zm { s with orders:=zBU s.orders o.id o.left } [⟨o.acct,(zY o).1,-(-(zY o).2),-(zY o).2⟩])=(t,0):=he
   rw[e2] at this
   exact this
  intro x hx
  rw[e] at hx
  rcases fx.mem x hx with g|g
  ·exact g.1
  ·omega
 ·rw[if_neg h1] at he
  exact absurd (Prod.mk.inj he).2 (by decide)
theorem zNV {l:List Odr}{i s:Int}{u:Odr}(h:ze l=true)(hf:zA9 l i s=(u,true))(hs:s=1∨s=2):u∈l∧u.inst=i∧u.side=s∧∀ v∈l,v.inst=i→v.side=s→if s=1 then v.price≤u.price else u.price≤v.price:=by
 have hp:=zB4 (i:=i) (s:=s) h
 have hr:=zLY (i:=i) (s:=s) h
 rw[zEL] at hf
 cases hl:zB3 l i s with
 | nil=>rw[hl] at hf;exact absurd (Prod.mk.inj hf).2 (by decide)
 | cons o m =>
   rw[hl] at hf hp hr
   obtain rfl:o=u:=(Prod.mk.inj hf).1
   have hu:o∈l.filter (ofS i s):=hp.mem_iff.1 (zz2 _)
   have hof:∀ x,x∈l.filter (ofS i s)↔x∈l∧x.inst=i∧x.side=s:=fun x=>by
    rw[List.mem_filter];unfold ofS;simp
   obtain⟨u1,u2,u3⟩:=(hof o).1 hu
   refine⟨u1,u2,u3,fun v hv v2 v3=>?_⟩
   have hv':=hp.mem_iff.2 ((hof v).2 ⟨hv,v2,v3⟩)
   rcases List.mem_cons.1 hv' with rfl|hv'
   ·split<;>exact Int.le_refl _
   ·have:=((List.pairwise_cons.1 hr).1 v hv').1
    unfold zAF at this
    rw[u3] at this
    split at this
    ·rename_i e;rw[e];split<;>exact Int.le_refl _
    ·rcases hs with rfl|rfl
     ·rw[if_pos rfl] at this ⊢;have:=zzA this;omega
     ·rw[if_neg (by decide)] at this ⊢;have:=zzA this;omega
theorem zTM {l:List Odr}{i s:Int}(h:ze l=true)(hf:(zA9 l i s).2=false):∀ v∈l,v.inst=i→v.side=s→False:=by
 have hp:=zB4 (i:=i) (s:=s) h
 rw[zEL] at hf
 cases hl:zB3 l i s with
 | nil =>
   rw[hl] at hp
   intro v hv v1 v2
   have:v∈l.filter (ofS i s):=List.mem_filter.2 ⟨hv,by unfold ofS;simp[v1,v2]⟩
   exact absurd (hp.mem_iff.2 this) (by simp)
 | cons o m=>rw[hl] at hf;exact absurd (show true=false from hf) (by decide)
theorem zNW {s0:Sta}{o0:Odr}{x:WS}(h:TrI s0 o0 x)(hn:trN o0.id x=none)(hc:¬ zET s0.orders):¬ zET x.s.orders:=by
 have hord:=h.good.ords
 have hmay:=(zAO.1 hord).2.1
 have hoth:∀ a∈x.s.orders,∀ c∈x.s.orders,a.id≠o0.id→c.id≠o0.id→zn a c=true→False:=fun a ha c hc' h1 h2 hx=>by
  obtain⟨a',ha',⟨i1,s1,p1⟩,m1⟩:=(h.like a ha).2 h1
  obtain⟨c',hc',⟨i2,s2,p2⟩,m2⟩:=(h.like c hc').2 h2
  obtain⟨_,_,h3,h4,h5⟩:=zBe hx
  exact hc ⟨a',ha',c',hc',zEU m1 m2 (by rw[← i1,← i2];exact h3) (by rw[← s1,← s2];exact h4) (by rw[← s1,← p1,← p2];exact h5)⟩
 have hself:∀ a∈x.s.orders,∀ c∈x.s.orders,a.id=o0.id→zn a c=true→False:=fun a ha c hc' h1 hx=>by
  have hf:=zBO hord ha
  rw[h1] at hf
  obtain⟨ma,mc,h3,h4,h5⟩:=zBe hx
  have hside:3 - a.side=1∨3 - a.side=2:=by have:=ma.2.2.2.1;omega
  have hcs:c.side=3 - a.side:=by have:=ma.2.2.2.1;have:=mc.2.2.2.1;omega
  unfold trN zE5 at hn
  simp only at hn
  rw[hf] at hn
  simp only at hn
  cases hfs:(zA9 x.s.orders a.inst (3 - a.side)).2 with
  | false=>exact zTM hord hfs c hc' h3.symm hcs
  | true =>
    have hfe:zA9 x.s.orders a.inst (3 - a.side)=((zA9 x.s.orders a.inst (3 - a.side)).1,true):=Prod.ext rfl hfs
    obtain⟨u1,u2,u3,u4⟩:=zNV hord hfe hside
    have h6:=u4 c hc' h3.symm hcs
    generalize (zA9 x.s.orders a.inst (3 - a.side)).1=u at hn u1 u2 u3 h6
    have hcr:zn a u=true:=by
     refine zEU ma (hmay u u1) u2.symm (by rw[u3];have:=ma.2.2.2.1;omega) ?_
     rcases ma.2.2.2.1 with g|g
     ·rw[g] at h5 h6 ⊢;rw[if_pos rfl] at h5 ⊢;rw[if_neg (by decide)] at h6;omega
     ·rw[g] at h5 h6 ⊢;rw[if_neg (by decide)] at h5 ⊢;rw[if_pos (by decide)] at h6;omega
    rw[hfs,hcr] at hn
    simp at hn
 rintro⟨a,ha,c,hc',hx⟩
 by_cases h1:a.id=o0.id
 ·exact hself a ha c hc' h1 hx
 ·by_cases h2:c.id=o0.id
  ·exact hself c hc' a ha h2 (zG8 hx)
  ·exact hoth a ha c hc' h1 h2 hx
theorem zQM (s:Sta)(id:Int):(zB5 s id).kind=18∨(zB5 s id).kind=19:=by
 unfold zB5
 split
 ·exact .inl rfl
 ·exact .inr rfl
theorem zIa {s t:Sta}{e:Evt}(hd:zN s e=(t,0))(h1:e.kind≠11)(h2:e.kind≠12)(h3:e.kind≠13):t.orders=s.orders:=by
 obtain⟨_,_,ev,_,_,hd⟩:=zBf hd
 exact zQK ev.kind h1 h2 h3 hd
theorem zUt {n:List Int}{e:Evt}(ev:EvOk e)(hk:e.kind=11)(hn:n=e.nums):zw (zKc n)=true:=by
 subst hn
 have k0:=ev.at (i:=0) (c:=111) (by rw[hk];rfl)
 have k1:=ev.at (i:=1) (c:=97) (by rw[hk];rfl)
 have k2:=ev.at (i:=2) (c:=105) (by rw[hk];rfl)
 have k3:=ev.at (i:=3) (c:=115) (by rw[hk];rfl)
 have k4:=ev.at (i:=4) (c:=112) (by rw[hk];rfl)
 have k5:=ev.at (i:=5) (c:=113) (by rw[hk];rfl)
 have:=bnd_o k0;have:=zH5 k1;have:=zDn k2;have:=zRw k3;have:=zOA k4;have:=zGG k5
 rw[zAf]
 unfold zAX zKc
 simp only
 exact⟨by omega,by omega,by omega,by omega,by omega,by omega⟩
theorem CmdOk.cross {s:Sta}{c:Cmd}{l:List Evt}{f:Evt}{t y:Sta}(h:CmdOk s c l f t y)(hc:¬ zET s.orders):¬ zET y.orders:=by
 have hk:=zEy h.may
 obtain⟨_,gt,ev,_,_,hd⟩:=zBf h.ev
 have hmay:=(zAO.1 h.good.ords).2.1
 have hsub:f.kind≠11→¬ zET t.orders:=fun h1=>by
  by_cases h2:f.kind=12
  ·rw[h2] at hd
   have hx:=zKd h.good (show zBb s f.nums=(t,0) from hd)
   exact fun g=>hc (zNU (fun x hx'=>⟨x,hx x hx',⟨rfl,rfl,rfl⟩,hmay x (hx x hx')⟩) g)
  ·rw[zIa h.ev h1 h2 (by rw[h.kind];exact zTJ hk)];exact hc
 rcases h.beh with ⟨k1,z,b1,b2,_,rfl,_⟩|⟨k1,z,b1,b2,_,rfl⟩|⟨k1,k2,_,rfl⟩
 ·have f11:f.kind=11:=by rw[h.kind];exact(zIV hk).2 k1
  rw[f11] at hd
  have hp:=zQL h.good (zUt ev f11 rfl) (show zDK s f.nums=(t,0) from hd)
  have I0:TrI s (zKc f.nums) ⟨[],t,[f]⟩:=⟨gt,fun w hw=>by
   have hw:w∈t.orders:=hw
   rw[hp.1] at hw
   rcases List.mem_append.1 hw with g|g
   ·have hlt:=(zAB.1 (h.good.ordsIn w g)).1
    have hne:w.id≠(zKc f.nums).id:=by show w.id≠nF f.nums 0;omega
    exact⟨fun e=>absurd e hne,fun _=>⟨w,g,⟨rfl,rfl,rfl⟩,hmay w g⟩⟩
   ·rw[List.mem_singleton] at g
    subst g
    exact⟨fun _=>⟨rfl,rfl,rfl⟩,fun e=>absurd rfl e⟩⟩
  have I:=b1.keeps (I:=TrI s (zKc f.nums)) (fun x e hi he hk=>TrI.go hi he hk) I0
  exact zNW I b2 hc
 ·have f20:f.kind=20:=by rw[h.kind];exact(zNO hk).2 k1
  have I:=b1.keeps (I:=fun x=>x.s.orders=t.orders) (fun x e hi he hk=>by
   have e1:zN x.s e=((zN x.s e).1,0):=Prod.ext rfl hk
   obtain⟨id,_,rfl⟩:∃ id,x.ids.head?=some id∧zB5 x.s id=e:=by
    unfold saN at he
    obtain⟨id,h1,h2⟩:=Option.map_eq_some_iff.1 he
    exact⟨id,h1,h2⟩
   have hk2:=zQM x.s id
   show(zN x.s (zB5 x.s id)).1.orders=_
   rw[zIa e1 qO qO qO];exact hi) rfl
  rw[I]
  exact hsub qO
 ·exact hsub fun e=>k1 ((zIV hk).1 (h.kind ▸ e))
theorem zL9 {t:Sta}(g:Good t):∀ (n:Nat) (x:WS),SaI t 1 x→1≤x.l.length→x.ids.length<n→(zFn saN false n x).2=0
 | 0,_,_,_,h=>absurd h (zzE _)
 | n+1,x,hI,hl,hn=>by
   unfold zFn
   cases hx:x.ids with
   | nil=>unfold saN;rw[hx];rfl
   | cons id r =>
     have e:saN x=some (zB5 x.s id):=by unfold saN;rw[hx];rfl
     rw[e]
     simp only
     obtain⟨h1,h2⟩:=SaI.next g hI hx
     rw[if_neg (fun h=>by cases h.1),if_neg (by rw[h1];exact fun h=>h rfl)]
     refine zL9 g n _ (h2 hl) ?_ ?_
     ·show 1≤(x.l++[_]).length;simp
     ·show x.ids.tail.length<n
      rw[hx] at hn ⊢;simpa using hn
theorem zUu {s:Sta}{c:Cmd}{k:Int}{l:List Evt}(h:zBC s c=(l,k))(hk:k≠0):l=[]∧(((zc s c).2≠0∧k=(zc s c).2)∨((zc s c).2=0∧((zN s (zc s c).1).2≠0∧k=(zN s (zc s c).1).2∨(zN s (zc s c).1).2=0∧c.kind=11))):=by
 have hb:∀ (nx:WS→Option Evt) (cap:Bool) (n:Nat) (x:WS),(zFn nx cap n x).2≠0→(zFn nx cap n x).1=[]:=by
  intro nx cap n
  induction n with
  | zero=>intro x _;rfl
  | succ n ih =>
    intro x hx
    unfold zFn at hx ⊢
    split
    ·rename_i g;rw[g] at hx;exact absurd rfl hx
    ·rename_i e g
     rw[g] at hx
     simp only at hx
     split
     ·rfl
     ·rename_i g1
      rw[if_neg g1] at hx
      split
      ·rfl
      ·rename_i g2
       rw[if_neg g2] at hx
       exact ih _ hx
 unfold zBC at h
 simp only at h
 split at h
 ·rename_i h1
  obtain⟨rfl,rfl⟩:=Prod.mk.inj h
  exact⟨rfl,.inl ⟨h1,rfl⟩⟩
 rename_i h1
 have h1:=Decidable.of_not_not h1
 split at h
 ·rename_i h2
  obtain⟨rfl,rfl⟩:=Prod.mk.inj h
  exact⟨rfl,.inr ⟨h1,.inl ⟨h2,rfl⟩⟩⟩
 rename_i h2
 have h2:=Decidable.of_not_not h2
 rcases zCa s c with ⟨g,_⟩|⟨_,g1,g2,g3,g4,g5,g6⟩
 ·exact absurd h1 g
 have hkd:=zEy g2
 split at h
 ·rename_i h3
  have e:=hb (trN (nF (zc s c).1.nums 0)) true 40 ⟨[],(zN s (zc s c).1).1,[(zc s c).1]⟩ (by rw[h];exact hk)
  rw[h] at e
  exact⟨e,.inr ⟨h1,.inr ⟨h2,(zIV hkd).1 (g4 ▸ h3)⟩⟩⟩
 ·rename_i h3
  split at h
  ·exfalso
   have gt:=(zCm (show zN s (zc s c).1=((zN s (zc s c).1).1,0) from Prod.ext rfl h2)).2
   have:=zL9 gt ((zEO (zN s (zc s c).1).1.aucs (zN s (zc s c).1).1.clock).length+1) _ (zJL gt (zc s c).1) (zzC _) (by simp)
   rw[h] at this
   exact hk this
  ·exact absurd (Prod.mk.inj h).2.symm hk
structure HapP (s t:Sta)(c:Cmd)(l:List Evt):Prop where
 all:zDi s l=(t,(l.length:Int),0)
 goodS:Good s
 good:Good t
 fst:∃ f es,zc s c=(f,0)∧l=f::es
 len:l.length≤40
 evs:∀ e∈l,e.v=3∧zCE e=true
 row:c.kind=17→zEO t.aucs t.clock=[]
 cross:zDB s.orders=false→zDB t.orders=false
theorem row_le {l:List Auc}{clk:Int}(h:zAJ l=true):(zEO l clk).length≤32:=by
 rcases zEP l clk with ⟨_,_,h3⟩|⟨h1,_⟩
 ·rw[h3.length_eq]
  have:=List.length_filter_le (fun x=>zAA x clk) l
  have:=(zp.1 h).1
  omega
 ·rw[h] at h1;cases h1
theorem happ_p {s:Sta}{c:Cmd}{l:List Evt}(h:zBC s c=(l,0)):∃ t,HapP s t c l:=by
 obtain⟨f,t,y,h⟩:=zKW h
 have ha:=h.all
 obtain⟨_,gt,_⟩:=ha.2
 refine⟨y,ha.1,h.good,ha.2.1,?_,?_,ha.2.2.2.2,fun hk=>?_,fun hc=>?_⟩
 ·obtain⟨es,e⟩:=ha.2.2.2.1
  exact⟨f,es,h.first,e⟩
 ·rcases h.beh with ⟨_,_,_,_,_,_,h32⟩|⟨_,z,k1,k2,rfl,rfl⟩|⟨_,_,rfl,_⟩
  ·omega
  ·obtain⟨hI,hids,_⟩:=zGr gt f k1 k2
   have:=hI.cnt
   rw[hids,List.length_map] at this
   have h32:=row_le (clk:=t.clock) gt.aucs
   simp only[List.length_nil] at this
   omega
  ·simp
 ·rcases h.beh with ⟨k1,_⟩|⟨_,z,k1,k2,rfl,rfl⟩|⟨_,k2,_⟩
  ·omega
  ·exact(zGr gt f k1 k2).2.2
  ·exact absurd hk k2
 ·have hn:¬ zET s.orders:=fun g=>by rw[zG9.2 g] at hc;cases hc
  exact Bool.eq_false_iff.2 fun g=>h.cross hn (zG9.1 g)
end
section
open Go Go.Sk Go.RowKit
attribute [local irreducible] Go.Calls
theorem zIb {n cap:Nat}{a:Option Addr}{el:Nat→List Value}{f:FuncId}{caps:List Value}{F:zC}(w0:World)(hF:Mem w0 F)(hs:SlA F 4 a n cap el)(hf:Ent Tryz.prog f)
  (hp:∀ j,j<n→∀ w,Cl w0 w→Calls Tryz.prog f ([Value.agg (el j).toArray]++caps).toArray w (Ret (.bool false) w)) :
  Calls Tryz.prog 91 [.slice a n cap,.func (.func f) #[] caps.toArray].toArray w0 (Ret (.int .i64 (-1)) w0):=by
 obtain⟨hn,hc,b,off,cs,T,fr,hs⟩:=hs
 refine enter [.tmp 4] Tryz.func91 rfl Tryz.ntmps91 rfl rfl ?_
 have H:=zA w0
 repeat' (first|refine yT ?_|refine yU ?_|with_reducible apply zB|fail)
 refine zI [(4,5),(8,18)] (fun k:Nat=>[(8,.int .i64 (k:Int))]) (fun k w=>k≤n∧St w0 [] w) (fun k=>n - k) 0 ⟨rfl,trivial⟩ ⟨zzD _,H⟩ ?_
 clear H
 rintro k g w ⟨hk,H⟩
 repeat' (first|refine yT ?_|refine yU ?_|fail)
 refine zD rfl (fun h=>?_) (fun h=>?_)
 ·have hlt:k<n:=by simpa using h
  repeat' (first|refine yT ?_|refine x40 sg hs ?_|refine x42 sg hs (H.memF hF) ?_|(refine OX.call rfl rfl (zBT hf rfl rfl rfl) (hp k hlt _ H.cl) ?_;refine w2 H ?_;clear H;intro w H)|refine yU ?_|with_reducible apply zB|fail)
  exact zF (k+1) rfl ⟨zf qO,trivial⟩ ⟨hlt,H⟩ qO
 ·repeat' (first|refine yT ?_|refine yU ?_|fail)
  exact zP rfl H.cl rfl
theorem zIl {n cap:Nat}{a:Option Addr}{el:Nat→List Value}{f:FuncId}{caps:List Value}{F:zC}(w0:World)(hF:Mem w0 F)(hs:SlA F 4 a n cap el)(hf:Ent Tryz.prog f)
  (hp:∀ j,j<n→∀ w,Cl w0 w→Calls Tryz.prog f ([Value.agg (el j).toArray]++caps).toArray w (Ret (.bool false) w)) :
  Calls Tryz.prog 55 [.slice a n cap,.func (.func f) #[] caps.toArray].toArray w0 (Ret (.bool false) w0):=by
 refine enter [.tmp 4] Tryz.func55 rfl Tryz.ntmps55 rfl rfl ?_
 have H:=zA w0
 repeat' (first|refine yT ?_|(refine' y30 ent91 ?_ ?_;rotate_left;exact zIb _ (H.memF hF) hs hf (fun j hj w' hw'=>hp j hj w' (H.cl.trans hw'));refine w2 H ?_;clear H;intro w H)|refine yU ?_|fail)
 exact zP rfl H.cl rfl
theorem zUv {F:zC}{a:Option Addr}{cap b0:Nat}{l:List Evt}{q:Nat→EPt}(h0:0<l.length)(hv:∀ e∈l,e.v=3∧zCE e=true){e:Evt}{qe:EPt}(he:e∈l)(hT:zGZ e)(w0:World)(hF:Mem w0 F)(hK:KinM F)(hM:EvtM F e qe)(hs:EvsM F a cap l q)(hm:cb b0 [.slice a l.length cap] 51∈F) :
  Calls Tryz.prog 53 [.agg (e.cells qe).toArray,.pointer (some ⟨b0,0,none⟩)].toArray w0 (Ret (.bool false) w0):=by
 obtain⟨⟨hn,hc,b1,off,cs,T,fr,hs⟩,_⟩:=hs
 have hmay:=fun w (hG:Mem w F)=>zN1 e qe hT w hG hK hM
 rw[(hv e he).2] at hmay
 have d1:(e.v != (ev_ l 0).v)=false:=by
  rw[(hv e he).1,(hv _ (zIU h0)).1];rfl
 refine enter [.tmp 3] Tryz.func53 rfl Tryz.ntmps53 rfl rfl ?_
 have H:=zA w0
 repeat' (first|refine yT ?_|refine y8 sg H ?_|(refine y9 H ?_;intro b w H)|((with_reducible apply zT);exact rfl;exact rfl;exact zH sg rfl rfl (H.memF hF) hm rfl rfl)|refine x41 sg hs ?_|refine x45 sg hs (H.memF hF) ?_|(refine' y31 zNh ?_ ?_;rotate_left;exact(fun _ hcl=>hmay _ ((H.ext hcl).memF hF)))|refine yU ?_|(refine y18 ?_ ?_;all_goals(intro h;try (exfalso;first|((exact absurd h (by decide));done)|((cases d1.symm.trans h);done))))|(with_reducible apply zO;refine w2 H ?_;clear H;intro w H)|refine y20 mixed ?_|fail)
 exact zP rfl H.cl rfl
theorem c_bMay {F:zC}{a:Option Addr}{cap:Nat}{l:List Evt}{q:Nat→EPt}(h0:0<l.length)(h40:l.length≤40)(hv:∀ e∈l,e.v=3∧zCE e=true)(hT:∀ e∈l,zGZ e)(w0:World)(hF:Mem w0 F)(hK:KinM F)(hs:EvsM F a cap l q) :
  Calls Tryz.prog 29 [.slice a l.length cap].toArray w0 (Ret (.bool true) w0):=by
 have hct:=fun w (b0:Nat) (G:zC) (hG:Mem w (G++F)) (hm:cb b0 [.slice a l.length cap] 51∈G)=>zIl (caps:=[.pointer (some ⟨b0,0,none⟩)]) w hG (SlA.mono hs.1 (zz8 _ _)) ent53 (fun j hj w' hw=>zUv (q:=q) h0 hv (zIU hj) (hT _ (zIU hj)) w' (hG.ext hw) (hK.mono (zz8 _ _)) ((hs.2 j hj).mono (zz8 _ _)) (hs.mono (zz8 _ _)) (zz6 _ hm))
 have d1:decide ((l.length:Int)>0)=true:=decide_eq_true qO
 have d2:decide ((l.length:Int)≤40)=true:=decide_eq_true qO
 refine enter [.tmp 2] Tryz.func29 rfl Tryz.ntmps29 rfl rfl ?_
 have H:=zA w0
 repeat' (first|refine yT ?_|refine y7 sg H ?_|(refine y9 H ?_;intro b w H)|(refine' y30 ent55 ?_ ?_;rotate_left;exact hct _ _ _ (H.all hF) (zz2 _);refine w2 H ?_;clear H;intro w H)|refine yU ?_|(refine y17 ?_ ?_;all_goals(intro h;try (exfalso;first|((exact absurd h (by decide));done)|((cases d1.symm.trans h);done)|((cases d2.symm.trans h);done))))|fail)
 exact zP rfl H.cl rfl
theorem zJO {F:zC}{a:Option Addr}{cap:Nat}(l:List Odr)(w0:World)(hF:Mem w0 F)(hP:PriM F)(hs0:Ords F a cap l) :
  Calls Tryz.prog 32 [.slice a l.length cap].toArray w0 (Ret (.bool (zDB l)) w0):=by
 obtain⟨hn,hc,b1,off,cs,T,fr,hs⟩:=hs0
 refine enter [.tmp 2] Tryz.func32 rfl Tryz.ntmps32 rfl rfl ?_
 have H:=zA w0
 repeat' (first|refine yT ?_|refine yU ?_|with_reducible apply zB|fail)
 refine zI [(2,24)] (fun i:Nat=>[(3,.int .i64 (i:Int))]) (fun i w=>i≤l.length∧(∀ j,j<i→∀ k,k<j→zn (od_ l j) (od_ l k)=false)∧St w0 [] w) (fun i=>l.length - i) 0 ⟨rfl,trivial⟩ ⟨zzD _,fun j hj=>absurd hj (zzE _),H⟩ ?_
 clear H
 rintro i gh w ⟨hi,hno,H⟩
 by_cases hlt:i<l.length
 rotate_left
 ·obtain rfl:i=l.length:=by omega
  have d5:decide ((l.length:Int)<(l.length:Int))=false:=decide_eq_false qO
  repeat' (first|refine yT ?_|refine yU ?_|(refine y23 ?_ ?_;all_goals(intro h;try (exfalso;first|((cases d5.symm.trans h);done))))|fail)
  refine zP rfl H.cl (congrArg Value.bool ?_)
  symm
  unfold zDB
  rw[List.any_eq_false]
  intro j hj
  rw[Bool.not_eq_true,List.any_eq_false]
  intro k hk
  rw[hno j (List.mem_range.1 hj) k (List.mem_range.1 hk)]
  decide
 have d5:decide ((i:Int)<(l.length:Int))=true:=decide_eq_true qO
 repeat' (first|refine yT ?_|refine yU ?_|with_reducible apply zB|(refine y23 ?_ ?_;all_goals(intro h;try (exfalso;first|((cases d5.symm.trans h);done))))|fail)
 refine zI [(2,2),(4,4),(11,24)] (fun k:Nat=>[(4,.int .i64 (k:Int))]) (fun k w=>k≤i∧(∀ m,m<k→zn (od_ l i) (od_ l m)=false)∧St w0 [] w) (fun k=>i - k) 0 ⟨rfl,trivial⟩ ⟨zzD _,fun j hj=>absurd hj (zzE _),H⟩ ?_
 clear H
 rintro k gh2 w ⟨hk,hnk,H⟩
 by_cases hkl:k<i
 rotate_left
 ·obtain rfl:k=i:=by omega
  have d6:decide ((k:Int)<(k:Int))=false:=decide_eq_false qO
  repeat' (first|refine yT ?_|refine yU ?_|(refine y23 ?_ ?_;all_goals(intro h;try (exfalso;first|((cases d6.symm.trans h);done))))|fail)
  refine zCj (k+1) rfl ⟨zf qO,trivial⟩ ⟨hlt,fun j hj m hm=>?_,H⟩ qO
  by_cases e:j=k
  ·subst e;exact hnk m hm
  ·exact hno j qO m hm
 have d6:decide ((k:Int)<(i:Int))=true:=decide_eq_true qO
 have hcr:=fun w (hG:Mem w F)=>zGl (od_ l i) (od_ l k) w hG hP
 cases hx:zn (od_ l i) (od_ l k) with
 | true =>
   rw[hx] at hcr
   repeat' (first|refine yT ?_|refine x41 sg hs ?_|refine x43 sg hs (H.memF hF) ?_|(refine' y31 zHe ?_ ?_;rotate_left;exact(fun _ hcl=>hcr _ ((H.ext hcl).memF hF)))|refine yU ?_|(with_reducible apply zO;refine w2 H ?_;clear H;intro w H)|refine y20 mixed ?_|with_reducible apply zB|(refine y23 ?_ ?_;all_goals(intro h;try (exfalso;first|((cases d6.symm.trans h);done))))|fail)
   refine zP rfl H.cl (congrArg Value.bool ?_)
   symm
   unfold zDB
   rw[List.any_eq_true]
   refine⟨i,List.mem_range.2 hlt,?_⟩
   rw[List.any_eq_true]
   exact⟨k,List.mem_range.2 hkl,hx⟩
 | false =>
   rw[hx] at hcr
   repeat' (first|refine yT ?_|refine x41 sg hs ?_|refine x43 sg hs (H.memF hF) ?_|(refine' y31 zHe ?_ ?_;rotate_left;exact(fun _ hcl=>hcr _ ((H.ext hcl).memF hF)))|refine yU ?_|(with_reducible apply zO;refine w2 H ?_;clear H;intro w H)|refine y20 mixed ?_|with_reducible apply zB|(refine y23 ?_ ?_;all_goals(intro h;try (exfalso;first|((cases d6.symm.trans h);done))))|fail)
   refine zF (k+1) rfl ⟨zf qO,trivial⟩ ⟨hkl,fun m hm=>?_,H⟩ qO
   by_cases e:m=k
   ·rw[e];exact hx
   ·exact hnk m qO
theorem fst_T {s:Sta}{c:Cmd}(hc:zDr c):zGZ (zc s c).1:=by
 rcases zCa s c with ⟨_,_,g⟩|⟨g,_⟩
 ·rw[g];exact⟨⟨(by decide),(by decide)⟩,⟨(by decide),(by decide)⟩,fun t ht=>nomatch ht⟩
 ·exact(zL7 hc (Prod.ext rfl g)).2.1
set_option maxRecDepth 20000 in
theorem c_lHap {F:zC}(s:Sta)(p:SPt)(c:Cmd){na:Option Addr}{nc:Nat}(hac:∀ k,k<s.accts.length→(ac_ s.accts k).name.size≤140737488355328)(hin:∀ k,k<s.insts.length→(in_ s.insts k).name.size≤140737488355328)(hr:∀ j,j<s.rows.length→(rw_ s.rows j).wf)(hc:zDr c)(w0:World)(hF:Mem w0 F)(hP:PriM F)(hK:KinM F)(hC:ComM F)(hs:StaM F s p)(hN:Ints F na nc c.nums) :
  Calls Tryz.prog 6 [.agg (s.cells p).toArray,.agg (c.cells na nc).toArray].toArray w0 (Ret (.bool true) w0):=by
 have hwk:=fun w (hG:Mem w F)=>zOs w hG hP hK hC
 have hwg:=fun w (hG:Mem w F)=>zOt s p hac hin w hG hs
 have hlo:=fun w=>zTH (na:=na) (nc:=nc) c w
 by_cases h0:zES s<1500∧zOv c=false
 rotate_left
 ·refine enter [.tmp 4] Tryz.func6 rfl Tryz.ntmps6 rfl rfl ?_
  have H:=zA w0
  repeat' (first|refine yT ?_|refine y7 sg H ?_|(refine y9 H ?_;intro b w H)|(refine' y30 zGR ?_ ?_;rotate_left;exact hwk _ (H.memF hF);refine w2 H ?_;clear H;intro w H)|(refine' y30 zDb ?_ ?_;rotate_left;exact hwg _ (H.memF hF);refine w2 H ?_;clear H;intro w H)|(refine' y30 zDc ?_ ?_;rotate_left;exact hlo _;refine w2 H ?_;clear H;intro w H)|refine yU ?_|((first|refine y17 ?_ ?_|refine y23 ?_ ?_);all_goals(intro h;try (exfalso;first|((exact absurd h (by decide));done))))|fail)
  all_goals first
   | exact zP rfl H.cl rfl
   | (exfalso
      simp only[Bool.not_eq_true',Bool.not_eq_false',beq_iff_eq,bne_eq_false_iff_eq,bne_iff_ne,ne_eq,Decidable.not_not,decide_eq_false_iff_not] at *
      exact h0 ⟨by omega,by assumption⟩)
 obtain⟨hw,hlg⟩:=h0
 have hW:=zOu hw hr
 have d1:decide (zES s ≥ 1500)=false:=decide_eq_false qO
 rw[hlg] at hlo
 have hcom:=fun w (G:zC) (hG:Mem w (G++F))=>zFO (s:=s) (p:=p) (c:=c) (na:=na) (nc:=nc) hW hc w hG (hP.mono (zz8 _ _)) (hK.mono (zz8 _ _)) (hC.mono (zz8 _ _)) (hs.mono (zz8 _ _)) (SlA.mono hN (zz8 _ _))
 have hfst:=fun w (G:zC) (hG:Mem w (G++F))=>zL6 (s:=s) (p:=p) (c:=c) (na:=na) (nc:=nc) hW hc w hG (hC.mono (zz8 _ _)) (hs.mono (zz8 _ _)) (SlA.mono hN (zz8 _ _))
 have hfT:=fst_T (s:=s) hc
 obtain⟨es,k,hcmd⟩:∃ es k,zBC s c=(es,k):=⟨_,_,rfl⟩
 obtain⟨f,fe,hf⟩:∃ f fe,zc s c=(f,fe):=⟨_,_,rfl⟩
 rw[hcmd] at hcom
 rw[hf] at hfst hfT
 simp only at hfT
 by_cases hk:k=0
 rotate_left
 ·have d4:(k != 0)=true:=by simpa using hk
  have hee:=fun w (G M:zC) (q:EPt) (hM:EvtM M f q) (hG:Mem w (G++F)) (hs2:M⊆G)=>zLu (s:=s) (p:=p) hW f q hfT w hG (hP.mono (zz8 _ _)) (hK.mono (zz8 _ _)) (hs.mono (zz8 _ _)) (hM.mono fun x hx=>zz6 _ (hs2 hx))
  obtain⟨t1,g,hg⟩:∃ t1 g,zN s f=(t1,g):=⟨_,_,rfl⟩
  rw[hg] at hee
  obtain⟨rfl,hh⟩:=zUu hcmd hk
  rw[hf] at hh
  simp only at hh
  rw[hg] at hh
  simp only at hh
  have A1:(fe != 0)=true→(k==fe)=true:=by simp only[beq_iff_eq,bne_iff_ne,ne_eq];omega
  have A3:(fe==0)=true→(g != 0)=true→(k==g)=true:=by simp only[beq_iff_eq,bne_iff_ne,ne_eq];omega
  have A5:(fe==0)=true→(g==0)=true→(c.kind==11)=true:=by simp only[beq_iff_eq];omega
  have A2:∀ {z:Int},(z != 0)=false→(z==0)=false→False:=by intro z;simp
  refine enter [.tmp 4] Tryz.func6 rfl Tryz.ntmps6 rfl rfl ?_
  have H:=zA w0
  repeat' (first|refine yT ?_|refine y7 sg H ?_|(refine y9 H ?_;intro b w H)|(refine y10 sg H ?_;intro b w H)|(refine y11 sg H ?_;intro w H)|(refine' y30 zGR ?_ ?_;rotate_left;exact hwk _ (H.memF hF);refine w2 H ?_;clear H;intro w H)|(refine' y30 zDb ?_ ?_;rotate_left;exact hwg _ (H.memF hF);refine w2 H ?_;clear H;intro w H)|(refine' y30 zDc ?_ ?_;rotate_left;exact hlo _;refine w2 H ?_;clear H;intro w H)|(refine' y32 zFu ?_ ?_;rotate_left;exact hcom _ _ (H.all hF);intro v M2 w hR hS;replace H:=H.addR hS;clear hS;(try simp only[List.cons_append,List.nil_append] at H);obtain⟨ae,cape,qe,rfl,hE⟩:=hR)|(refine' y32 zKs ?_ ?_;rotate_left;exact hfst _ _ (H.all hF);intro v M4 w hR hS;replace H:=H.addR hS;clear hS;(try simp only[List.cons_append,List.nil_append] at H);obtain⟨qf,rfl,hM4⟩:=hR)|(refine' y32 zNd ?_ ?_;rotate_left;exact hee _ _ _ _ hM4 (H.all hF) (fun x hx=>by simp[hx]);intro v M5 w hR hS;replace H:=H.addR hS;clear hS;(try simp only[List.cons_append,List.nil_append] at H);obtain⟨p5,rfl⟩:=hR.any)|refine yU ?_|((first|refine y17 ?_ ?_|refine y23 ?_ ?_);all_goals(intro h;try (exfalso;first|((exact absurd h (by decide));done)|((cases d1.symm.trans h);done)|((cases d4.symm.trans h);done)|((exact A2 ‹_› h);done)|((cases (A1 ‹_›).symm.trans h);done)|((cases (A3 ‹_› ‹_›).symm.trans h);done))))|fail)
  all_goals first|exact zP rfl H.cl rfl|exact zP rfl H.cl (congrArg Value.bool (A5 ‹_› ‹_›))|exact zP rfl H.cl (congrArg Value.bool (A3 ‹_› ‹_›))|exact zP rfl H.cl (congrArg Value.bool (A1 ‹_›))
 subst hk
 obtain⟨gs,gt,hev⟩:=zKY hcmd
 obtain⟨t,hp⟩:=happ_p hcmd
 obtain⟨f',es',hff,hes⟩:=hp.fst
 obtain⟨rfl,rfl⟩:=Prod.mk.inj (hf.symm.trans hff)
 have hal:=hp.all
 have hall:=fun w (G:zC) (ae:Option Addr) (cape:Nat) (qe:Nat→EPt) (M:zC) (hE:EvsM M ae cape es qe) (hG:Mem w (G++F)) (h2:M⊆G)=>zNM (s:=s) (p:=p) hW es qe hev w hG (hP.mono (zz8 _ _)) (hK.mono (zz8 _ _)) (hs.mono (zz8 _ _)) (hE.mono fun x hx=>zz6 _ (h2 hx))
 rw[hal] at hall
 refine enter [.tmp 4] Tryz.func6 rfl Tryz.ntmps6 rfl rfl ?_
 have H:=zA w0
 repeat' (first|refine yT ?_|refine y7 sg H ?_|(refine y9 H ?_;intro b w H)|(refine y10 sg H ?_;intro b w H)|(refine y11 sg H ?_;intro w H)|(refine' y30 zGR ?_ ?_;rotate_left;exact hwk _ (H.memF hF);refine w2 H ?_;clear H;intro w H)|(refine' y30 zDb ?_ ?_;rotate_left;exact hwg _ (H.memF hF);refine w2 H ?_;clear H;intro w H)|(refine' y30 zDc ?_ ?_;rotate_left;exact hlo _;refine w2 H ?_;clear H;intro w H)|(refine' y32 zFu ?_ ?_;rotate_left;exact hcom _ _ (H.all hF);intro v M2 w hR hS;replace H:=H.addR hS;clear hS;(try simp only[List.cons_append,List.nil_append] at H);obtain⟨ae,cape,qe,rfl,hE⟩:=hR)|(refine' y32 zKs ?_ ?_;rotate_left;exact hfst _ _ (H.all hF);intro v M4 w hR hS;replace H:=H.addR hS;clear hS;(try simp only[List.cons_append,List.nil_append] at H);obtain⟨qf,rfl,hM4⟩:=hR)|(refine' y32 zQX ?_ ?_;rotate_left;exact hall _ _ _ _ _ _ hE (H.all hF) (fun x hx=>by simp[hx]);intro v M3 w hR hS;replace H:=H.addR hS;clear hS;(try simp only[List.cons_append,List.nil_append] at H);obtain⟨p3,Ma,Mi,Mu,R,rfl,rfl,hC3⟩:=hR)|refine yU ?_|(refine y17 ?_ ?_;all_goals(intro h;try (exfalso;first|((exact absurd h (by decide));done)|((cases d1.symm.trans h);done))))|fail)
 refine CW.named (fun en1 w=>∃ b2 b3 b7 b11 en',en1=ovl [(2,.pointer (some ⟨b2,0,none⟩)),(3,.pointer (some ⟨b3,0,none⟩)),(5,.slice ae es.length cape),(7,.pointer (some ⟨b7,0,none⟩)),(8,.int .i64 0),(11,.pointer (some ⟨b11,0,none⟩)),(12,.int .i64 (es.length:Int)),(13,.int .i64 0)] en'∧Cl w0 w∧Mem w ((cb b11 (t.cells p3) 48::cb b7 (f.cells qf) 33::cb b3 (c.cells na nc) 28::cb b2 (s.cells p) 48::(M2++M4++(Ma++(Mi++(Mu++R)))))++F)) ⟨_,_,_,_,_,zAE rfl (zAE rfl (zAE rfl (zAE rfl (zAE rfl (zA0 rfl rfl rfl))))),H.cl,H.all hF⟩ ?_
 clear H
 rintro _ wB ⟨b2,b3,b7,b11,en',rfl,hcl,hM⟩
 obtain⟨F1,hF1⟩:∃ F1,(cb b11 (t.cells p3) 48::cb b7 (f.cells qf) 33::cb b3 (c.cells na nc) 28::cb b2 (s.cells p) 48::(M2++M4++(Ma++(Mi++(Mu++R)))))++F=F1:=⟨_,rfl⟩
 have hm11:cb b11 (t.cells p3) 48∈F1:=by rw[← hF1];simp
 have hm7:cb b7 (f.cells qf) 33∈F1:=by rw[← hF1];simp
 have hm3:cb b3 (c.cells na nc) 28∈F1:=by rw[← hF1];simp
 have hm2:cb b2 (s.cells p) 48∈F1:=by rw[← hF1];simp
 have sF:F⊆F1:=by rw[← hF1];exact zz8 _ _
 have hE:=hE.mono (show M2⊆F1 by rw[← hF1];intro x hx;simp[hx])
 have hM4:=hM4.mono (show M4⊆F1 by rw[← hF1];intro x hx;simp[hx])
 have ht:=(hC3.sta (zDR hp.good)).mono (show _⊆F1 by rw[← hF1];intro x hx;simp only[List.mem_append,List.mem_cons] at hx ⊢;rcases hx with h|h|h|h<;>simp[h])
 replace hs:=hs.mono sF
 replace hK:=hK.mono sF
 replace hP:=hP.mono sF
 rw[hF1] at hM
 replace hF:=hM
 clear hM hF1 sF hC3 hwk hwg hlo hcom hall hC hfst
 have hpos:0<es.length:=by rw[hes];simp
 have e0:ev_ es 0=f:=by rw[hes];rfl
 have hsm:=fun w (hG:Mem w F1)=>zG7 (ev_ es 0) f (qe 0) qf w hG (hE.2 0 hpos) hM4
 rw[show evB (ev_ es 0) f=true by rw[e0,zTI]] at hsm
 have hbm:=fun w (hG:Mem w F1)=>c_bMay hpos hp.len hp.evs hev w hG hK hE
 have hmt:=fun w (hG:Mem w F1)=>zDG t p3 (zFo hp.good) w hG ht
 rw[zBB.2 hp.good] at hmt
 have hcs:=fun w (hG:Mem w F1)=>zJO s.orders w hG hP hs.od
 have hct:=fun w (hG:Mem w F1)=>zJO t.orders w hG hP ht.od
 have hrw:=fun w (hG:Mem w F1)=>zKS t.aucs p3.ad t.clock w hG ht.au
 obtain⟨⟨hne,hce,be,offe,cse,Te,fre,hse⟩,hei⟩:=hE
 simp only at hne hce hse hei
 have d2:((es.length:Int) != (es.length:Int))=false:=by simp
 have d3:((es.length:Int)==0)=false:=by simp;intro h;rw[h] at hpos;cases hpos
 have d5:((ev_ es 0).v != 3)=false:=by rw[(hp.evs _ (zIU hpos)).1];rfl
 have H:=zA wB
 have hrow:∀ {r:List Auc},(c.kind==17)=true→IsRow t.aucs t.clock r→r=[]:=fun h17 h=>(h.uniq (zEP _ _)).trans (hp.row (by simpa using h17))
 have hcx:=hp.cross
 repeat' (first|refine yT ?_|refine z13 (zH sg rfl rfl (H.memF hF) hm11 rfl rfl) ?_|((with_reducible apply zT);exact rfl;exact rfl;exact zH sg rfl rfl (H.memF hF) hm11 rfl rfl)|((with_reducible apply zT);exact rfl;exact rfl;exact zH sg rfl rfl (H.memF hF) hm7 rfl rfl)|refine z13 (zH sg rfl rfl (H.memF hF) hm3 rfl rfl) ?_|refine z13 (zH sg rfl rfl (H.memF hF) hm2 rfl rfl) ?_|refine x41 sg hse ?_|refine x43 sg hse (H.memF hF) ?_|refine x45 sg hse (H.memF hF) ?_|(refine' y31 zNe ?_ ?_;rotate_left;exact(fun _ hcl=>hsm _ ((H.ext hcl).memF hF)))|(refine' y31 ent29 ?_ ?_;rotate_left;exact(fun _ hcl=>hbm _ ((H.ext hcl).memF hF)))|(refine' y31 zDd ?_ ?_;rotate_left;exact(fun _ hcl=>hmt _ ((H.ext hcl).memF hF)))|(refine' y32 zNf ?_ ?_;rotate_left;exact hrw _ (H.memF hF);intro v M6 w hR hS;replace H:=H.addR hS;clear hS;(try simp only[List.cons_append,List.nil_append] at H);obtain⟨r,a6,c6,hrr,rfl,_⟩:=hR;obtain rfl:=hrow ‹_› hrr)|(refine' y30 zOz ?_ ?_;rotate_left;exact hcs _ (H.memF hF);refine w2 H ?_;clear H;intro w H)|(refine' y30 zOz ?_ ?_;rotate_left;exact hct _ (H.memF hF);refine w2 H ?_;clear H;intro w H)|refine yU ?_|((first|refine y17 ?_ ?_|refine y18 ?_ ?_);all_goals(intro h;try (exfalso;first|((exact absurd h (by decide));done)|((cases d2.symm.trans h);done)|((cases d3.symm.trans h);done)|((cases d5.symm.trans h);done))))|(with_reducible apply zO;refine w2 H ?_;clear H;intro w H)|refine y20 mixed ?_|fail)
 all_goals first
  | exact zP rfl (hcl.trans H.cl) rfl
  | exact zP rfl (hcl.trans H.cl) (congrArg (fun b=>Value.bool (!b)) (hcx ‹_›))
end
section
open Go Go.Sk Go.RowKit Go.ChangeShapes Go.WideShapes
set_option maxRecDepth 100000 in
theorem decideHappens_calls {H:Type}{enc:TypeId × Value→H}{W:World}{args:Array Value}{ds:List (DataW H)}{p:List MemPlace}
  (hA:DataW.TrodAll enc Tryz.prog W 0 (fun _=>true) true [48,28] args.toList ds p) (hz:∀ (j:Nat) t d,([48,28]:List TypeId)[j]?=some t→ds[j]?=some d→∀ n∈d.weights Tryz.prog t,n≤reachBytes) (hv:∀ (j:Nat) t v,([48,28]:List TypeId)[j]?=some t→args[j]?=some v→Value.okWide Tryz.prog W .any 0 t v) (hL:laidMetH Tryz.prog zC9 W) :
  Calls Tryz.prog 6 args W (Ret (.bool true) W):=by
 obtain⟨v0,v1,d0,d1,r0,r1,rfl,rfl,rfl,h0,h1⟩:=zHU hA
 obtain⟨s0,p0,rfl,hM0,hA0⟩:=zOH h0 (hz 0 _ _ rfl rfl) (hv 0 _ _ rfl rfl)
 obtain⟨c1,a1,cap1,rfl,hN1,hT1⟩:=zOi h1 (hz 1 _ _ rfl rfl) (hv 1 _ _ rfl rfl)
 exact c_lHap s0 p0 c1 hA0.acN hA0.insN hA0.rw hT1 W (zKm W) (zS3 hL) (zS1 hL) (zS2 hL) hM0 hN1
set_option maxRecDepth 100000 in
theorem decideHappens_lifted (os:Os)(started:os.Started)(H:Type)(enc:TypeId × Value→H) :
  ReturnsInHanded {} Tryz.checked os 6 .any (fun w args=>(Rows.decideHappensSpec.pre enc Tryz.prog Tryz.f6 [] false w args∧laidMetH Tryz.prog zC9 w)∧sizedMet enc Tryz.prog Tryz.f6 (OpenSpec.ofChange Rows.decideHappensSpec) false w args)
   (Rows.decideHappensSpec.post enc Tryz.prog Tryz.f6 false true false false):=by
 refine returnsInHanded_of_change_and (C:=Tryz.checked) (X:=fun w _=>laidMetH Tryz.prog zC9 w) (fun _ _ _ hh h=>h.of_heap hh) (by kernel_rfl) started (by kernel_rfl) Tryz.func6
  (ChangeSpec.witness_shaped (enc:=enc) (C:=Tryz.checked) (os:=os) (X:=fun w _=>laidMetH Tryz.prog zC9 w) false (World.doorLaid Tryz.prog 600 os) #[.agg #[.int .i64 0,.int .i64 0,.int .i64 0,.int .i64 0,.slice none 0 0,.slice none 0 0,.slice none 0 0,.slice none 0 0,.slice none 0 0],.agg #[.int .u8 0,.slice none 0 0,.string ByteArray.empty]] 8 rfl (World.shaped_of_RefB (by kernel_rfl) (by kernel_rfl)) (by kernel_rfl) (by kernel_rfl) (by kernel_rfl) (zLv os _)) ?_
 intro W base args ds gs before hval hW _ hsz hL _
 have hA:DataW.TrodAll enc Tryz.prog W 0 (fun _=>true) true [48,28] args.toList ds hW.choose:=hW.choose_spec.choose_spec.1
 refine(decideHappens_calls hA (fun j t d h1 h2=>zKp hsz (Eq.trans ?_ h1) h2) (fun j t v h1 h2=>?_) hL).mono fun e W' ⟨he,hc⟩=>?_
 ·exact congrArg (fun l:List TypeId=>l[j]?) (by kernel_rfl)
 ·refine hval j t v (Eq.trans ?_ h1) h2
  rw[← Array.getElem?_toList]
  exact congrArg (fun l:List TypeId=>l[j]?) (by kernel_rfl)
 ·have hds:∃ q,hW.choose=q:=⟨_,rfl⟩
  obtain⟨q,hq⟩:=hds
  rw[hq] at hA
  refine⟨_,he,zKk (tb:=4) (by kernel_rfl) rfl (by kernel_rfl) rfl (sg.desc rfl rfl) ?_ hW hc⟩
  clear hq
  obtain⟨v0,v1,d0,d1,r0,r1,_,rfl,_⟩:=zHU hA
  rfl
end
end Go.Proofs.YthbflajpdhgfiaaGreatDoor
