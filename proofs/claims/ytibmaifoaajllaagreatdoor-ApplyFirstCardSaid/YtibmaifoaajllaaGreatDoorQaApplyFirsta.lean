/- The statement ApplyFirstSaid, proved, and its tied card. -/
import Derived.ChangeKeysEq
import Derived.Deep.LoopGhost
import Derived.Deep.QuietTactic
import Derived.Deep.Slices
import Derived.KernelRfl
import Derived.LaidMore
import Derived.Laws.Bits64b
import Derived.Laws.IdiomStrings
import Derived.Laws.MakeOwn
import Derived.Laws.RangeString
import Derived.Laws.StructEq
import Derived.Lib.Mul64
import Derived.Maps.RangeRun
import Derived.OpenShut
import Derived.OrdersHeld
import Derived.ProofKit
import Derived.RangeFuncLeaves
import Derived.RangeFuncNested
import Derived.Shelf.SlLaysE
import Derived.Shelf.SlLaysF0
import Derived.Shelf.SlLaysM
import Derived.Shelf.SlSortCmp.NoneTotal
import Derived.Shelf.SlicesE.Compact
import Derived.Shelf.SortM.Plain
import Derived.Shelf.SortM.SortNone
import Derived.SizedLaws
import Derived.Sort.LoopGhostIn
import Derived.Stop.Joined
import Derived.TacticsIn
import Derived.Test.YtibmaifoaajllaaGreatDoorChecked
import Derived.Test.YtibmaifoaajllaaGreatDoorProg
import Derived.Test.YtibmaifoaajllaaGreatDoorRows
import Derived.WalkKit
import Derived.WalkSpells
import Derived.Test.YtibmaifoaajllaaGreatDoorQa48
import Derived.Test.YtibmaifoaajllaaGreatDoorQa49
set_option linter.unusedSimpArgs false
set_option linter.unusedVariables false
set_option maxHeartbeats 16000000
namespace Go.Proofs.YtibmaifoaajllaaGreatDoor
section
open Go Go.Sk Go.RowKit
attribute [local irreducible] Go.Calls
theorem IsRow.uniq {l:List Auc}{clock:Int}{r r':List Auc}(h:IsRow l clock r)(h':IsRow l clock r'):r=r':=by
 rcases h with ⟨h0,h1,h2⟩|⟨h0,h1⟩
 ·rcases h' with ⟨_,k1,k2⟩|⟨k0,_⟩
  ·exact List.Perm.eq_of_pairwise (le:=ltA) (fun a b _ _ g1 g2=>by unfold ltA at *;omega) h1 k1 (h2.trans k2.symm)
  ·rw[h0] at k0;cases k0
 ·rcases h' with ⟨k0,_⟩|⟨_,k1⟩
  ·rw[h0] at k0;cases k0
  ·rw[h1,k1]
end
section
open Go Go.Sk Go.RowKit
theorem zLs (a b q:Int)(hab:a≠b):∀ l:List Odr,(∀ x∈l,x.left≠0)→zBs (zBs l a q) b q=(l.map (zCP a b q)).filter fun o=>decide (o.left≠0)
 | [],_=>rfl
 | x::l,h=>by
   have ih:=zLs a b q hab l fun y hy=>h y (zz5 _ hy)
   have hx:=h x (zz2 _)
   unfold zBs at ih ⊢
   rw[List.map_cons,List.map_cons,List.filter_cons,List.filter_cons]
   by_cases h1:x.id=a
   ·have e1:(if x.id=a then{ x with left:=x.left - q } else x)=zBM x q:=by rw[if_pos h1];rfl
    have e2:zCP a b q x=zBM x q:=by unfold zCP;rw[if_pos (.inl h1)]
    rw[e1,e2]
    by_cases h0:(zBM x q).left≠0
    ·rw[if_pos (decide_eq_true h0),if_pos (decide_eq_true h0),List.map_cons,List.filter_cons]
     have e3:(if (zBM x q).id=b then{ zBM x q with left:=(zBM x q).left - q } else zBM x q)=zBM x q:=if_neg (by show x.id≠b;rw[h1];exact hab)
     rw[e3,if_pos (decide_eq_true h0),ih]
    ·rw[if_neg (by simpa using h0),if_neg (by simpa using h0),ih]
   ·have e1:(if x.id=a then{ x with left:=x.left - q } else x)=x:=if_neg h1
    rw[e1,if_pos (decide_eq_true hx),List.map_cons,List.filter_cons]
    by_cases h2:x.id=b
    ·have e2:zCP a b q x=zBM x q:=by unfold zCP;rw[if_pos (.inr h2)]
     have e3:(if x.id=b then{ x with left:=x.left - q } else x)=zBM x q:=by rw[if_pos h2];rfl
     rw[e2,e3,ih]
    ·have e2:zCP a b q x=x:=by unfold zCP;rw[if_neg (fun e=>e.elim h1 h2)]
     have e3:(if x.id=b then{ x with left:=x.left - q } else x)=x:=if_neg h2
     rw[e2,e3,ih]
theorem zS3 {l:List Odr}(h:zd l=true){u:Odr}(hu:u∈l){i s:Int}(he:(zDF l i s).1.id=u.id):zDF l i s=(u,true):=by
 have hu1:=((zAP.1 h).2.1 u hu).1
 rw[zIU] at he ⊢
 cases hh:(zCT l i s).head? with
 | none=>rw[hh] at he;exact absurd he (by show(0:Int)≠u.id;omega)
 | some o =>
   rw[hh] at he
   have hm:o∈l:=(List.mem_filter.1 ((zC5 (i:=i) (s:=s) h).mem_iff.1 (List.mem_of_mem_head? hh))).1
   have e1:=zBd h hm
   have e2:=zBd h hu
   have he:o.id=u.id:=he
   rw[he,e2] at e1
   rw[(Prod.mk.inj e1).1]
theorem zP1 {s t:Sta}{n:List Int}(h:Good s)(he:zCK s n=(t,0)):∃ o u,TradeFx s t n o u:=by
 unfold zCK at he
 simp only at he
 by_cases h1:(zV s.orders (nF n 0)).2=true∧(zV s.orders (nF n 1)).2=true
 ·rw[if_pos h1] at he
  obtain⟨_,f1,f2⟩:=zCh h1.1
  obtain⟨_,g1,g2⟩:=zCh h1.2
  have fo:zV s.orders (nF n 0)=((zV s.orders (nF n 0)).1,true):=Prod.ext rfl h1.1
  have fu:zV s.orders (nF n 1)=((zV s.orders (nF n 1)).1,true):=Prod.ext rfl h1.2
  generalize (zV s.orders (nF n 0)).1=o at he f1 f2 fo
  generalize (zV s.orders (nF n 1)).1=u at he g1 g2 fu
  by_cases h2:zDH s n o u=true
  ·rw[if_pos h2] at he
   unfold zDH at h2
   simp only[Bool.and_eq_true,beq_iff_eq] at h2
   obtain⟨⟨⟨⟨⟨hl,hf⟩,hc⟩,hp⟩,hq⟩,hfee⟩:=h2
   obtain⟨mo,mu,hin,hsd,hpr⟩:=zIK hc
   by_cases h3:o.acct=u.acct
   ·rw[if_pos h3] at he;exact absurd (Prod.mk.inj he).2 (by decide)
   rw[if_neg h3] at he
   by_cases h4:(zj s (if o.side=2 then zA1 u o o.inst (nF n 2) (nF n 3) (nF n 4) else zA1 o u o.inst (nF n 2) (nF n 3) (nF n 4))).2≠0
   ·rw[if_pos h4] at he;rw[he] at h4;exact absurd rfl h4
   rw[if_neg h4] at he
   obtain rfl:=(Prod.mk.inj he).1
   have lo:=mo.2.2.2.2.2
   have lu:=mu.2.2.2.2.2
   have pu:=mu.2.2.2.2.1
   have q1:1≤nF n 3:=by omega
   have q2:nF n 3≤o.left:=by omega
   have q3:nF n 3≤u.left:=by omega
   have fx:=zHa h.ords f1 q1 q2
   have hne:u.id≠o.id:=fun e=>by
    have:=zBd h.ords f1
    rw[← e,zBd h.ords g1] at this
    have:=(Prod.mk.inj this).1
    rw[this] at hsd
    exact hsd rfl
   have hl0:∀ x∈s.orders,x.left≠0:=fun x hx=>by have:=((zAP.1 h.ords).2.1 x hx).2.2.2.2.2;omega
   have e1:(zAx (zAx s.orders o.id (nF n 3)).1 u.id (nF n 3)).1=zBs (zBs s.orders o.id (nF n 3)) u.id (nF n 3):=by
    rw[zDz h.ords f1 q1 q2,zDz fx.ok (fx.keep u g1 hne) q1 q3]
   have hmul:=zFl (p:=nF n 2) (q:=nF n 3) (by omega) (by omega) (by omega) (by omega)
   have hprod:0≤nF n 2*nF n 3∧nF n 2*nF n 3≤1125899906842624:=by omega
   have hm:(zHM (nF n 2) (nF n 3)).1=nF n 2*nF n 3:=by
    unfold zHM
    rw[if_neg (by omega),if_neg (by omega)]
   have uniq:∀ x∈s.orders,∀ y∈s.orders,x.id=y.id→x=y:=fun x hx y hy e=>by
    have:=zBd h.ords hx
    rw[e,zBd h.ords hy] at this
    exact(Prod.mk.inj this).1.symm
   have hval:∀ x∈s.orders,(zCP o.id u.id (nF n 3) x).left=if x=o∨x=u then x.left - nF n 3 else x.left:=fun x hx=>by
    unfold zCP
    by_cases c:x.id=o.id∨x.id=u.id
    ·rw[if_pos c,if_pos (c.imp (uniq x hx o f1) (uniq x hx u g1))];rfl
    ·rw[if_neg c,if_neg (fun e=>c (e.imp (congrArg Odr.id) (congrArg Odr.id)))]
   refine⟨o,u,fo,fu,zS3 h.ords g1 hf,hl,hsd,hin,h3,hc,hp,hprod,by rw[hfee,hm],⟨q1,q2,q3,by omega⟩,?_,fun x hx=>?_,?_⟩
   ·show(zAx (zAx s.orders o.id (nF n 3)).1 u.id (nF n 3)).1=_
    rw[e1,zLs _ _ _ (Ne.symm hne) _ hl0]
   ·rw[hval x hx]
    have:=((zAP.1 h.ords).2.1 x hx).2.2.2.2.2
    split
    ·rename_i c
     rcases c with rfl|rfl<;>omega
    ·omega
   ·rcases(show nF n 3=o.left∨nF n 3=u.left by omega) with e|e
    ·exact⟨o,f1,by rw[hval o f1,if_pos (.inl rfl)];omega⟩
    ·exact⟨u,g1,by rw[hval u g1,if_pos (.inr rfl)];omega⟩
  ·rw[if_neg h2] at he;exact absurd (Prod.mk.inj he).2 (by decide)
 ·rw[if_neg h1] at he;exact absurd (Prod.mk.inj he).2 (by decide)
theorem zKa {s t:Sta}{e:Evt}(hd:zk s e=(t,0))(hk:e.kind=13):∃ o u,TradeFx s t e.nums o u:=by
 obtain⟨g1,_,_,_,_,hd⟩:=zBI hd
 rw[hk] at hd
 exact zP1 g1 hd
def nzO (o:Odr):Bool:=decide (o.left≠0)
def atO (L:List Odr)(k:Nat):Nat:=((L.take k).filter nzO).length
theorem at_le (L:List Odr)(k:Nat):atO L k≤k:=Nat.le_trans (List.length_filter_le _ _) (by rw[List.length_take];omega)
theorem zS4 (L:List Odr):atO L L.length=(L.filter nzO).length:=by unfold atO;rw[List.take_length]
theorem zUY {L:List Odr}{k:Nat}(hk:k<L.length):atO L (k+1)=atO L k+if (od_ L k).left≠0 then 1 else 0:=by
 have e:od_ L k=L[k]:=by unfold od_;rw[List.getD_eq_getElem?_getD,List.getElem?_eq_getElem hk];rfl
 unfold atO
 rw[List.take_succ_eq_append_getElem hk,List.filter_append,List.length_append,e]
 by_cases h:L[k].left≠0
 ·rw[if_pos h,List.filter_cons_of_pos (by unfold nzO;exact decide_eq_true h)];rfl
 ·rw[if_neg h,List.filter_cons_of_neg (by unfold nzO;simpa using h)];rfl
theorem at_nz {L:List Odr}{k:Nat}(hk:k<L.length)(h:(od_ L k).left≠0):atO L k<(L.filter nzO).length∧od_ (L.filter nzO) (atO L k)=od_ L k:=by
 have e:od_ L k=L[k]:=by unfold od_;rw[List.getD_eq_getElem?_getD,List.getElem?_eq_getElem hk];rfl
 have e1:L=L.take k++L[k]::L.drop (k+1):=by rw[List.getElem_cons_drop,List.take_append_drop]
 have e2:L.filter nzO=(L.take k).filter nzO++L[k]::(L.drop (k+1)).filter nzO:=by
  conv=>lhs;rw[e1]
  rw[List.filter_append,List.filter_cons_of_pos (by unfold nzO;rw[← e];exact decide_eq_true h)]
 have e3:(L.filter nzO)[atO L k]?=some L[k]:=by
  unfold atO
  rw[e2,List.getElem?_append_right (Nat.le_refl _)]
  simp
 refine⟨?_,?_⟩
 ·rw[e2,List.length_append,List.length_cons];unfold atO;omega
 ·rw[e];unfold od_;rw[List.getD_eq_getElem?_getD,e3];rfl
theorem zUZ {L:List Odr}{x:Odr}(hx:x∈L)(h:x.left=0):atO L L.length<L.length:=by
 rw[zS4]
 induction L with
 | nil=>cases hx
 | cons y l ih =>
   rw[List.filter_cons,List.length_cons]
   rcases List.mem_cons.1 hx with rfl|hm
   ·rw[if_neg (by unfold nzO;simpa using h)]
    have:=List.length_filter_le nzO l;omega
   ·have:=ih hm
    split
    ·rw[List.length_cons];omega
    ·omega
theorem od_map {l:List Odr}{f:Odr→Odr}{k:Nat}(hk:k<l.length):od_ (l.map f) k=f (od_ l k):=by
 unfold od_
 rw[List.getD_eq_getElem?_getD,List.getD_eq_getElem?_getD,List.getElem?_map,List.getElem?_eq_getElem hk]
 rfl
theorem zUa {s t:Sta}{n:List Int}{o u:Odr}(h:TradeFx s t n o u):∃ x∈s.orders.map (zCP o.id u.id (nF n 3)),x.left=0:=by
 obtain⟨_,f1,_⟩:=zCh (l:=s.orders) (id:=nF n 0) (by rw[h.fo])
 obtain⟨_,g1,_⟩:=zCh (l:=s.orders) (id:=nF n 1) (by rw[h.fu])
 rw[h.fo] at f1
 rw[h.fu] at g1
 have f1:o∈s.orders:=f1
 have g1:u∈s.orders:=g1
 obtain⟨_,_,_,e|e⟩:=h.qty
 ·refine⟨_,List.mem_map.2 ⟨o,f1,rfl⟩,?_⟩
  unfold zCP
  rw[if_pos (.inl rfl)]
  show o.left - nF n 3=0;omega
 ·refine⟨_,List.mem_map.2 ⟨u,g1,rfl⟩,?_⟩
  unfold zCP
  rw[if_pos (.inr rfl)]
  show u.left - nF n 3=0;omega
end
section
open Go Go.Sk Go.RowKit
attribute [local irreducible] Go.Calls
theorem zOh (u:Odr):(!((u.id==u.id)&&((u.acct==u.acct)&&((u.inst==u.inst)&&((u.side==u.side)&&((u.price==u.price)&&((u.left==u.left)&&true)))))))=false:=by simp
theorem zS5 {F:zH}(s:Sta)(p:SPt)(e:Evt)(q:EPt)(hac:∀ k,k<s.accts.length→(ac_ s.accts k).name.size≤140737488355328)(hin:∀ k,k<s.insts.length→(in_ s.insts k).name.size≤140737488355328)(hr:∀ j,j<s.rows.length→(rw_ s.rows j).wf)(hT:zFq e)(w0:World)(hF:Mem w0 F)(hP:PriM F)(hK:KinM F)(hs:StaM F s p)(hM:EvtM F e q) :
  Calls Tryz.prog 4 [.agg (s.cells p).toArray,.agg (e.cells q).toArray].toArray w0 (Ret (.bool true) w0):=by
 have hlg:=fun w (hG:Mem w F)=>zFE s p hac hin w hG hs
 have hod:=fun w (hG:Mem w F)=>zK4 e q w hG hM
 have haw:=fun w (hG:Mem w F)=>zFO w hG hP hK
 by_cases hg:zCu s=false∧zGn e=false
 rotate_left
 ·refine enter [.tmp 4] Tryz.func4 rfl Tryz.ntmps4 rfl rfl ?_
  have H:=zB w0
  repeat' (first|refine yT ?_|refine y7 sg H ?_|refine y8 sg H ?_|(refine y9 H ?_;intro b w H)|(refine y10 sg H ?_;intro b w H)|(refine y11 sg H ?_;intro w H)|refine y12 ?_|(refine' y30 zAa ?_ ?_;rotate_left;exact hlg _ (H.memF hF);intro w hcl;replace H:=H.ext hcl;clear hcl)|(refine' y31 zAa ?_ ?_;rotate_left;exact(fun _ hcl=>hlg _ ((H.ext hcl).memF hF)))|(refine' y30 zAr ?_ ?_;rotate_left;exact hod _ (H.memF hF);intro w hcl;replace H:=H.ext hcl;clear hcl)|(refine' y31 zAr ?_ ?_;rotate_left;exact(fun _ hcl=>hod _ ((H.ext hcl).memF hF)))|(refine' y30 zAb ?_ ?_;rotate_left;exact haw _ (H.memF hF);intro w hcl;replace H:=H.ext hcl;clear hcl)|(refine' y31 zAb ?_ ?_;rotate_left;exact(fun _ hcl=>haw _ ((H.ext hcl).memF hF)))|refine yU ?_|(refine y17 ?_ ?_;all_goals(intro h;try (exfalso;first|((exact absurd h (by decide));done)|((exact hg ⟨‹_›,‹_›⟩);done))))|(refine y18 ?_ ?_;all_goals(intro h;try (exfalso;first|((exact absurd h (by decide));done)|((exact hg ⟨‹_›,‹_›⟩);done))))|(with_reducible apply zL;intro w hcl;replace H:=H.ext hcl;clear hcl)|refine y20 mixed ?_|with_reducible apply zA|(refine y23 ?_ ?_;all_goals(intro h;try (exfalso;first|((exact absurd h (by decide));done)|((exact hg ⟨‹_›,‹_›⟩);done))))|fail)
  all_goals exact zQ rfl H.cl rfl
 obtain⟨h1,h2⟩:=hg
 have hW:=zFP (zDv h1) hr
 rw[h1] at hlg
 rw[h2] at hod
 have cA:=fun w (G:zH) (hG:Mem w (G++F))=>zDS (s:=s) (p:=p) hW e q hT w hG (hP.mono (zz8 _ _)) (hK.mono (zz8 _ _)) (hs.mono (zz8 _ _)) (hM.mono (zz8 _ _))
 obtain⟨⟨t,r⟩,hE⟩:∃ r,zk s e=r:=⟨_,rfl⟩
 have ltA:=zE7 hE
 rw[hE] at cA
 by_cases hr0:r=0∧e.kind=13
 rotate_left
 ·by_cases hr1:r=0
  ·subst hr1
   have d3:(e.kind != 13)=true:=bne_iff_ne.2 fun g=>hr0 ⟨rfl,g⟩
   refine enter [.tmp 4] Tryz.func4 rfl Tryz.ntmps4 rfl rfl ?_
   have H:=zB w0
   repeat' (first|refine yT ?_|refine y7 sg H ?_|refine y8 sg H ?_|(refine y9 H ?_;intro b w H)|(refine y10 sg H ?_;intro b w H)|(refine y11 sg H ?_;intro w H)|refine y12 ?_|(refine' y30 zAa ?_ ?_;rotate_left;exact hlg _ (H.memF hF);intro w hcl;replace H:=H.ext hcl;clear hcl)|(refine' y31 zAa ?_ ?_;rotate_left;exact(fun _ hcl=>hlg _ ((H.ext hcl).memF hF)))|(refine' y30 zAr ?_ ?_;rotate_left;exact hod _ (H.memF hF);intro w hcl;replace H:=H.ext hcl;clear hcl)|(refine' y31 zAr ?_ ?_;rotate_left;exact(fun _ hcl=>hod _ ((H.ext hcl).memF hF)))|(refine' y30 zAb ?_ ?_;rotate_left;exact haw _ (H.memF hF);intro w hcl;replace H:=H.ext hcl;clear hcl)|(refine' y31 zAb ?_ ?_;rotate_left;exact(fun _ hcl=>haw _ ((H.ext hcl).memF hF)))|(refine' y32 zBr ?_ ?_;rotate_left;exact cA _ _ (H.all hF);intro v M w hR hS;replace H:=H.addR hS;clear hS;(try simp only[List.cons_append,List.nil_append] at H);obtain⟨pA,rfl,hsA⟩:=StC.sta hR ltA)|refine yU ?_|(refine y17 ?_ ?_;all_goals(intro h;try (exfalso;first|((exact absurd h (by decide));done)|((cases d3.symm.trans h);done))))|(refine y18 ?_ ?_;all_goals(intro h;try (exfalso;first|((exact absurd h (by decide));done)|((cases d3.symm.trans h);done))))|(with_reducible apply zL;intro w hcl;replace H:=H.ext hcl;clear hcl)|refine y20 mixed ?_|with_reducible apply zA|(refine y23 ?_ ?_;all_goals(intro h;try (exfalso;first|((exact absurd h (by decide));done)|((cases d3.symm.trans h);done))))|fail)
   exact zQ rfl H.cl rfl
  ·have ez:=zD3 (s:=s) (e:=e) (by rw[hE];exact hr1)
   rw[hE] at ez
   simp only at ez
   subst ez
   have d1:(r != 0)=true:=by simpa using hr1
   have d2:(r==0)=false:=by simpa using hr1
   refine enter [.tmp 4] Tryz.func4 rfl Tryz.ntmps4 rfl rfl ?_
   have H:=zB w0
   repeat' (first|refine yT ?_|refine y7 sg H ?_|refine y8 sg H ?_|(refine y9 H ?_;intro b w H)|(refine y10 sg H ?_;intro b w H)|(refine y11 sg H ?_;intro w H)|refine y12 ?_|(refine' y30 zAa ?_ ?_;rotate_left;exact hlg _ (H.memF hF);intro w hcl;replace H:=H.ext hcl;clear hcl)|(refine' y31 zAa ?_ ?_;rotate_left;exact(fun _ hcl=>hlg _ ((H.ext hcl).memF hF)))|(refine' y30 zAr ?_ ?_;rotate_left;exact hod _ (H.memF hF);intro w hcl;replace H:=H.ext hcl;clear hcl)|(refine' y31 zAr ?_ ?_;rotate_left;exact(fun _ hcl=>hod _ ((H.ext hcl).memF hF)))|(refine' y30 zAb ?_ ?_;rotate_left;exact haw _ (H.memF hF);intro w hcl;replace H:=H.ext hcl;clear hcl)|(refine' y31 zAb ?_ ?_;rotate_left;exact(fun _ hcl=>haw _ ((H.ext hcl).memF hF)))|(refine' y32 zBr ?_ ?_;rotate_left;exact cA _ _ (H.all hF);intro v M w hR hS;replace H:=H.addR hS;clear hS;(try simp only[List.cons_append,List.nil_append] at H);obtain⟨pA,rfl,hsA⟩:=StC.sta hR ltA)|refine yU ?_|(refine y17 ?_ ?_;all_goals(intro h;try (exfalso;first|((exact absurd h (by decide));done)|((cases d1.symm.trans h);done)|((cases d2.symm.trans h);done))))|(refine y18 ?_ ?_;all_goals(intro h;try (exfalso;first|((exact absurd h (by decide));done)|((cases d1.symm.trans h);done)|((cases d2.symm.trans h);done))))|(with_reducible apply zL;intro w hcl;replace H:=H.ext hcl;clear hcl)|refine y20 mixed ?_|with_reducible apply zA|(refine y23 ?_ ?_;all_goals(intro h;try (exfalso;first|((exact absurd h (by decide));done)|((cases d1.symm.trans h);done)|((cases d2.symm.trans h);done))))|fail)
   exact zQ rfl H.cl rfl
 obtain⟨rfl,hk13⟩:=hr0
 obtain⟨gs,gt,ev,hv3,hmay,hdo⟩:=zBI hE
 obtain⟨o,u,fx⟩:=zKa hE hk13
 have hlen:=ev.len
 rw[hk13] at hlen
 have hgone:=zUa fx
 obtain⟨ev',ek,en,et⟩:=e
 obtain⟨na,nc,ta,tc⟩:=q
 simp only at hk13 fx hlen hgone
 subst hk13
 have hl:en.length=5:=hlen
 have hN:Ints F na nc en:=hM.nums
 obtain⟨hn2,hc2,b2,off2,cs2,T2,fr2,hs2⟩:=id hN
 have cF1:=fun w (G:zH) (hG:Mem w (G++F))=>zFu s.orders (nF en 0) w hG (SlA.mono hs.od (zz8 _ _))
 have cF2:=fun w (G:zH) (hG:Mem w (G++F))=>zFu s.orders (nF en 1) w hG (SlA.mono hs.od (zz8 _ _))
 have cFi:=fun w (hG:Mem w F)=>zOC s.orders u.inst u.side w hG hP hs.od
 have cX:=fun w (hG:Mem w F)=>zJM o u w hG hP
 have hpr:=fx.prod
 have hwq:IntKind.i64.wrap (nF en 2*nF en 3)=nF en 2*nF en 3:=w64 (by omega) (by omega)
 have cFe:=fun w (hG:Mem w F)=>zM7 hW (fun _=>(zx.1 gs.nums).2.1) (IntKind.i64.wrap (nF en 2*nF en 3)) (by rw[hwq];omega) w hG hs
 rw[fx.fo] at cF1
 rw[fx.fu] at cF2
 rw[fx.fst] at cFi
 rw[fx.cross] at cX
 have hfee:(zBt (IntKind.i64.wrap (nF en 2*nF en 3)) s.fee).1=nF en 4:=by rw[hwq];exact fx.fee.symm
 rw[if_pos (zAl.2 gs),hfee] at cFe
 have hno:=(zx.1 gs.nums).2.2.1
 have d1:(o.id != IntKind.i64.wrap (s.nextO - 1))=false:=by rw[w64 (by omega) (by omega),fx.last];simp
 have d2:=zOh u
 have d3:(o.side==u.side)=false:=beq_eq_false_iff_ne.2 fx.side
 have d4:(o.inst != u.inst)=false:=by rw[fx.inst];simp
 have d5:(o.acct==u.acct)=false:=beq_eq_false_iff_ne.2 fx.acct
 have d6:(nF en 2 != u.price)=false:=by rw[fx.price];simp
 have d7:(nF en 4 != nF en 4)=false:=by simp
 refine enter [.tmp 4] Tryz.func4 rfl Tryz.ntmps4 rfl rfl ?_
 have H:=zB w0
 repeat' (first|refine yT ?_|refine y7 sg H ?_|refine y8 sg H ?_|(refine y9 H ?_;intro b w H)|(refine y10 sg H ?_;intro b w H)|(refine y11 sg H ?_;intro w H)|refine y12 ?_|(refine' y30 zAa ?_ ?_;rotate_left;exact hlg _ (H.memF hF);intro w hcl;replace H:=H.ext hcl;clear hcl)|(refine' y31 zAa ?_ ?_;rotate_left;exact(fun _ hcl=>hlg _ ((H.ext hcl).memF hF)))|(refine' y30 zAr ?_ ?_;rotate_left;exact hod _ (H.memF hF);intro w hcl;replace H:=H.ext hcl;clear hcl)|(refine' y31 zAr ?_ ?_;rotate_left;exact(fun _ hcl=>hod _ ((H.ext hcl).memF hF)))|(refine' y30 zAb ?_ ?_;rotate_left;exact haw _ (H.memF hF);intro w hcl;replace H:=H.ext hcl;clear hcl)|(refine' y31 zAb ?_ ?_;rotate_left;exact(fun _ hcl=>haw _ ((H.ext hcl).memF hF)))|(refine' y32 zBr ?_ ?_;rotate_left;exact cA _ _ (H.all hF);intro v M w hR hS;replace H:=H.addR hS;clear hS;(try simp only[List.cons_append,List.nil_append] at H);obtain⟨pA,rfl,hsA⟩:=StC.sta hR ltA)|refine yU ?_|(refine y17 ?_ ?_;all_goals(intro h;try (exfalso;first|((exact absurd h (by decide));done))))|(refine y18 ?_ ?_;all_goals(intro h;try (exfalso;first|((exact absurd h (by decide));done))))|(with_reducible apply zL;intro w hcl;replace H:=H.ext hcl;clear hcl)|with_reducible apply zA|fail)
 refine CW.named (fun en1 w=>∃ bs be b5 N en',en1=ovl [(2,.pointer (some ⟨bs,0,none⟩)),(3,.pointer (some ⟨be,0,none⟩)),(5,.pointer (some ⟨b5,0,none⟩))] en'∧St w0 N w∧cb bs (s.cells p) 28∈N∧cb be ((⟨ev',13,en,et⟩:Evt).cells ⟨na,nc,ta,tc⟩) 32∈N∧cb b5 (t.cells pA) 28∈N∧StaM N t pA) ⟨_,_,_,_,_,zAZ rfl rfl rfl,H,qC,qC,qC,hsA.mono qS⟩ ?_
 clear H hsA
 rintro _ w ⟨bs,be,b5,N,_,rfl,H,hbs,hbe,hb5,hsA⟩
 have H0:=H
 have hF1:=H.all hF
 clear H
 obtain⟨w1,rfl⟩:∃ w1,w1=w:=⟨w,rfl⟩
 have H:=zB w1
 have hs2F:=hs2.mono (List.subset_append_right N F)
 (try with_reducible apply zBW)
 refine CW.cutT (fun en1 w=>∃ bo N' en',en1=ovl [(2,.pointer (some ⟨bs,0,none⟩)),(3,.pointer (some ⟨be,0,none⟩)),(5,.pointer (some ⟨b5,0,none⟩)),(7,.pointer (some ⟨bo,0,none⟩)),(8,.bool true)] en'∧St w0 N' w∧N⊆N'∧cb bo o.cells 43∈N') ?_ ?_
 ·repeat' (first|refine yT ?_|refine y7 sg H ?_|refine y8 sg H ?_|(refine y9 H ?_;intro b w H)|(refine y10 sg H ?_;intro b w H)|(refine y11 sg H ?_;intro w H)|refine y12 ?_|(refine CW.regionL mixed 13 (H.memF hF1) [] ?_ ?_;exact rfl;intro w hcl;replace H:=H.ext hcl;clear hcl;have qh:=H.memF hF1;refine' l1 0 qh ?_ ?_;rotate_left;(first|exact z4 sg|exact(fun w2 hM2=>zG sg rfl rfl hM2 (zz6 _ hbs) rfl rfl)|exact(fun w2 hM2=>zG sg rfl rfl hM2 (zz6 _ hbe) rfl rfl)|exact(fun w2 _=>zF sg hs2 rfl rfl rfl rfl rfl rfl rfl (by first|with_reducible exact zz1 _|exact zD (by omega) (by omega)|with_reducible exact zI|exact zC _) (by omega) (by omega))|exact(fun w2 hM2=>Yq.loadB1 sg hs2F hM2 rfl rfl rfl rfl (show 0<en.length by omega) rfl));refine' l1 1 qh ?_ ?_;rotate_left;(first|exact z4 sg|exact(fun w2 hM2=>zG sg rfl rfl hM2 (zz6 _ hbs) rfl rfl)|exact(fun w2 hM2=>zG sg rfl rfl hM2 (zz6 _ hbe) rfl rfl)|exact(fun w2 _=>zF sg hs2 rfl rfl rfl rfl rfl rfl rfl (by first|with_reducible exact zz1 _|exact zD (by omega) (by omega)|with_reducible exact zI|exact zC _) (by omega) (by omega))|exact(fun w2 hM2=>Yq.loadB1 sg hs2F hM2 rfl rfl rfl rfl (show 0<en.length by omega) rfl));refine' l1 2 qh ?_ ?_;rotate_left;(first|exact z4 sg|exact(fun w2 hM2=>zG sg rfl rfl hM2 (zz6 _ hbs) rfl rfl)|exact(fun w2 hM2=>zG sg rfl rfl hM2 (zz6 _ hbe) rfl rfl)|exact(fun w2 _=>zF sg hs2 rfl rfl rfl rfl rfl rfl rfl (by first|with_reducible exact zz1 _|exact zD (by omega) (by omega)|with_reducible exact zI|exact zC _) (by omega) (by omega))|exact(fun w2 hM2=>Yq.loadB1 sg hs2F hM2 rfl rfl rfl rfl (show 0<en.length by omega) rfl));refine' l1 3 qh ?_ ?_;rotate_left;(first|exact z4 sg|exact(fun w2 hM2=>zG sg rfl rfl hM2 (zz6 _ hbs) rfl rfl)|exact(fun w2 hM2=>zG sg rfl rfl hM2 (zz6 _ hbe) rfl rfl)|exact(fun w2 _=>zF sg hs2 rfl rfl rfl rfl rfl rfl rfl (by first|with_reducible exact zz1 _|exact zD (by omega) (by omega)|with_reducible exact zI|exact zC _) (by omega) (by omega))|exact(fun w2 hM2=>Yq.loadB1 sg hs2F hM2 rfl rfl rfl rfl (show 0<en.length by omega) rfl));refine' l1 4 qh ?_ ?_;rotate_left;(first|exact z4 sg|exact(fun w2 hM2=>zG sg rfl rfl hM2 (zz6 _ hbs) rfl rfl)|exact(fun w2 hM2=>zG sg rfl rfl hM2 (zz6 _ hbe) rfl rfl)|exact(fun w2 _=>zF sg hs2 rfl rfl rfl rfl rfl rfl rfl (by first|with_reducible exact zz1 _|exact zD (by omega) (by omega)|with_reducible exact zI|exact zC _) (by omega) (by omega))|exact(fun w2 hM2=>Yq.loadB1 sg hs2F hM2 rfl rfl rfl rfl (show 0<en.length by omega) rfl));refine' l1 5 qh ?_ ?_;rotate_left;(first|exact z4 sg|exact(fun w2 hM2=>zG sg rfl rfl hM2 (zz6 _ hbs) rfl rfl)|exact(fun w2 hM2=>zG sg rfl rfl hM2 (zz6 _ hbe) rfl rfl)|exact(fun w2 _=>zF sg hs2 rfl rfl rfl rfl rfl rfl rfl (by first|with_reducible exact zz1 _|exact zD (by omega) (by omega)|with_reducible exact zI|exact zC _) (by omega) (by omega))|exact(fun w2 hM2=>Yq.loadB1 sg hs2F hM2 rfl rfl rfl rfl (show 0<en.length by omega) rfl)))|((with_reducible apply RL.nil);decide +kernel)|(refine' l1 7 (H.memF hF1) ?_ ?_;rotate_left;(first|exact z4 sg|exact(fun w2 hM2=>zG sg rfl rfl hM2 (zz6 _ hbs) rfl rfl)|exact(fun w2 hM2=>zG sg rfl rfl hM2 (zz6 _ hbe) rfl rfl)|exact(fun w2 _=>zF sg hs2 rfl rfl rfl rfl rfl rfl rfl (by first|with_reducible exact zz1 _|exact zD (by omega) (by omega)|with_reducible exact zI|exact zC _) (by omega) (by omega))|exact(fun w2 hM2=>Yq.loadB1 sg hs2F hM2 rfl rfl rfl rfl (show 0<en.length by omega) rfl)))|(refine' l1 8 (H.memF hF1) ?_ ?_;rotate_left;(first|exact z4 sg|exact(fun w2 hM2=>zG sg rfl rfl hM2 (zz6 _ hbs) rfl rfl)|exact(fun w2 hM2=>zG sg rfl rfl hM2 (zz6 _ hbe) rfl rfl)|exact(fun w2 _=>zF sg hs2 rfl rfl rfl rfl rfl rfl rfl (by first|with_reducible exact zz1 _|exact zD (by omega) (by omega)|with_reducible exact zI|exact zC _) (by omega) (by omega))|exact(fun w2 hM2=>Yq.loadB1 sg hs2F hM2 rfl rfl rfl rfl (show 0<en.length by omega) rfl)))|(refine' l1 9 (H.memF hF1) ?_ ?_;rotate_left;(first|exact z4 sg|exact(fun w2 hM2=>zG sg rfl rfl hM2 (zz6 _ hbs) rfl rfl)|exact(fun w2 hM2=>zG sg rfl rfl hM2 (zz6 _ hbe) rfl rfl)|exact(fun w2 _=>zF sg hs2 rfl rfl rfl rfl rfl rfl rfl (by first|with_reducible exact zz1 _|exact zD (by omega) (by omega)|with_reducible exact zI|exact zC _) (by omega) (by omega))|exact(fun w2 hM2=>Yq.loadB1 sg hs2F hM2 rfl rfl rfl rfl (show 0<en.length by omega) rfl)))|(refine' l1 12 (H.memF hF1) ?_ ?_;rotate_left;(first|exact z4 sg|exact(fun w2 hM2=>zG sg rfl rfl hM2 (zz6 _ hbs) rfl rfl)|exact(fun w2 hM2=>zG sg rfl rfl hM2 (zz6 _ hbe) rfl rfl)|exact(fun w2 _=>zF sg hs2 rfl rfl rfl rfl rfl rfl rfl (by first|with_reducible exact zz1 _|exact zD (by omega) (by omega)|with_reducible exact zI|exact zC _) (by omega) (by omega))|exact(fun w2 hM2=>Yq.loadB1 sg hs2F hM2 rfl rfl rfl rfl (show 0<en.length by omega) rfl)))|refine l2 6 ?_|refine l2 10 ?_|refine l2 11 ?_|refine l4 6 10 ?_ ?_|(refine l5 (H.memF hF1) ?_)|(refine' y30 zFV ?_ ?_;rotate_left;exact cF1 _ _ (H.memF hF1);intro w hcl;replace H:=H.ext hcl;clear hcl)|(refine' y31 zFV ?_ ?_;rotate_left;exact(fun _ hcl=>cF1 _ _ ((H.ext hcl).memF hF1)))|refine yU ?_|(refine y17 ?_ ?_;all_goals intro h)|(refine y18 ?_ ?_;all_goals intro h)|(with_reducible apply zL;intro w hcl;replace H:=H.ext hcl;clear hcl)|with_reducible apply zA|fail)
  all_goals exact⟨_,_,_,za rfl (za rfl (zAZ rfl rfl rfl)),H0.addR H,by intro q hq;simp[hq],zz3 _ qC⟩
 clear H H0 hF1 hs2F
 rintro _ w ⟨bo,N',_,rfl,H,hsub,hbo⟩
 replace hbs:=hsub hbs
 replace hbe:=hsub hbe
 replace hb5:=hsub hb5
 replace hsA:=hsA.mono hsub
 clear hsub
 obtain⟨N,rfl⟩:∃ N,N=N':=⟨N',rfl⟩
 have H0:=H
 have hF1:=H.all hF
 clear H
 obtain⟨w1,rfl⟩:∃ w1,w1=w:=⟨w,rfl⟩
 have H:=zB w1
 have hs2F:=hs2.mono (List.subset_append_right N F)
 (try with_reducible apply zBW)
 refine CW.cutT (fun en1 w=>∃ bu N' en',en1=ovl [(2,.pointer (some ⟨bs,0,none⟩)),(3,.pointer (some ⟨be,0,none⟩)),(5,.pointer (some ⟨b5,0,none⟩)),(7,.pointer (some ⟨bo,0,none⟩)),(8,.bool true),(9,.pointer (some ⟨bu,0,none⟩)),(10,.bool true)] en'∧St w0 N' w∧N⊆N'∧cb bu u.cells 43∈N') ?_ ?_
 ·repeat' (first|refine yT ?_|refine y7 sg H ?_|refine y8 sg H ?_|(refine y9 H ?_;intro b w H)|(refine y10 sg H ?_;intro b w H)|(refine y11 sg H ?_;intro w H)|refine y12 ?_|(refine CW.regionL mixed 13 (H.memF hF1) [] ?_ ?_;exact rfl;intro w hcl;replace H:=H.ext hcl;clear hcl;have qh:=H.memF hF1;refine' l1 0 qh ?_ ?_;rotate_left;(first|exact z4 sg|exact(fun w2 hM2=>zG sg rfl rfl hM2 (zz6 _ hbs) rfl rfl)|exact(fun w2 hM2=>zG sg rfl rfl hM2 (zz6 _ hbe) rfl rfl)|exact(fun w2 _=>zF sg hs2 rfl rfl rfl rfl rfl rfl rfl (by first|with_reducible exact zz1 _|exact zD (by omega) (by omega)|with_reducible exact zI|exact zC _) (by omega) (by omega))|exact(fun w2 hM2=>Yq.loadB1 sg hs2F hM2 rfl rfl rfl rfl (show 1<en.length by omega) rfl));refine' l1 1 qh ?_ ?_;rotate_left;(first|exact z4 sg|exact(fun w2 hM2=>zG sg rfl rfl hM2 (zz6 _ hbs) rfl rfl)|exact(fun w2 hM2=>zG sg rfl rfl hM2 (zz6 _ hbe) rfl rfl)|exact(fun w2 _=>zF sg hs2 rfl rfl rfl rfl rfl rfl rfl (by first|with_reducible exact zz1 _|exact zD (by omega) (by omega)|with_reducible exact zI|exact zC _) (by omega) (by omega))|exact(fun w2 hM2=>Yq.loadB1 sg hs2F hM2 rfl rfl rfl rfl (show 1<en.length by omega) rfl));refine' l1 2 qh ?_ ?_;rotate_left;(first|exact z4 sg|exact(fun w2 hM2=>zG sg rfl rfl hM2 (zz6 _ hbs) rfl rfl)|exact(fun w2 hM2=>zG sg rfl rfl hM2 (zz6 _ hbe) rfl rfl)|exact(fun w2 _=>zF sg hs2 rfl rfl rfl rfl rfl rfl rfl (by first|with_reducible exact zz1 _|exact zD (by omega) (by omega)|with_reducible exact zI|exact zC _) (by omega) (by omega))|exact(fun w2 hM2=>Yq.loadB1 sg hs2F hM2 rfl rfl rfl rfl (show 1<en.length by omega) rfl));refine' l1 3 qh ?_ ?_;rotate_left;(first|exact z4 sg|exact(fun w2 hM2=>zG sg rfl rfl hM2 (zz6 _ hbs) rfl rfl)|exact(fun w2 hM2=>zG sg rfl rfl hM2 (zz6 _ hbe) rfl rfl)|exact(fun w2 _=>zF sg hs2 rfl rfl rfl rfl rfl rfl rfl (by first|with_reducible exact zz1 _|exact zD (by omega) (by omega)|with_reducible exact zI|exact zC _) (by omega) (by omega))|exact(fun w2 hM2=>Yq.loadB1 sg hs2F hM2 rfl rfl rfl rfl (show 1<en.length by omega) rfl));refine' l1 4 qh ?_ ?_;rotate_left;(first|exact z4 sg|exact(fun w2 hM2=>zG sg rfl rfl hM2 (zz6 _ hbs) rfl rfl)|exact(fun w2 hM2=>zG sg rfl rfl hM2 (zz6 _ hbe) rfl rfl)|exact(fun w2 _=>zF sg hs2 rfl rfl rfl rfl rfl rfl rfl (by first|with_reducible exact zz1 _|exact zD (by omega) (by omega)|with_reducible exact zI|exact zC _) (by omega) (by omega))|exact(fun w2 hM2=>Yq.loadB1 sg hs2F hM2 rfl rfl rfl rfl (show 1<en.length by omega) rfl));refine' l1 5 qh ?_ ?_;rotate_left;(first|exact z4 sg|exact(fun w2 hM2=>zG sg rfl rfl hM2 (zz6 _ hbs) rfl rfl)|exact(fun w2 hM2=>zG sg rfl rfl hM2 (zz6 _ hbe) rfl rfl)|exact(fun w2 _=>zF sg hs2 rfl rfl rfl rfl rfl rfl rfl (by first|with_reducible exact zz1 _|exact zD (by omega) (by omega)|with_reducible exact zI|exact zC _) (by omega) (by omega))|exact(fun w2 hM2=>Yq.loadB1 sg hs2F hM2 rfl rfl rfl rfl (show 1<en.length by omega) rfl)))|((with_reducible apply RL.nil);decide +kernel)|(refine' l1 7 (H.memF hF1) ?_ ?_;rotate_left;(first|exact z4 sg|exact(fun w2 hM2=>zG sg rfl rfl hM2 (zz6 _ hbs) rfl rfl)|exact(fun w2 hM2=>zG sg rfl rfl hM2 (zz6 _ hbe) rfl rfl)|exact(fun w2 _=>zF sg hs2 rfl rfl rfl rfl rfl rfl rfl (by first|with_reducible exact zz1 _|exact zD (by omega) (by omega)|with_reducible exact zI|exact zC _) (by omega) (by omega))|exact(fun w2 hM2=>Yq.loadB1 sg hs2F hM2 rfl rfl rfl rfl (show 1<en.length by omega) rfl)))|(refine' l1 8 (H.memF hF1) ?_ ?_;rotate_left;(first|exact z4 sg|exact(fun w2 hM2=>zG sg rfl rfl hM2 (zz6 _ hbs) rfl rfl)|exact(fun w2 hM2=>zG sg rfl rfl hM2 (zz6 _ hbe) rfl rfl)|exact(fun w2 _=>zF sg hs2 rfl rfl rfl rfl rfl rfl rfl (by first|with_reducible exact zz1 _|exact zD (by omega) (by omega)|with_reducible exact zI|exact zC _) (by omega) (by omega))|exact(fun w2 hM2=>Yq.loadB1 sg hs2F hM2 rfl rfl rfl rfl (show 1<en.length by omega) rfl)))|(refine' l1 9 (H.memF hF1) ?_ ?_;rotate_left;(first|exact z4 sg|exact(fun w2 hM2=>zG sg rfl rfl hM2 (zz6 _ hbs) rfl rfl)|exact(fun w2 hM2=>zG sg rfl rfl hM2 (zz6 _ hbe) rfl rfl)|exact(fun w2 _=>zF sg hs2 rfl rfl rfl rfl rfl rfl rfl (by first|with_reducible exact zz1 _|exact zD (by omega) (by omega)|with_reducible exact zI|exact zC _) (by omega) (by omega))|exact(fun w2 hM2=>Yq.loadB1 sg hs2F hM2 rfl rfl rfl rfl (show 1<en.length by omega) rfl)))|(refine' l1 12 (H.memF hF1) ?_ ?_;rotate_left;(first|exact z4 sg|exact(fun w2 hM2=>zG sg rfl rfl hM2 (zz6 _ hbs) rfl rfl)|exact(fun w2 hM2=>zG sg rfl rfl hM2 (zz6 _ hbe) rfl rfl)|exact(fun w2 _=>zF sg hs2 rfl rfl rfl rfl rfl rfl rfl (by first|with_reducible exact zz1 _|exact zD (by omega) (by omega)|with_reducible exact zI|exact zC _) (by omega) (by omega))|exact(fun w2 hM2=>Yq.loadB1 sg hs2F hM2 rfl rfl rfl rfl (show 1<en.length by omega) rfl)))|refine l2 6 ?_|refine l2 10 ?_|refine l2 11 ?_|refine l4 6 10 ?_ ?_|(refine l5 (H.memF hF1) ?_)|(refine' y30 zFV ?_ ?_;rotate_left;exact cF2 _ _ (H.memF hF1);intro w hcl;replace H:=H.ext hcl;clear hcl)|(refine' y31 zFV ?_ ?_;rotate_left;exact(fun _ hcl=>cF2 _ _ ((H.ext hcl).memF hF1)))|refine yU ?_|(refine y17 ?_ ?_;all_goals intro h)|(refine y18 ?_ ?_;all_goals intro h)|(with_reducible apply zL;intro w hcl;replace H:=H.ext hcl;clear hcl)|with_reducible apply zA|fail)
  all_goals exact⟨_,_,_,za rfl (za rfl (za rfl (za rfl (zAZ rfl rfl rfl)))),H0.addR H,by intro q hq;simp[hq],zz3 _ qC⟩
 clear H H0 hF1 hs2F
 rintro _ w ⟨bu,N',_,rfl,H,hsub,hbu⟩
 replace hbs:=hsub hbs
 replace hbe:=hsub hbe
 replace hb5:=hsub hb5
 replace hbo:=hsub hbo
 replace hsA:=hsA.mono hsub
 clear hsub
 obtain⟨N,rfl⟩:∃ N,N=N':=⟨N',rfl⟩
 repeat' (first|refine yT ?_|refine y7 sg H ?_|refine y8 sg H ?_|(refine y9 H ?_;intro b w H)|(refine y10 sg H ?_;intro b w H)|(refine y11 sg H ?_;intro w H)|refine y12 ?_|refine z13 (zG sg rfl rfl (H.mem.sub qS) hbs rfl rfl) ?_|((with_reducible apply zP);exact rfl;exact rfl;exact zG sg rfl rfl (H.mem.sub qS) hbs rfl rfl)|refine z13 (zG sg rfl rfl (H.mem.sub qS) hbe rfl rfl) ?_|((with_reducible apply zP);exact rfl;exact rfl;exact zG sg rfl rfl (H.mem.sub qS) hbe rfl rfl)|refine z13 (zG sg rfl rfl (H.mem.sub qS) hb5 rfl rfl) ?_|((with_reducible apply zP);exact rfl;exact rfl;exact zG sg rfl rfl (H.mem.sub qS) hb5 rfl rfl)|refine z13 (zG sg rfl rfl (H.mem.sub qS) hbo rfl rfl) ?_|((with_reducible apply zP);exact rfl;exact rfl;exact zG sg rfl rfl (H.mem.sub qS) hbo rfl rfl)|refine z13 (zG sg rfl rfl (H.mem.sub qS) hbu rfl rfl) ?_|((with_reducible apply zP);exact rfl;exact rfl;exact zG sg rfl rfl (H.mem.sub qS) hbu rfl rfl)|(refine y40 sg (hs2) ?_ ?_ ?_;(omega);(omega))|(refine y41 sg (hs2) ?_ ?_ ?_;(omega);(omega))|refine z13 (Yq.loadB1 sg hs2 (H.memF hF) rfl rfl rfl rfl (show 2<en.length by omega) rfl) ?_|((with_reducible apply zP);exact rfl;exact rfl;exact Yq.loadB1 sg hs2 (H.memF hF) rfl rfl rfl rfl (show 2<en.length by omega) rfl)|refine z13 (Yq.loadB1 sg hs2 (H.memF hF) rfl rfl rfl rfl (show 3<en.length by omega) rfl) ?_|((with_reducible apply zP);exact rfl;exact rfl;exact Yq.loadB1 sg hs2 (H.memF hF) rfl rfl rfl rfl (show 3<en.length by omega) rfl)|refine z13 (Yq.loadB1 sg hs2 (H.memF hF) rfl rfl rfl rfl (show 4<en.length by omega) rfl) ?_|((with_reducible apply zP);exact rfl;exact rfl;exact Yq.loadB1 sg hs2 (H.memF hF) rfl rfl rfl rfl (show 4<en.length by omega) rfl)|(refine zP rfl rfl (zEF sg (cs:=u.cells) (ds:=u.cells) zKW zKX rfl rfl rfl rfl rfl rfl rfl) ?_)|(refine' y30 zQI ?_ ?_;rotate_left;exact cFi _ (H.memF hF);intro w hcl;replace H:=H.ext hcl;clear hcl)|(refine' y31 zQI ?_ ?_;rotate_left;exact(fun _ hcl=>cFi _ ((H.ext hcl).memF hF)))|(refine' y30 zQJ ?_ ?_;rotate_left;exact cX _ (H.memF hF);intro w hcl;replace H:=H.ext hcl;clear hcl)|(refine' y31 zQJ ?_ ?_;rotate_left;exact(fun _ hcl=>cX _ ((H.ext hcl).memF hF)))|(refine' y30 zIu ?_ ?_;rotate_left;exact cFe _ (H.memF hF);intro w hcl;replace H:=H.ext hcl;clear hcl)|(refine' y31 zIu ?_ ?_;rotate_left;exact(fun _ hcl=>cFe _ ((H.ext hcl).memF hF)))|refine yU ?_|(refine y17 ?_ ?_;all_goals(intro h;try (exfalso;first|((exact absurd h (by decide));done)|((cases d1.symm.trans h);done)|((cases d2.symm.trans h);done)|((cases d3.symm.trans h);done)|((cases d4.symm.trans h);done)|((cases d5.symm.trans h);done)|((cases d6.symm.trans h);done)|((cases d7.symm.trans h);done))))|(refine y18 ?_ ?_;all_goals(intro h;try (exfalso;first|((exact absurd h (by decide));done)|((cases d1.symm.trans h);done)|((cases d2.symm.trans h);done)|((cases d3.symm.trans h);done)|((cases d4.symm.trans h);done)|((cases d5.symm.trans h);done)|((cases d6.symm.trans h);done)|((cases d7.symm.trans h);done))))|(with_reducible apply zL;intro w hcl;replace H:=H.ext hcl;clear hcl)|refine y20 mixed ?_|with_reducible apply zA|(refine y23 ?_ ?_;all_goals(intro h;try (exfalso;first|((exact absurd h (by decide));done)|((cases d1.symm.trans h);done)|((cases d2.symm.trans h);done)|((cases d3.symm.trans h);done)|((cases d4.symm.trans h);done)|((cases d5.symm.trans h);done)|((cases d6.symm.trans h);done)|((cases d7.symm.trans h);done))))|fail)
 obtain⟨L,hL⟩:∃ L,s.orders.map (zCP o.id u.id (nF en 3))=L:=⟨_,rfl⟩
 have hLl:L.length=s.orders.length:=by rw[← hL,List.length_map]
 have hto:t.orders=L.filter nzO:=by rw[← hL];exact fx.ords
 rw[hL] at hgone
 obtain⟨xg,hxg,hxg0⟩:=hgone
 have hat0:=zUZ hxg hxg0
 have hLk:∀ k,k<s.orders.length→od_ L k=zCP o.id u.id (nF en 3) (od_ s.orders k):=fun k hk=>by rw[← hL];exact od_map hk
 have hnn:∀ k,k<s.orders.length→0≤(od_ L k).left:=fun k hk=>by rw[hLk k hk];exact fx.nn _ (ze hk)
 obtain⟨ho1,ho2,_⟩:=zAP.1 gs.ords
 have hob:∀ k,k<s.orders.length→1≤(od_ s.orders k).left∧(od_ s.orders k).left≤1048576:=fun k hk=>(ho2 _ (ze hk)).2.2.2.2.2
 have hqb:=fx.qty
 obtain⟨hno2,hco2,bq,offq,csq,Tq,frq,hso⟩:=id hs.od
 obtain⟨hno3,hco3,bt,offt,cst,Tt,frt,hst⟩:=id hsA.od
 refine zM [(4,4),(14,17),(161,213)] (fun k:Nat=>[(14,.int .i64 ((k - atO L k:Nat):Int)),(15,.int .i64 ((atO L k:Nat):Int)),(16,.int .i64 (k:Int))]) (fun k w=>St w0 (cb _ u.cells 43::N) w∧k≤s.orders.length) (fun k=>s.orders.length - k) 0 ⟨rfl,rfl,rfl,trivial⟩ ⟨H,zzD _⟩ ?_
 clear H
 rintro k gh w ⟨H,hk⟩
 have hak:=at_le L k
 by_cases hkl:k<s.orders.length
 ·have d8:decide ((k:Int)<(s.orders.length:Int))=true:=decide_eq_true (by omega)
  have hLk:=hLk k hkl
  have hnn:=hnn k hkl
  have hob:=hob k hkl
  have hst1:=zUY (L:=L) (k:=k) (by omega)
  by_cases hc:(od_ s.orders k).id=o.id∨(od_ s.orders k).id=u.id
  ·have d0:((od_ s.orders k).id==o.id)=false→((od_ s.orders k).id==u.id)=false→False:=fun a b=>hc.elim (beq_eq_false_iff_ne.1 a) (beq_eq_false_iff_ne.1 b)
   have hL2:od_ L k=zBM (od_ s.orders k) (nF en 3):=by rw[hLk];unfold zCP;rw[if_pos hc]
   have hL3:(od_ L k).left=(od_ s.orders k).left - nF en 3:=by rw[hL2];rfl
   have hw:IntKind.i64.wrap ((od_ s.orders k).left - nF en 3)=(od_ s.orders k).left - nF en 3:=w64 (by omega) (by omega)
   have e1:decide (IntKind.i64.wrap ((od_ s.orders k).left - nF en 3)<0)=false:=by rw[hw];exact decide_eq_false (by omega)
   by_cases hz:(od_ L k).left=0
   ·rw[if_neg (by omega)] at hst1
    have e2:(IntKind.i64.wrap ((od_ s.orders k).left - nF en 3)==0)=true:=by rw[hw,← hL3];simpa using hz
    repeat' (first|refine yT ?_|refine y7 sg H ?_|refine y8 sg H ?_|(refine y9 H ?_;intro b w H)|(refine y10 sg H ?_;intro b w H)|(refine y11 sg H ?_;intro w H)|refine y12 ?_|refine z13 (zG sg rfl rfl (H.mem.sub qS) hbs rfl rfl) ?_|((with_reducible apply zP);exact rfl;exact rfl;exact zG sg rfl rfl (H.mem.sub qS) hbs rfl rfl)|refine z13 (zG sg rfl rfl (H.mem.sub qS) hbo rfl rfl) ?_|((with_reducible apply zP);exact rfl;exact rfl;exact zG sg rfl rfl (H.mem.sub qS) hbo rfl rfl)|refine z13 (zG sg rfl rfl (H.mem.sub qS) hbu rfl rfl) ?_|((with_reducible apply zP);exact rfl;exact rfl;exact zG sg rfl rfl (H.mem.sub qS) hbu rfl rfl)|(refine y40 sg (hso) ?_ ?_ ?_;(omega);(omega))|(refine y41 sg (hso) ?_ ?_ ?_;(omega);(omega))|(refine y42 sg (hso) ((H.memF hF)) ?_ ?_;(omega))|(refine y43 sg (hso) ((H.memF hF)) ?_ ?_;(omega))|refine yU ?_|(refine y17 ?_ ?_;all_goals(intro h;try (exfalso;first|((cases d8.symm.trans h);done)|((exact d0 ‹_› h);done)|((cases e1.symm.trans h);done)|((cases e2.symm.trans h);done))))|(refine y18 ?_ ?_;all_goals(intro h;try (exfalso;first|((cases d8.symm.trans h);done)|((exact d0 ‹_› h);done)|((cases e1.symm.trans h);done)|((cases e2.symm.trans h);done))))|(with_reducible apply zL;intro w hcl;replace H:=H.ext hcl;clear hcl)|refine y20 mixed ?_|with_reducible apply zA|(refine y23 ?_ ?_;all_goals(intro h;try (exfalso;first|((cases d8.symm.trans h);done)|((exact d0 ‹_› h);done)|((cases e1.symm.trans h);done)|((cases e2.symm.trans h);done))))|fail)
    all_goals exact zK (k+1) rfl ⟨congrArg (Value.int .i64) (by rw[w64 (by omega) (by omega)];omega),congrArg (Value.int .i64) (by omega),zZ (by omega),trivial⟩ ⟨H.sub (zz7 _ _),hkl⟩ (by omega)
   ·rw[if_pos hz] at hst1
    obtain⟨a1,a2⟩:=at_nz (L:=L) (k:=k) (by omega) hz
    rw[← hto] at a1 a2
    have e2:(IntKind.i64.wrap ((od_ s.orders k).left - nF en 3)==0)=false:=by rw[hw,← hL3];simpa using hz
    have e3:decide (((atO L k:Nat):Int) ≥ (t.orders.length:Int))=false:=decide_eq_false (by omega)
    have e4:(!(((od_ t.orders (atO L k)).id==(od_ s.orders k).id)&&(((od_ t.orders (atO L k)).acct==(od_ s.orders k).acct)&&(((od_ t.orders (atO L k)).inst==(od_ s.orders k).inst)&&(((od_ t.orders (atO L k)).side==(od_ s.orders k).side)&&(((od_ t.orders (atO L k)).price==(od_ s.orders k).price)&&(((od_ t.orders (atO L k)).left==IntKind.i64.wrap ((od_ s.orders k).left - nF en 3))&&true)))))))=false:=by
     rw[a2,hL2,hw];simp[zBM]
    repeat' (first|refine yT ?_|refine y7 sg H ?_|refine y8 sg H ?_|(refine y9 H ?_;intro b w H)|(refine y10 sg H ?_;intro b w H)|(refine y11 sg H ?_;intro w H)|refine y12 ?_|refine z13 (zG sg rfl rfl (H.mem.sub qS) hbs rfl rfl) ?_|((with_reducible apply zP);exact rfl;exact rfl;exact zG sg rfl rfl (H.mem.sub qS) hbs rfl rfl)|refine z13 (zG sg rfl rfl (H.mem.sub qS) hb5 rfl rfl) ?_|((with_reducible apply zP);exact rfl;exact rfl;exact zG sg rfl rfl (H.mem.sub qS) hb5 rfl rfl)|refine z13 (zG sg rfl rfl (H.mem.sub qS) hbo rfl rfl) ?_|((with_reducible apply zP);exact rfl;exact rfl;exact zG sg rfl rfl (H.mem.sub qS) hbo rfl rfl)|refine z13 (zG sg rfl rfl (H.mem.sub qS) hbu rfl rfl) ?_|((with_reducible apply zP);exact rfl;exact rfl;exact zG sg rfl rfl (H.mem.sub qS) hbu rfl rfl)|(refine y40 sg (hso) ?_ ?_ ?_;(omega);(omega))|(refine y41 sg (hso) ?_ ?_ ?_;(omega);(omega))|(refine y42 sg (hso) ((H.memF hF)) ?_ ?_;(omega))|(refine y43 sg (hso) ((H.memF hF)) ?_ ?_;(omega))|(refine y40 sg (hst) ?_ ?_ ?_;(omega);(omega))|(refine y41 sg (hst) ?_ ?_ ?_;(omega);(omega))|(refine y42 sg (hst) ((H.mem.sub qS)) ?_ ?_;(omega))|(refine y43 sg (hst) ((H.mem.sub qS)) ?_ ?_;(omega))|(refine zP rfl rfl (zEF sg (cs:=(od_ t.orders (atO L k)).cells) (ds:=[.int .i64 _,.int .i64 _,.int .i64 _,.int .u8 _,.int .i64 _,.int .i64 _]) zKW zKX rfl rfl rfl rfl rfl rfl rfl) ?_)|refine yU ?_|(refine y17 ?_ ?_;all_goals(intro h;try (exfalso;first|((cases d8.symm.trans h);done)|((exact d0 ‹_› h);done)|((cases e1.symm.trans h);done)|((cases e2.symm.trans h);done)|((cases e3.symm.trans h);done)|((cases e4.symm.trans h);done))))|(refine y18 ?_ ?_;all_goals(intro h;try (exfalso;first|((cases d8.symm.trans h);done)|((exact d0 ‹_› h);done)|((cases e1.symm.trans h);done)|((cases e2.symm.trans h);done)|((cases e3.symm.trans h);done)|((cases e4.symm.trans h);done))))|(with_reducible apply zL;intro w hcl;replace H:=H.ext hcl;clear hcl)|refine y20 mixed ?_|with_reducible apply zA|(refine y23 ?_ ?_;all_goals(intro h;try (exfalso;first|((cases d8.symm.trans h);done)|((exact d0 ‹_› h);done)|((cases e1.symm.trans h);done)|((cases e2.symm.trans h);done)|((cases e3.symm.trans h);done)|((cases e4.symm.trans h);done))))|fail)
    all_goals exact zK (k+1) rfl ⟨congrArg (Value.int .i64) (by omega),congrArg (Value.int .i64) (by rw[w64 (by omega) (by omega)];omega),zZ (by omega),trivial⟩ ⟨H.sub (zz7 _ _),hkl⟩ (by omega)
  ·have f1:((od_ s.orders k).id==o.id)=false:=beq_eq_false_iff_ne.2 fun g=>hc (.inl g)
   have f2:((od_ s.orders k).id==u.id)=false:=beq_eq_false_iff_ne.2 fun g=>hc (.inr g)
   have hL2:od_ L k=od_ s.orders k:=by rw[hLk];unfold zCP;rw[if_neg hc]
   have hz:(od_ L k).left≠0:=by rw[hL2];omega
   rw[if_pos hz] at hst1
   obtain⟨a1,a2⟩:=at_nz (L:=L) (k:=k) (by omega) hz
   rw[← hto] at a1 a2
   have e1:decide ((od_ s.orders k).left<0)=false:=decide_eq_false (by omega)
   have e2:((od_ s.orders k).left==0)=false:=beq_eq_false_iff_ne.2 (by omega)
   have e3:decide (((atO L k:Nat):Int) ≥ (t.orders.length:Int))=false:=decide_eq_false (by omega)
   have e4:=zOh (od_ s.orders k)
   have e5:od_ t.orders (atO L k)=od_ s.orders k:=a2.trans hL2
   have e4:(!(((od_ t.orders (atO L k)).id==(od_ s.orders k).id)&&(((od_ t.orders (atO L k)).acct==(od_ s.orders k).acct)&&(((od_ t.orders (atO L k)).inst==(od_ s.orders k).inst)&&(((od_ t.orders (atO L k)).side==(od_ s.orders k).side)&&(((od_ t.orders (atO L k)).price==(od_ s.orders k).price)&&(((od_ t.orders (atO L k)).left==(od_ s.orders k).left)&&true)))))))=false:=by
    rw[e5];simp
   repeat' (first|refine yT ?_|refine y7 sg H ?_|refine y8 sg H ?_|(refine y9 H ?_;intro b w H)|(refine y10 sg H ?_;intro b w H)|(refine y11 sg H ?_;intro w H)|refine y12 ?_|refine z13 (zG sg rfl rfl (H.mem.sub qS) hbs rfl rfl) ?_|((with_reducible apply zP);exact rfl;exact rfl;exact zG sg rfl rfl (H.mem.sub qS) hbs rfl rfl)|refine z13 (zG sg rfl rfl (H.mem.sub qS) hb5 rfl rfl) ?_|((with_reducible apply zP);exact rfl;exact rfl;exact zG sg rfl rfl (H.mem.sub qS) hb5 rfl rfl)|refine z13 (zG sg rfl rfl (H.mem.sub qS) hbo rfl rfl) ?_|((with_reducible apply zP);exact rfl;exact rfl;exact zG sg rfl rfl (H.mem.sub qS) hbo rfl rfl)|refine z13 (zG sg rfl rfl (H.mem.sub qS) hbu rfl rfl) ?_|((with_reducible apply zP);exact rfl;exact rfl;exact zG sg rfl rfl (H.mem.sub qS) hbu rfl rfl)|(refine y40 sg (hso) ?_ ?_ ?_;(omega);(omega))|(refine y41 sg (hso) ?_ ?_ ?_;(omega);(omega))|(refine y42 sg (hso) ((H.memF hF)) ?_ ?_;(omega))|(refine y43 sg (hso) ((H.memF hF)) ?_ ?_;(omega))|(refine y40 sg (hst) ?_ ?_ ?_;(omega);(omega))|(refine y41 sg (hst) ?_ ?_ ?_;(omega);(omega))|(refine y42 sg (hst) ((H.mem.sub qS)) ?_ ?_;(omega))|(refine y43 sg (hst) ((H.mem.sub qS)) ?_ ?_;(omega))|(refine zP rfl rfl (zEF sg (cs:=(od_ t.orders (atO L k)).cells) (ds:=[.int .i64 _,.int .i64 _,.int .i64 _,.int .u8 _,.int .i64 _,.int .i64 _]) zKW zKX rfl rfl rfl rfl rfl rfl rfl) ?_)|refine yU ?_|(refine y17 ?_ ?_;all_goals(intro h;try (exfalso;first|((cases d8.symm.trans h);done)|((cases f1.symm.trans h);done)|((cases f2.symm.trans h);done)|((cases e1.symm.trans h);done)|((cases e2.symm.trans h);done)|((cases e3.symm.trans h);done)|((cases e4.symm.trans h);done))))|(refine y18 ?_ ?_;all_goals(intro h;try (exfalso;first|((cases d8.symm.trans h);done)|((cases f1.symm.trans h);done)|((cases f2.symm.trans h);done)|((cases e1.symm.trans h);done)|((cases e2.symm.trans h);done)|((cases e3.symm.trans h);done)|((cases e4.symm.trans h);done))))|(with_reducible apply zL;intro w hcl;replace H:=H.ext hcl;clear hcl)|refine y20 mixed ?_|with_reducible apply zA|(refine y23 ?_ ?_;all_goals(intro h;try (exfalso;first|((cases d8.symm.trans h);done)|((cases f1.symm.trans h);done)|((cases f2.symm.trans h);done)|((cases e1.symm.trans h);done)|((cases e2.symm.trans h);done)|((cases e3.symm.trans h);done)|((cases e4.symm.trans h);done))))|fail)
   exact zK (k+1) rfl ⟨congrArg (Value.int .i64) (by omega),congrArg (Value.int .i64) (by rw[w64 (by omega) (by omega)];omega),zZ (by omega),trivial⟩ ⟨H.sub (zz7 _ _),hkl⟩ (by omega)
 ·obtain rfl:k=s.orders.length:=by omega
  have d8:decide ((s.orders.length:Int)<(s.orders.length:Int))=false:=decide_eq_false (by omega)
  have hend:=zS4 L
  rw[← hto,hLl] at hend
  rw[hLl] at hat0
  have d9:decide (((s.orders.length - atO L s.orders.length:Nat):Int) ≥ 1)=true:=decide_eq_true (by omega)
  have d10:(((atO L s.orders.length:Nat):Int)==(t.orders.length:Int))=true:=by rw[hend];simp
  repeat' (first|refine yT ?_|refine y7 sg H ?_|refine y8 sg H ?_|(refine y9 H ?_;intro b w H)|(refine y10 sg H ?_;intro b w H)|(refine y11 sg H ?_;intro w H)|refine y12 ?_|refine z13 (zG sg rfl rfl (H.mem.sub qS) hbs rfl rfl) ?_|((with_reducible apply zP);exact rfl;exact rfl;exact zG sg rfl rfl (H.mem.sub qS) hbs rfl rfl)|refine z13 (zG sg rfl rfl (H.mem.sub qS) hb5 rfl rfl) ?_|((with_reducible apply zP);exact rfl;exact rfl;exact zG sg rfl rfl (H.mem.sub qS) hb5 rfl rfl)|refine yU ?_|(refine y17 ?_ ?_;all_goals(intro h;try (exfalso;first|((cases d8.symm.trans h);done)|((cases d9.symm.trans h);done))))|(refine y18 ?_ ?_;all_goals(intro h;try (exfalso;first|((cases d8.symm.trans h);done)|((cases d9.symm.trans h);done))))|(with_reducible apply zL;intro w hcl;replace H:=H.ext hcl;clear hcl)|refine y20 mixed ?_|with_reducible apply zA|(refine y23 ?_ ?_;all_goals(intro h;try (exfalso;first|((cases d8.symm.trans h);done)|((cases d9.symm.trans h);done))))|fail)
  exact zQ rfl H.cl (congrArg Value.bool d10)
end
end Go.Proofs.YtibmaifoaajllaaGreatDoor
