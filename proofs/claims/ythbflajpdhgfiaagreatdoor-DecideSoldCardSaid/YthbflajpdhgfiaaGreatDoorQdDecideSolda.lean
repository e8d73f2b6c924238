/- The statement DecideSoldSaid, proved, and its tied card. -/
import Derived.ChangeKeysEq
import Derived.Deep.LoopGhost
import Derived.Deep.QuietTactic
import Derived.Deep.Slices
import Derived.KernelRfl
import Derived.LaidMore
import Derived.Laws.Bits64b
import Derived.Laws.IdiomStrings
import Derived.Laws.MakeOwn
import Derived.Laws.RangeString
import Derived.Laws.StructEq
import Derived.Lib.Mul64
import Derived.Maps.RangeRun
import Derived.OpenShut
import Derived.OrdersHeld
import Derived.ProofKit
import Derived.RangeFuncLeaves
import Derived.RangeFuncNested
import Derived.Shelf.SlLaysE
import Derived.Shelf.SlLaysF0
import Derived.Shelf.SlLaysM
import Derived.Shelf.SlSortCmp.NoneTotal
import Derived.Shelf.SlicesE.Compact
import Derived.Shelf.SortM.Plain
import Derived.Shelf.SortM.SortNone
import Derived.SizedLaws
import Derived.Sort.LoopGhostIn
import Derived.Stop.Joined
import Derived.TacticsIn
import Derived.Test.YthbflajpdhgfiaaGreatDoorChecked
import Derived.Test.YthbflajpdhgfiaaGreatDoorProg
import Derived.Test.YthbflajpdhgfiaaGreatDoorRows
import Derived.WalkKit
import Derived.WalkSpells
import Derived.Test.YthbflajpdhgfiaaGreatDoorQd33
import Derived.Test.YthbflajpdhgfiaaGreatDoorQd34
set_option linter.all false
set_option maxHeartbeats 16000000
namespace Go.Proofs.YthbflajpdhgfiaaGreatDoor
section
open Go Go.Sk Go.RowKit
theorem zOw {l:List Auc}{id:Int}:(zAy l id).2=true↔∃ a∈l,a.id=id:=by
 have key:(zAy l id).2=true↔¬ zHC l id<0:=by
  unfold zAy;split<;>simp_all
 rw[key]
 unfold zHC
 rcases zZ (fun j=>(l.getD j default).id==id) l.length with ⟨k,h1,_,h2,h3⟩|⟨h1,h3⟩
 ·rw[h3]
  refine⟨fun _=>⟨_,zz default h1,by simpa using h2⟩,fun _=>by omega⟩
 ·rw[h3]
  refine⟨fun h=>absurd h qO,fun⟨a,ha,e⟩=>?_⟩
  obtain⟨j,hj,rfl⟩:=List.getElem_of_mem ha
  have:=h1 j hj
  rw[List.getD_eq_getElem?_getD,List.getElem?_eq_getElem hj] at this
  simp[e] at this
theorem zOx {a:Auc}{c:Int}(h:zAA a c=true):zAT a=true:=by
 unfold zAA at h;rw[Bool.and_eq_true] at h;exact h.1
theorem zOy {a:Auc}{e:Evt}{c:Int}(hd:zAA a c=true)(h:SaleF a e):ToldF a e:=by
 refine⟨h.id,List.length_pos_iff.2 h.ne,fun hk=>?_⟩
 obtain⟨h1,h2,h3,h4⟩:=h.len hk
 obtain⟨m,m1,m2,m3,_,m5,m6,_⟩:=zDm (zOx hd) h2
 have ht:(zAD a).2=true:=by
  have hh:=zEu a.bids a.bids.length qO
  rw[show zCL a.bids a.bids.length=hi a.bids from rfl] at hh
  unfold zAD
  rw[if_neg (by simp[zOx hd];omega)]
 rw[m3,h3,h4]
 exact⟨h1,ht,m2.symm,m6,m5⟩
theorem sold_p {s:Sta}{c:Cmd}{l:List Evt}(h:zBC s c=(l,0))(hk:c.kind=17):SoldP s (zDi s l).1 (nF c.nums 0) l:=by
 obtain⟨f,t,y,h⟩:=zKW h
 have ha:=h.all
 rw[ha.1]
 obtain⟨f1,f2⟩:f.kind=20∧nF f.nums 0=nF c.nums 0:=by
  rcases zCa s c with ⟨g,_⟩|⟨_,_,_,_,g4,g5,_⟩
  ·rw[h.first] at g;exact absurd rfl g
  ·rw[h.first] at g4 g5
   rw[hk] at g4 g5
   exact⟨g4,by show nF f.nums 0=_;rw[show f.nums=_ from g5];rfl⟩
 obtain⟨_,_,ev,_,_,hd⟩:=zBf h.ev
 rw[f1] at hd
 have hd:zEq s f.nums=(t,0):=hd
 obtain⟨t1,t2⟩:t.aucs=s.aucs∧t.clock=nF c.nums 0:=by
  unfold zEq at hd
  split at hd
  ·exact absurd (Prod.mk.inj hd).2 (by decide)
  ·obtain rfl:=(Prod.mk.inj hd).1
   exact⟨rfl,f2⟩
 obtain⟨_,gt,_⟩:=ha.2
 rcases h.beh with ⟨k1,_⟩|⟨_,z,k1,k2,rfl,rfl⟩|⟨_,k2,_⟩
 ·omega
 ·obtain⟨hI,hids,_⟩:=zGr gt f k1 k2
  have hc:(zEO t.aucs t.clock).length=(t.aucs.filter fun a=>zAA a t.clock).length:=by
   rcases zEP t.aucs t.clock with ⟨_,_,h3⟩|⟨h1,_⟩
   ·exact h3.length_eq
   ·rw[gt.aucs] at h1;cases h1
  have hu:=(zp.1 gt.aucs).2.2
  have hcn:=hI.cnt
  have hdn:=hI.done
  have htl:=hI.told
  have hau:=hI.au
  rw[hids,List.length_map,hc] at hcn
  rw[hids] at hdn hau
  rw[t1,t2] at hcn hdn htl hau
  rw[t1] at hu
  refine⟨fun a ha=>?_,fun n n1 n2=>?_,fun a ha hd=>?_,by simpa using hcn,fun a ha b hb e=>zEQ hu ha hb e⟩
  ·cases hd:zAA a (nF c.nums 0) with
   | false =>
     refine zOw.2 ⟨a,?_,rfl⟩
     show a∈z.s.aucs
     rw[hau,List.mem_filter]
     exact⟨ha,by rw[hd];rfl⟩
   | true =>
     refine Bool.eq_false_iff.2 fun g=>?_
     obtain⟨b,hb,e⟩:=zOw.1 g
     have hb:b∈z.s.aucs:=hb
     rw[hau,List.mem_filter] at hb
     rw[zEQ hu hb.1 ha e,hd] at hb
     simp at hb
  ·obtain⟨a,g1,g2,g3⟩:=htl n n1 n2
   exact⟨a,g1,g2,zOy g2 g3⟩
  ·obtain⟨n,g1,g2,g3⟩:=hdn a ha hd (fun h=>nomatch h)
   exact⟨n,g1,g2,zOy hd g3⟩
 ·exact absurd hk k2
end
section
open Go Go.Sk Go.RowKit
attribute [local irreducible] Go.Calls
def zIk (l:List Auc)(clk:Int)(i:Nat):Nat:=((l.take i).filter fun a=>zAA a clk).length
theorem zJN {l:List Auc}{clk:Int}{i:Nat}(hi:i<l.length):zIk l clk (i+1)=zIk l clk i+if zAA (l.getD i default) clk=true then 1 else 0:=by
 have e:l.getD i default=l[i]:=by rw[List.getD_eq_getElem?_getD,List.getElem?_eq_getElem hi];rfl
 unfold zIk
 rw[List.take_succ_eq_append_getElem hi,List.filter_append,List.length_append,e]
 congr 1
 split
 ·rename_i h;rw[List.filter_cons_of_pos (p:=fun a=>zAA a clk) h];rfl
 ·rename_i h;rw[List.filter_cons_of_neg (p:=fun a=>zAA a clk) h];rfl
theorem zUr {l:List Auc}{clk:Int}{i:Nat}:zIk l clk i≤l.length:=by
 unfold zIk
 have h1:=List.length_filter_le (fun a=>zAA a clk) (l.take i)
 have h2:=List.length_take_le' i l
 omega
theorem zNT {v:Int}{l:List Nat}{n:List Int}(h:zBG v l n=true):n.length=l.length:=by
 unfold zBG at h
 simp only[Bool.and_eq_true,beq_iff_eq,decide_eq_true_eq] at h
 omega
set_option maxRecDepth 20000 in
theorem zUs {F:zC}(s:Sta)(p:SPt)(c:Cmd){na:Option Addr}{nc:Nat}(hac:∀ k,k<s.accts.length→(ac_ s.accts k).name.size≤140737488355328)(hin:∀ k,k<s.insts.length→(in_ s.insts k).name.size≤140737488355328)(hr:∀ j,j<s.rows.length→(rw_ s.rows j).wf)(hc:zDr c)(w0:World)(hF:Mem w0 F)(hP:PriM F)(hK:KinM F)(hC:ComM F)(hs:StaM F s p)(hN:Ints F na nc c.nums) :
  Calls Tryz.prog 5 [.agg (s.cells p).toArray,.agg (c.cells na nc).toArray].toArray w0 (Ret (.bool true) w0):=by
 have hwk:=fun w (hG:Mem w F)=>zOs w hG hP hK hC
 have hwg:=fun w (hG:Mem w F)=>zOt s p hac hin w hG hs
 have hlo:=fun w=>zTH (na:=na) (nc:=nc) c w
 by_cases h0:zES s<1500∧zOv c=false∧c.kind=17
 rotate_left
 ·refine enter [.tmp 4] Tryz.func5 rfl Tryz.ntmps5 rfl rfl ?_
  have H:=zA w0
  repeat' (first|refine yT ?_|refine y7 sg H ?_|(refine y9 H ?_;intro b w H)|(refine' y30 zGR ?_ ?_;rotate_left;exact hwk _ (H.memF hF);refine w2 H ?_;clear H;intro w H)|(refine' y30 zDb ?_ ?_;rotate_left;exact hwg _ (H.memF hF);refine w2 H ?_;clear H;intro w H)|(refine' y30 zDc ?_ ?_;rotate_left;exact hlo _;refine w2 H ?_;clear H;intro w H)|refine yU ?_|((first|refine y17 ?_ ?_|refine y23 ?_ ?_);all_goals(intro h;try (exfalso;first|((exact absurd h (by decide));done))))|fail)
  all_goals first
   | exact zP rfl H.cl rfl
   | (exfalso
      simp only[Bool.not_eq_true',Bool.not_eq_false',beq_iff_eq,bne_eq_false_iff_eq,bne_iff_ne,ne_eq,Decidable.not_not,decide_eq_false_iff_not] at *
      exact h0 ⟨by omega,by assumption,by omega⟩)
 obtain⟨hw,hlg,h17⟩:=h0
 have hW:=zOu hw hr
 have d1:decide (zES s ≥ 1500)=false:=decide_eq_false qO
 rw[hlg] at hlo
 have d3:(c.kind != 17)=false:=by simpa using h17
 have hcom:=fun w (G:zC) (hG:Mem w (G++F))=>zFO (s:=s) (p:=p) (c:=c) (na:=na) (nc:=nc) hW hc w hG (hP.mono (zz8 _ _)) (hK.mono (zz8 _ _)) (hC.mono (zz8 _ _)) (hs.mono (zz8 _ _)) (SlA.mono hN (zz8 _ _))
 obtain⟨es,k,hcmd⟩:∃ es k,zBC s c=(es,k):=⟨_,_,rfl⟩
 rw[hcmd] at hcom
 by_cases hk:k=0
 rotate_left
 ·have d4:(k != 0)=true:=by simpa using hk
  refine enter [.tmp 4] Tryz.func5 rfl Tryz.ntmps5 rfl rfl ?_
  have H:=zA w0
  repeat' (first|refine yT ?_|refine y7 sg H ?_|(refine y9 H ?_;intro b w H)|(refine' y30 zGR ?_ ?_;rotate_left;exact hwk _ (H.memF hF);refine w2 H ?_;clear H;intro w H)|(refine' y30 zDb ?_ ?_;rotate_left;exact hwg _ (H.memF hF);refine w2 H ?_;clear H;intro w H)|(refine' y30 zDc ?_ ?_;rotate_left;exact hlo _;refine w2 H ?_;clear H;intro w H)|(refine' y32 zFu ?_ ?_;rotate_left;exact hcom _ _ (H.all hF);intro v M2 w hR hS;replace H:=H.addR hS;clear hS;(try simp only[List.cons_append,List.nil_append] at H);obtain⟨ae,cape,qe,rfl,hE⟩:=hR)|refine yU ?_|((first|refine y17 ?_ ?_|refine y23 ?_ ?_);all_goals(intro h;try (exfalso;first|((exact absurd h (by decide));done)|((cases d1.symm.trans h);done)|((cases d3.symm.trans h);done)|((cases d4.symm.trans h);done))))|fail)
  exact zP rfl H.cl rfl
 subst hk
 have d4:((0:Int) != 0)=false:=rfl
 obtain⟨gs,gt,hev⟩:=zKY hcmd
 have hsp:=sold_p hcmd h17
 obtain⟨_,_,_,ok⟩:=zKW hcmd
 have hn1:c.nums.length=1:=by
  have:=ok.may
  unfold zEx at this
  rw[h17] at this
  simp only[Bool.and_eq_true] at this
  exact zNT this.1.2
 have hall:=fun w (G:zC) (ae:Option Addr) (cape:Nat) (qe:Nat→EPt) (M:zC) (hE:EvsM M ae cape es qe) (hG:Mem w (G++F)) (h2:M⊆G)=>zNM (s:=s) (p:=p) hW es qe hev w hG (hP.mono (zz8 _ _)) (hK.mono (zz8 _ _)) (hs.mono (zz8 _ _)) (hE.mono fun x hx=>zz6 _ (h2 hx))
 obtain⟨t,n2,e2,hal⟩:∃ t n e2,zDi s es=(t,n,e2):=⟨_,_,_,rfl⟩
 rw[hal] at hall gt hsp
 simp only at gt hsp
 refine enter [.tmp 4] Tryz.func5 rfl Tryz.ntmps5 rfl rfl ?_
 have H:=zA w0
 repeat' (first|refine yT ?_|refine y7 sg H ?_|(refine y9 H ?_;intro b w H)|(refine y10 sg H ?_;intro b w H)|(refine y11 sg H ?_;intro w H)|(refine' y30 zGR ?_ ?_;rotate_left;exact hwk _ (H.memF hF);refine w2 H ?_;clear H;intro w H)|(refine' y30 zDb ?_ ?_;rotate_left;exact hwg _ (H.memF hF);refine w2 H ?_;clear H;intro w H)|(refine' y30 zDc ?_ ?_;rotate_left;exact hlo _;refine w2 H ?_;clear H;intro w H)|(refine' y32 zFu ?_ ?_;rotate_left;exact hcom _ _ (H.all hF);intro v M2 w hR hS;replace H:=H.addR hS;clear hS;(try simp only[List.cons_append,List.nil_append] at H);obtain⟨ae,cape,qe,rfl,hE⟩:=hR)|(refine' y32 zQX ?_ ?_;rotate_left;exact hall _ _ _ _ _ _ hE (H.all hF) (fun x hx=>by simp[hx]);intro v M3 w hR hS;replace H:=H.addR hS;clear hS;(try simp only[List.cons_append,List.nil_append] at H);obtain⟨p3,Ma,Mi,Mu,R,rfl,rfl,hC3⟩:=hR)|refine yU ?_|((first|refine y17 ?_ ?_|refine y23 ?_ ?_);all_goals(intro h;try (exfalso;first|((exact absurd h (by decide));done)|((cases d1.symm.trans h);done)|((cases d3.symm.trans h);done))))|with_reducible apply zB|fail)
 refine CW.named (fun en1 w=>∃ b2 b3 b7 en',en1=ovl [(2,.pointer (some ⟨b2,0,none⟩)),(3,.pointer (some ⟨b3,0,none⟩)),(5,.slice ae es.length cape),(7,.pointer (some ⟨b7,0,none⟩)),(10,.int .i64 0),(11,.int .i64 0)] en'∧Cl w0 w∧Mem w ((cb b7 (t.cells p3) 48::cb b3 (c.cells na nc) 28::cb b2 (s.cells p) 48::(M2++(Ma++(Mi++(Mu++R)))))++F)) ⟨_,_,_,_,zAE rfl (zAE rfl (zAE rfl (zA0 rfl rfl rfl))),H.cl,H.all hF⟩ ?_
 clear H
 rintro _ wB ⟨b2,b3,b7,en',rfl,hcl,hM⟩
 obtain⟨F1,hF1⟩:∃ F1,(cb b7 (t.cells p3) 48::cb b3 (c.cells na nc) 28::cb b2 (s.cells p) 48::(M2++(Ma++(Mi++(Mu++R)))))++F=F1:=⟨_,rfl⟩
 have hm7:cb b7 (t.cells p3) 48∈F1:=by rw[← hF1];simp
 have hm3:cb b3 (c.cells na nc) 28∈F1:=by rw[← hF1];simp
 have hm2:cb b2 (s.cells p) 48∈F1:=by rw[← hF1];simp
 have sF:F⊆F1:=by rw[← hF1];exact zz8 _ _
 have hE:=hE.mono (show M2⊆F1 by rw[← hF1];intro x hx;simp[hx])
 have ht:=(hC3.sta (zDR gt)).mono (show _⊆F1 by rw[← hF1];intro x hx;simp only[List.mem_append,List.mem_cons] at hx ⊢;rcases hx with h|h|h|h<;>simp[h])
 replace hs:=hs.mono sF
 replace hN:=SlA.mono hN sF
 rw[hF1] at hM
 replace hF:=hM
 clear hM hF1 sF hC3 hwk hwg hlo hcom hall hP hK hC
 have hget:=fun w (hG:Mem w F1) id=>c_Get t.aucs p3.ad id w hG ht.au (fun j hj=>Nat.le_trans (zCK ((zp.1 gt.aucs).2.1 _ (zk hj))).2.2.2.2.1 (by decide))
 obtain⟨⟨hnu,hcu,bu,offu,csu,Tu,fru,hu⟩,hub⟩:=hs.au
 obtain⟨hnn,hcn,bn,offn,csn,Tn,frn,hnb⟩:=hN
 obtain⟨⟨hne,hce,be,offe,cse,Te,fre,hse⟩,hei⟩:=hE
 simp only at hne hce hse hei
 refine zI [(4,4),(10,18),(51,166)] (fun i:Nat=>[(10,.int .i64 ((zIk s.aucs (nF c.nums 0) i:Nat):Int)),(11,.int .i64 (i:Int))]) (fun i w'=>i≤s.aucs.length∧St wB [] w') (fun i=>s.aucs.length - i) 0 ⟨rfl,rfl,trivial⟩ ⟨zzD _,zA wB⟩ ?_
 rintro i gh w1 ⟨hi,H⟩
 by_cases hlt:i<s.aucs.length
 rotate_left
 ·obtain rfl:i=s.aucs.length:=by omega
  have d5:decide ((s.aucs.length:Int)<(s.aucs.length:Int))=false:=decide_eq_false qO
  repeat' (first|refine yT ?_|refine z13 (zH sg rfl rfl (H.memF hF) hm2 rfl rfl) ?_|refine yU ?_|(refine y23 ?_ ?_;all_goals(intro h;try (exfalso;first|((cases d5.symm.trans h);done))))|fail)
  refine zP rfl (hcl.trans H.cl) (congrArg Value.bool ?_)
  have:=hsp.cnt
  have e:zIk s.aucs (nF c.nums 0) s.aucs.length=(s.aucs.filter fun a=>zAA a (nF c.nums 0)).length:=by unfold zIk;rw[List.take_length]
  rw[e,hsp.cnt,w64 qO qO]
  simp only[beq_iff_eq]
  omega
 have d5:decide ((i:Int)<(s.aucs.length:Int))=true:=decide_eq_true qO
 have hg:=hsp.get _ (zz (l:=s.aucs) (k:=i) default hlt)
 have hdue:=fun w (hG:Mem w F1)=>zHj (au_ s.aucs i) (nF c.nums 0) w hG (hub i hlt)
 have hget:=fun w (hG:Mem w F1)=>hget w hG (au_ s.aucs i).id
 rw[show(zAy t.aucs (au_ s.aucs i).id).2=_ from hg] at hget
 cases hd:zAA (s.aucs.getD i default) (nF c.nums 0) with
 | false =>
   rw[show zAA (au_ s.aucs i) (nF c.nums 0)=_ from hd] at hdue
   rw[hd] at hget
   repeat' (first|refine yT ?_|refine y7 sg H ?_|refine y8 sg H ?_|(refine y10 sg H ?_;intro b w H)|(refine y11 sg H ?_;intro w H)|refine z13 (zH sg rfl rfl (H.memF hF) hm2 rfl rfl) ?_|((with_reducible apply zT);exact rfl;exact rfl;exact zH sg rfl rfl (H.memF hF) hm3 rfl rfl)|refine z13 (zH sg rfl rfl (H.memF hF) hm7 rfl rfl) ?_|refine x40 sg hu ?_|refine x42 sg hu (H.memF hF) ?_|refine x41 sg hnb ?_|((with_reducible apply zT);exact rfl;exact rfl;exact Yq.loadB1 sg hnb (H.memF hF) rfl rfl rfl rfl (show 0<c.nums.length by omega) rfl)|(refine' y32 zKr ?_ ?_;rotate_left;exact hget _ (H.memF hF);intro v M w hR hS;replace H:=H.addR hS;clear hS;(try simp only[List.cons_append,List.nil_append] at H);obtain⟨u,⟨a8,c8,rfl,_⟩,rfl⟩:=hR)|(refine' y31 zGx ?_ ?_;rotate_left;exact(fun _ hcl=>hdue _ ((H.ext hcl).memF hF)))|refine yU ?_|(with_reducible apply zO;refine w2 H ?_;clear H;intro w H)|refine y20 mixed ?_|with_reducible apply zB|(refine y23 ?_ ?_;all_goals(intro h;try (exfalso;first|((exact absurd h (by decide));done)|((cases d5.symm.trans h);done))))|fail)
   have e:=zJN (clk:=nF c.nums 0) hlt
   rw[hd,if_neg (by decide)] at e
   exact zF (i+1) rfl ⟨by rw[e];rfl,zf qO,trivial⟩ ⟨hlt,H.sub (zz9 _)⟩ qO
 | true =>
   rw[show zAA (au_ s.aucs i) (nF c.nums 0)=_ from hd] at hdue
   rw[hd] at hget
   have e:=zJN (clk:=nF c.nums 0) hlt
   rw[hd,if_pos rfl] at e
   have hcn:=zUr (l:=s.aucs) (clk:=nF c.nums 0) (i:=i)
   repeat' (first|refine yT ?_|refine z13 (zH sg rfl rfl (H.memF hF) hm2 rfl rfl) ?_|refine yU ?_|fail)
   refine CW.condT (congrArg Value.bool d5) ?_
   repeat' (first|refine yT ?_|refine y7 sg H ?_|refine y8 sg H ?_|(refine y10 sg H ?_;intro b w H)|(refine y11 sg H ?_;intro w H)|refine z13 (zH sg rfl rfl (H.memF hF) hm2 rfl rfl) ?_|((with_reducible apply zT);exact rfl;exact rfl;exact zH sg rfl rfl (H.memF hF) hm3 rfl rfl)|refine z13 (zH sg rfl rfl (H.memF hF) hm7 rfl rfl) ?_|refine x40 sg hu ?_|refine x42 sg hu (H.memF hF) ?_|refine x41 sg hnb ?_|((with_reducible apply zT);exact rfl;exact rfl;exact Yq.loadB1 sg hnb (H.memF hF) rfl rfl rfl rfl (show 0<c.nums.length by omega) rfl)|(refine' y32 zKr ?_ ?_;rotate_left;exact hget _ (H.memF hF);intro v M w hR hS;replace H:=H.addR hS;clear hS;(try simp only[List.cons_append,List.nil_append] at H);obtain⟨u,⟨a8,c8,rfl,_⟩,rfl⟩:=hR)|(refine' y31 zGx ?_ ?_;rotate_left;exact(fun _ hcl=>hdue _ ((H.ext hcl).memF hF)))|refine yU ?_|(with_reducible apply zO;refine w2 H ?_;clear H;intro w H)|refine y20 mixed ?_|with_reducible apply zB|fail)
   have ecn:IntKind.i64.wrap ((zIk s.aucs (nF c.nums 0) i:Nat)+1:Int)=((zIk s.aucs (nF c.nums 0) (i+1):Nat):Int):=by rw[e,w64 qO qO];rfl
   obtain⟨n0,hn0,hn1',hn2⟩:=hsp.done _ (zz (l:=s.aucs) (k:=i) default hlt) hd
   obtain⟨b12,rfl,H9⟩:∃ b12,b12=_∧St wB [cb b12 (ael s.aucs p.ad i) 67] _:=⟨_,rfl,(H.sub (zz7 _ _)).sub (List.Sublist.cons_cons _ (zz9 _))⟩
   refine zI [(4,4),(15,18),(82,164)] (fun x:Nat × Bool=>[(15,.bool x.2),(16,.int .i64 (x.1:Int))]) (fun x w'=>1≤x.1∧x.1≤es.length∧(x.2=true∨∀ m,1≤m→m<x.1→¬ ToldF (s.aucs.getD i default) (ev_ es m))∧St wB [cb b12 (ael s.aucs p.ad i) 67] w') (fun x=>es.length - x.1) (1,false) ⟨rfl,rfl,trivial⟩ ⟨zzC _,by omega,.inr (fun m h1 h2=>by omega),H9⟩ ?_
   clear H H9
   rintro⟨n,b⟩ gh2 w1 ⟨hn1l,hnl,hb,H⟩
   simp only at hn1l hnl hb H ⊢
   by_cases hnlt:n<es.length
   rotate_left
   ·obtain rfl:n=es.length:=by omega
    have d6:decide ((es.length:Int)<(es.length:Int))=false:=decide_eq_false qO
    obtain rfl:b=true:=hb.resolve_right (fun h=>h n0 hn0 hn1' hn2)
    repeat' (first|refine yT ?_|refine yU ?_|(refine y23 ?_ ?_;all_goals(intro h;try (exfalso;first|((exact absurd h (by decide));done)|((cases d6.symm.trans h);done))))|fail)
    exact zCj (i+1) rfl ⟨congrArg (Value.int .i64) ecn,zf qO,trivial⟩ ⟨hlt,H.sub (zz9 _)⟩ qO
   have d6:decide ((n:Int)<(es.length:Int))=true:=decide_eq_true qO
   obtain⟨a',ha',hda',hta⟩:=hsp.told n hn1l hnlt
   obtain⟨hqn,hqc,bq,offq,csq,Tq,frq,hq⟩:=(hei n hnlt).nums
   have hne0:=hta.ne
   have d7:(((ev_ es n).nums.length:Int)==0)=false:=by simp;intro h;rw[h] at hne0;cases hne0
   by_cases hid:nF (ev_ es n).nums 0=(s.aucs.getD i default).id
   rotate_left
   ·have d8:((ev_ es n).nums.getD 0 0 != (s.aucs.getD i default).id)=true:=by simpa using hid
    repeat' (first|refine yT ?_|refine y8 sg H ?_|refine x41 sg hse ?_|refine x45 sg hse (H.memF hF) ?_|refine x41 sg hq ?_|((with_reducible apply zT);exact rfl;exact rfl;exact Yq.loadB1 sg hq (H.memF hF) rfl rfl rfl rfl hne0 rfl)|refine yU ?_|((first|refine y18 ?_ ?_|refine y23 ?_ ?_);all_goals(intro h;try (exfalso;first|((exact absurd h (by decide));done)|((cases d6.symm.trans h);done)|((cases d7.symm.trans h);done)|((cases d8.symm.trans h);done))))|(with_reducible apply zO;refine w2 H ?_;clear H;intro w H)|refine y20 mixed ?_|with_reducible apply zB|fail)
    exact zF (n+1,b) rfl ⟨rfl,zf qO,trivial⟩ ⟨by show 1≤n+1;omega,hnlt,hb.imp id (fun h m h1 h2 g=>by
     by_cases e:m=n
     ·exact hid (e ▸ g.id)
     ·exact h m h1 (by have h2:m<n+1:=h2;omega) g),H⟩ (by show es.length - (n+1)<es.length - n;omega)
   have d8:((ev_ es n).nums.getD 0 0 != (s.aucs.getD i default).id)=false:=by simpa using hid
   obtain rfl:a'=s.aucs.getD i default:=hsp.id _ ha' _ (zz (l:=s.aucs) (k:=i) default hlt) (hta.id.symm.trans hid)
   by_cases h18:(ev_ es n).kind=18
   rotate_left
   ·have d9:((ev_ es n).kind != 18)=true:=by simpa using h18
    repeat' (first|refine yT ?_|refine y8 sg H ?_|refine x40 sg hse ?_|refine x41 sg hse ?_|refine x44 sg hse (H.memF hF) ?_|refine x45 sg hse (H.memF hF) ?_|refine x41 sg hq ?_|((with_reducible apply zT);exact rfl;exact rfl;exact Yq.loadB1 sg hq (H.memF hF) rfl rfl rfl rfl hne0 rfl)|refine yU ?_|((first|refine y18 ?_ ?_|refine y23 ?_ ?_);all_goals(intro h;try (exfalso;first|((exact absurd h (by decide));done)|((cases d6.symm.trans h);done)|((cases d7.symm.trans h);done)|((cases d8.symm.trans h);done)|((cases d9.symm.trans h);done))))|(with_reducible apply zO;refine w2 H ?_;clear H;intro w H)|refine y20 mixed ?_|with_reducible apply zB|fail)
    exact zF (n+1,true) rfl ⟨rfl,zf qO,trivial⟩ ⟨by show 1≤n+1;omega,hnlt,.inl rfl,H⟩ (by show es.length - (n+1)<es.length - n;omega)
   have d9:((ev_ es n).kind != 18)=false:=by simpa using h18
   obtain⟨s1,s2,s3,s4,s5⟩:=hta.sold h18
   have htop:=fun w (hG:Mem w F1)=>zNw (au_ s.aucs i) w hG (hub i hlt)
   obtain⟨tp,htp⟩:∃ tp,(zAD (s.aucs.getD i default)).1=tp:=⟨_,rfl⟩
   rw[show(zAD (au_ s.aucs i)).1=_ from htp,show(zAD (au_ s.aucs i)).2=_ from s2] at htop
   rw[htp] at s3 s4
   have q1:(((ev_ es n).nums.length:Int) != 4)=false:=by rw[s1];rfl
   have q2:(tp.acct != (ev_ es n).nums.getD 1 0)=false:=by simpa using s3
   have q3:decide ((ev_ es n).nums.getD 2 0>tp.amount)=false:=decide_eq_false (Int.not_lt.2 s4)
   have q4:decide ((ev_ es n).nums.getD 2 0<(s.aucs.getD i default).reserve)=false:=decide_eq_false (Int.not_lt.2 s5)
   repeat' (first|refine yT ?_|refine y7 sg H ?_|refine y8 sg H ?_|(refine y10 sg H ?_;intro b w H)|(refine y11 sg H ?_;intro w H)|refine x40 sg hse ?_|refine x41 sg hse ?_|refine x44 sg hse (H.memF hF) ?_|refine x45 sg hse (H.memF hF) ?_|refine x41 sg hq ?_|((with_reducible apply zT);exact rfl;exact rfl;exact Yq.loadB1 sg hq (H.memF hF) rfl rfl rfl rfl hne0 rfl)|((with_reducible apply zT);exact rfl;exact rfl;exact Yq.loadB1 sg hq (H.memF hF) rfl rfl rfl rfl (show 1<(ev_ es n).nums.length by omega) rfl)|((with_reducible apply zT);exact rfl;exact rfl;exact Yq.loadB1 sg hq (H.memF hF) rfl rfl rfl rfl (show 2<(ev_ es n).nums.length by omega) rfl)|(refine' y30 zNc ?_ ?_;rotate_left;exact htop _ (H.memF hF);refine w2 H ?_;clear H;intro w H)|refine yU ?_|((first|refine y18 ?_ ?_|refine y23 ?_ ?_);all_goals(intro h;try (exfalso;first|((exact absurd h (by decide));done)|((cases d6.symm.trans h);done)|((cases d7.symm.trans h);done)|((cases d8.symm.trans h);done)|((cases d9.symm.trans h);done)|((cases q1.symm.trans h);done)|((cases q2.symm.trans h);done)|((cases q3.symm.trans h);done)|((cases q4.symm.trans h);done))))|(with_reducible apply zO;refine w2 H ?_;clear H;intro w H)|refine y20 mixed ?_|with_reducible apply zB|fail)
   exact zF (n+1,true) rfl ⟨rfl,zf qO,trivial⟩ ⟨by show 1≤n+1;omega,hnlt,.inl rfl,H.sub (zz7 _ _)⟩ (by show es.length - (n+1)<es.length - n;omega)
end
section
open Go Go.Sk Go.RowKit Go.ChangeShapes Go.WideShapes
set_option maxRecDepth 100000 in
theorem decideSold_calls {H:Type}{enc:TypeId × Value→H}{W:World}{args:Array Value}{ds:List (DataW H)}{p:List MemPlace}
  (hA:DataW.TrodAll enc Tryz.prog W 0 (fun _=>true) true [48,28] args.toList ds p) (hz:∀ (j:Nat) t d,([48,28]:List TypeId)[j]?=some t→ds[j]?=some d→∀ n∈d.weights Tryz.prog t,n≤reachBytes) (hv:∀ (j:Nat) t v,([48,28]:List TypeId)[j]?=some t→args[j]?=some v→Value.okWide Tryz.prog W .any 0 t v) (hL:laidMetH Tryz.prog zC9 W) :
  Calls Tryz.prog 5 args W (Ret (.bool true) W):=by
 obtain⟨v0,v1,d0,d1,r0,r1,rfl,rfl,rfl,h0,h1⟩:=zHU hA
 obtain⟨s0,p0,rfl,hM0,hA0⟩:=zOH h0 (hz 0 _ _ rfl rfl) (hv 0 _ _ rfl rfl)
 obtain⟨c1,a1,cap1,rfl,hN1,hT1⟩:=zOi h1 (hz 1 _ _ rfl rfl) (hv 1 _ _ rfl rfl)
 exact zUs s0 p0 c1 hA0.acN hA0.insN hA0.rw hT1 W (zKm W) (zS3 hL) (zS1 hL) (zS2 hL) hM0 hN1
set_option maxRecDepth 100000 in
theorem decideSold_lifted (os:Os)(started:os.Started)(H:Type)(enc:TypeId × Value→H) :
  ReturnsInHanded {} Tryz.checked os 5 .any (fun w args=>(Rows.decideSoldSpec.pre enc Tryz.prog Tryz.f5 [] false w args∧laidMetH Tryz.prog zC9 w)∧sizedMet enc Tryz.prog Tryz.f5 (OpenSpec.ofChange Rows.decideSoldSpec) false w args)
   (Rows.decideSoldSpec.post enc Tryz.prog Tryz.f5 false true false false):=by
 refine returnsInHanded_of_change_and (C:=Tryz.checked) (X:=fun w _=>laidMetH Tryz.prog zC9 w) (fun _ _ _ hh h=>h.of_heap hh) (by kernel_rfl) started (by kernel_rfl) Tryz.func5
  (ChangeSpec.witness_shaped (enc:=enc) (C:=Tryz.checked) (os:=os) (X:=fun w _=>laidMetH Tryz.prog zC9 w) false (World.doorLaid Tryz.prog 600 os) #[.agg #[.int .i64 0,.int .i64 0,.int .i64 0,.int .i64 0,.slice none 0 0,.slice none 0 0,.slice none 0 0,.slice none 0 0,.slice none 0 0],.agg #[.int .u8 0,.slice none 0 0,.string ByteArray.empty]] 8 rfl (World.shaped_of_RefB (by kernel_rfl) (by kernel_rfl)) (by kernel_rfl) (by kernel_rfl) (by kernel_rfl) (zLv os _)) ?_
 intro W base args ds gs before hval hW _ hsz hL _
 have hA:DataW.TrodAll enc Tryz.prog W 0 (fun _=>true) true [48,28] args.toList ds hW.choose:=hW.choose_spec.choose_spec.1
 refine(decideSold_calls hA (fun j t d h1 h2=>zKp hsz (Eq.trans ?_ h1) h2) (fun j t v h1 h2=>?_) hL).mono fun e W' ⟨he,hc⟩=>?_
 ·exact congrArg (fun l:List TypeId=>l[j]?) (by kernel_rfl)
 ·refine hval j t v (Eq.trans ?_ h1) h2
  rw[← Array.getElem?_toList]
  exact congrArg (fun l:List TypeId=>l[j]?) (by kernel_rfl)
 ·have hds:∃ q,hW.choose=q:=⟨_,rfl⟩
  obtain⟨q,hq⟩:=hds
  rw[hq] at hA
  refine⟨_,he,zKk (tb:=4) (by kernel_rfl) rfl (by kernel_rfl) rfl (sg.desc rfl rfl) ?_ hW hc⟩
  clear hq
  obtain⟨v0,v1,d0,d1,r0,r1,_,rfl,_⟩:=zHU hA
  rfl
end
end Go.Proofs.YthbflajpdhgfiaaGreatDoor
