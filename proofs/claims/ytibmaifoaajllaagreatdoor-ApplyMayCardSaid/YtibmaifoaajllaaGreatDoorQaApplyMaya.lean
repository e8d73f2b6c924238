/- The statement ApplyMaySaid, proved, and its tied card. -/
import Derived.ChangeKeysEq
import Derived.Deep.LoopGhost
import Derived.Deep.QuietTactic
import Derived.Deep.Slices
import Derived.KernelRfl
import Derived.LaidMore
import Derived.Laws.Bits64b
import Derived.Laws.IdiomStrings
import Derived.Laws.MakeOwn
import Derived.Laws.RangeString
import Derived.Laws.StructEq
import Derived.Lib.Mul64
import Derived.Maps.RangeRun
import Derived.OpenShut
import Derived.OrdersHeld
import Derived.ProofKit
import Derived.RangeFuncLeaves
import Derived.RangeFuncNested
import Derived.Shelf.SlLaysE
import Derived.Shelf.SlLaysF0
import Derived.Shelf.SlLaysM
import Derived.Shelf.SlSortCmp.NoneTotal
import Derived.Shelf.SlicesE.Compact
import Derived.Shelf.SortM.Plain
import Derived.Shelf.SortM.SortNone
import Derived.SizedLaws
import Derived.Sort.LoopGhostIn
import Derived.Stop.Joined
import Derived.TacticsIn
import Derived.Test.YtibmaifoaajllaaGreatDoorChecked
import Derived.Test.YtibmaifoaajllaaGreatDoorProg
import Derived.Test.YtibmaifoaajllaaGreatDoorRows
import Derived.WalkKit
import Derived.WalkSpells
import Derived.Test.YtibmaifoaajllaaGreatDoorQa48
set_option linter.unusedSimpArgs false
set_option linter.unusedVariables false
set_option maxHeartbeats 16000000
namespace Go.Proofs.YtibmaifoaajllaaGreatDoor
section
open Go Go.Sk Go.RowKit
theorem ent31:Ent Tryz.prog 31:=em Tryz.func31
theorem ent33:Ent Tryz.prog 33:=em Tryz.func33
end
section
open Go Go.Sk Go.RowKit
attribute [local irreducible] Go.Calls
theorem zSt (l:List Int):(l.map fun n=>Value.int .i64 n)=(List.range l.length).flatMap (iel l):=by
 have:∀ k,k≤l.length→(l.take k).map (fun n=>Value.int .i64 n)=(List.range k).flatMap (iel l):=by
  intro k
  induction k with
  | zero=>intro _;rfl
  | succ k ih =>
    intro hk
    rw[List.range_succ,List.flatMap_append,List.flatMap_singleton,← ih (by omega),List.take_succ_eq_append_getElem (by omega),List.map_append]
    simp[iel,List.getElem?_eq_getElem (show k<l.length by omega)]
 rw[← this _ (Nat.le_refl _),List.take_length]
theorem c_lSum {a0:Option Addr}{cap:Nat}(l:List Row4)(h64:R64 l)(s:Int)(hl:l.length≤100000){F:zH}(w0:World)(hF:Mem w0 F)(hs0:SlA F 4 a0 l.length cap (rwl l)) :
  Calls Tryz.prog 31 [.slice a0 l.length cap,.int .i64 s].toArray w0 (Ret (.int .i64 (zBj ((l.filter fun r=>r.asset==s).map fun r=>r.free+r.held).sum).1) w0):=by
 obtain⟨hn,hc,b0,off,cs,T,fr,hs⟩:=hs0
 refine enter [.tmp 4] Tryz.func31 rfl Tryz.ntmps31 rfl rfl ?_
 have H:=zB w0
 repeat' (first|refine yT ?_|refine yU ?_|with_reducible apply zA|fail)
 refine zM [(5,5),(7,7),(12,27)] (fun x:Gr × List Int=>[(12,.int .i64 (x.1.k:Int)),(5,.slice x.1.a x.2.length x.1.cap)])
  (fun x w=>x.1.k≤l.length∧x.2=((l.take x.1.k).filter fun r=>r.asset==s).flatMap (fun r=>[r.free,r.held])∧Go.Sk.Own x.1.M 2 1 x.1.a x.2.length x.1.cap (x.2.map fun n=>Value.int .i64 n)∧St w0 x.1.M w)
  (fun x=>l.length - x.1.k) (⟨0,none,0,[]⟩,[]) ⟨rfl,rfl,trivial⟩ ⟨zzD _,rfl,zTC _ _ _,H⟩ ?_
 clear H
 rintro⟨⟨k,ao,co,M⟩,u⟩ gh w ⟨hk,hu,hO,H⟩
 simp only at hk hu hO H ⊢
 have hul:u.length≤2*k:=by
  rw[hu]
  have:∀ q:List Row4,(q.flatMap fun r=>[r.free,r.held]).length=2*q.length:=fun q=>by
   induction q with
   | nil=>rfl
   | cons r q ih=>rw[List.flatMap_cons,List.length_append,ih,List.length_cons];simp only[List.length_cons,List.length_nil];omega
  rw[this]
  have h1:=List.length_filter_le (fun r:Row4=>r.asset==s) (l.take k)
  have h2:=List.length_take_le k l
  omega
 repeat' (first|refine yT ?_|refine yU ?_|fail)
 refine zJ rfl (fun h=>?_) (fun h=>?_)
 ·have hlt:k<l.length:=by have:=zzA h;omega
  clear h
  have htk:l.take (k+1)=l.take k++[rw_ l k]:=by
   rw[List.take_succ_eq_append_getElem hlt];simp[rw_,List.getElem?_eq_getElem hlt]
  repeat' (first|refine yT ?_|refine y7 sg H ?_|(refine y10 sg H ?_;intro b w H)|(refine y11 sg H ?_;intro w H)|(refine y40 sg (hs) ?_ ?_ ?_;(omega);(omega))|(refine y42 sg (hs) ((H.memF hF)) ?_ ?_;(omega))|refine yU ?_|with_reducible apply zA|fail)
  refine zJ rfl (fun h=>?_) (fun h=>?_)
  ·have hf:(l.take (k+1)).filter (fun r=>r.asset==s)=(l.take k).filter (fun r=>r.asset==s)++[rw_ l k]:=by
    rw[htk,List.filter_append,List.filter_cons_of_pos (p:=fun r:Row4=>r.asset==s) (a:=rw_ l k) (l:=[]) h,List.filter_nil]
   repeat' (first|refine yT ?_|refine y7 sg H ?_|(refine z14 sg H ?_;intro b w H)|(have hp:=H.perm (List.perm_append_comm (l₁:=[_,_]) (l₂:=M));refine zo sg 1 8 (M:=M) hp rfl rfl rfl rfl rfl rfl rfl rfl rfl rfl rfl hO (zAM hp.mem (zz3 _ (zz2 _))) rfl (zAh rfl) (by unfold maxLen;omega) (by omega) ?_;clear hp hO;intro ao co M w hO H;replace H:=H.perm (List.perm_append_comm (l₁:=M) (l₂:=[_,_])))|refine yU ?_|fail)
   exact zK (⟨k+1,ao,co,M⟩,u++[(rw_ l k).free,(rw_ l k).held]) rfl ⟨zZ (by omega),by show Value.slice ao _ co=Value.slice ao _ co;rw[List.length_append];rfl,trivial⟩
    ⟨hlt,by show u++_=_;rw[hf,List.flatMap_append,← hu];simp,by show Go.Sk.Own M _ 1 ao (u++_).length co _;rw[List.length_append,List.map_append];exact hO,(H.sub (zz7 _ _)).sub (zz7 _ _)⟩ (by show l.length - (k+1)<l.length - k;omega)
  ·have hf:(l.take (k+1)).filter (fun r=>r.asset==s)=(l.take k).filter (fun r=>r.asset==s):=by
    rw[htk,List.filter_append,List.filter_cons_of_neg (p:=fun r:Row4=>r.asset==s) (a:=rw_ l k) (l:=[]) (by rw[h];decide),List.filter_nil,List.append_nil]
   repeat' (first|refine yT ?_|refine yU ?_|fail)
   exact zK (⟨k+1,ao,co,M⟩,u) rfl ⟨zZ (by omega),rfl,trivial⟩ ⟨hlt,by show u=_;rw[hf];exact hu,hO,H.sub (zz7 _ _)⟩ (by show l.length - (k+1)<l.length - k;omega)
 ·obtain rfl:k=l.length:=by have:=zzB h;omega
  rw[List.take_length] at hu
  have hI:I64 u:=by
   intro j
   by_cases hj:j<u.length
   ·have hm:=zAK (0:Int) hj
    generalize u.getD j 0=x at hm
    rw[hu,List.mem_flatMap] at hm
    obtain⟨r,hr,hx⟩:=hm
    obtain⟨⟨h1,h2⟩,h3,h4⟩:=h64 r (List.mem_filter.1 hr).1
    simp only[List.mem_cons,List.not_mem_nil,or_false] at hx
    rcases hx with rfl|rfl
    ·exact⟨h1,h2⟩
    ·exact⟨h3,h4⟩
   ·rw[List.getD_eq_getElem?_getD,List.getElem?_eq_none (by omega)]
    exact⟨by decide,by decide⟩
  have hsum:zCS u u.length=((l.filter fun r=>r.asset==s).map fun r=>r.free+r.held).sum:=by
   have h1:∀ k,k≤u.length→zCS u k=(u.take k).sum:=by
    intro k
    induction k with
    | zero=>intro _;rfl
    | succ k ih =>
      intro hk
      rw[List.take_succ_eq_append_getElem (by omega),List.sum_append,← ih (by omega)]
      simp[zCS,List.getElem?_eq_getElem (show k<u.length by omega)]
   rw[h1 _ (Nat.le_refl _),List.take_length,hu]
   have:∀ q:List Row4,(q.flatMap fun r=>[r.free,r.held]).sum=(q.map fun r=>r.free+r.held).sum:=fun q=>by
    induction q with
    | nil=>rfl
    | cons r q ih=>rw[List.flatMap_cons,List.sum_append,ih,List.map_cons,List.sum_cons];simp
   exact this _
  have hIn:Ints M ao co u:=by
   have e:(u.map fun n=>Value.int .i64 n)=(List.range u.length).flatMap (iel u):=zSt u
   rw[e] at hO
   exact hO.sl (fun _ h=>h) (fun _ _=>rfl) (by omega)
  repeat' (first|refine yT ?_|(refine' y30 zQL ?_ ?_;rotate_left;exact zQ2 u hI (by omega) _ H.mem hIn;intro w hcl;replace H:=H.ext hcl;clear hcl)|refine yU ?_|fail)
  exact zQ rfl H.cl (by rw[hsum])
end
section
open Go Go.Sk Go.RowKit
theorem worst4 (E:Pl→Int × Int):zAt E≠4:=by
 unfold zAt
 split
 ·decide
 ·split<;>decide
theorem asked4 (p:List Pst):zAd p≠4:=by
 unfold zAd
 split
 ·decide
 ·split
  ·decide
  ·split<;>decide
theorem post4 {l:List Row4}(h:zAJ l=true)(p:List Pst):(zAn l p).2≠4:=by
 unfold zAn
 rw[if_pos h]
 split
 ·split
  ·show(0:Int)≠4;decide
  ·exact worst4 _
 ·exact asked4 p
theorem zNK {s:Sta}(h:zAJ s.rows=true)(p:List Pst):(zj s p).2≠4:=by
 unfold zj
 split
 ·show(0:Int)≠4;decide
 ·exact post4 h p
theorem zSu (s:Sta)(a i p:Int)(m:Bool):zAF s a i p m≠4:=by
 unfold zAF
 simp only
 repeat' split
 all_goals decide
theorem take4 {a:Auc}{b:Bid}(h:zAV a=true)(hb:(zp b.acct 64&&zp b.amount 1125899906842624)=true):(zW a b).2≠4:=by
 have h1:(zFp a b).2≠4:=by
  unfold zFp
  split
  ·unfold zCI
   repeat' split
   all_goals first|(show(6:Int)≠4;decide)|(show(40:Int)≠4;decide)|(show(0:Int)≠4;decide)
  ·unfold zCr
   split
   ·show(51:Int)≠4;decide
   ·show(0:Int)≠4;decide
 unfold zW
 rw[if_neg (by rw[h];decide),if_neg (by rw[hb];decide)]
 split
 ·show(49:Int)≠4;decide
 ·split
  ·exact h1
  ·show(0:Int)≠4;decide
theorem does4 {s:Sta}{e:Evt}(h:Good s)(he:EvOk e):(zBE s e.kind e.nums (e.texts.getD 0 ByteArray.empty)).2≠4:=by
 have hat:=fun(i c:Nat) (hc:(zII e.kind)[i]?=some c)=>he.at i hc
 have hkk:=he.kind
 obtain⟨v,k,n,tx⟩:=e
 simp only at hat hkk ⊢
 have hbid:(k=15∨k=17)→∀ i,i<s.aucs.length→(zW (au_ s.aucs i) ⟨nF n 1,nF n 2⟩).2≠4:=fun hk i hi=>by
  refine take4 ((zAL.1 h.aucs).2.1 _ (ze hi)) ?_
  have b1:1≤nF n 1∧nF n 1≤64:=by rcases hk with rfl|rfl<;>exact zHI (hat 1 97 rfl)
  have b2:1≤nF n 2∧nF n 2≤1125899906842624:=by rcases hk with rfl|rfl<;>exact zDM (hat 2 109 rfl)
  simp only[zp,Bool.and_eq_true,decide_eq_true_eq]
  omega
 have hb2:(k=15∨k=17)→∀ sl,(zGE s n sl).2≠4:=fun hk sl=>by
  unfold zGE
  simp only
  split
  ·show(5:Int)≠4;decide
  rename_i g
  have hb:=hbid hk _ (zIM (fun e=>g (.inl e))).1
  repeat' split
  all_goals first|(show(46:Int)≠4;decide)|(show(0:Int)≠4;decide)|(show(5:Int)≠4;decide)|exact hb|exact zNK h.rows _
 unfold zBE
 rcases kinds hkk with rfl|rfl|rfl|rfl|rfl|rfl|rfl|rfl|rfl|rfl|rfl|rfl|rfl|rfl|rfl|rfl|rfl|rfl|rfl|rfl|rfl|rfl|rfl<;>simp only[Int.reduceEq,if_false,if_true]
 all_goals first|exact hb2 (.inl rfl) _|exact hb2 (.inr rfl) _|skip
 all_goals(try unfold zDX)
 all_goals(try unfold zDY)
 all_goals(try unfold zDZ)
 all_goals(try unfold zDG)
 all_goals(try unfold zCJ)
 all_goals(try unfold zAv)
 all_goals(try unfold zCK)
 all_goals(try unfold zCa)
 all_goals(try unfold zEd)
 all_goals(try unfold zBy)
 all_goals(try unfold zEs)
 all_goals(try unfold zAe)
 all_goals(try unfold zCl)
 all_goals(try unfold zDa)
 all_goals(try unfold zA3)
 all_goals(try simp only)
 all_goals(repeat' split)
 all_goals first
  | (show(0:Int)≠4;decide)|(show(5:Int)≠4;decide)|(show(46:Int)≠4;decide)|(show(6:Int)≠4;decide)|(show(47:Int)≠4;decide)|(show(49:Int)≠4;decide)|(show(1:Int)≠4;decide)
  | exact zNK h.rows _
  | exact zSu _ _ _ _ _
  | exact zNK (s:={ s with orders:=(zCy s.orders (zV s.orders (nF n 0)).1.id).1 }) h.rows _
theorem event4 {s:Sta}{e:Evt}(h:(zk s e).2=4):zCC s=false∨zBa e=false∨e.v≠3:=by
 cases h1:zCC s with
 | false=>exact .inl rfl
 | true =>
   cases h2:zBa e with
   | false=>exact .inr (.inl rfl)
   | true =>
     by_cases h3:e.v=3
     ·exfalso
      unfold zk zy at h
      rw[if_pos h1,if_pos ⟨h3,h2⟩] at h
      have:=does4 (zAl.1 h1) (zNx h3 h2)
      split at h
      ·rename_i g;rw[g] at h;cases h
      ·exact this h
     ·exact .inr (.inr h3)
end
section
open Go Go.Sk Go.RowKit
attribute [local irreducible] Go.Calls
theorem zOe {l:List P3}{k:Nat}(hk:k<l.length)(x:Int × Int):tw (l.take (k+1)) x 0=if zA0 (p3 l k)=x then IntKind.i64.wrap (tw (l.take k) x 0+(p3 l k).2.2) else tw (l.take k) x 0:=by
 have hpk:l[k]=p3 l k:=by unfold p3;simp[List.getElem?_eq_getElem hk]
 rw[List.take_succ_eq_append_getElem hk,hpk]
 unfold tw
 rw[List.foldl_append]
 rfl
theorem zSv:Tryz.prog.stoodInHeld 115=false:=by kernel_rfl
theorem zSw:Tryz.prog.eqGuardType Tryz.prog.depth 115=false:=by kernel_rfl
def JH (s:Sta)(x:Int × Int)(b b1 b2:Nat)(k:Nat)(M:zH):Prop:=M=[cb b [.int .i64 (tw ((zS s).take k) x 0)] 2,cb b2 [.int .i64 x.2] 3,cb b1 [.int .i64 x.1] 3]
theorem zUT {F:zH}(s:Sta)(p:SPt)(a q:Int)(w0:World)(hF:Mem w0 F)(hs0:StaM F s p) :
  Calls Tryz.prog 33 [.agg (s.cells p).toArray,.int .i64 a,.int .i64 q].toArray w0 (Ret (.int .i64 (tw (zS s) (a,q) 0)) w0):=by
 refine zRA [.tmp 6] Tryz.func33 rfl Tryz.ntmps33 rfl rfl ?_
 have H:=zB w0
 refine CM.seq ?_
 repeat' (first|refine yT ?_|refine y7 sg H ?_|refine y8 sg H ?_|(refine y9 H ?_;intro b w H)|(refine y10 sg H ?_;intro b w H)|(refine y11 sg H ?_;intro w H)|refine y12 ?_|refine yU ?_|(refine y17 ?_ ?_;all_goals intro h)|(refine y18 ?_ ?_;all_goals intro h)|(with_reducible apply zL;intro w hcl;replace H:=H.ext hcl;clear hcl)|refine y20 mixed ?_|with_reducible apply zA|(refine y23 ?_ ?_;all_goals intro h)|fail)
 refine CM.seq ?_
 repeat' (first|refine yT ?_|refine y7 sg H ?_|refine y8 sg H ?_|(refine y9 H ?_;intro b w H)|(refine y10 sg H ?_;intro b w H)|(refine y11 sg H ?_;intro w H)|refine y12 ?_|refine yU ?_|(refine y17 ?_ ?_;all_goals intro h)|(refine y18 ?_ ?_;all_goals intro h)|(with_reducible apply zL;intro w hcl;replace H:=H.ext hcl;clear hcl)|refine y20 mixed ?_|with_reducible apply zA|(refine y23 ?_ ?_;all_goals intro h)|fail)
 refine CM.seqM ?_
 refine CM.seq ?_
 repeat' (first|refine yT ?_|refine y7 sg H ?_|refine y8 sg H ?_|(refine y9 H ?_;intro b w H)|(refine y10 sg H ?_;intro b w H)|(refine y11 sg H ?_;intro w H)|refine y12 ?_|(refine' y32 ent58 ?_ ?_;rotate_left;exact zNm s p _;intro v M w hR hS;replace H:=H.addR hS;clear hS;(try simp only[List.cons_append,List.nil_append] at H);obtain⟨bp,rfl,rfl⟩:=hR)|refine yU ?_|(refine y17 ?_ ?_;all_goals intro h)|(refine y18 ?_ ?_;all_goals intro h)|(with_reducible apply zL;intro w hcl;replace H:=H.ext hcl;clear hcl)|refine y20 mixed ?_|with_reducible apply zA|(refine y23 ?_ ?_;all_goals intro h)|fail)
 refine CM.block ?_
 rename_i _ bs _ _ b1 _ _ b2 _ _ _
 have hP:St w0 ([cb b [.int .i64 0] 2,cb b2 [.int .i64 q] 3,cb b1 [.int .i64 a] 3]++[cb bs (s.cells p) 28,cb bp (s.cells p) 28]) w:=H
 clear H
 refine CM.rangeFunc (N:=(zS s).length) (u1P s) (u2P s) (JH s (a,q) b b1 b2) rfl rfl ent91 rfl rfl (zKu s p w0 hF hs0 (zz5 _ (zz2 _))) hP rfl ?_ ?_
 ·clear hP
  rintro l k hk M G' w rfl H
  simp only[List.cons_append,List.nil_append] at H
  repeat' (first|refine yT ?_|refine y7 sg H ?_|refine y8 sg H ?_|(refine y9 H ?_;intro b w H)|(refine y10 sg H ?_;intro b w H)|(refine y11 sg H ?_;intro w H)|refine y12 ?_|refine yU ?_|(refine y17 ?_ ?_;all_goals intro h)|(refine y18 ?_ ?_;all_goals intro h)|(with_reducible apply zL;intro w hcl;replace H:=H.ext hcl;clear hcl)|refine y20 mixed ?_|with_reducible apply zA|(refine y23 ?_ ?_;all_goals intro h)|fail)
  refine⟨[_,_,_,_],H,fun G2 w H=>?_⟩
  simp only[List.cons_append,List.nil_append] at H
  cases hc:((p3 (zS s) k).1==a&&((p3 (zS s) k).2.1==q&&true)) with
  | true =>
    repeat' (first|refine yT ?_|refine y7 sg H ?_|refine y8 sg H ?_|(refine y9 H ?_;intro b w H)|(refine y10 sg H ?_;intro b w H)|(refine y11 sg H ?_;intro w H)|refine y12 ?_|(refine zf rfl rfl (Yq.eqlS sg (cs:=[.int .i64 (p3 (zS s) k).1,.int .i64 (p3 (zS s) k).2.1]) (ds:=[.int .i64 a,.int .i64 q]) zSv zSw rfl rfl rfl rfl rfl rfl rfl) ?_)|refine yU ?_|(refine y17 ?_ ?_;all_goals(intro h;try (exfalso;first|((cases hc.symm.trans h);done))))|(refine y18 ?_ ?_;all_goals(intro h;try (exfalso;first|((cases hc.symm.trans h);done))))|(with_reducible apply zL;intro w hcl;replace H:=H.ext hcl;clear hcl)|refine y20 mixed ?_|with_reducible apply zA|(refine y23 ?_ ?_;all_goals(intro h;try (exfalso;first|((cases hc.symm.trans h);done))))|fail)
    refine⟨_,(?_:JH s (a,q) _ b1 b2 (k+1) [_,_,_]),H.sub (zz7 _ _)⟩
    unfold JH
    rw[zOe hk,if_pos ((zGO _ _ _).2 (by simpa using hc))]
  | false =>
    repeat' (first|refine yT ?_|refine y7 sg H ?_|refine y8 sg H ?_|(refine y9 H ?_;intro b w H)|(refine y10 sg H ?_;intro b w H)|(refine y11 sg H ?_;intro w H)|refine y12 ?_|(refine zf rfl rfl (Yq.eqlS sg (cs:=[.int .i64 (p3 (zS s) k).1,.int .i64 (p3 (zS s) k).2.1]) (ds:=[.int .i64 a,.int .i64 q]) zSv zSw rfl rfl rfl rfl rfl rfl rfl) ?_)|refine yU ?_|(refine y17 ?_ ?_;all_goals(intro h;try (exfalso;first|((cases hc.symm.trans h);done))))|(refine y18 ?_ ?_;all_goals(intro h;try (exfalso;first|((cases hc.symm.trans h);done))))|(with_reducible apply zL;intro w hcl;replace H:=H.ext hcl;clear hcl)|refine y20 mixed ?_|with_reducible apply zA|(refine y23 ?_ ?_;all_goals(intro h;try (exfalso;first|((cases hc.symm.trans h);done))))|fail)
    refine⟨_,(?_:JH s (a,q) _ b1 b2 (k+1) [_,_,_]),H.sub (zz7 _ _)⟩
    unfold JH
    rw[zOe hk,if_neg (fun e=>by have:=(zGO _ _ _).1 e;rw[this.1,this.2] at hc;simp at hc)]
 ·clear hP
  rintro D lo M w rfl H
  rw[List.take_length] at H
  simp only[List.cons_append,List.nil_append] at H
  refine zP9 (zP8 (CM.of ?_))
  repeat' (first|refine yT ?_|refine y7 sg H ?_|refine y8 sg H ?_|(refine y9 H ?_;intro b w H)|(refine y10 sg H ?_;intro b w H)|(refine y11 sg H ?_;intro w H)|refine y12 ?_|refine yU ?_|(refine y17 ?_ ?_;all_goals intro h)|(refine y18 ?_ ?_;all_goals intro h)|(with_reducible apply zL;intro w hcl;replace H:=H.ext hcl;clear hcl)|refine y20 mixed ?_|with_reducible apply zA|fail)
  refine zMR H (Up.there Up.here) (fun w' H'=>⟨[_],⟨zh rfl,trivial⟩,rfl,H'.cl⟩)
end
section
open Go Go.Sk Go.RowKit
theorem zJT (q:Int):∀ l:List Row4,((l.filter fun r=>r.asset==q).map fun r=>r.free+r.held).sum=(l.map (wR q)).sum
 | []=>rfl
 | r::l=>by
   rw[List.filter_cons,List.map_cons,List.sum_cons,← zJT q l]
   unfold wR
   by_cases h:r.asset=q
   ·rw[if_pos (by simpa using h),if_pos h,List.map_cons,List.sum_cons]
   ·rw[if_neg (by simpa using h),if_neg h,Int.zero_add]
theorem sumR_zero {l:List Row4}(h:zAJ l=true)(q:Nat)(hq:q<17):(zBj ((l.filter fun r=>r.asset==(q:Int)).map fun r=>r.free+r.held).sum).1=0:=by
 rw[zJT]
 have h1:=(zBN.1 h).2 q hq
 rw[zHY _ (Nat.le_refl _),List.take_length] at h1
 rw[h1];rfl
theorem zUU {s:Sta}(h:Good s){a q:Nat}(ha:a<65)(hq:q<17):tw (zS s) ((a:Int),(q:Int)) 0=(atR s.rows ((a:Int),(q:Int))).2:=by
 obtain⟨p1,p2⟩:=h.parts
 have e:=(tw_E ((a:Int),(q:Int)) (zS s) 0 (Int.le_refl 0) (by omega) (fun y hy=>by have:=(p2 y hy).1;omega)).1
 rw[e,h.held _ (zCL.2 ⟨⟨by simp only;omega,by simp only;omega⟩,by simp only;omega,by simp only;omega⟩),Int.zero_add]
theorem zUV {s:Sta}(h:Good s){a q:Nat}(ha:0<a):0≤(lgR s.rows a q).free∧0≤(lgR s.rows a q).held∧(lgR s.rows a q).free+(lgR s.rows a q).held≤1125899906842624:=(zBc h.rows ((a:Int),(q:Int))).2 (by simp only;omega)
end
section
open Go Go.Sk Go.RowKit
attribute [local irreducible] Go.Calls
theorem c_lMay {F:zH}(s:Sta)(p:SPt)(e:Evt)(q:EPt)(hac:∀ k,k<s.accts.length→(ac_ s.accts k).name.size≤140737488355328)(hin:∀ k,k<s.insts.length→(in_ s.insts k).name.size≤140737488355328)(hr:∀ j,j<s.rows.length→(rw_ s.rows j).wf)(hT:zFq e)(w0:World)(hF:Mem w0 F)(hP:PriM F)(hK:KinM F)(hs:StaM F s p)(hM:EvtM F e q) :
  Calls Tryz.prog 9 [.agg (s.cells p).toArray,.agg (e.cells q).toArray].toArray w0 (Ret (.bool true) w0):=by
 have hlg:=fun w (hG:Mem w F)=>zFE s p hac hin w hG hs
 have hod:=fun w (hG:Mem w F)=>zK4 e q w hG hM
 have haw:=fun w (hG:Mem w F)=>zFO w hG hP hK
 by_cases hg:zCu s=false∧zGn e=false
 rotate_left
 ·refine enter [.tmp 4] Tryz.func9 rfl Tryz.ntmps9 rfl rfl ?_
  have H:=zB w0
  repeat' (first|refine yT ?_|refine y7 sg H ?_|refine y8 sg H ?_|(refine y9 H ?_;intro b w H)|(refine y10 sg H ?_;intro b w H)|(refine y11 sg H ?_;intro w H)|refine y12 ?_|(refine' y30 zAa ?_ ?_;rotate_left;exact hlg _ (H.memF hF);intro w hcl;replace H:=H.ext hcl;clear hcl)|(refine' y31 zAa ?_ ?_;rotate_left;exact(fun _ hcl=>hlg _ ((H.ext hcl).memF hF)))|(refine' y30 zAr ?_ ?_;rotate_left;exact hod _ (H.memF hF);intro w hcl;replace H:=H.ext hcl;clear hcl)|(refine' y31 zAr ?_ ?_;rotate_left;exact(fun _ hcl=>hod _ ((H.ext hcl).memF hF)))|(refine' y30 zAb ?_ ?_;rotate_left;exact haw _ (H.memF hF);intro w hcl;replace H:=H.ext hcl;clear hcl)|(refine' y31 zAb ?_ ?_;rotate_left;exact(fun _ hcl=>haw _ ((H.ext hcl).memF hF)))|refine yU ?_|(refine y17 ?_ ?_;all_goals(intro h;try (exfalso;first|((exact absurd h (by decide));done)|((exact hg ⟨‹_›,‹_›⟩);done))))|(refine y18 ?_ ?_;all_goals(intro h;try (exfalso;first|((exact absurd h (by decide));done)|((exact hg ⟨‹_›,‹_›⟩);done))))|(with_reducible apply zL;intro w hcl;replace H:=H.ext hcl;clear hcl)|refine y20 mixed ?_|with_reducible apply zA|(refine y23 ?_ ?_;all_goals(intro h;try (exfalso;first|((exact absurd h (by decide));done)|((exact hg ⟨‹_›,‹_›⟩);done))))|fail)
  all_goals exact zQ rfl H.cl rfl
 obtain⟨h1,h2⟩:=hg
 have hW:=zFP (zDv h1) hr
 rw[h1] at hlg
 rw[h2] at hod
 have cA:=fun w (G:zH) (hG:Mem w (G++F))=>zDS (s:=s) (p:=p) hW e q hT w hG (hP.mono (zz8 _ _)) (hK.mono (zz8 _ _)) (hs.mono (zz8 _ _)) (hM.mono (zz8 _ _))
 have hms:=fun w (hG:Mem w F)=>zC1 s p hW w hG hs
 obtain⟨⟨t,r⟩,hE⟩:∃ r,zk s e=r:=⟨_,rfl⟩
 have ltA:=zE7 hE
 rw[hE] at cA
 by_cases hr0:r=0
 rotate_left
 ·have ez:=zD3 (s:=s) (e:=e) (by rw[hE];exact hr0)
  have e4:=event4 (s:=s) (e:=e)
  rw[hE] at ez e4
  simp only at ez e4
  subst ez
  have d1:(r != 0)=true:=by simpa using hr0
  have hme:=fun w (hG:Mem w F)=>zNr e q hT w hG hK hM
  have cS:=fun w (G:zH) pB (hG:Mem w G) (h:StaM G zCt pB)=>zId zCt zCt pB SPt.n0 w hG h ((zSh.sta lt_z).mono (List.nil_subset _))
  have hz:zFy zCt zCt=true:=zD1.2 rfl
  rw[hz] at cS
  have d5:(r != 4)=false→(!zCC s)=false→(!zBa e)=false→(e.v != 3)=true:=fun a b c=>by
   rcases e4 (by simpa using a) with g|g|g
   ·rw[g] at b;cases b
   ·rw[g] at c;cases c
   ·simpa using g
  refine enter [.tmp 4] Tryz.func9 rfl Tryz.ntmps9 rfl rfl ?_
  have H:=zB w0
  repeat' (first|refine yT ?_|refine y7 sg H ?_|refine y8 sg H ?_|(refine y9 H ?_;intro b w H)|(refine y10 sg H ?_;intro b w H)|(refine y11 sg H ?_;intro w H)|refine y12 ?_|(refine' y30 zAa ?_ ?_;rotate_left;exact hlg _ (H.memF hF);intro w hcl;replace H:=H.ext hcl;clear hcl)|(refine' y31 zAa ?_ ?_;rotate_left;exact(fun _ hcl=>hlg _ ((H.ext hcl).memF hF)))|(refine' y30 zAr ?_ ?_;rotate_left;exact hod _ (H.memF hF);intro w hcl;replace H:=H.ext hcl;clear hcl)|(refine' y31 zAr ?_ ?_;rotate_left;exact(fun _ hcl=>hod _ ((H.ext hcl).memF hF)))|(refine' y30 zAb ?_ ?_;rotate_left;exact haw _ (H.memF hF);intro w hcl;replace H:=H.ext hcl;clear hcl)|(refine' y31 zAb ?_ ?_;rotate_left;exact(fun _ hcl=>haw _ ((H.ext hcl).memF hF)))|(refine' y32 zBr ?_ ?_;rotate_left;exact cA _ _ (H.all hF);intro v M w hR hS;replace H:=H.addR hS;clear hS;(try simp only[List.cons_append,List.nil_append] at H);obtain⟨pA,rfl,hsA⟩:=StC.sta hR ltA)|(refine' y30 zKl ?_ ?_;rotate_left;exact cS _ _ pA H.mem (hsA.mono qS);intro w hcl;replace H:=H.ext hcl;clear hcl)|(refine' y31 zKl ?_ ?_;rotate_left;exact(fun _ hcl=>cS _ _ pA (H.ext hcl).mem (hsA.mono qS)))|(refine' y30 zCR ?_ ?_;rotate_left;exact hms _ (H.memF hF);intro w hcl;replace H:=H.ext hcl;clear hcl)|(refine' y31 zCR ?_ ?_;rotate_left;exact(fun _ hcl=>hms _ ((H.ext hcl).memF hF)))|(refine' y30 zNX ?_ ?_;rotate_left;exact hme _ (H.memF hF);intro w hcl;replace H:=H.ext hcl;clear hcl)|(refine' y31 zNX ?_ ?_;rotate_left;exact(fun _ hcl=>hme _ ((H.ext hcl).memF hF)))|refine yU ?_|(refine y17 ?_ ?_;all_goals(intro h;try (exfalso;first|((exact absurd h (by decide));done)|((cases d1.symm.trans h);done))))|(refine y18 ?_ ?_;all_goals(intro h;try (exfalso;first|((exact absurd h (by decide));done)|((cases d1.symm.trans h);done))))|(with_reducible apply zL;intro w hcl;replace H:=H.ext hcl;clear hcl)|refine y20 mixed ?_|with_reducible apply zA|(refine y23 ?_ ?_;all_goals(intro h;try (exfalso;first|((exact absurd h (by decide));done)|((cases d1.symm.trans h);done))))|fail)
  all_goals first|exact zQ rfl H.cl rfl|exact zQ rfl H.cl (congrArg Value.bool (d5 ‹_› ‹_› ‹_›))
 subst hr0
 obtain⟨gs,gt,ev,hv3,hmay,hdo⟩:=zBI hE
 obtain⟨m1,m2,m3,m4,m5⟩:=zLn hE
 have hmt:zCC t=true:=zAl.2 gt
 rw[zAl.2 gs] at hms
 have d2:decide (t.nextO<s.nextO)=false:=decide_eq_false (by omega)
 have d3:decide (t.nextA<s.nextA)=false:=decide_eq_false (by omega)
 have d4:decide (t.clock<s.clock)=false:=decide_eq_false (by omega)
 have d5:decide ((t.accts.length:Int)<(s.accts.length:Int))=false:=decide_eq_false (by omega)
 have d6:decide ((t.insts.length:Int)<(s.insts.length:Int))=false:=decide_eq_false (by omega)
 have cM:=fun w (G:zH) pA (hG:Mem w G) (h:StaM G t pA)=>zC1 t pA (zG4 gt) w hG h
 rw[hmt] at cM
 have hi:=zEz gt
 have ha:=zCo gt
 have hrl:=zLi gt.rows
 refine enter [.tmp 4] Tryz.func9 rfl Tryz.ntmps9 rfl rfl ?_
 have H:=zB w0
 repeat' (first|refine yT ?_|refine y7 sg H ?_|refine y8 sg H ?_|(refine y9 H ?_;intro b w H)|(refine y10 sg H ?_;intro b w H)|(refine y11 sg H ?_;intro w H)|refine y12 ?_|(refine' y30 zAa ?_ ?_;rotate_left;exact hlg _ (H.memF hF);intro w hcl;replace H:=H.ext hcl;clear hcl)|(refine' y31 zAa ?_ ?_;rotate_left;exact(fun _ hcl=>hlg _ ((H.ext hcl).memF hF)))|(refine' y30 zAr ?_ ?_;rotate_left;exact hod _ (H.memF hF);intro w hcl;replace H:=H.ext hcl;clear hcl)|(refine' y31 zAr ?_ ?_;rotate_left;exact(fun _ hcl=>hod _ ((H.ext hcl).memF hF)))|(refine' y30 zAb ?_ ?_;rotate_left;exact haw _ (H.memF hF);intro w hcl;replace H:=H.ext hcl;clear hcl)|(refine' y31 zAb ?_ ?_;rotate_left;exact(fun _ hcl=>haw _ ((H.ext hcl).memF hF)))|(refine' y32 zBr ?_ ?_;rotate_left;exact cA _ _ (H.all hF);intro v M w hR hS;replace H:=H.addR hS;clear hS;(try simp only[List.cons_append,List.nil_append] at H);obtain⟨pA,rfl,hsA⟩:=StC.sta hR ltA)|(refine' y30 zCR ?_ ?_;rotate_left;exact cM _ _ pA H.mem (hsA.mono qS);intro w hcl;replace H:=H.ext hcl;clear hcl)|(refine' y31 zCR ?_ ?_;rotate_left;exact(fun _ hcl=>cM _ _ pA (H.ext hcl).mem (hsA.mono qS)))|(refine' y30 zCR ?_ ?_;rotate_left;exact hms _ (H.memF hF);intro w hcl;replace H:=H.ext hcl;clear hcl)|(refine' y31 zCR ?_ ?_;rotate_left;exact(fun _ hcl=>hms _ ((H.ext hcl).memF hF)))|refine yU ?_|(refine y17 ?_ ?_;all_goals(intro h;try (exfalso;first|((exact absurd h (by decide));done)|((cases d2.symm.trans h);done)|((cases d3.symm.trans h);done)|((cases d4.symm.trans h);done)|((cases d5.symm.trans h);done)|((cases d6.symm.trans h);done))))|(refine y18 ?_ ?_;all_goals(intro h;try (exfalso;first|((exact absurd h (by decide));done)|((cases d2.symm.trans h);done)|((cases d3.symm.trans h);done)|((cases d4.symm.trans h);done)|((cases d5.symm.trans h);done)|((cases d6.symm.trans h);done))))|(with_reducible apply zL;intro w hcl;replace H:=H.ext hcl;clear hcl)|refine y20 mixed ?_|with_reducible apply zA|(refine y23 ?_ ?_;all_goals(intro h;try (exfalso;first|((exact absurd h (by decide));done)|((cases d2.symm.trans h);done)|((cases d3.symm.trans h);done)|((cases d4.symm.trans h);done)|((cases d5.symm.trans h);done)|((cases d6.symm.trans h);done))))|fail)
 refine zM [(4,4),(7,9),(98,146)] (fun k:Nat=>[(7,.int .i64 (k:Int))]) (fun k w=>St w0 (cb _ (t.cells pA) 28::cb _ (e.cells q) 32::cb _ (s.cells p) 28::M) w∧k≤t.insts.length+1) (fun k=>t.insts.length+1 - k) 0 ⟨rfl,trivial⟩ ⟨H,zzD _⟩ ?_
 clear H
 rintro k gh w ⟨H,hk⟩
 by_cases hkl:k≤t.insts.length
 ·have d7:decide ((k:Int)≤(t.insts.length:Int))=true:=decide_eq_true (by omega)
  have cU:=fun w (G:zH) (hG:Mem w G) (h:M⊆G)=>c_lSum t.rows (zCq gt) (k:Int) (by omega) w hG (hsA.mono h).rw
  rw[sumR_zero gt.rows k (by omega)] at cU
  repeat' (first|refine yT ?_|refine y7 sg H ?_|refine y8 sg H ?_|(refine y9 H ?_;intro b w H)|(refine y10 sg H ?_;intro b w H)|(refine y11 sg H ?_;intro w H)|refine y12 ?_|(refine' y30 ent31 ?_ ?_;rotate_left;exact cU _ _ H.mem qS;intro w hcl;replace H:=H.ext hcl;clear hcl)|(refine' y31 ent31 ?_ ?_;rotate_left;exact(fun _ hcl=>cU _ _ (H.ext hcl).mem qS))|refine yU ?_|(refine y17 ?_ ?_;all_goals(intro h;try (exfalso;first|((exact absurd h (by decide));done)|((cases d7.symm.trans h);done))))|(refine y18 ?_ ?_;all_goals(intro h;try (exfalso;first|((exact absurd h (by decide));done)|((cases d7.symm.trans h);done))))|(with_reducible apply zL;intro w hcl;replace H:=H.ext hcl;clear hcl)|refine y20 mixed ?_|with_reducible apply zA|(refine y23 ?_ ?_;all_goals(intro h;try (exfalso;first|((exact absurd h (by decide));done)|((cases d7.symm.trans h);done))))|fail)
  refine zM [(4,4),(8,9),(110,146)] (fun j:Nat=>[(8,.int .i64 ((j+1:Nat):Int))]) (fun j w=>St w0 (cb _ (t.cells pA) 28::cb _ (e.cells q) 32::cb _ (s.cells p) 28::M) w∧j≤t.accts.length) (fun j=>t.accts.length - j) 0 ⟨rfl,trivial⟩ ⟨H,zzD _⟩ ?_
  clear H
  rintro j gj w ⟨H,hj⟩
  by_cases hjl:j<t.accts.length
  ·have d8:decide (((j+1:Nat):Int)≤(t.accts.length:Int))=true:=decide_eq_true (by omega)
   obtain⟨f1,f2,f3⟩:=zUV gt (a:=j+1) (q:=k) (by omega)
   have f4:=zUU gt (a:=j+1) (q:=k) (by omega) (by omega)
   have cG:=fun w (G:zH) (hG:Mem w G) (h:M⊆G)=>zEv t.rows ((j+1:Nat):Int) (k:Int) w hG (hsA.mono h).rw
   have cH:=fun w (G:zH) (hG:Mem w G) (h:M⊆G)=>zUT t pA ((j+1:Nat):Int) (k:Int) w hG (hsA.mono h)
   rw[f4,show(atR t.rows (((j+1:Nat):Int),(k:Int))).2=(lgR t.rows ((j+1:Nat):Int) (k:Int)).held from rfl] at cH
   generalize lgR t.rows ((j+1:Nat):Int) (k:Int)=r at *
   have e1:decide (r.free<0)=false:=decide_eq_false (by omega)
   have e2:decide (r.held<0)=false:=decide_eq_false (by omega)
   have e3:decide (IntKind.i64.wrap (r.free+r.held)>1125899906842624)=false:=by rw[w64 (by omega) (by omega)];exact decide_eq_false (by omega)
   have e4:(r.held != r.held)=false:=by simp
   repeat' (first|refine yT ?_|refine y7 sg H ?_|refine y8 sg H ?_|(refine y9 H ?_;intro b w H)|(refine y10 sg H ?_;intro b w H)|(refine y11 sg H ?_;intro w H)|refine y12 ?_|(refine' y30 zDs ?_ ?_;rotate_left;exact cG _ _ H.mem qS;intro w hcl;replace H:=H.ext hcl;clear hcl)|(refine' y31 zDs ?_ ?_;rotate_left;exact(fun _ hcl=>cG _ _ (H.ext hcl).mem qS))|(refine' y30 ent33 ?_ ?_;rotate_left;exact cH _ _ H.mem qS;intro w hcl;replace H:=H.ext hcl;clear hcl)|(refine' y31 ent33 ?_ ?_;rotate_left;exact(fun _ hcl=>cH _ _ (H.ext hcl).mem qS))|refine yU ?_|(refine y17 ?_ ?_;all_goals(intro h;try (exfalso;first|((exact absurd h (by decide));done)|((cases d8.symm.trans h);done)|((cases e1.symm.trans h);done)|((cases e2.symm.trans h);done)|((cases e3.symm.trans h);done)|((cases e4.symm.trans h);done))))|(refine y18 ?_ ?_;all_goals(intro h;try (exfalso;first|((exact absurd h (by decide));done)|((cases d8.symm.trans h);done)|((cases e1.symm.trans h);done)|((cases e2.symm.trans h);done)|((cases e3.symm.trans h);done)|((cases e4.symm.trans h);done))))|(with_reducible apply zL;intro w hcl;replace H:=H.ext hcl;clear hcl)|refine y20 mixed ?_|with_reducible apply zA|(refine y23 ?_ ?_;all_goals(intro h;try (exfalso;first|((exact absurd h (by decide));done)|((cases d8.symm.trans h);done)|((cases e1.symm.trans h);done)|((cases e2.symm.trans h);done)|((cases e3.symm.trans h);done)|((cases e4.symm.trans h);done))))|fail)
   exact zK (j+1) rfl ⟨zZ (by omega),trivial⟩ ⟨H.sub (zz7 _ _),hjl⟩ (by omega)
  ·have d8:decide (((j+1:Nat):Int)≤(t.accts.length:Int))=false:=decide_eq_false (by omega)
   repeat' (first|refine yT ?_|refine y7 sg H ?_|refine y8 sg H ?_|(refine y9 H ?_;intro b w H)|(refine y10 sg H ?_;intro b w H)|(refine y11 sg H ?_;intro w H)|refine y12 ?_|refine yU ?_|(refine y17 ?_ ?_;all_goals(intro h;try (exfalso;first|((exact absurd h (by decide));done)|((cases d8.symm.trans h);done))))|(refine y18 ?_ ?_;all_goals(intro h;try (exfalso;first|((exact absurd h (by decide));done)|((cases d8.symm.trans h);done))))|(with_reducible apply zL;intro w hcl;replace H:=H.ext hcl;clear hcl)|refine y20 mixed ?_|with_reducible apply zA|(refine y23 ?_ ?_;all_goals(intro h;try (exfalso;first|((exact absurd h (by decide));done)|((cases d8.symm.trans h);done))))|fail)
   exact zE8 (k+1) rfl ⟨zZ (by omega),trivial⟩ ⟨H,by omega⟩ (by omega)
 ·have d7:decide ((k:Int)≤(t.insts.length:Int))=false:=decide_eq_false (by omega)
  repeat' (first|refine yT ?_|refine y7 sg H ?_|refine y8 sg H ?_|(refine y9 H ?_;intro b w H)|(refine y10 sg H ?_;intro b w H)|(refine y11 sg H ?_;intro w H)|refine y12 ?_|refine yU ?_|(refine y17 ?_ ?_;all_goals(intro h;try (exfalso;first|((exact absurd h (by decide));done)|((cases d7.symm.trans h);done))))|(refine y18 ?_ ?_;all_goals(intro h;try (exfalso;first|((exact absurd h (by decide));done)|((cases d7.symm.trans h);done))))|(with_reducible apply zL;intro w hcl;replace H:=H.ext hcl;clear hcl)|refine y20 mixed ?_|with_reducible apply zA|(refine y23 ?_ ?_;all_goals(intro h;try (exfalso;first|((exact absurd h (by decide));done)|((cases d7.symm.trans h);done))))|fail)
  exact zQ rfl H.cl rfl
end
section
open Go Go.Sk Go.RowKit Go.ChangeShapes Go.WideShapes
set_option maxRecDepth 100000 in
theorem applyMay_calls {H:Type}{enc:TypeId × Value→H}{W:World}{args:Array Value}{ds:List (DataW H)}{p:List MemPlace}
  (hA:DataW.TrodAll enc Tryz.prog W 0 (fun _=>true) true [28,32] args.toList ds p) (hz:∀ (j:Nat) t d,([28,32]:List TypeId)[j]?=some t→ds[j]?=some d→∀ n∈d.weights Tryz.prog t,n≤reachBytes) (hv:∀ (j:Nat) t v,([28,32]:List TypeId)[j]?=some t→args[j]?=some v→Value.okWide Tryz.prog W .any 0 t v) (hL:laidMetH Tryz.prog zA4 W) :
  Calls Tryz.prog 9 args W (Ret (.bool true) W):=by
 obtain⟨v0,v1,d0,d1,r0,r1,rfl,rfl,rfl,h0,h1⟩:=zDg hA
 obtain⟨s0,p0,rfl,hM0,hA0⟩:=zFK h0 (hz 0 _ _ rfl rfl) (hv 0 _ _ rfl rfl)
 obtain⟨e1,q1,rfl,hE1,hT1⟩:=zHc h1 (hz 1 _ _ rfl rfl) (hv 1 _ _ rfl rfl)
 exact c_lMay s0 p0 e1 q1 hA0.acN hA0.insN hA0.rw hT1 W (zDq W) (zG6 hL) (zG5 hL) hM0 hE1
set_option maxRecDepth 100000 in
theorem applyMay_lifted (os:Os)(started:os.Started)(H:Type)(enc:TypeId × Value→H) :
  ReturnsInHanded {} Tryz.checked os 9 .any (fun w args=>(Rows.applyMaySpec.pre enc Tryz.prog Tryz.f9 [] false w args∧laidMetH Tryz.prog zA4 w)∧sizedMet enc Tryz.prog Tryz.f9 (OpenSpec.ofChange Rows.applyMaySpec) false w args)
   (Rows.applyMaySpec.post enc Tryz.prog Tryz.f9 false true false false):=by
 refine returnsInHanded_of_change_and (C:=Tryz.checked) (X:=fun w _=>laidMetH Tryz.prog zA4 w) (fun _ _ _ hh h=>h.of_heap hh) (by kernel_rfl) started (by kernel_rfl) Tryz.func9
  (ChangeSpec.witness_shaped (enc:=enc) (C:=Tryz.checked) (os:=os) (X:=fun w _=>laidMetH Tryz.prog zA4 w) false (World.doorLaid Tryz.prog 600 os) #[.agg #[.int .i64 0,.int .i64 0,.int .i64 0,.int .i64 0,.slice none 0 0,.slice none 0 0,.slice none 0 0,.slice none 0 0,.slice none 0 0],.agg #[.int .u8 0,.int .u8 0,.slice none 0 0,.slice none 0 0]] 8 rfl (World.shaped_of_RefB (by kernel_rfl) (by kernel_rfl)) (by kernel_rfl) (by kernel_rfl) (by kernel_rfl) (zD2 os _)) ?_
 intro W base args ds gs before hval hW _ hsz hL _
 have hA:DataW.TrodAll enc Tryz.prog W 0 (fun _=>true) true [28,32] args.toList ds hW.choose:=hW.choose_spec.choose_spec.1
 refine(applyMay_calls hA (fun j t d h1 h2=>zDr hsz (Eq.trans ?_ h1) h2) (fun j t v h1 h2=>?_) hL).mono fun e W' ⟨he,hc⟩=>?_
 ·exact congrArg (fun l:List TypeId=>l[j]?) (by kernel_rfl)
 ·refine hval j t v (Eq.trans ?_ h1) h2
  rw[← Array.getElem?_toList]
  exact congrArg (fun l:List TypeId=>l[j]?) (by kernel_rfl)
 ·have hds:∃ q,hW.choose=q:=⟨_,rfl⟩
  obtain⟨q,hq⟩:=hds
  rw[hq] at hA
  refine⟨_,he,zDp (tb:=4) (by kernel_rfl) rfl (by kernel_rfl) rfl (sg.desc rfl rfl) ?_ hW hc⟩
  clear hq
  obtain⟨v0,v1,d0,d1,r0,r1,_,rfl,_⟩:=zDg hA
  rfl
end
end Go.Proofs.YtibmaifoaajllaaGreatDoor
