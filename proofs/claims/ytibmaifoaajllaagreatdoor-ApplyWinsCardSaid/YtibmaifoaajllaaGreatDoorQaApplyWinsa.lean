/- The statement ApplyWinsSaid, proved, and its tied card. -/
import Derived.ChangeKeysEq
import Derived.Deep.LoopGhost
import Derived.Deep.QuietTactic
import Derived.Deep.Slices
import Derived.KernelRfl
import Derived.LaidMore
import Derived.Laws.Bits64b
import Derived.Laws.IdiomStrings
import Derived.Laws.MakeOwn
import Derived.Laws.RangeString
import Derived.Laws.StructEq
import Derived.Lib.Mul64
import Derived.Maps.RangeRun
import Derived.OpenShut
import Derived.OrdersHeld
import Derived.ProofKit
import Derived.RangeFuncLeaves
import Derived.RangeFuncNested
import Derived.Shelf.SlLaysE
import Derived.Shelf.SlLaysF0
import Derived.Shelf.SlLaysM
import Derived.Shelf.SlSortCmp.NoneTotal
import Derived.Shelf.SlicesE.Compact
import Derived.Shelf.SortM.Plain
import Derived.Shelf.SortM.SortNone
import Derived.SizedLaws
import Derived.Sort.LoopGhostIn
import Derived.Stop.Joined
import Derived.TacticsIn
import Derived.Test.YtibmaifoaajllaaGreatDoorChecked
import Derived.Test.YtibmaifoaajllaaGreatDoorProg
import Derived.Test.YtibmaifoaajllaaGreatDoorRows
import Derived.WalkKit
import Derived.WalkSpells
import Derived.Test.YtibmaifoaajllaaGreatDoorQa49
set_option linter.unusedSimpArgs false
set_option linter.unusedVariables false
set_option maxHeartbeats 16000000
namespace Go.Proofs.YtibmaifoaajllaaGreatDoor
section
open Go Go.Sk Go.RowKit
theorem zOi:Ent Tryz.prog 27:=em Tryz.func27
theorem zS6:Ent Tryz.prog 44:=em Tryz.func44
theorem ent82:Ent Tryz.prog 82:=em Tryz.func82
theorem ent83:Ent Tryz.prog 83:=em Tryz.func83
theorem c_own {a:Option Addr}{cap:Nat}(x:Auc){F:zH}(w0:World)(hF:Mem w0 F)(hs:Bids F a cap x.bids)(hb:x.bids.length≤8796093022208) :
  Calls Tryz.prog 83 [.agg (x.cells a cap).toArray].toArray w0 (zn (OwnA x) w0):=by
 refine enter [.cell 2 62] Tryz.func83 rfl Tryz.ntmps83 rfl rfl ?_
 have H:=zB w0
 repeat' (first|refine yT ?_|refine y7 sg H ?_|(refine y9 H ?_;intro b w H)|(refine y10 sg H ?_;intro b w H)|(refine y11 sg H ?_;intro w H)|(refine' y32 zQQ ?_ ?_;rotate_left;exact zFi _ (H.memF hF) hs (fun j _=>zJ1 _ j) (fun j _=>zFC _ j) (by omega);intro v M w hR hS;replace H:=H.addR hS;clear hS;(try simp only[List.cons_append,List.nil_append] at H);obtain⟨a',cap',rfl,hO⟩:=hR)|refine yU ?_|fail)
 refine zCD (vs:=[_]) (M:=M) ⟨zAf sg rfl H.mem (zz2 _) rfl rfl,trivial⟩ (H.sub zKk) ⟨a',cap',rfl,hO⟩
theorem c_Get1 {a:Option Addr}{cap:Nat}(x:Auc)(id:Int)(b:Nat)(T:TypeId){F:zH}(w0:World)(hF:Mem w0 F)(hm:(b,Obj.cells [Value.int .i64 id].toArray T (0,0))∈F) :
  Calls Tryz.prog 82 [.agg (x.cells a cap).toArray,.pointer (some ⟨b,0,none⟩)].toArray w0 (Ret (.bool (x.id==id)) w0):=by
 refine enter [.tmp 3] Tryz.func82 rfl Tryz.ntmps82 rfl rfl ?_
 have H:=zB w0
 repeat' (first|refine yT ?_|refine y7 sg H ?_|(refine y9 H ?_;intro b w H)|refine z13 (zG sg rfl rfl (H.memF hF) hm rfl rfl) ?_|refine yU ?_|fail)
 exact zQ rfl H.cl rfl
def zBm (l:List Auc)(id:Int):Auc × Bool:=if zIm l id<0 then(Auc.zero,false) else(l.getD (zIm l id).toNat default,true)
theorem c_Get {a:Option Addr}{cap:Nat}(l:List Auc)(ad:Nat→Option Addr × Nat)(id:Int){F:zH}(w0:World)(hF:Mem w0 F)(hs0:Aucs F a cap l ad)(hb:∀ j,j<l.length→(l.getD j default).bids.length≤8796093022208) :
  Calls Tryz.prog 44 [.slice a l.length cap,.int .i64 id].toArray w0 (zn (fun M v=>∃ u,OwnA (zBm l id).1 M u∧v=.tuple #[u,.bool (zBm l id).2]) w0):=by
 have hs1:=hs0
 obtain⟨⟨hn,hc,b0,off,cs,T,fr,hs⟩,hbs⟩:=hs1
 have hg:=zJ2 l id
 unfold zIm at hg
 refine enter [.cell 4 62,.tmp 5] Tryz.func44 rfl Tryz.ntmps44 rfl rfl ?_
 have H:=zB w0
 repeat' (first|refine yT ?_|(refine y9 H ?_;intro b w H)|(refine y10 sg H ?_;intro b w H)|(refine' y30 zKo ?_ ?_;rotate_left;exact zED (caps:=[.pointer (some ⟨_,0,none⟩)]) (fun j=>(l.getD j default).id==id) _ (H.memF hF) hs0.1 ent82 (fun j hj w hw=>c_Get1 (l.getD j default) id _ _ _ (H.ext hw).mem (zz5 _ (zz2 _)));intro w hcl;replace H:=H.ext hcl;clear hcl)|refine yU ?_|fail)
 refine zJ rfl (fun h=>?_) (fun h=>?_)
 ·repeat' (first|refine yT ?_|(refine y11 sg H ?_;intro w H)|refine yU ?_|fail)
  have e:zBm l id=(Auc.zero,false):=by unfold zBm zIm;rw[if_pos (of_decide_eq_true h)]
  refine zAY (vs:=[_,_]) (M:=[]) ⟨zAf sg rfl H.mem (zz2 _) rfl rfl,zh rfl,trivial⟩ (H.sub (zz9 _)) ?_
  rw[e]
  exact⟨_,⟨none,0,rfl,zTC _ _ _⟩,rfl⟩
 ·have hlt:=zzB h
  have e:zBm l id=(l.getD (idx (fun j=>(l.getD j default).id==id) l.length).toNat default,true):=by unfold zBm zIm;rw[if_neg hlt]
  repeat' (first|refine yT ?_|(refine y11 sg H ?_;intro w H)|(refine y40 sg (hs) ?_ ?_ ?_;(omega);(omega))|(refine y42 sg (hs) ((H.memF hF)) ?_ ?_;(omega))|(refine' y32 ent83 ?_ ?_;rotate_left;exact c_own (l.getD (idx (fun j=>(l.getD j default).id==id) l.length).toNat default) _ (H.memF hF) (hbs _ (by omega)) (hb _ (by omega));intro v M w hR hS;replace H:=H.addR hS;clear hS;(try simp only[List.cons_append,List.nil_append] at H);obtain⟨a',cap',rfl,hO⟩:=hR)|refine yU ?_|fail)
  refine zAY (vs:=[_,_]) (M:=M) ⟨zAf sg rfl H.mem (zz2 _) rfl rfl,zh rfl,trivial⟩ (H.sub zKk) ?_
  rw[e];exact⟨_,⟨a',cap',rfl,hO⟩,rfl⟩
end
section
open Go Go.Sk Go.RowKit
attribute [local irreducible] Go.Calls
section
variable {F:zH}{s:Sta}{p:SPt}
def zGa (s:Sta)(id:Int):Bid × Int × Bool:=if (zBm s.aucs id).2=true∧zCC s=true then zO s (zBm s.aucs id).1 else(Bid.zero,0,false)
theorem zJU (hW:StaW s)(id:Int)(h64:R64 s.rows)(hb:∀ j,j<s.aucs.length→(s.aucs.getD j default).bids.length≤100000)
  (hok:(zBm s.aucs id).2=true→zCC s=true→(0≤s.fee∧s.fee≤1000)∧(0≤(zBm s.aucs id).1.qty∧(zBm s.aucs id).1.qty≤1125899906842624)∧0≤(zN (zBm s.aucs id).1).1.amount∧(zN (zBm s.aucs id).1).1.amount≤1125899906842624) (w0:World) (hF:Mem w0 F) (hs:StaM F s p) :
  Calls Tryz.prog 27 [.agg (s.cells p).toArray,.int .i64 id].toArray w0 (Ret (.tuple #[.int .i64 (zGa s id).1.acct,.int .i64 (zGa s id).1.amount,.int .i64 (zGa s id).2.1,.bool (zGa s id).2.2]) w0):=by
 have hget:=fun w (hF:Mem w F)=>c_Get s.aucs p.ad id w hF hs.au (fun j hj=>Nat.le_trans (hb j hj) (by decide))
 have hgl:(zBm s.aucs id).1.bids.length≤100000:=by
  unfold zBm
  split
  ·exact zzD _
  ·have:=zJ2 s.aucs id
   exact hb _ (by omega)
 unfold zGa
 cases h0:(zBm s.aucs id).2 with
 | false =>
   rw[if_neg (by rintro⟨g,_⟩;cases g)]
   refine enter [.tmp 4,.tmp 5,.tmp 6,.tmp 7] Tryz.func27 rfl Tryz.ntmps27 rfl rfl ?_
   have H:=zB w0
   repeat' (first|refine yT ?_|refine y7 sg H ?_|(refine y9 H ?_;intro b w H)|(refine y10 sg H ?_;intro b w H)|(refine y11 sg H ?_;intro w H)|(refine' y32 zS6 ?_ ?_;rotate_left;exact hget _ (H.memF hF);intro v M w hR hS;replace H:=H.addR hS;clear hS;(try simp only[List.cons_append,List.nil_append] at H);obtain⟨_,⟨a1,c1,rfl,hO⟩,rfl⟩:=hR)|refine yU ?_|(refine y17 ?_ ?_;all_goals(intro h;try (exfalso;first|((rw[h0] at h;cases h);done))))|fail)
   all_goals exact zBT (vs:=[_,_,_,_]) ⟨zh rfl,zh rfl,zh rfl,zh rfl,trivial⟩ H.cl rfl
 | true =>
   cases hm:zCC s with
   | false =>
     rw[if_neg (by rintro⟨_,g⟩;cases g)]
     refine enter [.tmp 4,.tmp 5,.tmp 6,.tmp 7] Tryz.func27 rfl Tryz.ntmps27 rfl rfl ?_
     have H:=zB w0
     repeat' (first|refine yT ?_|refine y7 sg H ?_|(refine y9 H ?_;intro b w H)|(refine y10 sg H ?_;intro b w H)|(refine y11 sg H ?_;intro w H)|(refine' y30 zCR ?_ ?_;rotate_left;exact zC1 s p hW _ (H.memF hF) hs;intro w hcl;replace H:=H.ext hcl;clear hcl)|(refine' y32 zS6 ?_ ?_;rotate_left;exact hget _ (H.memF hF);intro v M w hR hS;replace H:=H.addR hS;clear hS;(try simp only[List.cons_append,List.nil_append] at H);obtain⟨_,⟨a1,c1,rfl,hO⟩,rfl⟩:=hR)|refine yU ?_|(refine y17 ?_ ?_;all_goals(intro h;try (exfalso;first|((rw[h0] at h;cases h);done)|((rw[hm] at h;cases h);done))))|(refine y23 ?_ ?_;all_goals(intro h;try (exfalso;first|((rw[h0] at h;cases h);done)|((rw[hm] at h;cases h);done))))|fail)
     all_goals exact zBT (vs:=[_,_,_,_]) ⟨zh rfl,zh rfl,zh rfl,zh rfl,trivial⟩ H.cl rfl
   | true =>
     obtain⟨hfe,hq,hwa⟩:=hok h0 hm
     rw[if_pos ⟨rfl,rfl⟩]
     refine enter [.tmp 4,.tmp 5,.tmp 6,.tmp 7] Tryz.func27 rfl Tryz.ntmps27 rfl rfl ?_
     have H:=zB w0
     have hwin:=fun w (b:Nat) (G:zH) (a1:Option Addr) (c1:Nat) (hG:Mem w G) (hM:Mkt G b s p [] none 0 ByteArray.empty) (hB:Bids G a1 c1 (zBm s.aucs id).1.bids)=>zG3 (zBm s.aucs id).1 h64 hfe hq hwa w hG hM hB
     repeat' (first|refine yT ?_|refine y7 sg H ?_|(refine y9 H ?_;intro b w H)|(refine y10 sg H ?_;intro b w H)|(refine y11 sg H ?_;intro w H)|(refine' y30 zCR ?_ ?_;rotate_left;exact zC1 s p hW _ (H.memF hF) hs;intro w hcl;replace H:=H.ext hcl;clear hcl)|(refine' y32 zS6 ?_ ?_;rotate_left;exact hget _ (H.memF hF);intro v M w hR hS;replace H:=H.addR hS;clear hS;(try simp only[List.cons_append,List.nil_append] at H);obtain⟨_,⟨a1,c1,rfl,hO⟩,rfl⟩:=hR)|(refine' y30 zQK ?_ ?_;rotate_left;exact hwin _ _ _ _ _ (H.all hF) ⟨zz6 _ qC,hs.mono (zz8 _ _),SlA.nil⟩ (OwnB.bids hO qS (by omega));intro w hcl;replace H:=H.ext hcl;clear hcl)|(refine CW.regionL mixed 10 (z6s (x:=cb _ (zO s (zBm s.aucs id).1).1.cells 91) H hF) [] ?_ ?_;exact rfl;intro w hcl;replace H:=H.ext hcl;clear hcl;have qh:=z6s (x:=cb _ (zO s (zBm s.aucs id).1).1.cells 91) H hF;refine' l1 0 qh ?_ ?_;rotate_left;(exact z4 sg);refine' l1 1 qh ?_ ?_;rotate_left;(exact z3 sg);refine' l1 2 qh ?_ ?_;rotate_left;(exact z4 sg);refine' l1 3 qh ?_ ?_;rotate_left;(exact z3 sg);refine' l1 4 qh ?_ ?_;rotate_left;(exact z4 sg);refine' l1 5 qh ?_ ?_;rotate_left;(exact z4 sg);refine' l1 6 qh ?_ ?_;rotate_left;(exact z4 sg);refine' l1 7 qh ?_ ?_;rotate_left;(exact z4 sg);refine' l1 8 qh ?_ ?_;rotate_left;(exact z4 sg);refine' l1 9 qh ?_ ?_;rotate_left;(exact z4 sg))|((with_reducible apply RL.nil);decide +kernel)|refine yU ?_|(refine y17 ?_ ?_;all_goals(intro h;try (exfalso;first|((rw[h0] at h;cases h);done)|((rw[hm] at h;cases h);done))))|(refine y23 ?_ ?_;all_goals(intro h;try (exfalso;first|((rw[h0] at h;cases h);done)|((rw[hm] at h;cases h);done))))|fail)
     all_goals exact zBT (vs:=[_,_,_,_]) ⟨zh rfl,zh rfl,zh rfl,zh rfl,trivial⟩ H.cl rfl
end
end
section
open Go Go.Sk Go.RowKit
theorem zUb {s:Sta}(h:Good s){i:Nat}(hi:i<s.aucs.length)(x:Pl):zq (zX (au_ s.aucs i)) x≤zq (zS s) x:=by
 have hp:=(Good.parts h).2
 have hnn:∀ y∈zS s,0≤y.2.2:=fun y hy=>Int.le_of_lt (hp y hy).1.1
 have hsp:=zIN hi
 unfold zS at hnn ⊢
 have e:zq (s.aucs.flatMap zX) x=zq ((s.aucs.take i).flatMap zX) x+(zq (zX (au_ s.aucs i)) x+zq ((s.aucs.drop (i+1)).flatMap zX) x):=by
  conv=>lhs;rw[hsp]
  rw[List.flatMap_append,List.flatMap_cons,zg,zg]
 rw[zg,e]
 have n1:=zDy (fun y hy=>hnn y (zz6 _ hy)) x
 have n2:0≤zq ((s.aucs.take i).flatMap zX) x:=zDy (fun y hy=>hnn y (zz3 _ (by
  rw[hsp,List.flatMap_append];exact zz6 _ hy))) x
 have n3:0≤zq ((s.aucs.drop (i+1)).flatMap zX) x:=zDy (fun y hy=>hnn y (zz3 _ (by
  rw[hsp,List.flatMap_append,List.flatMap_cons];exact zz3 _ (zz3 _ hy)))) x
 omega
theorem zLt (p r:List Pst)(q:Int):zBU (p++r) q=zBU p q+zBU r q:=by
 induction p with
 | nil=>simp[zBU]
 | cons x p ih=>rw[List.cons_append,zBh,zBh,ih];omega
theorem zNM {p:List Pst}(h:∀ q∈p,q.free+q.held=0)(s:Int):zBU p s=0:=by
 induction p with
 | nil=>rfl
 | cons x p ih =>
   rw[zBh,ih fun y hy=>h y (List.Mem.tail _ hy),h x (List.Mem.head _)]
   simp
theorem zIf (a:Auc):∀ q∈zAU a,q.free+q.held=0:=fun x hx=>by
 unfold zAU at hx
 rcases List.mem_append.1 hx with g|g
 ·obtain⟨b,hb,rfl⟩:=List.mem_map.1 g
  show b.amount+-b.amount=0;omega
 ·rw[List.mem_singleton] at g;subst g;show a.qty+-a.qty=0;omega
theorem zOj {q z:Int}(h1:0≤q)(h3:0≤z∧z≤1000):0≤(zBt q z).1∧(zBt q z).1≤q:=by
 have e1:q*z≤q*1000:=Int.mul_le_mul_of_nonneg_left h3.2 h1
 have e2:0≤q*z:=Int.mul_nonneg h1 h3.1
 unfold zBt
 split
 ·exact⟨Int.le_refl 0,h1⟩
 ·split
  ·exact⟨Int.le_refl 0,h1⟩
  ·show 0≤q*z / 10000∧q*z / 10000≤q
   generalize q*z=y at e1 e2
   omega
theorem zIg {s:Sta}(h:Good s){i:Nat}(hi:i<s.aucs.length):(∀ q∈zAU (au_ s.aucs i),zCs q=false)∧∀ x,(dlF (zAU (au_ s.aucs i)) x).2=-(zq (zX (au_ s.aucs i)) x)∧(dlF (zAU (au_ s.aucs i)) x).1=zq (zX (au_ s.aucs i)) x∧0≤zq (zX (au_ s.aucs i)) x:=by
 have hm:zAV (au_ s.aucs i)=true:=(zAL.1 h.aucs).2.1 _ (ze hi)
 generalize au_ s.aucs i=a at *
 obtain⟨b1,b2,b3,b4,b5,b6⟩:=zCw hm
 refine⟨fun q hq=>?_,fun x=>?_⟩
 ·unfold zAU at hq
  rcases List.mem_append.1 hq with g|g
  ·obtain⟨b,hb,rfl⟩:=List.mem_map.1 g
   have:=b6 b hb
   exact zFJ.2 ⟨⟨by simp only;omega,by simp only;omega⟩,by unfold zBR;simp only;omega,by unfold zBR;simp only;omega,fun e=>by simp only at e;omega⟩
  ·rw[List.mem_singleton] at g;subst g
   exact zFJ.2 ⟨⟨by simp only;omega,by simp only;omega⟩,by unfold zBR;simp only;omega,by unfold zBR;simp only;omega,fun e=>by simp only at e;omega⟩
 ·have e1:=zN0 a x
  have e2:=zDO hm x
  have e3:=zLS (zIf a) x
  have e4:0≤zq (a.bids.map bP3) x:=zDy (fun y hy=>by
   obtain⟨b,hb,rfl⟩:=List.mem_map.1 hy
   have:=(b6 b hb).2.1
   show 0≤b.amount;omega) x
  have e5:0≤(if ((a.seller,a.inst):Pl)=x then a.qty else 0):=by split<;>omega
  refine⟨by omega,by omega,by omega⟩
theorem zJV {s:Sta}(h:Good s){i:Nat}(hi:i<s.aucs.length){p:List Pst}(hl:p.length≤5)(hb:∀ q∈p,zCs q=false)(hh:∀ q∈p,q.held=0)(hs:∀ q:Nat,q<17→zBU p q=0)
  (hok:∀ x:Pl,x.1≠0→0≤(atR s.rows x).1+(dlF p x).1+zq (zX (au_ s.aucs i)) x∧(atR s.rows x).1+(atR s.rows x).2+(dlF p x).1≤1125899906842624):(zAn s.rows (p++zAU (au_ s.aucs i))).2=0:=by
 have hm:zAV (au_ s.aucs i)=true:=(zAL.1 h.aucs).2.1 _ (ze hi)
 obtain⟨_,_,_,_,b5,_⟩:=zCw hm
 obtain⟨k1,k2⟩:=zIg h hi
 have hask:zAd (p++zAU (au_ s.aucs i))=0:=by
  refine zGy.2 ⟨?_,?_,fun q hq=>?_⟩
  ·unfold zAU;simp only[List.length_append,List.length_map,List.length_singleton];omega
  ·rw[List.any_eq_false]
   intro q hq
   rcases List.mem_append.1 hq with g|g
   ·rw[hb q g];decide
   ·rw[k1 q g];decide
  ·rw[zLt,hs q hq,zNM (zIf _)];rfl
 rw[zHb h.rows hask,if_pos (zGx.1.2 fun x hx=>?_)]
 by_cases h0:x.1=0
 ·unfold zAN;rw[if_pos h0]
 ·have e:zm s.rows (p++zAU (au_ s.aucs i)) x=((atR s.rows x).1+(dlF p x).1+zq (zX (au_ s.aucs i)) x,(atR s.rows x).2 - zq (zX (au_ s.aucs i)) x):=by
   obtain⟨c1,c2,_⟩:=k2 x
   unfold zm
   rw[zJH,c1,c2,zN1 hh]
   ext<;>simp only<;>omega
  have e2:=h.held x hx
  have e3:=zUb h hi x
  have e4:=hok x h0
  have e5:=(k2 x).2.2
  rw[e]
  simp only
  rcases zCm x.1 ((atR s.rows x).1+(dlF p x).1+zq (zX (au_ s.aucs i)) x) ((atR s.rows x).2 - zq (zX (au_ s.aucs i)) x) with g|g|g
  ·exact g.1
  ·omega
  ·omega
theorem zS7 {a:Auc}(h:zAV a=true){b:Bid}(hb:b∈a.bids):b.amount≤zq (zX a) (b.acct,0):=by
 obtain⟨_,_,b3,_,_,b6⟩:=zCw h
 rw[zDO h]
 have e:=zLN (l:=a.bids.map bP3) (fun y hy=>by
  obtain⟨b,hb,rfl⟩:=List.mem_map.1 hy
  have:=(b6 b hb).2.1
  show 0≤b.amount;omega) (List.mem_map.2 ⟨b,hb,rfl⟩)
 have e5:0≤(if ((a.seller,a.inst):Pl)=((b.acct,0):Pl) then a.qty else 0):=by split<;>omega
 have e6:b.amount≤zq (a.bids.map bP3) (b.acct,0):=e
 omega
theorem zS8 {a:Auc}(h:zAV a=true):a.qty≤zq (zX a) (a.seller,a.inst):=by
 obtain⟨_,_,b3,_,_,b6⟩:=zCw h
 rw[zDO h,if_pos rfl]
 have e4:0≤zq (a.bids.map bP3) (a.seller,a.inst):=zDy (fun y hy=>by
  obtain⟨b,hb,rfl⟩:=List.mem_map.1 hy
  have:=(b6 b hb).2.1
  show 0≤b.amount;omega) _
 omega
theorem zP2 {s:Sta}(h:Good s){i:Nat}(hi:i<s.aucs.length):(zA3 s i []).2=0:=by
 have hp:=zJV h hi (p:=[]) (zzD _) (fun q hq=>nomatch hq) (fun q hq=>nomatch hq) (fun q _=>rfl) (fun x hx=>by
  have g:=(zBc h.rows x).2 hx
  have e:=((zIg h hi).2 x).2.2
  simp only[dlF,List.foldl_nil];omega)
 unfold zA3 zj
 simp only
 rw[if_pos hp]
 simp
theorem zUc {s:Sta}(h:Good s){i:Nat}(hi:i<s.aucs.length)(hw:(zO s (au_ s.aucs i)).2.2=true):(zA3 s i (zDI (au_ s.aucs i) (zO s (au_ s.aucs i)).1 (zO s (au_ s.aucs i)).2.1)).2=0:=by
 have hm:zAV (au_ s.aucs i)=true:=(zAL.1 h.aucs).2.1 _ (ze hi)
 have hn:=zx.1 h.nums
 obtain⟨w1,w2,w3,w4,w5⟩:=zD0 hw
 obtain⟨m,m1,m2,_,_,m5,m6,_⟩:=zFH hm w1
 have hb:=ze (l:=(au_ s.aucs i).bids) m1
 have hbd:=zS7 hm hb
 have hq:=zS8 hm
 rw[w2,w3]
 have hk:=(zIg h hi).2
 have ho:∀ q∈zDI (au_ s.aucs i) (zN (au_ s.aucs i)).1 (zBt (zN (au_ s.aucs i)).1.amount s.fee).1,q.held=0:=fun q hq=>by
  unfold zDI at hq
  simp only[List.mem_cons,List.not_mem_nil,or_false] at hq
  rcases hq with rfl|rfl|rfl|rfl|rfl<;>rfl
 have hp:(zAn s.rows (zDI (au_ s.aucs i) (zN (au_ s.aucs i)).1 (zBt (zN (au_ s.aucs i)).1.amount s.fee).1++zAU (au_ s.aucs i))).2=0:=by
  obtain⟨b1,b2,b3,b4,b5,b6⟩:=zCw hm
  have hb6:=b6 _ hb
  have f1:0≤(zBt (zN (au_ s.aucs i)).1.amount s.fee).1∧(zBt (zN (au_ s.aucs i)).1.amount s.fee).1≤(zN (au_ s.aucs i)).1.amount:=zOj (by omega) hn.2.1
  refine zJV h hi (zzC _) (fun q hq=>?_) ho (fun q _=>?_) fun x hx=>?_
  all_goals
   generalize hA:(au_ s.aucs i)=a at *
   generalize (zBt (zN a).1.amount s.fee).1=fee at *
   rw[show a.bids.getD m default=a.bids.getD m default from rfl] at *
  ·rw[← m2] at hb6
   unfold zDI at hq
   simp only[List.mem_cons,List.not_mem_nil,or_false] at hq
   rcases hq with rfl|rfl|rfl|rfl|rfl<;>exact zFJ.2 ⟨⟨by simp only;omega,by simp only;omega⟩,by unfold zBR;simp only;omega,by unfold zBR;simp only;omega,fun e=>rfl⟩
  ·unfold zDI
   simp only[zBh]
   have e0:zBU [] (q:Int)=0:=rfl
   rw[e0]
   repeat' split
   all_goals omega
  ·have g:=(zBc h.rows x).2 hx
   have hx2:=(hk x).2.2
   have t1:=zCn h.rows (a:=a.seller) (s:=0) (by omega)
   have t2:=zCn h.rows (a:=(zN a).1.acct) (s:=a.inst) (by rw[m2];omega)
   rw[t1] at w4
   rw[t2] at w5
   rw[← m2] at hbd
   obtain⟨x1,x2⟩:=x
   simp only at hx
   have k1:(zN a).1.acct=x1∧(0:Int)=x2→(zN a).1.amount≤zq (zX a) (x1,x2):=by
    rintro⟨rfl,rfl⟩;omega
   have k2:a.seller=x1∧a.inst=x2→a.qty≤zq (zX a) (x1,x2):=by
    rintro⟨rfl,rfl⟩;exact hq
   have k3:a.seller=x1∧(0:Int)=x2→(atR s.rows (x1,x2)).1+(atR s.rows (x1,x2)).2+(zN a).1.amount - fee≤1125899906842624:=by
    rintro⟨rfl,rfl⟩;exact w4
   have k4:(zN a).1.acct=x1∧a.inst=x2→(atR s.rows (x1,x2)).1+(atR s.rows (x1,x2)).2+a.qty≤1125899906842624:=by
    rintro⟨rfl,rfl⟩;exact w5
   have q0:¬((0:Int)=x1∧(0:Int)=x2):=fun e=>hx e.1.symm
   unfold zDI
   have en:dlF [] (x1,x2)=(0,0):=rfl
   simp only[zAW,en]
   by_cases q1:(zN a).1.acct=x1∧(0:Int)=x2<;>by_cases q2:a.seller=x1∧a.inst=x2<;>by_cases q3:a.seller=x1∧(0:Int)=x2<;>by_cases q4:(zN a).1.acct=x1∧a.inst=x2
   all_goals
    (first|rw[if_pos q4]|rw[if_neg q4])
    (first|rw[if_pos q2]|rw[if_neg q2])
    rw[if_neg q0]
    (first|rw[if_pos q3]|rw[if_neg q3])
    (first|rw[if_pos q1]|rw[if_neg q1])
    (try have r1:=k1 q1)
    (try have r2:=k2 q2)
    (try have r3:=k3 q3)
    (try have r4:=k4 q4)
    simp only
    omega
 unfold zA3 zj
 simp only
 rw[if_pos hp]
 simp
end
section
open Go Go.Sk Go.RowKit Go.ChangeShapes Go.WideShapes
section
variable {H:Type}{enc:TypeId × Value→H}{P:Program}{w:World}{base:Nat}{spare:Nat→Bool}{held:Bool}{t0 t1 t2 t3 t4:TypeId}{args:Array Value}{ds:List (DataW H)}{ps:List MemPlace}
theorem zOk (h:DataW.TrodAll enc P w base spare held [t0,t1,t2,t3,t4] args.toList ds ps) :
  ∃ v0 v1 v2 v3 v4 d0 d1 d2 d3 d4 p0 p1 p2 p3 p4,args=#[v0,v1,v2,v3,v4]∧ds=[d0,d1,d2,d3,d4]∧ps=p0++p1++p2++p3++p4∧DataW.Trod enc P w base spare held t0 v0 d0 p0∧DataW.Trod enc P w base spare held t1 v1 d1 p1∧DataW.Trod enc P w base spare held t2 v2 d2 p2∧DataW.Trod enc P w base spare held t3 v3 d3 p3∧DataW.Trod enc P w base spare held t4 v4 d4 p4:=by
 obtain⟨v0,_,d0,_,p0,_,e,rfl,rfl,h0,h⟩:=trodAll_cons h
 obtain⟨v1,_,d1,_,p1,_,rfl,rfl,rfl,h1,h⟩:=trodAll_cons h
 obtain⟨v2,_,d2,_,p2,_,rfl,rfl,rfl,h2,h⟩:=trodAll_cons h
 obtain⟨v3,_,d3,_,p3,_,rfl,rfl,rfl,h3,h⟩:=trodAll_cons h
 obtain⟨v4,_,d4,_,p4,_,rfl,rfl,rfl,h4,h⟩:=trodAll_cons h
 obtain⟨rfl,rfl,rfl⟩:=trodAll_nil h
 exact⟨v0,v1,v2,v3,v4,d0,d1,d2,d3,d4,p0,p1,p2,p3,p4,by cases args;simp_all,rfl,by simp,h0,h1,h2,h3,h4⟩
end
end
section
open Go Go.Sk Go.RowKit
theorem zG7 {s:Sta}(h:Good s){i:Nat}(hi:i<s.aucs.length):zAG s (au_ s.aucs i).id=i:=by
 have hp:=(zAL.1 h.aucs).2.2
 rw[List.pairwise_iff_getElem] at hp
 have e:∀ k (hk:k<s.aucs.length),au_ s.aucs k=s.aucs[k]:=fun k hk=>by simp[au_,List.getD_eq_getElem?_getD,List.getElem?_eq_getElem hk]
 unfold zAG
 rcases zY (fun j=>(au_ s.aucs j).id==(au_ s.aucs i).id) s.aucs.length with ⟨k,hk,_,hp',hx⟩|⟨hn,_⟩
 ·rw[hx]
  have h1:(au_ s.aucs k).id=(au_ s.aucs i).id:=by simpa using hp'
  rw[e k hk,e i hi] at h1
  rcases Nat.lt_trichotomy k i with g|g|g
  ·have:=hp k i hk hi g;omega
  ·rw[g]
  ·have:=hp i k hi hk g;omega
 ·have:=hn i hi
  simp at this
theorem zP3 {i a p z:Int}:zBa (evF 18 [i,a,p,z])=true↔(1≤i∧i≤1099511627776)∧(1≤a∧a≤64)∧(1≤p∧p≤1125899906842624)∧0≤z∧z≤1125899906842624:=by
 have e:zBa (evF 18 [i,a,p,z])=((true&&(List.range 4).all fun k=>zBk 3 (([99,97,109,122]:List Nat).getD k 0) (([i,a,p,z]:List Int).getD k 0))&&true):=rfl
 rw[e,show List.range 4=[0,1,2,3] from rfl]
 simp only[List.all_cons,List.all_nil,Bool.true_and,Bool.and_true]
 have e1:zBk 3 (([99,97,109,122]:List Nat).getD 0 0) (([i,a,p,z]:List Int).getD 0 0)=(decide (1≤i)&&decide (i≤1099511627776)):=rfl
 have e2:zBk 3 (([99,97,109,122]:List Nat).getD 1 0) (([i,a,p,z]:List Int).getD 1 0)=(decide (1≤a)&&decide (a≤64)):=rfl
 have e3:zBk 3 (([99,97,109,122]:List Nat).getD 2 0) (([i,a,p,z]:List Int).getD 2 0)=(decide (1≤p)&&decide (p≤1125899906842624)):=rfl
 have e4:zBk 3 (([99,97,109,122]:List Nat).getD 3 0) (([i,a,p,z]:List Int).getD 3 0)=(decide (0≤z)&&decide (z≤1125899906842624)):=rfl
 rw[e1,e2,e3,e4]
 simp only[Bool.and_eq_true,decide_eq_true_eq]
theorem zLu {i:Int}:zBa (evF 19 [i])=true↔(1≤i∧i≤1099511627776):=by
 have e:zBa (evF 19 [i])=((true&&(List.range 1).all fun k=>zBk 3 (([99]:List Nat).getD k 0) (([i]:List Int).getD k 0))&&true):=rfl
 rw[e,show List.range 1=[0] from rfl]
 simp only[List.all_cons,List.all_nil,Bool.true_and,Bool.and_true]
 have e1:zBk 3 (([99]:List Nat).getD 0 0) (([i]:List Int).getD 0 0)=(decide (1≤i)&&decide (i≤1099511627776)):=rfl
 rw[e1]
 simp only[Bool.and_eq_true,decide_eq_true_eq]
theorem zLv {s:Sta}(h:Good s)(k:Int)(n:List Int):(zk s (evF k n)).2=if zBa (evF k n)=true then(zBE s k n ByteArray.empty).2 else 4:=by
 unfold zk zy
 rw[if_pos (zAl.2 h)]
 by_cases hm:zBa (evF k n)=true
 ·rw[if_pos hm,if_pos ⟨rfl,hm⟩]
  show(if (zBE s k n ByteArray.empty).2=0 then zBE s k n ByteArray.empty else(zCt,(zBE s k n ByteArray.empty).2)).2=_
  split<;>rfl
 ·rw[if_neg hm,if_neg (fun g=>hm g.2)]
theorem zP4 (s:Sta)(n:List Int)(t:ByteArray):zBE s 18 n t=zEd s n:=rfl
theorem zLw (s:Sta)(n:List Int)(t:ByteArray):zBE s 19 n t=zBy s n:=rfl
theorem zUd {s:Sta}(h:Good s){i:Nat}(hi:i<s.aucs.length)(a p z:Int):zEd s [(au_ s.aucs i).id,a,p,z]=if zA6 (au_ s.aucs i) s.clock=true∧(zO s (au_ s.aucs i)).2.2=true∧(zO s (au_ s.aucs i)).1.acct=a∧(zO s (au_ s.aucs i)).1.amount=p∧(zO s (au_ s.aucs i)).2.1=z then zA3 s i (zDI (au_ s.aucs i) (zO s (au_ s.aucs i)).1 (zO s (au_ s.aucs i)).2.1) else(s,46):=by
 have e:=zG7 h hi
 unfold zEd
 simp only[nF,List.getD_cons_zero,List.getD_cons_succ,e,Int.toNat_natCast]
 rw[if_neg (by omega)]
theorem zP5 {s:Sta}(h:Good s){i:Nat}(hi:i<s.aucs.length):zBy s [(au_ s.aucs i).id]=if (zO s (au_ s.aucs i)).2.2=true∨zA6 (au_ s.aucs i) s.clock=false then(s,46) else zA3 s i []:=by
 have e:=zG7 h hi
 unfold zBy
 simp only[nF,List.getD_cons_zero,e,Int.toNat_natCast]
 rw[if_neg (by omega)]
theorem id_bd {s:Sta}(h:Good s){i:Nat}(hi:i<s.aucs.length):1≤(au_ s.aucs i).id∧(au_ s.aucs i).id≤1099511627776:=zMc ((zAL.1 h.aucs).2.1 _ (ze hi))
theorem zS9 {s:Sta}(h:Good s){i:Nat}(hi:i<s.aucs.length)(hw:(zO s (au_ s.aucs i)).2.2=true):((1≤(zO s (au_ s.aucs i)).1.acct∧(zO s (au_ s.aucs i)).1.acct≤64)∧(1≤(zO s (au_ s.aucs i)).1.amount∧(zO s (au_ s.aucs i)).1.amount≤1125899906842624)∧0≤(zO s (au_ s.aucs i)).2.1∧(zO s (au_ s.aucs i)).2.1≤1125899906842624) ∧
  (zO s (au_ s.aucs i)).2.1=(zBt (zO s (au_ s.aucs i)).1.amount s.fee).1∧(au_ s.aucs i).reserve≤(zO s (au_ s.aucs i)).1.amount:=by
 have hm:zAV (au_ s.aucs i)=true:=(zAL.1 h.aucs).2.1 _ (ze hi)
 have hn:=zx.1 h.nums
 obtain⟨w1,w2,w3,w4,w5⟩:=zD0 hw
 obtain⟨m,m1,m2,_,_,m5,m6,_⟩:=zFH hm w1
 have hb:=ze (l:=(au_ s.aucs i).bids) m1
 obtain⟨b1,b2,b3,b4,b5,b6⟩:=zCw hm
 have hb6:=b6 _ hb
 have f1:=zOj (q:=(zN (au_ s.aucs i)).1.amount) (by omega) hn.2.1
 rw[w2,w3,m2]
 exact⟨⟨hb6.1,⟨by omega,by omega⟩,by omega,by omega⟩,rfl,m5⟩
theorem zP6 {s:Sta}(h:Good s){i:Nat}(hi:i<s.aucs.length)(a p z:Int):((zk s (evF 18 [(au_ s.aucs i).id,a,p,z])).2=0)↔(zA6 (au_ s.aucs i) s.clock=true∧(zO s (au_ s.aucs i)).2.2=true∧(zO s (au_ s.aucs i)).1.acct=a∧(zO s (au_ s.aucs i)).1.amount=p∧(zO s (au_ s.aucs i)).2.1=z):=by
 rw[zLv h,zP4,zUd h hi]
 constructor
 ·intro g
  by_cases hm:zBa (evF 18 [(au_ s.aucs i).id,a,p,z])=true
  ·rw[if_pos hm] at g
   by_cases hc:zA6 (au_ s.aucs i) s.clock=true∧(zO s (au_ s.aucs i)).2.2=true∧(zO s (au_ s.aucs i)).1.acct=a∧(zO s (au_ s.aucs i)).1.amount=p∧(zO s (au_ s.aucs i)).2.1=z
   ·exact hc
   ·rw[if_neg hc] at g;exact absurd g (show(46:Int)≠0 by decide)
  ·rw[if_neg hm] at g;exact absurd g (by decide)
 ·intro hc
  obtain⟨⟨c1,c2,c3⟩,_,_⟩:=zS9 h hi hc.2.1
  rw[if_pos hc,if_pos (zP3.2 ⟨id_bd h hi,by rw[← hc.2.2.1];exact c1,by rw[← hc.2.2.2.1];exact c2,by rw[← hc.2.2.2.2];exact c3⟩)]
  exact zUc h hi hc.2.1
theorem zLx {s:Sta}(h:Good s){i:Nat}(hi:i<s.aucs.length):(zk s (evF 19 [(au_ s.aucs i).id])).2=if (zO s (au_ s.aucs i)).2.2=true∨zA6 (au_ s.aucs i) s.clock=false then 46 else 0:=by
 rw[zLv h,zLw,zP5 h hi,if_pos (zLu.2 (id_bd h hi))]
 split
 ·rfl
 ·exact zP2 h hi
theorem zP7 {s:Sta}(h:Good s){i:Nat}(hi:i<s.aucs.length):zBm s.aucs (au_ s.aucs i).id=(au_ s.aucs i,true):=by
 have e:zIm s.aucs (au_ s.aucs i).id=i:=zG7 h hi
 unfold zBm
 rw[e,if_neg (by omega),Int.toNat_natCast]
end
section
open Go Go.Sk Go.RowKit
attribute [local irreducible] Go.Calls
theorem zLy {F L N:zH}{s:Sta}{p:SPt}{bn len:Nat}{r:Sta × Int}(hW:StaW s)(hs:StaM F s p)(k:Int)(n:List Int)(hr:zk s (evF k n)=r)(hk:0≤k∧k≤255)(hn:n.length≤1000)(hP:PriM F)(hK:KinM F)(w:World)(hG:Mem w (L++(N++F)))(hm:cb bn (n.map (Value.int .i64)) 2∈L)(hl:len=n.length:=by rfl) :
  Calls Tryz.prog 13 [.agg (s.cells p).toArray,.agg #[.int .u8 3,.int .u8 k,.slice (some ⟨bn,0,none⟩) len len,.slice none 0 0]].toArray w (zn (StC r) w):=by
 subst hr
 subst hl
 have hsub:F⊆L++(N++F):=fun x hx=>zz3 _ (zz3 _ hx)
 exact zDS hW (evF k n) ⟨some ⟨bn,0,none⟩,n.length,none,0⟩ (zOY k n hk) w hG (hP.mono hsub) (hK.mono hsub) (hs.mono hsub) (zEV k n hn (zz6 _ hm))
theorem R64.of {l:List Row4}(h:∀ j,j<l.length→(rw_ l j).wf):R64 l:=fun r hr=>by
 obtain⟨j,hj,rfl⟩:=List.getElem_of_mem hr
 have:=h j hj
 have e:rw_ l j=l[j]:=by simp[rw_,List.getD_eq_getElem?_getD,List.getElem?_eq_getElem hj]
 rw[e] at this
 unfold Row4.wf Z64 at this
 omega
theorem zUe {F:zH}(s:Sta)(p:SPt)(x a pp z:Int)(hac:∀ k,k<s.accts.length→(ac_ s.accts k).name.size≤140737488355328)(hin:∀ k,k<s.insts.length→(in_ s.insts k).name.size≤140737488355328)(hr:∀ j,j<s.rows.length→(rw_ s.rows j).wf)(w0:World)(hF:Mem w0 F)(hP:PriM F)(hK:KinM F)(hs:StaM F s p) :
  Calls Tryz.prog 6 [.agg (s.cells p).toArray,.int .i64 x,.int .i64 a,.int .i64 pp,.int .i64 z].toArray w0 (Ret (.bool true) w0):=by
 have hlg:=fun w (hG:Mem w F)=>zFE s p hac hin w hG hs
 have haw:=fun w (hG:Mem w F)=>zFO w hG hP hK
 cases h1:zCu s with
 | true =>
   rw[h1] at hlg
   refine enter [.tmp 10] Tryz.func6 rfl Tryz.ntmps6 rfl rfl ?_
   have H:=zB w0
   repeat' (first|refine yT ?_|refine y7 sg H ?_|refine y8 sg H ?_|(refine y9 H ?_;intro b w H)|(refine y10 sg H ?_;intro b w H)|(refine y11 sg H ?_;intro w H)|refine y12 ?_|(refine' y30 zAa ?_ ?_;rotate_left;exact hlg _ (H.memF hF);intro w hcl;replace H:=H.ext hcl;clear hcl)|(refine' y31 zAa ?_ ?_;rotate_left;exact(fun _ hcl=>hlg _ ((H.ext hcl).memF hF)))|(refine' y30 zAb ?_ ?_;rotate_left;exact haw _ (H.memF hF);intro w hcl;replace H:=H.ext hcl;clear hcl)|(refine' y31 zAb ?_ ?_;rotate_left;exact(fun _ hcl=>haw _ ((H.ext hcl).memF hF)))|refine yU ?_|(refine y17 ?_ ?_;all_goals(intro h;try (exfalso;first|((exact absurd h (by decide));done))))|(refine y18 ?_ ?_;all_goals(intro h;try (exfalso;first|((exact absurd h (by decide));done))))|(with_reducible apply zL;intro w hcl;replace H:=H.ext hcl;clear hcl)|refine y20 mixed ?_|with_reducible apply zA|(refine y23 ?_ ?_;all_goals(intro h;try (exfalso;first|((exact absurd h (by decide));done))))|fail)
   all_goals exact zQ rfl H.cl rfl
 | false =>
 have sm:=zDv h1
 have hW:=zFP sm hr
 rw[h1] at hlg
 have hms:=fun w (hG:Mem w F)=>zC1 s p hW w hG hs
 have h64:=R64.of hr
 have hbl:∀ j,j<s.aucs.length→(s.aucs.getD j default).bids.length≤100000:=fun j hj=>by have:=sm.bd j hj;omega
 by_cases hc:zCC s=true∧0<s.aucs.length
 rotate_left
 ·have hz:∀ id,¬ ((zBm s.aucs id).2=true∧zCC s=true):=fun id g=>by
   refine hc ⟨g.2,?_⟩
   rcases Nat.eq_zero_or_pos s.aucs.length with h0|h0
   ·have e:s.aucs=[]:=List.eq_nil_of_length_eq_zero h0
    rw[e] at g
    exact absurd g.1 (by unfold zBm;rw[if_pos (by have:=(zJ2 [] id).2;simpa using this)];decide)
   ·exact h0
  have cW:=fun w (hG:Mem w F)=>zJU hW x h64 hbl (fun g1 g2=>absurd ⟨g1,g2⟩ (hz x)) w hG hs
  rw[show zGa s x=(Bid.zero,0,false) by unfold zGa;rw[if_neg (hz x)]] at cW
  have d1:(!zCC s)=false→((s.aucs.length:Int)==0)=true:=fun g=>by
   refine beq_iff_eq.2 ?_
   have:¬ 0<s.aucs.length:=fun h0=>hc ⟨by simpa using g,h0⟩
   omega
  refine enter [.tmp 10] Tryz.func6 rfl Tryz.ntmps6 rfl rfl ?_
  have H:=zB w0
  repeat' (first|refine yT ?_|refine y7 sg H ?_|refine y8 sg H ?_|(refine y9 H ?_;intro b w H)|(refine y10 sg H ?_;intro b w H)|(refine y11 sg H ?_;intro w H)|refine y12 ?_|(refine' y30 zAa ?_ ?_;rotate_left;exact hlg _ (H.memF hF);intro w hcl;replace H:=H.ext hcl;clear hcl)|(refine' y31 zAa ?_ ?_;rotate_left;exact(fun _ hcl=>hlg _ ((H.ext hcl).memF hF)))|(refine' y30 zAb ?_ ?_;rotate_left;exact haw _ (H.memF hF);intro w hcl;replace H:=H.ext hcl;clear hcl)|(refine' y31 zAb ?_ ?_;rotate_left;exact(fun _ hcl=>haw _ ((H.ext hcl).memF hF)))|(refine' y30 zCR ?_ ?_;rotate_left;exact hms _ (H.memF hF);intro w hcl;replace H:=H.ext hcl;clear hcl)|(refine' y31 zCR ?_ ?_;rotate_left;exact(fun _ hcl=>hms _ ((H.ext hcl).memF hF)))|(refine' y30 zOi ?_ ?_;rotate_left;exact cW _ (H.memF hF);intro w hcl;replace H:=H.ext hcl;clear hcl)|(refine' y31 zOi ?_ ?_;rotate_left;exact(fun _ hcl=>cW _ ((H.ext hcl).memF hF)))|refine yU ?_|(refine y17 ?_ ?_;all_goals(intro h;try (exfalso;first|((exact absurd h (by decide));done)|((cases (d1 ‹_›).symm.trans h);done))))|(refine y18 ?_ ?_;all_goals(intro h;try (exfalso;first|((exact absurd h (by decide));done)|((cases (d1 ‹_›).symm.trans h);done))))|(with_reducible apply zL;intro w hcl;replace H:=H.ext hcl;clear hcl)|refine y20 mixed ?_|with_reducible apply zA|(refine y23 ?_ ?_;all_goals(intro h;try (exfalso;first|((exact absurd h (by decide));done)|((cases (d1 ‹_›).symm.trans h);done))))|fail)
  all_goals exact zQ rfl H.cl rfl
 obtain⟨hmy,hl0⟩:=hc
 rw[hmy] at hms
 have gs:=zAl.1 hmy
 have hau:=zOP gs
 obtain⟨⟨hna,hca,ba,offa,csa,Ta,fra,hsa⟩,_⟩:=id hs.au
 obtain⟨k,hk,hrk,hkw⟩:=zNV x (n:=s.aucs.length) hl0 (by omega)
 have hq:IntKind.i64.wrap ((IntKind.u64.wrap x).tmod (IntKind.u64.wrap (s.aucs.length:Int)))=(k:Int):=by rw[hrk,hkw]
 have hq0:0≤IntKind.i64.wrap ((IntKind.u64.wrap x).tmod (IntKind.u64.wrap (s.aucs.length:Int))):=by rw[hq];omega
 have hq1:IntKind.i64.wrap ((IntKind.u64.wrap x).tmod (IntKind.u64.wrap (s.aucs.length:Int)))<(s.aucs.length:Int):=by rw[hq];omega
 have hqn:(IntKind.i64.wrap ((IntKind.u64.wrap x).tmod (IntKind.u64.wrap (s.aucs.length:Int)))).toNat=k:=by rw[hq];exact zz1 _
 have hu0:IntKind.u64.wrap (s.aucs.length:Int)≠0:=by rw[zJZ (by omega) (by omega)];omega
 have hgs:=zP7 gs hk
 have ws:=zP6 gs hk
 have wu:=zLx gs hk
 have wb:=zS9 gs hk
 have dm:zA6 (au_ s.aucs k) s.clock=decide ((au_ s.aucs k).fin≤s.clock):=by
  unfold zA6
  rw[(zAL.1 gs.aucs).2.1 _ (ze hk),Bool.true_and]
 have cW:=fun w (hG:Mem w F)=>zJU hW (au_ s.aucs k).id h64 hbl (fun g1 g2=>by
  rw[hgs]
  exact⟨hau.fee,hau.qty k hk,hau.win k hk⟩) w hG hs
 rw[show zGa s (au_ s.aucs k).id=zO s (au_ s.aucs k) by unfold zGa;rw[hgs,if_pos ⟨rfl,hmy⟩]] at cW
 have hnf:=(zx.1 gs.nums).2.1
 have cFe:=fun(hb:0≤(zO s (au_ s.aucs k)).1.amount∧(zO s (au_ s.aucs k)).1.amount≤4503599627370496) w (hG:Mem w F)=>zM7 hW (fun _=>hnf) (zO s (au_ s.aucs k)).1.amount hb w hG hs
 rw[if_pos hmy] at cFe
 obtain⟨⟨ya,r1⟩,E1⟩:∃ r,zk s (evF 18 [(au_ s.aucs k).id,(zO s (au_ s.aucs k)).1.acct,(zO s (au_ s.aucs k)).1.amount,(zO s (au_ s.aucs k)).2.1])=r:=⟨_,rfl⟩
 obtain⟨⟨yb,r2⟩,E2⟩:∃ r,zk s (evF 19 [(au_ s.aucs k).id])=r:=⟨_,rfl⟩
 obtain⟨⟨yc,r3⟩,E3⟩:∃ r,zk s (evF 18 [(au_ s.aucs k).id,a,pp,z])=r:=⟨_,rfl⟩
 have v1:=ws (zO s (au_ s.aucs k)).1.acct (zO s (au_ s.aucs k)).1.amount (zO s (au_ s.aucs k)).2.1
 have w3:=ws a pp z
 rw[E1] at v1
 rw[E3] at w3
 rw[E2] at wu
 rw[dm] at v1 w3 wu
 simp only at v1 w3 wu
 generalize zO s (au_ s.aucs k)=W at *
 obtain⟨⟨wa,wp⟩,wf,won⟩:=W
 simp only at v1 w3 wu wb cFe E1
 refine enter [.tmp 10] Tryz.func6 rfl Tryz.ntmps6 rfl rfl ?_
 have H:=zB w0
 repeat' (first|refine yT ?_|refine y7 sg H ?_|refine y8 sg H ?_|(refine y9 H ?_;intro b w H)|(refine y10 sg H ?_;intro b w H)|(refine y11 sg H ?_;intro w H)|refine y12 ?_|(refine' y30 zAa ?_ ?_;rotate_left;exact hlg _ (H.memF hF);intro w hcl;replace H:=H.ext hcl;clear hcl)|(refine' y31 zAa ?_ ?_;rotate_left;exact(fun _ hcl=>hlg _ ((H.ext hcl).memF hF)))|(refine' y30 zAb ?_ ?_;rotate_left;exact haw _ (H.memF hF);intro w hcl;replace H:=H.ext hcl;clear hcl)|(refine' y31 zAb ?_ ?_;rotate_left;exact(fun _ hcl=>haw _ ((H.ext hcl).memF hF)))|(refine' y30 zCR ?_ ?_;rotate_left;exact hms _ (H.memF hF);intro w hcl;replace H:=H.ext hcl;clear hcl)|(refine' y31 zCR ?_ ?_;rotate_left;exact(fun _ hcl=>hms _ ((H.ext hcl).memF hF)))|refine yU ?_|(refine y17 ?_ ?_;all_goals(intro h;try (exfalso;first|((exact absurd h (by decide));done))))|(refine y18 ?_ ?_;all_goals(intro h;try (exfalso;first|((exact absurd h (by decide));done))))|(with_reducible apply zL;intro w hcl;replace H:=H.ext hcl;clear hcl)|with_reducible apply zA|fail)
 have d0:((s.aucs.length:Int)==0)=false:=beq_eq_false_iff_ne.2 (by omega)
 refine CW.condF (congrArg Value.bool d0) ?_
 repeat' (first|refine yT ?_|refine y7 sg H ?_|refine y8 sg H ?_|(refine y9 H ?_;intro b w H)|(refine y10 sg H ?_;intro b w H)|(refine y11 sg H ?_;intro w H)|refine y12 ?_|refine yU ?_|(refine y17 ?_ ?_;all_goals intro h)|(refine y18 ?_ ?_;all_goals intro h)|(with_reducible apply zL;intro w hcl;replace H:=H.ext hcl;clear hcl)|with_reducible apply zA|fail)
 refine CW.named (fun en1 w=>∃ bs N en',en1=ovl [(1,.int .i64 x),(2,.int .i64 a),(3,.int .i64 pp),(4,.int .i64 z),(5,.pointer (some ⟨bs,0,none⟩))] en'∧St w0 N w∧cb bs (s.cells p) 28∈N) ⟨_,_,_,za rfl (za rfl (zAZ rfl rfl rfl)),H,qC⟩ ?_
 clear H
 rintro _ w ⟨bs,N,_,rfl,H,hbs⟩
 have H0:=H
 have hF1:=H.all hF
 clear H
 obtain⟨w1,rfl⟩:∃ w1,w1=w:=⟨w,rfl⟩
 have H:=zB w1
 have hsaF:=hsa.mono (List.subset_append_right N F)
 (try with_reducible apply zBW)
 refine CW.cutT (fun en1 w=>∃ bx N' en',en1=ovl [(2,.int .i64 a),(3,.int .i64 pp),(4,.int .i64 z),(5,.pointer (some ⟨bs,0,none⟩)),(15,.pointer (some ⟨bx,0,none⟩))] en'∧St w0 N' w∧N⊆N'∧cb bx ((au_ s.aucs k).cells (p.ad k).1 (p.ad k).2) 62∈N') ?_ ?_
 ·repeat' (first|refine yT ?_|refine y7 sg H ?_|refine y8 sg H ?_|(refine y9 H ?_;intro b w H)|(refine y10 sg H ?_;intro b w H)|(refine y11 sg H ?_;intro w H)|refine y12 ?_|(refine CW.regionL mixed 14 (H.memF hF1) [] ?_ ?_;exact rfl;intro w hcl;replace H:=H.ext hcl;clear hcl;have qh:=H.memF hF1;refine' l1 0 qh ?_ ?_;rotate_left;(first|exact z4 sg|exact(fun w2 hM2=>zG sg rfl rfl hM2 (zz6 _ hbs) rfl rfl)|exact(fun w2 _=>Yq.rem rfl rfl rfl hu0)|exact(fun w2 _=>zF sg hsa rfl rfl rfl rfl rfl rfl rfl hqn hq0 hq1)|exact(fun w2 hM2=>zBX sg hsaF hM2 rfl rfl rfl rfl rfl hk));refine' l1 1 qh ?_ ?_;rotate_left;(first|exact z4 sg|exact(fun w2 hM2=>zG sg rfl rfl hM2 (zz6 _ hbs) rfl rfl)|exact(fun w2 _=>Yq.rem rfl rfl rfl hu0)|exact(fun w2 _=>zF sg hsa rfl rfl rfl rfl rfl rfl rfl hqn hq0 hq1)|exact(fun w2 hM2=>zBX sg hsaF hM2 rfl rfl rfl rfl rfl hk));refine' l1 2 qh ?_ ?_;rotate_left;(first|exact z4 sg|exact(fun w2 hM2=>zG sg rfl rfl hM2 (zz6 _ hbs) rfl rfl)|exact(fun w2 _=>Yq.rem rfl rfl rfl hu0)|exact(fun w2 _=>zF sg hsa rfl rfl rfl rfl rfl rfl rfl hqn hq0 hq1)|exact(fun w2 hM2=>zBX sg hsaF hM2 rfl rfl rfl rfl rfl hk));refine' l1 3 qh ?_ ?_;rotate_left;(first|exact z4 sg|exact(fun w2 hM2=>zG sg rfl rfl hM2 (zz6 _ hbs) rfl rfl)|exact(fun w2 _=>Yq.rem rfl rfl rfl hu0)|exact(fun w2 _=>zF sg hsa rfl rfl rfl rfl rfl rfl rfl hqn hq0 hq1)|exact(fun w2 hM2=>zBX sg hsaF hM2 rfl rfl rfl rfl rfl hk));refine' l1 4 qh ?_ ?_;rotate_left;(first|exact z4 sg|exact(fun w2 hM2=>zG sg rfl rfl hM2 (zz6 _ hbs) rfl rfl)|exact(fun w2 _=>Yq.rem rfl rfl rfl hu0)|exact(fun w2 _=>zF sg hsa rfl rfl rfl rfl rfl rfl rfl hqn hq0 hq1)|exact(fun w2 hM2=>zBX sg hsaF hM2 rfl rfl rfl rfl rfl hk));refine' l1 5 qh ?_ ?_;rotate_left;(first|exact z4 sg|exact(fun w2 hM2=>zG sg rfl rfl hM2 (zz6 _ hbs) rfl rfl)|exact(fun w2 _=>Yq.rem rfl rfl rfl hu0)|exact(fun w2 _=>zF sg hsa rfl rfl rfl rfl rfl rfl rfl hqn hq0 hq1)|exact(fun w2 hM2=>zBX sg hsaF hM2 rfl rfl rfl rfl rfl hk));refine' l1 6 qh ?_ ?_;rotate_left;(first|exact z4 sg|exact(fun w2 hM2=>zG sg rfl rfl hM2 (zz6 _ hbs) rfl rfl)|exact(fun w2 _=>Yq.rem rfl rfl rfl hu0)|exact(fun w2 _=>zF sg hsa rfl rfl rfl rfl rfl rfl rfl hqn hq0 hq1)|exact(fun w2 hM2=>zBX sg hsaF hM2 rfl rfl rfl rfl rfl hk));refine' l1 7 qh ?_ ?_;rotate_left;(first|exact z4 sg|exact(fun w2 hM2=>zG sg rfl rfl hM2 (zz6 _ hbs) rfl rfl)|exact(fun w2 _=>Yq.rem rfl rfl rfl hu0)|exact(fun w2 _=>zF sg hsa rfl rfl rfl rfl rfl rfl rfl hqn hq0 hq1)|exact(fun w2 hM2=>zBX sg hsaF hM2 rfl rfl rfl rfl rfl hk));refine' l1 8 qh ?_ ?_;rotate_left;(first|exact z4 sg|exact(fun w2 hM2=>zG sg rfl rfl hM2 (zz6 _ hbs) rfl rfl)|exact(fun w2 _=>Yq.rem rfl rfl rfl hu0)|exact(fun w2 _=>zF sg hsa rfl rfl rfl rfl rfl rfl rfl hqn hq0 hq1)|exact(fun w2 hM2=>zBX sg hsaF hM2 rfl rfl rfl rfl rfl hk));refine' l1 9 qh ?_ ?_;rotate_left;(first|exact z4 sg|exact(fun w2 hM2=>zG sg rfl rfl hM2 (zz6 _ hbs) rfl rfl)|exact(fun w2 _=>Yq.rem rfl rfl rfl hu0)|exact(fun w2 _=>zF sg hsa rfl rfl rfl rfl rfl rfl rfl hqn hq0 hq1)|exact(fun w2 hM2=>zBX sg hsaF hM2 rfl rfl rfl rfl rfl hk));refine' l1 10 qh ?_ ?_;rotate_left;(first|exact z4 sg|exact(fun w2 hM2=>zG sg rfl rfl hM2 (zz6 _ hbs) rfl rfl)|exact(fun w2 _=>Yq.rem rfl rfl rfl hu0)|exact(fun w2 _=>zF sg hsa rfl rfl rfl rfl rfl rfl rfl hqn hq0 hq1)|exact(fun w2 hM2=>zBX sg hsaF hM2 rfl rfl rfl rfl rfl hk));refine' l1 11 qh ?_ ?_;rotate_left;(first|exact z4 sg|exact(fun w2 hM2=>zG sg rfl rfl hM2 (zz6 _ hbs) rfl rfl)|exact(fun w2 _=>Yq.rem rfl rfl rfl hu0)|exact(fun w2 _=>zF sg hsa rfl rfl rfl rfl rfl rfl rfl hqn hq0 hq1)|exact(fun w2 hM2=>zBX sg hsaF hM2 rfl rfl rfl rfl rfl hk)))|((with_reducible apply RL.nil);decide +kernel)|refine l2 12 ?_|refine l2 13 ?_|(refine l5 (H.memF hF1) ?_)|refine yU ?_|(refine y17 ?_ ?_;all_goals intro h)|(refine y18 ?_ ?_;all_goals intro h)|(with_reducible apply zL;intro w hcl;replace H:=H.ext hcl;clear hcl)|with_reducible apply zA|fail)
  exact⟨_,_,_,za rfl (za rfl (zAZ rfl rfl rfl)),H0.addR H,by intro q hq;simp[hq],zz3 _ qC⟩
 clear H H0 hF1 hsaF
 rintro _ w ⟨bx,N',_,rfl,H,hsub,hbx⟩
 replace hbs:=hsub hbs
 clear hsub
 obtain⟨N,rfl⟩:∃ N,N=N':=⟨N',rfl⟩
 repeat' (first|refine yT ?_|refine y7 sg H ?_|refine y8 sg H ?_|(refine y9 H ?_;intro b w H)|(refine y10 sg H ?_;intro b w H)|(refine y11 sg H ?_;intro w H)|refine y12 ?_|refine z13 (zG sg rfl rfl (H.mem.sub qS) hbs rfl rfl) ?_|((with_reducible apply zP);exact rfl;exact rfl;exact zG sg rfl rfl (H.mem.sub qS) hbs rfl rfl)|refine z13 (zG sg rfl rfl (H.mem.sub qS) hbx rfl rfl) ?_|((with_reducible apply zP);exact rfl;exact rfl;exact zG sg rfl rfl (H.mem.sub qS) hbx rfl rfl)|(refine' y30 zOi ?_ ?_;rotate_left;exact cW _ (H.memF hF);intro w hcl;replace H:=H.ext hcl;clear hcl)|(refine' y31 zOi ?_ ?_;rotate_left;exact(fun _ hcl=>cW _ ((H.ext hcl).memF hF)))|refine yU ?_|(refine y17 ?_ ?_;all_goals intro h)|(refine y18 ?_ ?_;all_goals intro h)|(with_reducible apply zL;intro w hcl;replace H:=H.ext hcl;clear hcl)|with_reducible apply zA|fail)
 refine CW.named (fun en1 w=>∃ N' en',en1=ovl [(2,.int .i64 a),(3,.int .i64 pp),(4,.int .i64 z),(5,.pointer (some ⟨bs,0,none⟩)),(15,.pointer (some ⟨bx,0,none⟩)),(16,.int .i64 wa),(17,.int .i64 wp),(18,.int .i64 wf),(19,.bool won)] en'∧St w0 N' w∧N⊆N') ⟨_,_,za rfl (za rfl (za rfl (za rfl (za rfl (za rfl (zAZ rfl rfl rfl)))))),H,by intro q hq;simp[hq]⟩ ?_
 clear H
 rintro _ w ⟨N',_,rfl,H,hsub⟩
 replace hbs:=hsub hbs
 replace hbx:=hsub hbx
 clear hsub
 obtain⟨N,rfl⟩:∃ N,N=N':=⟨N',rfl⟩
 have H0:=H
 have hF1:=H.all hF
 clear H
 obtain⟨w1,rfl⟩:∃ w1,w1=w:=⟨w,rfl⟩
 have H:=zB w1
 (try with_reducible apply zBW)
 refine CW.cutT (fun en1 w=>∃ N' en',en1=ovl [(2,.int .i64 a),(3,.int .i64 pp),(4,.int .i64 z),(5,.pointer (some ⟨bs,0,none⟩)),(15,.pointer (some ⟨bx,0,none⟩)),(16,.int .i64 wa),(17,.int .i64 wp),(18,.int .i64 wf),(19,.bool won),(21,.int .i64 r1)] en'∧St w0 N' w∧N⊆N') ?_ ?_
 ·repeat' (first|refine yT ?_|refine y7 sg H ?_|refine y8 sg H ?_|(refine y9 H ?_;intro b w H)|(refine y10 sg H ?_;intro b w H)|(refine y11 sg H ?_;intro w H)|refine y12 ?_|((with_reducible apply OX.buildA sg H);exact rfl;exact rfl;exact rfl;exact rfl;exact rfl;exact rfl;exact rfl;exact rfl;exact rfl;exact rfl;exact rfl;exact rfl;intro b w H _)|(refine z14 sg H ?_;intro b w H)|(refine CW.regionL mixed 15 (H.memF hF1) [] ?_ ?_;exact rfl;intro w hcl;replace H:=H.ext hcl;clear hcl;have qh:=H.memF hF1;refine' l1 0 qh ?_ ?_;rotate_left;(first|exact z4 sg|exact(fun w2 hM2=>zG sg rfl rfl hM2 (zz6 _ hbs) rfl rfl)|exact(fun w2 hM2=>zG sg rfl rfl hM2 (zz6 _ hbx) rfl rfl));refine' l1 1 qh ?_ ?_;rotate_left;(first|exact z4 sg|exact(fun w2 hM2=>zG sg rfl rfl hM2 (zz6 _ hbs) rfl rfl)|exact(fun w2 hM2=>zG sg rfl rfl hM2 (zz6 _ hbx) rfl rfl));refine' l1 2 qh ?_ ?_;rotate_left;(first|exact z4 sg|exact(fun w2 hM2=>zG sg rfl rfl hM2 (zz6 _ hbs) rfl rfl)|exact(fun w2 hM2=>zG sg rfl rfl hM2 (zz6 _ hbx) rfl rfl));refine' l1 3 qh ?_ ?_;rotate_left;(first|exact z4 sg|exact(fun w2 hM2=>zG sg rfl rfl hM2 (zz6 _ hbs) rfl rfl)|exact(fun w2 hM2=>zG sg rfl rfl hM2 (zz6 _ hbx) rfl rfl));refine' l1 4 qh ?_ ?_;rotate_left;(first|exact z4 sg|exact(fun w2 hM2=>zG sg rfl rfl hM2 (zz6 _ hbs) rfl rfl)|exact(fun w2 hM2=>zG sg rfl rfl hM2 (zz6 _ hbx) rfl rfl));refine' l1 5 qh ?_ ?_;rotate_left;(first|exact z4 sg|exact(fun w2 hM2=>zG sg rfl rfl hM2 (zz6 _ hbs) rfl rfl)|exact(fun w2 hM2=>zG sg rfl rfl hM2 (zz6 _ hbx) rfl rfl)))|((with_reducible apply RL.nil);decide +kernel)|(refine' l1 9 (H.memF hF1) ?_ ?_;rotate_left;(first|exact z4 sg|exact(fun w2 hM2=>zG sg rfl rfl hM2 (zz6 _ hbs) rfl rfl)|exact(fun w2 hM2=>zG sg rfl rfl hM2 (zz6 _ hbx) rfl rfl)))|(refine' l1 10 (H.memF hF1) ?_ ?_;rotate_left;(first|exact z4 sg|exact(fun w2 hM2=>zG sg rfl rfl hM2 (zz6 _ hbs) rfl rfl)|exact(fun w2 hM2=>zG sg rfl rfl hM2 (zz6 _ hbx) rfl rfl)))|(refine' l1 11 (H.memF hF1) ?_ ?_;rotate_left;(first|exact z4 sg|exact(fun w2 hM2=>zG sg rfl rfl hM2 (zz6 _ hbs) rfl rfl)|exact(fun w2 hM2=>zG sg rfl rfl hM2 (zz6 _ hbx) rfl rfl)))|(refine' l1 14 (H.memF hF1) ?_ ?_;rotate_left;(first|exact z4 sg|exact(fun w2 hM2=>zG sg rfl rfl hM2 (zz6 _ hbs) rfl rfl)|exact(fun w2 hM2=>zG sg rfl rfl hM2 (zz6 _ hbx) rfl rfl)))|refine l2 6 ?_|refine l2 7 ?_|refine l2 8 ?_|refine l2 12 ?_|refine l2 13 ?_|refine l4 6 12 ?_ ?_|refine l4 7 12 ?_ ?_|refine l4 8 12 ?_ ?_|(refine l5 (H.memF hF1) ?_)|(refine' y30 zBJ ?_ ?_;rotate_left;exact zAA _;intro w hcl;replace H:=H.ext hcl;clear hcl)|(refine' y31 zBJ ?_ ?_;rotate_left;exact(fun _ hcl=>zAA _))|(refine' y32 zBr ?_ ?_;rotate_left;exact zLy hW hs 18 [(au_ s.aucs k).id,wa,wp,wf] E1 (by decide) (by simp) hP hK _ (H.all hF1) qC;intro v M w hR hS;replace H:=H.addR hS;clear hS;(try simp only[List.cons_append,List.nil_append] at H);obtain⟨px,rfl⟩:=StC.any hR)|refine yU ?_|(refine y17 ?_ ?_;all_goals intro h)|(refine y18 ?_ ?_;all_goals intro h)|(with_reducible apply zL;intro w hcl;replace H:=H.ext hcl;clear hcl)|with_reducible apply zA|fail)
  all_goals exact⟨_,_,za rfl (za rfl (za rfl (za rfl (za rfl (za rfl (za rfl (zAZ rfl rfl rfl))))))),H0.addR H,by intro q hq;simp[hq]⟩
 clear H H0 hF1
 rintro _ w ⟨N',_,rfl,H,hsub⟩
 replace hbs:=hsub hbs
 replace hbx:=hsub hbx
 clear hsub
 obtain⟨N,rfl⟩:∃ N,N=N':=⟨N',rfl⟩
 have H0:=H
 have hF1:=H.all hF
 clear H
 obtain⟨w1,rfl⟩:∃ w1,w1=w:=⟨w,rfl⟩
 have H:=zB w1
 (try with_reducible apply zBW)
 refine CW.cutT (fun en1 w=>∃ N' en',en1=ovl [(2,.int .i64 a),(3,.int .i64 pp),(4,.int .i64 z),(5,.pointer (some ⟨bs,0,none⟩)),(15,.pointer (some ⟨bx,0,none⟩)),(16,.int .i64 wa),(17,.int .i64 wp),(18,.int .i64 wf),(19,.bool won),(21,.int .i64 r1),(23,.int .i64 r2)] en'∧St w0 N' w∧N⊆N') ?_ ?_
 ·repeat' (first|refine yT ?_|refine y7 sg H ?_|refine y8 sg H ?_|(refine y9 H ?_;intro b w H)|(refine y10 sg H ?_;intro b w H)|(refine y11 sg H ?_;intro w H)|refine y12 ?_|((with_reducible apply OX.buildA sg H);exact rfl;exact rfl;exact rfl;exact rfl;exact rfl;exact rfl;exact rfl;exact rfl;exact rfl;exact rfl;exact rfl;exact rfl;intro b w H _)|(refine z14 sg H ?_;intro b w H)|(refine CW.regionL mixed 12 (H.memF hF1) [] ?_ ?_;exact rfl;intro w hcl;replace H:=H.ext hcl;clear hcl;have qh:=H.memF hF1;refine' l1 0 qh ?_ ?_;rotate_left;(first|exact z4 sg|exact(fun w2 hM2=>zG sg rfl rfl hM2 (zz6 _ hbs) rfl rfl)|exact(fun w2 hM2=>zG sg rfl rfl hM2 (zz6 _ hbx) rfl rfl));refine' l1 1 qh ?_ ?_;rotate_left;(first|exact z4 sg|exact(fun w2 hM2=>zG sg rfl rfl hM2 (zz6 _ hbs) rfl rfl)|exact(fun w2 hM2=>zG sg rfl rfl hM2 (zz6 _ hbx) rfl rfl));refine' l1 2 qh ?_ ?_;rotate_left;(first|exact z4 sg|exact(fun w2 hM2=>zG sg rfl rfl hM2 (zz6 _ hbs) rfl rfl)|exact(fun w2 hM2=>zG sg rfl rfl hM2 (zz6 _ hbx) rfl rfl)))|((with_reducible apply RL.nil);decide +kernel)|(refine' l1 6 (H.memF hF1) ?_ ?_;rotate_left;(first|exact z4 sg|exact(fun w2 hM2=>zG sg rfl rfl hM2 (zz6 _ hbs) rfl rfl)|exact(fun w2 hM2=>zG sg rfl rfl hM2 (zz6 _ hbx) rfl rfl)))|(refine' l1 7 (H.memF hF1) ?_ ?_;rotate_left;(first|exact z4 sg|exact(fun w2 hM2=>zG sg rfl rfl hM2 (zz6 _ hbs) rfl rfl)|exact(fun w2 hM2=>zG sg rfl rfl hM2 (zz6 _ hbx) rfl rfl)))|(refine' l1 8 (H.memF hF1) ?_ ?_;rotate_left;(first|exact z4 sg|exact(fun w2 hM2=>zG sg rfl rfl hM2 (zz6 _ hbs) rfl rfl)|exact(fun w2 hM2=>zG sg rfl rfl hM2 (zz6 _ hbx) rfl rfl)))|(refine' l1 11 (H.memF hF1) ?_ ?_;rotate_left;(first|exact z4 sg|exact(fun w2 hM2=>zG sg rfl rfl hM2 (zz6 _ hbs) rfl rfl)|exact(fun w2 hM2=>zG sg rfl rfl hM2 (zz6 _ hbx) rfl rfl)))|refine l2 3 ?_|refine l2 4 ?_|refine l2 5 ?_|refine l2 9 ?_|refine l2 10 ?_|refine l4 3 9 ?_ ?_|refine l4 4 9 ?_ ?_|refine l4 5 9 ?_ ?_|(refine l5 (H.memF hF1) ?_)|(refine' y30 zBJ ?_ ?_;rotate_left;exact zAA _;intro w hcl;replace H:=H.ext hcl;clear hcl)|(refine' y31 zBJ ?_ ?_;rotate_left;exact(fun _ hcl=>zAA _))|(refine' y32 zBr ?_ ?_;rotate_left;exact zLy hW hs 19 [(au_ s.aucs k).id] E2 (by decide) (by simp) hP hK _ (H.all hF1) qC;intro v M w hR hS;replace H:=H.addR hS;clear hS;(try simp only[List.cons_append,List.nil_append] at H);obtain⟨px,rfl⟩:=StC.any hR)|refine yU ?_|(refine y17 ?_ ?_;all_goals intro h)|(refine y18 ?_ ?_;all_goals intro h)|(with_reducible apply zL;intro w hcl;replace H:=H.ext hcl;clear hcl)|with_reducible apply zA|fail)
  all_goals exact⟨_,_,za rfl (za rfl (za rfl (za rfl (za rfl (za rfl (za rfl (za rfl (zAZ rfl rfl rfl)))))))),H0.addR H,by intro q hq;simp[hq]⟩
 clear H H0 hF1
 rintro _ w ⟨N',_,rfl,H,hsub⟩
 replace hbs:=hsub hbs
 replace hbx:=hsub hbx
 clear hsub
 obtain⟨N,rfl⟩:∃ N,N=N':=⟨N',rfl⟩
 by_cases hd:(au_ s.aucs k).fin≤s.clock
 rotate_left
 ·have dg:decide ((au_ s.aucs k).fin>s.clock)=true:=decide_eq_true (by omega)
  rw[decide_eq_false hd] at v1 w3 wu
  have d1:(r1 != 0)=true:=bne_iff_ne.2 fun g=>absurd (v1.1 g).1 (by decide)
  have d2:(r2==46)=true:=by rw[wu];simp
  have d3:(r3 != 0)=true:=bne_iff_ne.2 fun g=>absurd (w3.1 g).1 (by decide)
  repeat' (first|refine yT ?_|refine y7 sg H ?_|refine y8 sg H ?_|(refine y9 H ?_;intro b w H)|(refine y10 sg H ?_;intro b w H)|(refine y11 sg H ?_;intro w H)|refine y12 ?_|(refine z14 sg H ?_;intro b w H)|refine z13 (zG sg rfl rfl (H.mem.sub qS) hbs rfl rfl) ?_|((with_reducible apply zP);exact rfl;exact rfl;exact zG sg rfl rfl (H.mem.sub qS) hbs rfl rfl)|refine z13 (zG sg rfl rfl (H.mem.sub qS) hbx rfl rfl) ?_|((with_reducible apply zP);exact rfl;exact rfl;exact zG sg rfl rfl (H.mem.sub qS) hbx rfl rfl)|(refine' y30 zBJ ?_ ?_;rotate_left;exact zAA _;intro w hcl;replace H:=H.ext hcl;clear hcl)|(refine' y31 zBJ ?_ ?_;rotate_left;exact(fun _ hcl=>zAA _))|(refine' y32 zBr ?_ ?_;rotate_left;exact zLy (L:=[_,_]) (N:=N) hW hs 18 [(au_ s.aucs k).id,a,pp,z] E3 (by decide) (by simp) hP hK _ (H.all hF) qC;intro v M w hR hS;replace H:=H.addR hS;clear hS;(try simp only[List.cons_append,List.nil_append] at H);obtain⟨px,rfl⟩:=StC.any hR)|refine yU ?_|(refine y17 ?_ ?_;all_goals(intro h;try (exfalso;first|((cases dg.symm.trans h);done)|((cases d1.symm.trans h);done)|((cases d2.symm.trans h);done))))|(refine y18 ?_ ?_;all_goals(intro h;try (exfalso;first|((cases dg.symm.trans h);done)|((cases d1.symm.trans h);done)|((cases d2.symm.trans h);done))))|(with_reducible apply zL;intro w hcl;replace H:=H.ext hcl;clear hcl)|refine y20 mixed ?_|with_reducible apply zA|(refine y23 ?_ ?_;all_goals(intro h;try (exfalso;first|((cases dg.symm.trans h);done)|((cases d1.symm.trans h);done)|((cases d2.symm.trans h);done))))|fail)
  exact zQ rfl H.cl (congrArg Value.bool d3)
 have dg:decide ((au_ s.aucs k).fin>s.clock)=false:=decide_eq_false (by omega)
 rw[decide_eq_true hd] at v1 w3 wu
 cases won with
 | false =>
   have d1:((r1==0)==false)=true:=by
    have:r1≠0:=fun g=>absurd (v1.1 g).2.1 (by decide)
    simp[this]
   have d2:((r2==0)==true)=true:=by rw[wu];rfl
   have d3:((r3==0)==false)=true:=by
    have:r3≠0:=fun g=>absurd (w3.1 g).2.1 (by decide)
    simp[this]
   repeat' (first|refine yT ?_|refine y7 sg H ?_|refine y8 sg H ?_|(refine y9 H ?_;intro b w H)|(refine y10 sg H ?_;intro b w H)|(refine y11 sg H ?_;intro w H)|refine y12 ?_|(refine z14 sg H ?_;intro b w H)|refine z13 (zG sg rfl rfl (H.mem.sub qS) hbs rfl rfl) ?_|((with_reducible apply zP);exact rfl;exact rfl;exact zG sg rfl rfl (H.mem.sub qS) hbs rfl rfl)|refine z13 (zG sg rfl rfl (H.mem.sub qS) hbx rfl rfl) ?_|((with_reducible apply zP);exact rfl;exact rfl;exact zG sg rfl rfl (H.mem.sub qS) hbx rfl rfl)|(refine' y30 zBJ ?_ ?_;rotate_left;exact zAA _;intro w hcl;replace H:=H.ext hcl;clear hcl)|(refine' y31 zBJ ?_ ?_;rotate_left;exact(fun _ hcl=>zAA _))|(refine' y32 zBr ?_ ?_;rotate_left;exact zLy (L:=[_,_]) (N:=N) hW hs 18 [(au_ s.aucs k).id,a,pp,z] E3 (by decide) (by simp) hP hK _ (H.all hF) qC;intro v M w hR hS;replace H:=H.addR hS;clear hS;(try simp only[List.cons_append,List.nil_append] at H);obtain⟨px,rfl⟩:=StC.any hR)|refine yU ?_|(refine y17 ?_ ?_;all_goals(intro h;try (exfalso;first|((cases dg.symm.trans h);done)|((cases d1.symm.trans h);done)|((cases d2.symm.trans h);done)|((cases d3.symm.trans h);done)|((exact absurd h (by decide));done))))|(refine y18 ?_ ?_;all_goals(intro h;try (exfalso;first|((cases dg.symm.trans h);done)|((cases d1.symm.trans h);done)|((cases d2.symm.trans h);done)|((cases d3.symm.trans h);done)|((exact absurd h (by decide));done))))|(with_reducible apply zL;intro w hcl;replace H:=H.ext hcl;clear hcl)|refine y20 mixed ?_|with_reducible apply zA|(refine y23 ?_ ?_;all_goals(intro h;try (exfalso;first|((cases dg.symm.trans h);done)|((cases d1.symm.trans h);done)|((cases d2.symm.trans h);done)|((cases d3.symm.trans h);done)|((exact absurd h (by decide));done))))|fail)
   exact zQ rfl H.cl rfl
 | true =>
   obtain⟨⟨b1,b2,b3,b4⟩,b5,b6⟩:=wb rfl
   have cFe:=cFe (by omega)
   rw[← b5] at cFe
   have d1:((r1==0)==true)=true:=by rw[v1.2 ⟨rfl,rfl,trivial,trivial,trivial⟩];rfl
   have d2:((r2==0)==false)=true:=by rw[wu];rfl
   have d3a:(a==wa)=false→((r3==0)==false)=true:=fun g=>by
    have:r3≠0:=fun g3=>beq_eq_false_iff_ne.1 g (w3.1 g3).2.2.1.symm
    simp[this]
   have d3b:(pp==wp)=false→((r3==0)==false)=true:=fun g=>by
    have:r3≠0:=fun g3=>beq_eq_false_iff_ne.1 g (w3.1 g3).2.2.2.1.symm
    simp[this]
   have d3c:(a==wa)=true→(pp==wp)=true→((r3==0)==(z==wf))=true:=fun g1 g2=>by
    have e:r3=0↔z=wf:=⟨fun g=>(w3.1 g).2.2.2.2.symm,fun g=>w3.2 ⟨rfl,rfl,(beq_iff_eq.1 g1).symm,(beq_iff_eq.1 g2).symm,g.symm⟩⟩
    by_cases g:z=wf
    ·rw[e.2 g,g];simp
    ·have:r3≠0:=fun g3=>g (e.1 g3)
     rw[beq_eq_false_iff_ne.2 this,beq_eq_false_iff_ne.2 g];rfl
   have d5:(wf==wf)=true:=by simp
   have d6:decide (wp ≥ (au_ s.aucs k).reserve)=true:=decide_eq_true b6
   repeat' (first|refine yT ?_|refine y7 sg H ?_|refine y8 sg H ?_|(refine y9 H ?_;intro b w H)|(refine y10 sg H ?_;intro b w H)|(refine y11 sg H ?_;intro w H)|refine y12 ?_|(refine z14 sg H ?_;intro b w H)|refine z13 (zG sg rfl rfl (H.mem.sub qS) hbs rfl rfl) ?_|((with_reducible apply zP);exact rfl;exact rfl;exact zG sg rfl rfl (H.mem.sub qS) hbs rfl rfl)|refine z13 (zG sg rfl rfl (H.mem.sub qS) hbx rfl rfl) ?_|((with_reducible apply zP);exact rfl;exact rfl;exact zG sg rfl rfl (H.mem.sub qS) hbx rfl rfl)|(refine' y30 zBJ ?_ ?_;rotate_left;exact zAA _;intro w hcl;replace H:=H.ext hcl;clear hcl)|(refine' y31 zBJ ?_ ?_;rotate_left;exact(fun _ hcl=>zAA _))|(refine' y32 zBr ?_ ?_;rotate_left;exact zLy (L:=[_,_]) (N:=N) hW hs 18 [(au_ s.aucs k).id,a,pp,z] E3 (by decide) (by simp) hP hK _ (H.all hF) qC;intro v M w hR hS;replace H:=H.addR hS;clear hS;(try simp only[List.cons_append,List.nil_append] at H);obtain⟨px,rfl⟩:=StC.any hR)|(refine' y30 zIu ?_ ?_;rotate_left;exact cFe _ (H.memF hF);intro w hcl;replace H:=H.ext hcl;clear hcl)|(refine' y31 zIu ?_ ?_;rotate_left;exact(fun _ hcl=>cFe _ ((H.ext hcl).memF hF)))|refine yU ?_|(refine y17 ?_ ?_;all_goals(intro h;try (exfalso;first|((cases dg.symm.trans h);done)|((cases d1.symm.trans h);done)|((cases d2.symm.trans h);done)|((cases (d3a ‹_›).symm.trans h);done)|((cases (d3b ‹_›).symm.trans h);done)|((cases (d3c ‹_› ‹_›).symm.trans h);done)|((cases d5.symm.trans h);done)|((exact absurd h (by decide));done))))|(refine y18 ?_ ?_;all_goals(intro h;try (exfalso;first|((cases dg.symm.trans h);done)|((cases d1.symm.trans h);done)|((cases d2.symm.trans h);done)|((cases (d3a ‹_›).symm.trans h);done)|((cases (d3b ‹_›).symm.trans h);done)|((cases (d3c ‹_› ‹_›).symm.trans h);done)|((cases d5.symm.trans h);done)|((exact absurd h (by decide));done))))|(with_reducible apply zL;intro w hcl;replace H:=H.ext hcl;clear hcl)|refine y20 mixed ?_|with_reducible apply zA|(refine y23 ?_ ?_;all_goals(intro h;try (exfalso;first|((cases dg.symm.trans h);done)|((cases d1.symm.trans h);done)|((cases d2.symm.trans h);done)|((cases (d3a ‹_›).symm.trans h);done)|((cases (d3b ‹_›).symm.trans h);done)|((cases (d3c ‹_› ‹_›).symm.trans h);done)|((cases d5.symm.trans h);done)|((exact absurd h (by decide));done))))|fail)
   all_goals exact zQ rfl H.cl (congrArg Value.bool d6)
end
section
open Go Go.Sk Go.RowKit Go.ChangeShapes Go.WideShapes
set_option maxRecDepth 100000 in
theorem applyWins_calls {H:Type}{enc:TypeId × Value→H}{W:World}{args:Array Value}{ds:List (DataW H)}{p:List MemPlace}
  (hA:DataW.TrodAll enc Tryz.prog W 0 (fun _=>true) true [28,3,2,2,2] args.toList ds p) (hz:∀ (j:Nat) t d,([28,3,2,2,2]:List TypeId)[j]?=some t→ds[j]?=some d→∀ n∈d.weights Tryz.prog t,n≤reachBytes) (hv:∀ (j:Nat) t v,([28,3,2,2,2]:List TypeId)[j]?=some t→args[j]?=some v→Value.okWide Tryz.prog W .any 0 t v) (hL:laidMetH Tryz.prog zA4 W) :
  Calls Tryz.prog 6 args W (Ret (.bool true) W):=by
 obtain⟨v0,v1,v2,v3,v4,d0,d1,d2,d3,d4,r0,r1,r2,r3,r4,rfl,rfl,rfl,h0,h1,h2,h3,h4⟩:=zOk hA
 obtain⟨s0,p0,rfl,hM0,hA0⟩:=zFK h0 (hz 0 _ _ rfl rfl) (hv 0 _ _ rfl rfl)
 obtain⟨x1,rfl,hx1⟩:=zGR (sg.desc rfl rfl) h1 (hv 1 _ _ rfl rfl)
 obtain⟨x2,rfl,hx2⟩:=zGR (sg.desc rfl rfl) h2 (hv 2 _ _ rfl rfl)
 obtain⟨x3,rfl,hx3⟩:=zGR (sg.desc rfl rfl) h3 (hv 3 _ _ rfl rfl)
 obtain⟨x4,rfl,hx4⟩:=zGR (sg.desc rfl rfl) h4 (hv 4 _ _ rfl rfl)
 exact zUe s0 p0 x1 x2 x3 x4 hA0.acN hA0.insN hA0.rw W (zDq W) (zG6 hL) (zG5 hL) hM0
set_option maxRecDepth 100000 in
theorem applyWins_lifted (os:Os)(started:os.Started)(H:Type)(enc:TypeId × Value→H) :
  ReturnsInHanded {} Tryz.checked os 6 .any (fun w args=>(Rows.applyWinsSpec.pre enc Tryz.prog Tryz.f6 [] false w args∧laidMetH Tryz.prog zA4 w)∧sizedMet enc Tryz.prog Tryz.f6 (OpenSpec.ofChange Rows.applyWinsSpec) false w args)
   (Rows.applyWinsSpec.post enc Tryz.prog Tryz.f6 false true false false):=by
 refine returnsInHanded_of_change_and (C:=Tryz.checked) (X:=fun w _=>laidMetH Tryz.prog zA4 w) (fun _ _ _ hh h=>h.of_heap hh) (by kernel_rfl) started (by kernel_rfl) Tryz.func6
  (ChangeSpec.witness_shaped (enc:=enc) (C:=Tryz.checked) (os:=os) (X:=fun w _=>laidMetH Tryz.prog zA4 w) false (World.doorLaid Tryz.prog 600 os) #[.agg #[.int .i64 0,.int .i64 0,.int .i64 0,.int .i64 0,.slice none 0 0,.slice none 0 0,.slice none 0 0,.slice none 0 0,.slice none 0 0],.int .i64 0,.int .i64 0,.int .i64 0,.int .i64 0] 8 rfl (World.shaped_of_RefB (by kernel_rfl) (by kernel_rfl)) (by kernel_rfl) (by kernel_rfl) (by kernel_rfl) (zD2 os _)) ?_
 intro W base args ds gs before hval hW _ hsz hL _
 have hA:DataW.TrodAll enc Tryz.prog W 0 (fun _=>true) true [28,3,2,2,2] args.toList ds hW.choose:=hW.choose_spec.choose_spec.1
 refine(applyWins_calls hA (fun j t d h1 h2=>zDr hsz (Eq.trans ?_ h1) h2) (fun j t v h1 h2=>?_) hL).mono fun e W' ⟨he,hc⟩=>?_
 ·exact congrArg (fun l:List TypeId=>l[j]?) (by kernel_rfl)
 ·refine hval j t v (Eq.trans ?_ h1) h2
  rw[← Array.getElem?_toList]
  exact congrArg (fun l:List TypeId=>l[j]?) (by kernel_rfl)
 ·have hds:∃ q,hW.choose=q:=⟨_,rfl⟩
  obtain⟨q,hq⟩:=hds
  rw[hq] at hA
  refine⟨_,he,zDp (tb:=4) (by kernel_rfl) rfl (by kernel_rfl) rfl (sg.desc rfl rfl) ?_ hW hc⟩
  clear hq
  obtain⟨v0,v1,v2,v3,v4,d0,d1,d2,d3,d4,r0,r1,r2,r3,r4,_,rfl,_⟩:=zOk hA
  rfl
end
end Go.Proofs.YtibmaifoaajllaaGreatDoor
