/- The statement ApplyNamesSaid, proved, and its tied card. -/
import Derived.ChangeKeysEq
import Derived.Deep.LoopGhost
import Derived.Deep.QuietTactic
import Derived.Deep.Slices
import Derived.KernelRfl
import Derived.LaidMore
import Derived.Laws.Bits64b
import Derived.Laws.IdiomStrings
import Derived.Laws.MakeOwn
import Derived.Laws.RangeString
import Derived.Laws.StructEq
import Derived.Lib.Mul64
import Derived.Maps.RangeRun
import Derived.OpenShut
import Derived.OrdersHeld
import Derived.ProofKit
import Derived.RangeFuncLeaves
import Derived.RangeFuncNested
import Derived.Shelf.SlLaysE
import Derived.Shelf.SlLaysF0
import Derived.Shelf.SlLaysM
import Derived.Shelf.SlSortCmp.NoneTotal
import Derived.Shelf.SlicesE.Compact
import Derived.Shelf.SortM.Plain
import Derived.Shelf.SortM.SortNone
import Derived.SizedLaws
import Derived.Sort.LoopGhostIn
import Derived.Stop.Joined
import Derived.TacticsIn
import Derived.Test.YtibmaifoaajllaaGreatDoorChecked
import Derived.Test.YtibmaifoaajllaaGreatDoorProg
import Derived.Test.YtibmaifoaajllaaGreatDoorRows
import Derived.WalkKit
import Derived.WalkSpells
import Derived.Test.YtibmaifoaajllaaGreatDoorQa49
set_option linter.unusedSimpArgs false
set_option linter.unusedVariables false
set_option maxHeartbeats 16000000
namespace Go.Proofs.YtibmaifoaajllaaGreatDoor
open Go Go.Sk Go.RowKit
theorem ent20:Ent Tryz.prog 20:=em Tryz.func20
theorem ent22:Ent Tryz.prog 22:=em Tryz.func22
theorem zOi:Ent Tryz.prog 27:=em Tryz.func27
theorem zS6:Ent Tryz.prog 44:=em Tryz.func44
theorem ent82:Ent Tryz.prog 82:=em Tryz.func82
theorem ent83:Ent Tryz.prog 83:=em Tryz.func83
theorem c_own {a:Option Addr}{cap:Nat}(x:Auc){F:zH}(w0:World)(hF:Mem w0 F)(hs:Bids F a cap x.bids)(hb:x.bids.length≤8796093022208) :
  Calls Tryz.prog 83 [.agg (x.cells a cap).toArray].toArray w0 (zn (OwnA x) w0):=by
 refine enter [.cell 2 62] Tryz.func83 rfl Tryz.ntmps83 rfl rfl ?_
 have H:=zB w0
 repeat' (first|refine yT ?_|refine y7 sg H ?_|(refine y9 H ?_;intro b w H)|(refine y10 sg H ?_;intro b w H)|(refine y11 sg H ?_;intro w H)|(refine' y32 zQQ ?_ ?_;rotate_left;exact zFi _ (H.memF hF) hs (fun j _=>zJ1 _ j) (fun j _=>zFC _ j) (by omega);intro v M w hR hS;replace H:=H.addR hS;clear hS;(try simp only[List.cons_append,List.nil_append] at H);obtain⟨a',cap',rfl,hO⟩:=hR)|refine yU ?_|fail)
 refine zCD (vs:=[_]) (M:=M) ⟨zAf sg rfl H.mem (zz2 _) rfl rfl,trivial⟩ (H.sub zKk) ⟨a',cap',rfl,hO⟩
theorem c_Get1 {a:Option Addr}{cap:Nat}(x:Auc)(id:Int)(b:Nat)(T:TypeId){F:zH}(w0:World)(hF:Mem w0 F)(hm:(b,Obj.cells [Value.int .i64 id].toArray T (0,0))∈F) :
  Calls Tryz.prog 82 [.agg (x.cells a cap).toArray,.pointer (some ⟨b,0,none⟩)].toArray w0 (Ret (.bool (x.id==id)) w0):=by
 refine enter [.tmp 3] Tryz.func82 rfl Tryz.ntmps82 rfl rfl ?_
 have H:=zB w0
 repeat' (first|refine yT ?_|refine y7 sg H ?_|(refine y9 H ?_;intro b w H)|refine z13 (zG sg rfl rfl (H.memF hF) hm rfl rfl) ?_|refine yU ?_|fail)
 exact zQ rfl H.cl rfl
def zBm (l:List Auc)(id:Int):Auc × Bool:=if zIm l id<0 then(Auc.zero,false) else(l.getD (zIm l id).toNat default,true)
theorem c_Get {a:Option Addr}{cap:Nat}(l:List Auc)(ad:Nat→Option Addr × Nat)(id:Int){F:zH}(w0:World)(hF:Mem w0 F)(hs0:Aucs F a cap l ad)(hb:∀ j,j<l.length→(l.getD j default).bids.length≤8796093022208) :
  Calls Tryz.prog 44 [.slice a l.length cap,.int .i64 id].toArray w0 (zn (fun M v=>∃ u,OwnA (zBm l id).1 M u∧v=.tuple #[u,.bool (zBm l id).2]) w0):=by
 have hs1:=hs0
 obtain⟨⟨hn,hc,b0,off,cs,T,fr,hs⟩,hbs⟩:=hs1
 have hg:=zJ2 l id
 unfold zIm at hg
 refine enter [.cell 4 62,.tmp 5] Tryz.func44 rfl Tryz.ntmps44 rfl rfl ?_
 have H:=zB w0
 repeat' (first|refine yT ?_|(refine y9 H ?_;intro b w H)|(refine y10 sg H ?_;intro b w H)|(refine' y30 zKo ?_ ?_;rotate_left;exact zED (caps:=[.pointer (some ⟨_,0,none⟩)]) (fun j=>(l.getD j default).id==id) _ (H.memF hF) hs0.1 ent82 (fun j hj w hw=>c_Get1 (l.getD j default) id _ _ _ (H.ext hw).mem (zz5 _ (zz2 _)));intro w hcl;replace H:=H.ext hcl;clear hcl)|refine yU ?_|fail)
 refine zJ rfl (fun h=>?_) (fun h=>?_)
 ·repeat' (first|refine yT ?_|(refine y11 sg H ?_;intro w H)|refine yU ?_|fail)
  have e:zBm l id=(Auc.zero,false):=by unfold zBm zIm;rw[if_pos (of_decide_eq_true h)]
  refine zAY (vs:=[_,_]) (M:=[]) ⟨zAf sg rfl H.mem (zz2 _) rfl rfl,zh rfl,trivial⟩ (H.sub (zz9 _)) ?_
  rw[e]
  exact⟨_,⟨none,0,rfl,zTC _ _ _⟩,rfl⟩
 ·have hlt:=zzB h
  have e:zBm l id=(l.getD (idx (fun j=>(l.getD j default).id==id) l.length).toNat default,true):=by unfold zBm zIm;rw[if_neg hlt]
  repeat' (first|refine yT ?_|(refine y11 sg H ?_;intro w H)|(refine y40 sg (hs) ?_ ?_ ?_;(omega);(omega))|(refine y42 sg (hs) ((H.memF hF)) ?_ ?_;(omega))|(refine' y32 ent83 ?_ ?_;rotate_left;exact c_own (l.getD (idx (fun j=>(l.getD j default).id==id) l.length).toNat default) _ (H.memF hF) (hbs _ (by omega)) (hb _ (by omega));intro v M w hR hS;replace H:=H.addR hS;clear hS;(try simp only[List.cons_append,List.nil_append] at H);obtain⟨a',cap',rfl,hO⟩:=hR)|refine yU ?_|fail)
  refine zAY (vs:=[_,_]) (M:=M) ⟨zAf sg rfl H.mem (zz2 _) rfl rfl,zh rfl,trivial⟩ (H.sub zKk) ?_
  rw[e];exact⟨_,⟨a',cap',rfl,hO⟩,rfl⟩
theorem zOZ:∀ {l:List Evt} {s t:Sta} {i j:Int},Good s→zAB s l i=(t,j,0)→Good t
 | [],s,t,i,j,h,he=>by
   obtain rfl:=(Prod.mk.inj he).1;exact h
 | e::l,s,t,i,j,h,he=>by
   unfold zAB at he
   by_cases h1:(zy s e).2=0
   ·rw[if_pos h1] at he
    exact zOZ (zEU h (Prod.ext rfl h1)) he
   ·rw[if_neg h1] at he;exact absurd (Prod.mk.inj (Prod.mk.inj he).2).2 h1
end Go.Proofs.YtibmaifoaajllaaGreatDoor
namespace Go.Sk
section
open Go Go.RowKit
inductive KQ where
 | val (V:Value)
 | box (n:Nat) (cs:List Value) (T:TypeId)
 | rel (R:zH→Value→Prop) (z:Nat)
 | nul
 | mem (R:zH→Value→Prop)
def KQ.holds:KQ→Value→World→Prop
 | .val V=>fun v _=>v=V
 | .box n cs T=>fun v w=>∃ b,v=.slice (some ⟨b,0,none⟩) n n∧Mem w [cb b cs T]
 | .rel R z=>fun v w=>∃ M,R M v∧Mem w M∧(∀ p∈M,z≤p.1)∧(M.map (·.1)).Nodup
 | .nul=>fun v _=>∃ b,v=.slice (some ⟨b,0,none⟩) 0 0
 | .mem R=>fun v w=>∃ M,R M v∧Mem w M
theorem KQ.stable (k:KQ){v:Value}{w w':World}(hc:Cl w w')(h:k.holds v w):k.holds v w':=by
 cases k with
 | val V=>exact h
 | box n cs T=>obtain⟨b,h1,h2⟩:=h;exact⟨b,h1,h2.ext hc⟩
 | rel R z=>obtain⟨M,h1,h2,h3,h4⟩:=h;exact⟨M,h1,h2.ext hc,h3,h4⟩
 | nul=>exact h
 | mem R=>obtain⟨M,h1,h2⟩:=h;exact⟨M,h1,h2.ext hc⟩
theorem KQ.rel_of {R:zH→Value→Prop}{v:Value}{w w1 w2:World}{M:zH}(hcl:Cl w w1)(H:St w1 M w2)(h:R M v):(KQ.rel R w.heap.size).holds v w2 :=
 ⟨M,h,H.mem,fun p hp=>Nat.le_trans hcl.size (H.ge p hp),H.nodup⟩
structure KF where
 i:Nat
 d:Nat
 deps:List Nat
 k:KQ
def pkn:List KF→Nat→Value→World→Prop
 | [],_=>fun _ _=>False
 | x::t,d=>bif Nat.beq d x.d then x.k.holds else pkn t d
theorem pkn_stable {T:List KF}{d:Nat}{v:Value}{w w':World}(hc:Cl w w')(h:pkn T d v w):pkn T d v w':=by
 induction T with
 | nil=>exact h
 | cons x t ih =>
   have h1:(bif Nat.beq d x.d then x.k.holds else pkn t d) v w:=h
   show(bif Nat.beq d x.d then x.k.holds else pkn t d) v w'
   clear h
   cases hb:Nat.beq d x.d
   ·rw[hb] at h1;exact ih h1
   ·rw[hb] at h1;exact x.k.stable hc h1
inductive KSu (l:List Oper) (C:KF→Oper→Prop):List KF→Prop
 | nil:KSu l C []
 | cons {x:KF} {o:Oper} {t:List KF} (ho:l[x.i]?=some o) (h:C x o) (ht:KSu l C t):KSu l C (x::t)
theorem KSu.get {l:List Oper}{C:KF→Oper→Prop}{T:List KF}(h:KSu l C T){x:KF}(hx:x∈T){o:Oper}(ho:l[x.i]?=some o):C x o:=by
 induction h with
 | nil=>cases hx
 | cons ho' hc _ ih =>
   rcases List.mem_cons.1 hx with rfl|hx
   ·obtain rfl:=Option.some.inj (ho'.symm.trans ho);exact hc
   ·exact ih hx
def topo (l:List Oper):Array Bool→List KF→Bool
 | _,[]=>true
 | s,x::t=>(match l[x.i]? with|some o=>o.after.toList.all fun e=>!Region.binds .any e||s.getD e.on false|none=>false)&&topo l (s.setIfInBounds x.i true) t
def KF.strip (x:KF):KF:=⟨x.i,x.d,x.deps,.val undef⟩
theorem topo_strip (l:List Oper):∀ (T:List KF) (s:Array Bool),topo l s (T.map KF.strip)=topo l s T
 | [],_=>rfl
 | x::t,s=>by
   rw[List.map_cons]
   unfold topo
   rw[topo_strip l t]
   rfl
theorem topo_all {l:List Oper}{s':Array Bool}(hr:Region.ready .any l.toArray s'=[])(hsz:s'.size=l.length):∀ {T:List KF} {s:Array Bool},s.size=l.length→topo l s T=true→(∀ j,s.getD j false=true→s'.getD j false=true)→∀ x,x∈T→s'.getD x.i false=true
 | [],_,_,_,_,x,hx=>by cases hx
 | y::t,s,hs,ht,hle,x,hx=>by
   unfold topo at ht
   rw[Bool.and_eq_true] at ht
   obtain⟨h1,h2⟩:=ht
   have hy:s'.getD y.i false=true:=by
    cases ho:l[y.i]? with
    | none=>rw[ho] at h1;cases h1
    | some o =>
      rw[ho] at h1
      cases hd:s'.getD y.i false with
      | true=>rfl
      | false =>
        exfalso
        have hlt:y.i<s'.size:=by rw[hsz];exact(List.getElem?_eq_some_iff.1 ho).1
        have hm:y.i∈Region.ready .any l.toArray s':=mem_ready.2 ⟨by
         rw[Array.getD_eq_getD_getElem?,Array.getElem?_eq_getElem hlt] at hd ⊢;exact hd,o,by simpa using ho,fun e he hb=>by
          have h3:=List.all_eq_true.1 (show o.after.toList.all _=true from h1) e (Array.mem_toList_iff.2 he)
          rw[hb] at h3
          exact hle _ (by simpa using h3)⟩
        rw[hr] at hm
        cases hm
   rcases List.mem_cons.1 hx with rfl|hx
   ·exact hy
   ·refine topo_all hr hsz (by simpa using hs) h2 (fun j hj=>?_) x hx
    by_cases hji:j=y.i
    ·rw[hji];exact hy
    ·refine hle j ?_
     rw[Array.getD_eq_getD_getElem?,Array.getElem?_setIfInBounds_ne (Ne.symm hji),← Array.getD_eq_getD_getElem?] at hj
     exact hj
theorem filt_lt {α:Type}{f g:α→Bool}:∀ {l:List α},(∀ x,x∈l→g x=true→f x=true)→(∃ x,x∈l∧f x=true∧g x=false)→(l.filter g).length<(l.filter f).length
 | [],_,⟨x,hx,_⟩=>by cases hx
 | y::t,h1,⟨x,hx,hf,hg⟩=>by
   have hle:∀ l:List α,(∀ x,x∈l→g x=true→f x=true)→(l.filter g).length≤(l.filter f).length:=by
    intro l
    induction l with
    | nil=>intro _;exact zzC _
    | cons z u ih =>
      intro h
      have:=ih (fun x hx=>h x (zz4 _ hx))
      rw[List.filter_cons,List.filter_cons]
      cases hgz:g z
      ·cases hfz:f z<;>simp<;>omega
      ·rw[h z (List.mem_cons_self ..) hgz];simp;omega
   rw[List.filter_cons,List.filter_cons]
   rcases List.mem_cons.1 hx with rfl|hx
   ·rw[hf,hg]
    have:=hle t (fun x hx=>h1 x (zz4 _ hx))
    simp;omega
   ·have:=filt_lt (fun x hx=>h1 x (zz4 _ hx)) ⟨x,hx,hf,hg⟩
    cases hgy:g y
    ·cases hfy:f y<;>simp<;>omega
    ·rw[h1 y (List.mem_cons_self ..) hgy];simp;omega
attribute [local semireducible] CW OW OX QW QX Yq RA RH
section
variable {P:Program}{n:Nw}{Q:zAX}{w:World}{l:List Oper}{s:Array Bool}{m:Nat}{F0:zH}
end
end
section
open Go Go.RowKit
def isDep (l:List Oper)(i j:Nat):Bool:=match l[i]? with|some o=>o.after.toList.any fun e=>Region.binds .any e&&Nat.beq e.on j|none=>false
def gateB (l:List Oper)(z:Nat):List KF→Bool
 | []=>true
 | x::t=>(isDep l z x.i||t.any fun y=>isDep l y.i x.i)&&gateB l z t
theorem gateB_strip (l:List Oper)(z:Nat):∀ T:List KF,gateB l z (T.map KF.strip)=gateB l z T
 | []=>rfl
 | x::t=>by
   rw[List.map_cons]
   unfold gateB
   rw[gateB_strip l z t,List.any_map]
   rfl
theorem gateB_all {l:List Oper}{z:Nat}{D:Nat→Prop}(hz:∀ j,isDep l z j=true→D j):∀ {T:List KF},gateB l z T=true→(∀ y,y∈T→D y.i→∀ j,isDep l y.i j=true→D j)→∀ x,x∈T→D x.i
 | [],_,_,x,hx=>by cases hx
 | y::t,h,hc,x,hx=>by
   unfold gateB at h
   rw[Bool.and_eq_true,Bool.or_eq_true] at h
   have ht:=gateB_all hz h.2 fun y hy=>hc y (zz4 _ hy)
   rcases List.mem_cons.1 hx with rfl|hx
   ·rcases h.1 with h1|h1
    ·exact hz _ h1
    ·obtain⟨u,hu,h2⟩:=List.any_eq_true.1 h1
     exact hc u (zz4 _ hu) (ht u hu) _ h2
   ·exact ht x hx
def stepT (T:List KF)(s:Array Bool):Array Bool:=T.foldl (fun s x=>s.setIfInBounds x.i true) s
theorem stepT_size:∀ (T:List KF) (s:Array Bool),(stepT T s).size=s.size
 | [],_=>rfl
 | x::t,s=>by
   show(stepT t (s.setIfInBounds x.i true)).size=_
   rw[stepT_size t];simp
theorem setB_getD (s:Array Bool)(i j:Nat)(hi:i<s.size):(s.setIfInBounds i true).getD j true=(Nat.beq i j||s.getD j true):=by
 by_cases h:i=j
 ·subst h
  rw[Array.getD_eq_getD_getElem?,Array.getElem?_setIfInBounds_self_of_lt hi,Nat.beq_refl];rfl
 ·rw[Array.getD_eq_getD_getElem?,Array.getElem?_setIfInBounds_ne h,← Array.getD_eq_getD_getElem?]
  have:Nat.beq i j=false:=by
   cases hb:Nat.beq i j with
   | false=>rfl
   | true=>exact absurd (Nat.eq_of_beq_eq_true hb) h
  rw[this];rfl
theorem stepT_getD:∀ (T:List KF) (s:Array Bool) (j:Nat),(∀ x,x∈T→x.i<s.size)→(stepT T s).getD j true=((T.any fun x=>Nat.beq x.i j)||s.getD j true)
 | [],_,_,_=>rfl
 | x::t,s,j,h=>by
   show(stepT t (s.setIfInBounds x.i true)).getD j true=_
   rw[stepT_getD t _ j (fun y hy=>by simpa using h y (List.mem_cons_of_mem _ hy)),setB_getD s x.i j (h x (List.mem_cons_self ..)),List.any_cons]
   cases Nat.beq x.i j<;>cases t.any _<;>rfl
theorem arrB_ext {s t:Array Bool}(hs:s.size=t.size)(h:∀ j,j<s.size→s.getD j true=t.getD j true):s=t:=by
 refine Array.ext hs fun j h1 h2=>?_
 have:=h j h1
 rwa [Array.getD_eq_getD_getElem?,Array.getD_eq_getD_getElem?,Array.getElem?_eq_getElem h1,Array.getElem?_eq_getElem h2] at this
attribute [local semireducible] CW OW OX QW QX Yq RA RH
section
variable {P:Program}{n:Nw}{Q:zAX}{w:World}{l:List Oper}{s:Array Bool}{m:Nat}{F0:zH}
end
end
end Go.Sk
namespace Go.Proofs.YtibmaifoaajllaaGreatDoor
open Go Go.Sk Go.RowKit
attribute [local irreducible] Go.Calls
section
variable {F:zH}{s:Sta}{p:SPt}
def zGa (s:Sta)(id:Int):Bid × Int × Bool:=if (zBm s.aucs id).2=true∧zCC s=true then zO s (zBm s.aucs id).1 else(Bid.zero,0,false)
theorem zJU (hW:StaW s)(id:Int)(h64:R64 s.rows)(hb:∀ j,j<s.aucs.length→(s.aucs.getD j default).bids.length≤100000)
  (hok:(zBm s.aucs id).2=true→zCC s=true→(0≤s.fee∧s.fee≤1000)∧(0≤(zBm s.aucs id).1.qty∧(zBm s.aucs id).1.qty≤1125899906842624)∧0≤(zN (zBm s.aucs id).1).1.amount∧(zN (zBm s.aucs id).1).1.amount≤1125899906842624) (w0:World) (hF:Mem w0 F) (hs:StaM F s p) :
  Calls Tryz.prog 27 [.agg (s.cells p).toArray,.int .i64 id].toArray w0 (Ret (.tuple #[.int .i64 (zGa s id).1.acct,.int .i64 (zGa s id).1.amount,.int .i64 (zGa s id).2.1,.bool (zGa s id).2.2]) w0):=by
 have hget:=fun w (hF:Mem w F)=>c_Get s.aucs p.ad id w hF hs.au (fun j hj=>Nat.le_trans (hb j hj) (by decide))
 have hgl:(zBm s.aucs id).1.bids.length≤100000:=by
  unfold zBm
  split
  ·exact zzD _
  ·have:=zJ2 s.aucs id
   exact hb _ (by omega)
 unfold zGa
 cases h0:(zBm s.aucs id).2 with
 | false =>
   rw[if_neg (by rintro⟨g,_⟩;cases g)]
   refine enter [.tmp 4,.tmp 5,.tmp 6,.tmp 7] Tryz.func27 rfl Tryz.ntmps27 rfl rfl ?_
   have H:=zB w0
   repeat' (first|refine yT ?_|refine y7 sg H ?_|(refine y9 H ?_;intro b w H)|(refine y10 sg H ?_;intro b w H)|(refine y11 sg H ?_;intro w H)|(refine' y32 zS6 ?_ ?_;rotate_left;exact hget _ (H.memF hF);intro v M w hR hS;replace H:=H.addR hS;clear hS;(try simp only[List.cons_append,List.nil_append] at H);obtain⟨_,⟨a1,c1,rfl,hO⟩,rfl⟩:=hR)|refine yU ?_|(refine y17 ?_ ?_;all_goals(intro h;try (exfalso;first|((rw[h0] at h;cases h);done))))|fail)
   all_goals exact zBT (vs:=[_,_,_,_]) ⟨zh rfl,zh rfl,zh rfl,zh rfl,trivial⟩ H.cl rfl
 | true =>
   cases hm:zCC s with
   | false =>
     rw[if_neg (by rintro⟨_,g⟩;cases g)]
     refine enter [.tmp 4,.tmp 5,.tmp 6,.tmp 7] Tryz.func27 rfl Tryz.ntmps27 rfl rfl ?_
     have H:=zB w0
     repeat' (first|refine yT ?_|refine y7 sg H ?_|(refine y9 H ?_;intro b w H)|(refine y10 sg H ?_;intro b w H)|(refine y11 sg H ?_;intro w H)|(refine' y30 zCR ?_ ?_;rotate_left;exact zC1 s p hW _ (H.memF hF) hs;intro w hcl;replace H:=H.ext hcl;clear hcl)|(refine' y32 zS6 ?_ ?_;rotate_left;exact hget _ (H.memF hF);intro v M w hR hS;replace H:=H.addR hS;clear hS;(try simp only[List.cons_append,List.nil_append] at H);obtain⟨_,⟨a1,c1,rfl,hO⟩,rfl⟩:=hR)|refine yU ?_|(refine y17 ?_ ?_;all_goals(intro h;try (exfalso;first|((rw[h0] at h;cases h);done)|((rw[hm] at h;cases h);done))))|(refine y23 ?_ ?_;all_goals(intro h;try (exfalso;first|((rw[h0] at h;cases h);done)|((rw[hm] at h;cases h);done))))|fail)
     all_goals exact zBT (vs:=[_,_,_,_]) ⟨zh rfl,zh rfl,zh rfl,zh rfl,trivial⟩ H.cl rfl
   | true =>
     obtain⟨hfe,hq,hwa⟩:=hok h0 hm
     rw[if_pos ⟨rfl,rfl⟩]
     refine enter [.tmp 4,.tmp 5,.tmp 6,.tmp 7] Tryz.func27 rfl Tryz.ntmps27 rfl rfl ?_
     have H:=zB w0
     have hwin:=fun w (b:Nat) (G:zH) (a1:Option Addr) (c1:Nat) (hG:Mem w G) (hM:Mkt G b s p [] none 0 ByteArray.empty) (hB:Bids G a1 c1 (zBm s.aucs id).1.bids)=>zG3 (zBm s.aucs id).1 h64 hfe hq hwa w hG hM hB
     repeat' (first|refine yT ?_|refine y7 sg H ?_|(refine y9 H ?_;intro b w H)|(refine y10 sg H ?_;intro b w H)|(refine y11 sg H ?_;intro w H)|(refine' y30 zCR ?_ ?_;rotate_left;exact zC1 s p hW _ (H.memF hF) hs;intro w hcl;replace H:=H.ext hcl;clear hcl)|(refine' y32 zS6 ?_ ?_;rotate_left;exact hget _ (H.memF hF);intro v M w hR hS;replace H:=H.addR hS;clear hS;(try simp only[List.cons_append,List.nil_append] at H);obtain⟨_,⟨a1,c1,rfl,hO⟩,rfl⟩:=hR)|(refine' y30 zQK ?_ ?_;rotate_left;exact hwin _ _ _ _ _ (H.all hF) ⟨zz6 _ qC,hs.mono (zz8 _ _),SlA.nil⟩ (OwnB.bids hO qS (by omega));intro w hcl;replace H:=H.ext hcl;clear hcl)|(refine CW.regionL mixed 10 (z6s (x:=cb _ (zO s (zBm s.aucs id).1).1.cells 91) H hF) [] ?_ ?_;exact rfl;intro w hcl;replace H:=H.ext hcl;clear hcl;have qh:=z6s (x:=cb _ (zO s (zBm s.aucs id).1).1.cells 91) H hF;refine' l1 0 qh ?_ ?_;rotate_left;(exact z4 sg);refine' l1 1 qh ?_ ?_;rotate_left;(exact z3 sg);refine' l1 2 qh ?_ ?_;rotate_left;(exact z4 sg);refine' l1 3 qh ?_ ?_;rotate_left;(exact z3 sg);refine' l1 4 qh ?_ ?_;rotate_left;(exact z4 sg);refine' l1 5 qh ?_ ?_;rotate_left;(exact z4 sg);refine' l1 6 qh ?_ ?_;rotate_left;(exact z4 sg);refine' l1 7 qh ?_ ?_;rotate_left;(exact z4 sg);refine' l1 8 qh ?_ ?_;rotate_left;(exact z4 sg);refine' l1 9 qh ?_ ?_;rotate_left;(exact z4 sg))|((with_reducible apply RL.nil);decide +kernel)|refine yU ?_|(refine y17 ?_ ?_;all_goals(intro h;try (exfalso;first|((rw[h0] at h;cases h);done)|((rw[hm] at h;cases h);done))))|(refine y23 ?_ ?_;all_goals(intro h;try (exfalso;first|((rw[h0] at h;cases h);done)|((rw[hm] at h;cases h);done))))|fail)
     all_goals exact zBT (vs:=[_,_,_,_]) ⟨zh rfl,zh rfl,zh rfl,zh rfl,trivial⟩ H.cl rfl
end
end Go.Proofs.YtibmaifoaajllaaGreatDoor
namespace Go.Sk
open Go Go.RowKit
theorem Byt.app {a b:List Nat}(h:Byt a)(k:Byt b):Byt (a++b):=fun x hx=>(List.mem_append.1 hx).elim (h x) (k x)
end Go.Sk
namespace Go.Proofs.YtibmaifoaajllaaGreatDoor
section
open Go Go.Sk Go.RowKit Go.ChangeShapes Go.WideShapes
section
variable {H:Type}{enc:TypeId × Value→H}{P:Program}{w:World}{base:Nat}{spare:Nat→Bool}{held:Bool}{t0 t1 t2 t3 t4:TypeId}{args:Array Value}{ds:List (DataW H)}{ps:List MemPlace}
theorem trodZ_0 (h:DataW.TrodAll enc P w base spare held [] args.toList ds ps):args=#[]∧ds=[]∧ps=[]:=by
 obtain⟨e,rfl,rfl⟩:=trodAll_nil h
 exact⟨by cases args;simp_all,rfl,rfl⟩
end
end
section
open Go Go.Sk Go.RowKit
attribute [local irreducible] Go.Calls
theorem zLy {F L N:zH}{s:Sta}{p:SPt}{bn len:Nat}{r:Sta × Int}(hW:StaW s)(hs:StaM F s p)(k:Int)(n:List Int)(hr:zk s (evF k n)=r)(hk:0≤k∧k≤255)(hn:n.length≤1000)(hP:PriM F)(hK:KinM F)(w:World)(hG:Mem w (L++(N++F)))(hm:cb bn (n.map (Value.int .i64)) 2∈L)(hl:len=n.length:=by rfl) :
  Calls Tryz.prog 13 [.agg (s.cells p).toArray,.agg #[.int .u8 3,.int .u8 k,.slice (some ⟨bn,0,none⟩) len len,.slice none 0 0]].toArray w (zn (StC r) w):=by
 subst hr
 subst hl
 have hsub:F⊆L++(N++F):=fun x hx=>zz3 _ (zz3 _ hx)
 exact zDS hW (evF k n) ⟨some ⟨bn,0,none⟩,n.length,none,0⟩ (zOY k n hk) w hG (hP.mono hsub) (hK.mono hsub) (hs.mono hsub) (zEV k n hn (zz6 _ hm))
theorem R64.of {l:List Row4}(h:∀ j,j<l.length→(rw_ l j).wf):R64 l:=fun r hr=>by
 obtain⟨j,hj,rfl⟩:=List.getElem_of_mem hr
 have:=h j hj
 have e:rw_ l j=l[j]:=by simp[rw_,List.getD_eq_getElem?_getD,List.getElem?_eq_getElem hj]
 rw[e] at this
 unfold Row4.wf Z64 at this
 omega
end
section
open Go Go.Sk Go.RowKit
def edL:List Evt:=[evN 1 ⟨#[97]⟩ [1],evN 1 ⟨#[98]⟩ [2],evN 3 ⟨#[120]⟩ [1,1],evF 10 [100],evF 6 [1,1125899906842525],evF 6 [2,1000],evF 8 [1,1,9],evF 16 [1,1,1,5,100,9],evF 17 [1,2,300],evF 11 [1,1,1,2,100,1],evF 11 [2,2,1,1,100,1],evF 20 [9]]
def edB:Bool :=
 let r:=zBL zH5 edL
 let t:=zBL r.1 [evF 6 [1,1]]
 (r.2.2==0&&t.2.2==0)&&((zGa r.1 1).1.acct==2&&(zGa r.1 1).1.amount==100&&(zGa r.1 1).2.1==1&&(zGa r.1 1).2.2&&!(zGa t.1 1).2.2) &&
 ((zk r.1 (evF 18 [1,2,100,1])).2==0&&(zk t.1 (evF 19 [1])).2==0&&(zk r.1 (evF 13 [2,1,100,1,1])).2==0&&(zk t.1 (evF 13 [2,1,100,1,1])).2==41)
theorem ed_b:edB=true:=by decide +kernel
structure EdF (s t:Sta)(n m:Int):Prop where
 all:zBL zH5 edL=(s,n,0)
 two:zBL s [evF 6 [1,1]]=(t,m,0)
 a:(zGa s 1).1.acct=2
 p:(zGa s 1).1.amount=100
 z:(zGa s 1).2.1=1
 won:(zGa s 1).2.2=true
 not:(zGa t 1).2.2=false
 sold:(zk s (evF 18 [1,2,100,1])).2=0
 un:(zk t (evF 19 [1])).2=0
 trd:(zk s (evF 13 [2,1,100,1,1])).2=0
 over:(zk t (evF 13 [2,1,100,1,1])).2=41
theorem ed_f:∃ s t n m,EdF s t n m:=by
 have h:=ed_b
 unfold edB at h
 simp only[Bool.and_eq_true,beq_iff_eq,Bool.not_eq_true'] at h
 obtain⟨⟨⟨h1,h2⟩,⟨⟨⟨h3,h4⟩,h5⟩,h6⟩,h7⟩,⟨⟨h8,h9⟩,h10⟩,h11⟩:=h
 exact⟨_,_,_,_,Prod.ext rfl (Prod.ext rfl h1),Prod.ext rfl (Prod.ext rfl h2),h3,h4,h5,h6,h7,h8,h9,h10,h11⟩
def nmEarly:List Evt:=[evN 1 ⟨#[99,108,111,115,101,100]⟩ [3],evF 2 [3],evF 4 [1],evN 3 ⟨#[121]⟩ [2,10],evF 14 [1,1,2,1,10,5,9]]
def nmLate:List Evt:=[evN 1 ⟨#[99,108,111,115,101,100]⟩ [3],evF 2 [3],evN 3 ⟨#[121]⟩ [2,10],evF 8 [1,2,9],evF 14 [1,1,2,1,10,5,9],evF 16 [2,1,2,1,10,9],evF 17 [2,2,20],evF 4 [1]]
def nmT:List (Evt × Int):=[(⟨2,2,[1],[]⟩,4),(evF 20 [0],4),
 (evN 1 ⟨#[97]⟩ [5],46),(evN 1 ⟨#[99,108,111,115,101,100]⟩ [4],6),(evF 2 [3],5),(evF 2 [4],5),(evF 2 [1],47),
 (evN 3 ⟨#[120]⟩ [4,1],46),(evN 3 ⟨#[120]⟩ [3,1],6),(evF 4 [3],5),(evF 4 [1],46),(evF 5 [2],46),
 (evF 6 [3,1],5),(evF 6 [2,1125899906842624],41),(evF 7 [3,1],5),(evF 7 [2,981],47),(evF 7 [2,980],0),
 (evF 8 [1,3,1],5),(evF 9 [3,1,1],5),(evF 9 [2,1,1],47),
 (evF 11 [2,3,1,1,150,1],46),(evF 11 [1,3,1,1,150,1],5),(evF 11 [1,1,3,1,150,1],5),(evF 11 [1,1,1,1,150,1],48),(evF 11 [1,1,2,1,15,1],50),(evF 11 [1,1,2,1,10,1],47),(evF 11 [1,2,2,1,10,98],0),
 (evF 12 [1],5),(evF 13 [1,2,1,1,0],5),
 (evF 14 [4,3,1,1,1,1,9],46),(evF 14 [3,3,1,1,1,1,1],5),(evF 16 [3,2,1,1,1,1],48),(evF 16 [3,2,2,1,1,1],47),
 (evF 15 [2,3,1],5),(evF 15 [1,3,1],5),(evF 15 [1,1,1],49),(evF 15 [1,2,9],51),(evF 15 [1,2,981],47),(evF 15 [1,2,980],0),
 (evF 17 [1,2,1],5),(evF 17 [2,3,1],5),(evF 17 [2,1,1],49),(evF 17 [2,2,1],6),
 (evF 18 [3,2,10,0],5),(evF 18 [2,2,10,0],46),(evF 19 [3],5),(evF 19 [1],46),
 (evF 21 [1,3,1],5),(evF 21 [1,1,1],1),(evF 21 [2,1,981],47),
 (evN 22 ⟨#[98]⟩ [3],5),(evN 22 ⟨#[97]⟩ [1],6),(evF 23 [3,1],5),(evF 23 [2,7],0)]
def nmB:Bool :=
 let s:=zBL zH5 zRN
 let a:=zBL s.1 nmEarly
 let l:=zBL s.1 nmLate
 (s.2.2==0&&a.2.2==47&&l.2.1==8&&l.2.2==0)&&(nmT.all fun x=>(zk l.1 x.1).2==x.2)&&((zk zCt (evF 20 [1])).2==4&&(zBL zCt []).2.1==0&&(zBL zCt []).2.2==4)
theorem nm_b:nmB=true:=by decide +kernel
structure NmF (s l:Sta)(n i:Int)(x:Sta):Prop where
 start:zBL zH5 zRN=(s,n,0)
 no:zBL s nmEarly=(x,i,47)
 late:zBL s nmLate=(l,8,0)
 tab:∀ y∈nmT,(zk l y.1).2=y.2
 z1:(zk zCt (evF 20 [1])).2=4
 z2:(zBL zCt []).2=(0,4)
theorem nm_f:∃ s l n i x,NmF s l n i x:=by
 have h:=nm_b
 unfold nmB at h
 simp only[Bool.and_eq_true,beq_iff_eq,List.all_eq_true] at h
 obtain⟨⟨⟨⟨⟨h1,h2⟩,h3⟩,h4⟩,h5⟩,⟨h6,h7⟩,h8⟩:=h
 exact⟨_,_,_,_,_,Prod.ext rfl (Prod.ext rfl h1),Prod.ext rfl (Prod.ext rfl h2),Prod.ext rfl (Prod.ext h3 h4),h5,h6,Prod.ext h7 h8⟩
end
section
open Go Go.Sk Go.RowKit
attribute [local irreducible] Go.Calls
def eptOf:List Value→List EPt
 | _::_::.slice a _ c::.slice a2 _ c2::r=>⟨a,c,a2,c2⟩::eptOf r
 | _=>[]
theorem EvsM.ofX {F M:zH}{a:Option Addr}{n cap:Nat}{T:TypeId}{xs:List Value}(l:List Evt)(h:Go.Sk.Own M T 4 a n cap xs)(hM:M⊆F)(hE:EvL F l (eptOf xs))(hn:n=l.length:=by rfl)(hx:xs=(l.zip (eptOf xs)).flatMap (fun x=>x.1.cells x.2):=by rfl)(hl:l.length≤1000:=by decide):EvsM F a cap l (ept_ (eptOf xs)):=EvsM.of l _ h hM hE hn hx hl
theorem evs_blk {F:zH}{b:Nat}{T:TypeId}{cs:List Value}(l:List Evt)(h:cb b cs T∈F)(hE:EvL F l (eptOf cs))(hx:cs=(l.zip (eptOf cs)).flatMap (fun x=>x.1.cells x.2))(hc:cs.length=l.length*4)(hl:l.length≤1000:=by decide):EvsM F (some ⟨b,0,none⟩) l.length l (ept_ (eptOf cs)):=by
 have o:=Go.Sk.Own.mk (g:=b) (cs:=cs) (E:=T) (size:=4) (zzC l.length) (by unfold maxLen;omega) hc
 rw[List.take_of_length_le (Nat.le_of_eq hc)] at o
 exact EvsM.of l _ o (by intro p hp;rw[List.mem_singleton.1 hp];exact h) hE rfl hx hl
abbrev EvB (F L:zH)(b:Nat)(l:List Evt):Prop:=∃ (cs:List Value) (T:TypeId),cb b cs T∈L∧EvL F l (eptOf cs)∧cs=(l.zip (eptOf cs)).flatMap (fun x=>x.1.cells x.2)∧cs.length=l.length*4
theorem EvB.m {F L:zH}{b:Nat}{l:List Evt}(h:EvB F L b l)(hs:L⊆F)(hl:l.length≤1000):∃ q,EvsM F (some ⟨b,0,none⟩) l.length l q:=by
 obtain⟨cs,T,h1,h2,h3,h4⟩:=h
 exact⟨_,evs_blk l (hs h1) h2 h3 h4 hl⟩
theorem evt_all {l:List Evt}(h:(l.all fun e=>decide (0≤e.v)&&decide (e.v≤255)&&(decide (0≤e.kind)&&decide (e.kind≤255))&&e.texts.all fun t=>decide (t.size≤140737488355328))=true):∀ e∈l,zFq e:=by
 intro e he
 have:=List.all_eq_true.1 h e he
 simp only[Bool.and_eq_true,decide_eq_true_eq,List.all_eq_true] at this
 obtain⟨⟨⟨a,b⟩,c,d⟩,t⟩:=this
 exact⟨⟨a,b⟩,⟨c,d⟩,fun x hx=>t x hx⟩
theorem all_good {s t:Sta}{l:List Evt}{n:Int}(h:zBL s l=(t,n,0)):Good s∧Good t:=by
 unfold zBL at h
 by_cases hm:zCC s=true
 ·rw[if_pos hm] at h
  exact⟨zAl.1 hm,zOZ (zAl.1 hm) h⟩
 ·rw[if_neg hm] at h
  exact absurd (Prod.mk.inj (Prod.mk.inj h).2).2 (by decide)
theorem c_rEmpty (w0:World):Calls Tryz.prog 22 [].toArray w0 (Ret (.agg (Sta.cells zH5 SPt.n0).toArray) w0):=by
 refine enter [.cell 0 28] Tryz.func22 rfl Tryz.ntmps22 rfl rfl ?_
 have H:=zB w0
 repeat' (first|refine yT ?_|(refine y10 sg H ?_;intro b w H)|(refine y11 sg H ?_;intro w H)|refine yU ?_|fail)
 exact zBT (vs:=[_]) ⟨zAf sg rfl H.mem (zz2 _) rfl rfl,trivial⟩ H.cl rfl
theorem z_sta {G:zH}:StaM G zH5 SPt.n0:=⟨SlA.nil,SlA.nil,SlA.nil,SlA.nil,SlA.nil,fun j hj=>absurd hj (zzE _)⟩
theorem c_allS {F L N:zH}{s:Sta}{p:SPt}{r:Sta × Int × Int}{b len:Nat}(l:List Evt)(gs:Good s)(hs:StaM N s p)(hr:zBL s l=r)(hT:∀ e∈l,zFq e)(hP:PriM F)(hK:KinM F)(w:World)(hG:Mem w (L++(N++F)))(hM:EvB (L++(N++F)) L b l)(hl:len=l.length:=by rfl)(hl2:l.length≤1000:=by decide) :
  Calls Tryz.prog 21 [.agg (s.cells p).toArray,.slice (some ⟨b,0,none⟩) len len].toArray w (zn (AllR r) w):=by
 subst hr
 subst hl
 obtain⟨q,hM⟩:=hM.m (List.subset_append_left _ _) hl2
 exact zKV (zG4 gs) l q hT w hG (hP.mono fun x hx=>zz3 _ (zz3 _ hx)) (hK.mono fun x hx=>zz3 _ (zz3 _ hx)) (hs.mono fun x hx=>zz3 _ (zz6 _ hx)) hM
theorem AllR.any {s:Sta}{k e:Int}{M:zH}{v:Value}(h:AllR (s,k,e) M v):∃ p,v=.tuple #[.agg (s.cells p).toArray,.int .i64 k,.int .i64 e]:=by
 obtain⟨p,Ma,Mi,Mu,R,rfl,rfl,hC⟩:=h
 exact⟨p,rfl⟩
theorem getF_at {l:List Auc}{id:Int}(h:(zBm l id).2=true):∃ j,j<l.length∧(zBm l id).1=au_ l j:=by
 have hb:=zJ2 l id
 unfold zBm at h ⊢
 by_cases h0:zIm l id<0
 ·rw[if_pos h0] at h;cases h
 ·rw[if_neg h0]
  exact⟨_,by omega,rfl⟩
theorem win_hok {s:Sta}{id:Int}(h:AuB s)(hg:(zBm s.aucs id).2=true):(0≤s.fee∧s.fee≤1000)∧(0≤(zBm s.aucs id).1.qty∧(zBm s.aucs id).1.qty≤1125899906842624)∧0≤(zN (zBm s.aucs id).1).1.amount∧(zN (zBm s.aucs id).1).1.amount≤1125899906842624:=by
 obtain⟨j,hj,e⟩:=getF_at hg
 rw[e]
 exact⟨h.fee,h.qty j hj,h.win j hj⟩
theorem c_edge {F:zH}(w0:World)(hF:Mem w0 F)(hP:PriM F)(hK:KinM F):Calls Tryz.prog 20 [].toArray w0 (Ret (.bool true) w0):=by
 obtain⟨s,t,n,m,E⟩:=ed_f
 obtain⟨_,gs⟩:=all_good E.all
 obtain⟨_,gt⟩:=all_good E.two
 have hall:=fun w (G:zH) (a:Option Addr) (cap:Nat) (q:Nat→EPt) (hG:Mem w (G++F)) (hM:EvsM (G++F) a cap edL q)=>zKV (s:=zH5) (p:=SPt.n0) (a:=a) (cap:=cap) (zG4 good_e) edL q (evt_all (by decide +kernel)) w hG (hP.mono (zz8 _ _)) (hK.mono (zz8 _ _)) z_sta hM
 rw[E.all] at hall
 refine enter [.tmp 0] Tryz.func20 rfl Tryz.ntmps20 rfl rfl ?_
 have H:=zB w0
 repeat' (first|refine yT ?_|((with_reducible apply OX.buildA sg H);exact rfl;exact rfl;exact rfl;exact rfl;exact rfl;exact rfl;exact rfl;exact rfl;exact rfl;exact rfl;exact rfl;exact rfl;intro b w H _)|(refine z14 sg H ?_;intro b w H)|(refine' y32 ent24 ?_ ?_;rotate_left;exact zRt _;intro v M w hR hS;replace H:=H.addR hS;clear hS;(try simp only[List.cons_append,List.nil_append] at H);obtain⟨t1,rfl,rfl⟩:=hR)|(refine' y30 zBJ ?_ ?_;rotate_left;exact zAA _;intro w hcl;replace H:=H.ext hcl;clear hcl)|(refine' y30 ent22 ?_ ?_;rotate_left;exact c_rEmpty _;intro w hcl;replace H:=H.ext hcl;clear hcl)|refine yU ?_|fail)
 have hp:=H.perm (List.perm_middle (l₁:=[_,_]))
 simp only[List.cons_append,List.nil_append] at hp
 refine zo sg 4 56 (M:=[_]) hp rfl rfl rfl rfl rfl rfl rfl rfl rfl rfl rfl ⟨rfl,.inr ⟨_,_,rfl,rfl,zzC _,(show 11≤maxLen by unfold maxLen;decide),rfl,rfl⟩⟩ (zAM hp.mem (zz5 _ (zz2 _))) rfl (zAh rfl) (show 11+1≤maxLen by unfold maxLen;decide) (show(11+1)*56≤140737488355328 by decide) ?_
 clear hp H
 intro a2 c2 M2 w O2 H
 obtain⟨N0,q0,H,hE2⟩:∃ (N0:zH) (q0:Nat→EPt),St w0 N0 w∧EvsM N0 a2 c2 edL q0:=⟨_,_,H,EvsM.ofX edL O2 (List.subset_append_left _ _) ⟨zKI 1 _ [1] (by decide) (zz3 _ qC) (zz3 _ qC),zKI 1 _ [2] (by decide) (zz3 _ qC) (zz3 _ qC),zKI 3 _ [1,1] (by decide) (zz3 _ qC) (zz3 _ qC),zEV 10 [100] (by decide) (zz3 _ qC),zEV 6 [1,1125899906842525] (by decide) (zz3 _ qC),zEV 6 [2,1000] (by decide) (zz3 _ qC),zEV 8 [1,1,9] (by decide) (zz3 _ qC),zEV 16 [1,1,1,5,100,9] (by decide) (zz3 _ qC),zEV 17 [1,2,300] (by decide) (zz3 _ qC),zEV 11 [1,1,1,2,100,1] (by decide) (zz3 _ qC),zEV 11 [2,2,1,1,100,1] (by decide) (zz3 _ qC),zEV 20 [9] (by decide) (zz3 _ qC),trivial⟩⟩
 clear O2
 repeat' (first|refine yT ?_|(refine y10 sg H ?_;intro b w H)|(refine y11 sg H ?_;intro w H)|(refine' y32 zNW ?_ ?_;rotate_left;exact hall _ N0 _ _ _ (H.all hF) (hE2.mono (List.subset_append_left _ _));intro v M w hR hS;replace H:=H.addR hS;clear hS;(try simp only[List.cons_append,List.nil_append] at H);obtain⟨p1,rfl,hs1⟩:=AllR.sta hR (zDf gs))|refine yU ?_|fail)
 refine CW.named (fun en1 w=>∃ b2 N en',en1=ovl [(2,.pointer (some ⟨b2,0,none⟩)),(4,.int .i64 0)] en'∧St w0 N w∧cb b2 (s.cells p1) 28∈N∧StaM N s p1) ⟨_,_,_,zSV rfl rfl,H,qC,hs1.mono qS⟩ ?_
 clear H hs1 hE2 hall
 rintro _ w ⟨b2,N,_,rfl,H,hb2,hss⟩
 have H0:=H
 have hF1:=H.all hF
 clear H
 obtain⟨w1,rfl⟩:∃ w1,w1=w:=⟨w,rfl⟩
 have H:=zB w1
 (try with_reducible apply zBW)
 refine CW.cutT (fun en1 w=>∃ b5 p2 N' en',en1=ovl [(2,.pointer (some ⟨b2,0,none⟩)),(4,.int .i64 0),(5,.pointer (some ⟨b5,0,none⟩)),(7,.int .i64 0)] en'∧St w0 N' w∧N⊆N'∧cb b5 (t.cells p2) 28∈N'∧StaM N' t p2) ?_ ?_
 ·repeat' (first|refine yT ?_|(refine y10 sg H ?_;intro b w H)|(refine y11 sg H ?_;intro w H)|((with_reducible apply OX.buildA sg H);exact rfl;exact rfl;exact rfl;exact rfl;exact rfl;exact rfl;exact rfl;exact rfl;exact rfl;exact rfl;exact rfl;exact rfl;intro b w H _)|(refine z14 sg H ?_;intro b w H)|(refine CW.regionL mixed 13 (H.memF hF1) [] ?_ ?_;exact rfl;intro w hcl;replace H:=H.ext hcl;clear hcl;refine' l1 0 (H.memF hF1) ?_ ?_;rotate_left;(exact(fun w2 hM2=>zG sg rfl rfl hM2 (zz6 _ hb2) rfl rfl)))|((with_reducible apply RL.nil);decide +kernel)|(refine' l1 5 (H.memF hF1) ?_ ?_;rotate_left;(exact z4 sg))|(refine' l1 6 (H.memF hF1) ?_ ?_;rotate_left;(exact z4 sg))|(refine' l1 7 (H.memF hF1) ?_ ?_;rotate_left;(exact z4 sg))|(refine' l1 8 (H.memF hF1) ?_ ?_;rotate_left;(exact z4 sg))|(refine' l1 11 (H.memF hF1) ?_ ?_;rotate_left;(exact z4 sg))|(refine' l1 12 (H.memF hF1) ?_ ?_;rotate_left;(exact z4 sg))|refine l2 1 ?_|refine l2 2 ?_|refine l2 3 ?_|refine l2 4 ?_|refine l2 9 ?_|refine l2 10 ?_|refine l4 1 9 ?_ ?_|refine l4 2 9 ?_ ?_|refine l4 3 9 ?_ ?_|refine l4 4 9 ?_ ?_|(refine l5 (H.memF hF1) ?_)|(refine' y30 zBJ ?_ ?_;rotate_left;exact zAA _;intro w hcl;replace H:=H.ext hcl;clear hcl)|(refine' y32 zNW ?_ ?_;rotate_left;exact c_allS [evF 6 [1,1]] gs hss E.two (evt_all (by decide +kernel)) hP hK _ (H.all hF1) (by apply Exists.intro;apply Exists.intro;apply And.intro;(repeat (first|exact zz2 _|refine zz5 _ ?_));exact⟨⟨zEV 6 [1,1] (by decide) (zz6 _ qC),trivial⟩,rfl,rfl⟩);intro v M w hR hS;replace H:=H.addR hS;clear hS;(try simp only[List.cons_append,List.nil_append] at H);obtain⟨px,rfl,hx⟩:=AllR.sta hR (zDf gt))|refine yU ?_|fail)
  all_goals exact⟨_,px,_,_,za rfl (zAZ rfl rfl rfl),H0.addR H,by intro q hq;simp[hq],zz3 _ qC,hx.mono qS⟩
 clear H H0 hF1
 rintro _ w ⟨b5,p2,N',_,rfl,H,hsub,hb5,hst⟩
 replace hb2:=hsub hb2
 replace hss:=hss.mono hsub
 clear hsub
 obtain⟨N,rfl⟩:∃ N,N=N':=⟨N',rfl⟩
 have haS:=zOP gs
 have haT:=zOP gt
 have hlS:=zDf gs
 have cWs:=fun w (G:zH) (hG:Mem w G) (h:N⊆G)=>zJU (zG4 gs) 1 (zCq gs) (fun j hj=>by have:=(zCw ((zAL.1 gs.aucs).2.1 _ (ze hj))).2.2.2.2.1;exact Nat.le_trans this (by decide)) (fun g1 _=>win_hok haS g1) w hG (hss.mono h)
 have cWt:=fun w (G:zH) (hG:Mem w G) (h:N⊆G)=>zJU (zG4 gt) 1 (zCq gt) (fun j hj=>by have:=(zCw ((zAL.1 gt.aucs).2.1 _ (ze hj))).2.2.2.2.1;exact Nat.le_trans this (by decide)) (fun g1 _=>win_hok haT g1) w hG (hst.mono h)
 rw[E.a,E.p,E.z,E.won] at cWs
 rw[E.not] at cWt
 repeat' (first|refine yT ?_|refine z13 (zG sg rfl rfl (H.mem.sub qS) hb2 rfl rfl) ?_|refine z13 (zG sg rfl rfl (H.mem.sub qS) hb5 rfl rfl) ?_|(refine' y30 zOi ?_ ?_;rotate_left;exact cWs _ _ H.mem qS;intro w hcl;replace H:=H.ext hcl;clear hcl)|(refine' y30 zOi ?_ ?_;rotate_left;exact cWt _ _ H.mem qS;intro w hcl;replace H:=H.ext hcl;clear hcl)|refine yU ?_|fail)
 refine CW.named (fun en1 w=>∃ N' en',en1=ovl [(2,.pointer (some ⟨b2,0,none⟩)),(5,.pointer (some ⟨b5,0,none⟩)),(8,.int .i64 2),(9,.int .i64 100),(10,.int .i64 1),(11,.bool true),(15,.bool false)] en'∧St w0 N' w∧N⊆N') ⟨_,_,za rfl (za rfl (za rfl (za rfl (zAZ rfl rfl rfl)))),H,by intro q hq;simp[hq]⟩ ?_
 clear H
 rintro _ w ⟨N',_,rfl,H,hsub⟩
 replace hb2:=hsub hb2
 replace hb5:=hsub hb5
 replace hss:=hss.mono hsub
 replace hst:=hst.mono hsub
 clear hsub
 obtain⟨N,rfl⟩:∃ N,N=N':=⟨N',rfl⟩
 obtain⟨x1,h1⟩:∃ x,zk s (evF 18 [1,2,100,1])=(x,0):=⟨_,Prod.ext rfl E.sold⟩
 obtain⟨x2,h2⟩:∃ x,zk t (evF 19 [1])=(x,0):=⟨_,Prod.ext rfl E.un⟩
 obtain⟨x3,h3⟩:∃ x,zk s (evF 13 [2,1,100,1,1])=(x,0):=⟨_,Prod.ext rfl E.trd⟩
 obtain⟨x4,h4⟩:∃ x,zk t (evF 13 [2,1,100,1,1])=(x,41):=⟨_,Prod.ext rfl E.over⟩
 have H0:=H
 have hF1:=H.all hF
 clear H
 obtain⟨w1,rfl⟩:∃ w1,w1=w:=⟨w,rfl⟩
 have H:=zB w1
 (try with_reducible apply zBW)
 refine CW.cutT (fun en1 w=>∃ N' en',en1=ovl [(2,.pointer (some ⟨b2,0,none⟩)),(5,.pointer (some ⟨b5,0,none⟩)),(8,.int .i64 2),(9,.int .i64 100),(10,.int .i64 1),(11,.bool true),(15,.bool false),(17,.int .i64 0)] en'∧St w0 N' w∧N⊆N') ?_ ?_
 ·repeat' (first|refine yT ?_|(refine y10 sg H ?_;intro b w H)|(refine y11 sg H ?_;intro w H)|(refine z14 sg H ?_;intro b w H)|(refine CW.regionL mixed 10 (H.memF hF1) [] ?_ ?_;exact rfl;intro w hcl;replace H:=H.ext hcl;clear hcl;refine' l1 0 (H.memF hF1) ?_ ?_;rotate_left;(exact(fun w2 hM2=>zG sg rfl rfl hM2 (zz6 _ hb2) rfl rfl)))|((with_reducible apply RL.nil);decide +kernel)|(refine' l1 4 (H.memF hF1) ?_ ?_;rotate_left;(exact z4 sg))|(refine' l1 5 (H.memF hF1) ?_ ?_;rotate_left;(exact z4 sg))|(refine' l1 6 (H.memF hF1) ?_ ?_;rotate_left;(exact z4 sg))|(refine' l1 9 (H.memF hF1) ?_ ?_;rotate_left;(exact z4 sg))|refine l2 1 ?_|refine l2 2 ?_|refine l2 3 ?_|refine l2 7 ?_|refine l2 8 ?_|refine l4 1 7 ?_ ?_|refine l4 2 7 ?_ ?_|refine l4 3 7 ?_ ?_|(refine l5 (H.memF hF1) ?_)|(refine' y30 zBJ ?_ ?_;rotate_left;exact zAA _;intro w hcl;replace H:=H.ext hcl;clear hcl)|(refine' y32 zBr ?_ ?_;rotate_left;exact zLm gs hss 18 [1,2,100,1] h1 (by decide) (by decide) hP hK _ (H.all hF1) qC;intro v M w hR hS;replace H:=H.addR hS;clear hS;(try simp only[List.cons_append,List.nil_append] at H);obtain⟨px,rfl⟩:=StC.any hR)|refine yU ?_|fail)
  all_goals exact⟨_,_,za rfl (za rfl (za rfl (za rfl (za rfl (zAZ rfl rfl rfl))))),H0.addR H,by intro q hq;simp[hq]⟩
 clear H H0 hF1
 rintro _ w ⟨N',_,rfl,H,hsub⟩
 replace hb2:=hsub hb2
 replace hb5:=hsub hb5
 replace hss:=hss.mono hsub
 replace hst:=hst.mono hsub
 clear hsub
 obtain⟨N,rfl⟩:∃ N,N=N':=⟨N',rfl⟩
 have H0:=H
 have hF1:=H.all hF
 clear H
 obtain⟨w1,rfl⟩:∃ w1,w1=w:=⟨w,rfl⟩
 have H:=zB w1
 (try with_reducible apply zBW)
 refine CW.cutT (fun en1 w=>∃ N' en',en1=ovl [(2,.pointer (some ⟨b2,0,none⟩)),(5,.pointer (some ⟨b5,0,none⟩)),(8,.int .i64 2),(9,.int .i64 100),(10,.int .i64 1),(11,.bool true),(15,.bool false),(17,.int .i64 0),(19,.int .i64 0)] en'∧St w0 N' w∧N⊆N') ?_ ?_
 ·repeat' (first|refine yT ?_|(refine y10 sg H ?_;intro b w H)|(refine y11 sg H ?_;intro w H)|(refine z14 sg H ?_;intro b w H)|(refine CW.regionL mixed 10 (H.memF hF1) [] ?_ ?_;exact rfl;intro w hcl;replace H:=H.ext hcl;clear hcl;refine' l1 0 (H.memF hF1) ?_ ?_;rotate_left;(exact(fun w2 hM2=>zG sg rfl rfl hM2 (zz6 _ hb5) rfl rfl)))|((with_reducible apply RL.nil);decide +kernel)|(refine' l1 4 (H.memF hF1) ?_ ?_;rotate_left;(exact z4 sg))|(refine' l1 5 (H.memF hF1) ?_ ?_;rotate_left;(exact z4 sg))|(refine' l1 6 (H.memF hF1) ?_ ?_;rotate_left;(exact z4 sg))|(refine' l1 9 (H.memF hF1) ?_ ?_;rotate_left;(exact z4 sg))|refine l2 1 ?_|refine l2 2 ?_|refine l2 3 ?_|refine l2 7 ?_|refine l2 8 ?_|refine l4 1 7 ?_ ?_|refine l4 2 7 ?_ ?_|refine l4 3 7 ?_ ?_|(refine l5 (H.memF hF1) ?_)|(refine' y30 zBJ ?_ ?_;rotate_left;exact zAA _;intro w hcl;replace H:=H.ext hcl;clear hcl)|(refine' y32 zBr ?_ ?_;rotate_left;exact zLm gt hst 19 [1] h2 (by decide) (by decide) hP hK _ (H.all hF1) qC;intro v M w hR hS;replace H:=H.addR hS;clear hS;(try simp only[List.cons_append,List.nil_append] at H);obtain⟨px,rfl⟩:=StC.any hR)|refine yU ?_|fail)
  all_goals exact⟨_,_,za rfl (za rfl (za rfl (za rfl (za rfl (za rfl (zAZ rfl rfl rfl)))))),H0.addR H,by intro q hq;simp[hq]⟩
 clear H H0 hF1
 rintro _ w ⟨N',_,rfl,H,hsub⟩
 replace hb2:=hsub hb2
 replace hb5:=hsub hb5
 replace hss:=hss.mono hsub
 replace hst:=hst.mono hsub
 clear hsub
 obtain⟨N,rfl⟩:∃ N,N=N':=⟨N',rfl⟩
 have H0:=H
 have hF1:=H.all hF
 clear H
 obtain⟨w1,rfl⟩:∃ w1,w1=w:=⟨w,rfl⟩
 have H:=zB w1
 (try with_reducible apply zBW)
 refine CW.cutT (fun en1 w=>∃ N' en',en1=ovl [(2,.pointer (some ⟨b2,0,none⟩)),(5,.pointer (some ⟨b5,0,none⟩)),(8,.int .i64 2),(9,.int .i64 100),(10,.int .i64 1),(11,.bool true),(15,.bool false),(17,.int .i64 0),(19,.int .i64 0),(21,.int .i64 0)] en'∧St w0 N' w∧N⊆N') ?_ ?_
 ·repeat' (first|refine yT ?_|(refine y10 sg H ?_;intro b w H)|(refine y11 sg H ?_;intro w H)|(refine z14 sg H ?_;intro b w H)|(refine CW.regionL mixed 10 (H.memF hF1) [] ?_ ?_;exact rfl;intro w hcl;replace H:=H.ext hcl;clear hcl;refine' l1 0 (H.memF hF1) ?_ ?_;rotate_left;(exact(fun w2 hM2=>zG sg rfl rfl hM2 (zz6 _ hb2) rfl rfl)))|((with_reducible apply RL.nil);decide +kernel)|(refine' l1 4 (H.memF hF1) ?_ ?_;rotate_left;(exact z4 sg))|(refine' l1 5 (H.memF hF1) ?_ ?_;rotate_left;(exact z4 sg))|(refine' l1 6 (H.memF hF1) ?_ ?_;rotate_left;(exact z4 sg))|(refine' l1 9 (H.memF hF1) ?_ ?_;rotate_left;(exact z4 sg))|refine l2 1 ?_|refine l2 2 ?_|refine l2 3 ?_|refine l2 7 ?_|refine l2 8 ?_|refine l4 1 7 ?_ ?_|refine l4 2 7 ?_ ?_|refine l4 3 7 ?_ ?_|(refine l5 (H.memF hF1) ?_)|(refine' y30 zBJ ?_ ?_;rotate_left;exact zAA _;intro w hcl;replace H:=H.ext hcl;clear hcl)|(refine' y32 zBr ?_ ?_;rotate_left;exact zLm gs hss 13 [2,1,100,1,1] h3 (by decide) (by decide) hP hK _ (H.all hF1) qC;intro v M w hR hS;replace H:=H.addR hS;clear hS;(try simp only[List.cons_append,List.nil_append] at H);obtain⟨px,rfl⟩:=StC.any hR)|refine yU ?_|fail)
  all_goals exact⟨_,_,za rfl (za rfl (za rfl (za rfl (za rfl (za rfl (za rfl (zAZ rfl rfl rfl))))))),H0.addR H,by intro q hq;simp[hq]⟩
 clear H H0 hF1
 rintro _ w ⟨N',_,rfl,H,hsub⟩
 replace hb2:=hsub hb2
 replace hb5:=hsub hb5
 replace hss:=hss.mono hsub
 replace hst:=hst.mono hsub
 clear hsub
 obtain⟨N,rfl⟩:∃ N,N=N':=⟨N',rfl⟩
 have H0:=H
 have hF1:=H.all hF
 clear H
 obtain⟨w1,rfl⟩:∃ w1,w1=w:=⟨w,rfl⟩
 have H:=zB w1
 (try with_reducible apply zBW)
 refine CW.cutT (fun en1 w=>∃ N' en',en1=ovl [(2,.pointer (some ⟨b2,0,none⟩)),(5,.pointer (some ⟨b5,0,none⟩)),(8,.int .i64 2),(9,.int .i64 100),(10,.int .i64 1),(11,.bool true),(15,.bool false),(17,.int .i64 0),(19,.int .i64 0),(21,.int .i64 0),(23,.int .i64 41)] en'∧St w0 N' w∧N⊆N') ?_ ?_
 ·repeat' (first|refine yT ?_|(refine y10 sg H ?_;intro b w H)|(refine y11 sg H ?_;intro w H)|(refine z14 sg H ?_;intro b w H)|(refine CW.regionL mixed 10 (H.memF hF1) [] ?_ ?_;exact rfl;intro w hcl;replace H:=H.ext hcl;clear hcl;refine' l1 0 (H.memF hF1) ?_ ?_;rotate_left;(exact(fun w2 hM2=>zG sg rfl rfl hM2 (zz6 _ hb5) rfl rfl)))|((with_reducible apply RL.nil);decide +kernel)|(refine' l1 4 (H.memF hF1) ?_ ?_;rotate_left;(exact z4 sg))|(refine' l1 5 (H.memF hF1) ?_ ?_;rotate_left;(exact z4 sg))|(refine' l1 6 (H.memF hF1) ?_ ?_;rotate_left;(exact z4 sg))|(refine' l1 9 (H.memF hF1) ?_ ?_;rotate_left;(exact z4 sg))|refine l2 1 ?_|refine l2 2 ?_|refine l2 3 ?_|refine l2 7 ?_|refine l2 8 ?_|refine l4 1 7 ?_ ?_|refine l4 2 7 ?_ ?_|refine l4 3 7 ?_ ?_|(refine l5 (H.memF hF1) ?_)|(refine' y30 zBJ ?_ ?_;rotate_left;exact zAA _;intro w hcl;replace H:=H.ext hcl;clear hcl)|(refine' y32 zBr ?_ ?_;rotate_left;exact zLm gt hst 13 [2,1,100,1,1] h4 (by decide) (by decide) hP hK _ (H.all hF1) qC;intro v M w hR hS;replace H:=H.addR hS;clear hS;(try simp only[List.cons_append,List.nil_append] at H);obtain⟨px,rfl⟩:=StC.any hR)|refine yU ?_|fail)
  all_goals exact⟨_,_,za rfl (za rfl (za rfl (za rfl (za rfl (za rfl (za rfl (za rfl (zAZ rfl rfl rfl)))))))),H0.addR H,by intro q hq;simp[hq]⟩
 clear H H0 hF1
 rintro _ w ⟨N',_,rfl,H,hsub⟩
 replace hb2:=hsub hb2
 replace hb5:=hsub hb5
 replace hss:=hss.mono hsub
 replace hst:=hst.mono hsub
 clear hsub
 obtain⟨N,rfl⟩:∃ N,N=N':=⟨N',rfl⟩
 repeat' (first|refine yT ?_|refine yU ?_|fail)
 exact zQ rfl H.cl rfl
end
end Go.Proofs.YtibmaifoaajllaaGreatDoor
namespace Go.Sk
open Go Go.RowKit
def knU (l:List Oper)(s:Array Bool)(n:Nat)(W:List (Nat × Nat))(T1 U:List KF)(fd:List Nat)(m k:Nat):Bool :=
 Nat.beq s.size l.length&&(Nat.ble ((T1++U).length+k) m&&(topo l s (T1++U)&&(
 ((T1++U).all fun x=>!s.getD x.i true&&(rg W x.d&&(Nat.blt x.d n&&match l[x.i]? with|some o=>x.deps.all fun d=>(T1++U).any fun y=>Nat.beq y.d d&&o.after.toList.any fun e=>Region.binds .any e&&Nat.beq e.on y.i|none=>false)))&&(
 ((T1++U).all fun x=>(T1++U).all fun y=>Nat.beq x.i y.i==Nat.beq x.d y.d)&&(
 ((List.range l.length).all fun i=>s.getD i true||((T1++U).any fun x=>Nat.beq x.i i)||(gateB l i T1||(List.range l.length).any fun j=>!s.getD j true&&(!((T1++U).any fun x=>Nat.beq x.i j)&&isDep l i j))) &&
 (fd.all fun d=>T1.any fun x=>Nat.beq x.d d))))))
theorem knU_strip (l:List Oper)(s:Array Bool)(n:Nat)(W:List (Nat × Nat))(T U:List KF)(fd:List Nat)(m k:Nat):knU l s n W (T.map KF.strip) (U.map KF.strip) fd m k=knU l s n W T U fd m k:=by
 unfold knU
 rw[← List.map_append,topo_strip]
 simp only[gateB_strip,List.length_map,List.all_map,List.any_map,Function.comp_def,KF.strip]
attribute [local semireducible] CW OW OX QW QX Yq RA RH
section
variable {P:Program}{n:Nw}{Q:zAX}{w:World}{l:List Oper}{s:Array Bool}{m:Nat}{F0:zH}
theorem RH.knowThenU {L:List (Nat × Value)}{b0:Env}(W:List (Nat × Nat))(T1 U T10 U0:List KF)(fd:List Nat)(k:Nat)(hM:Mem w F0)(hS1:T1.map KF.strip=T10)(hS2:U.map KF.strip=U0)(hB:knU l s n.n W T10 U0 fd m k=true)
  (hst:KSu l (fun x o=>∀ g w',Cl w w'→Mem w' F0→Know (pkn (T1++U)) x.deps w' fun L'=>OW P n l.toArray (thn (fun e' w''=>∃ v,e'=ovl ((x.d,v)::L') (msk W g (ovl L b0))∧Cl w' w''∧pkn (T1++U) x.d v w'') (fun _ _ _=>False)) [o] (ovl L' (msk W g (ovl L b0))) w') (T1++U))
  (fin:∀ (q:Nat→Bool) g w' m',Cl w w'→Know (pkn (T1++U)) (fd++(U0.filter fun x=>q x.i).map (·.d)) w' fun L'=>RH P n l F0 (stepT (T10++U0.filter fun x=>q x.i) s) (m'+(k+(U0.filter fun x=>!q x.i).length)) Q (ovl L' (msk W g (ovl L b0))) w'):RH P n l F0 s m Q (ovl L b0) w:=by
 rw[← hS1,← hS2,knU_strip] at hB
 unfold knU at hB
 obtain⟨T,hT⟩:∃ T,T1++U=T:=⟨_,rfl⟩
 rw[hT] at hB hst fin
 have hTin:∀ x,x∈T1→x∈T:=fun x hx=>hT ▸ zz6 _ hx
 have hUin:∀ x,x∈U→x∈T:=fun x hx=>hT ▸ zz3 _ hx
 simp only[Bool.and_eq_true] at hB
 obtain⟨hsz,hm,htop,hall,hinj,hcov,hfd⟩:=hB
 have hsz:=Nat.eq_of_beq_eq_true hsz
 have hm:=Nat.le_of_ble_eq_true hm
 refine⟨hM,fun a ha=>?_⟩
 have fall:∀ x,x∈T→s.getD x.i true=false∧rg W x.d=true∧∀ o,l[x.i]?=some o→∀ d,d∈x.deps→∃ y,y∈T∧y.d=d∧∃ e,e∈o.after∧Region.binds .any e=true∧e.on=y.i:=fun x hx=>by
  have h:=List.all_eq_true.1 hall x hx
  simp only[Bool.and_eq_true,Bool.not_eq_true'] at h
  obtain⟨h1,h2,_,h3⟩:=h
  refine⟨h1,h2,fun o ho d hd=>?_⟩
  rw[ho] at h3
  obtain⟨y,hy,h4⟩:=List.any_eq_true.1 (List.all_eq_true.1 (show x.deps.all _=true from h3) d hd)
  rw[Bool.and_eq_true] at h4
  obtain⟨e,he,h5⟩:=List.any_eq_true.1 h4.2
  rw[Bool.and_eq_true] at h5
  exact⟨y,hy,Nat.eq_of_beq_eq_true h4.1,e,Array.mem_toList_iff.1 he,h5.1,Nat.eq_of_beq_eq_true h5.2⟩
 have finj:∀ x y,x∈T→y∈T→(x.i=y.i↔x.d=y.d):=fun x y hx hy=>by
  have h:=List.all_eq_true.1 (List.all_eq_true.1 hinj x hx) y hy
  rw[beq_iff_eq] at h
  constructor
  ·intro he;rw[he,Nat.beq_refl] at h;exact Nat.eq_of_beq_eq_true h.symm
  ·intro he;rw[he,Nat.beq_refl] at h;exact Nat.eq_of_beq_eq_true h
 have hin:∀ x,x∈T→x.i<l.length:=fun x hx=>by
  have h1:=(fall x hx).1
  rcases Nat.lt_or_ge x.i l.length with h|h
  ·exact h
  ·rw[Array.getD_eq_getD_getElem?,Array.getElem?_eq_none (by omega)] at h1;cases h1
 have tf:∀ (s':Array Bool) (j:Nat),s'.size=l.length→j<l.length→(s'.getD j true=true↔s'.getD j false=true):=fun s' j hs hj=>by
  rw[Array.getD_eq_getD_getElem?,Array.getD_eq_getD_getElem?,Array.getElem?_eq_getElem (by omega)]
  exact Iff.rfl
 have depL:∀ {i j:Nat} {o:Oper},l[i]?=some o→isDep l i j=true→∃ e,e∈o.after∧Region.binds .any e=true∧e.on=j:=fun{i j o} ho h=>by
  unfold isDep at h
  rw[ho] at h
  obtain⟨e,he,h5⟩:=List.any_eq_true.1 (show o.after.toList.any _=true from h)
  rw[Bool.and_eq_true] at h5
  exact⟨e,Array.mem_toList_iff.1 he,h5.1,Nat.eq_of_beq_eq_true h5.2⟩
 suffices key:∀ (c:Nat) (s':Array Bool) (e:Env) (w':World) (a:Act) (m:Nat),Fits n a e→s'.size=l.length→(∀ j,s'.getD j true=true→s.getD j true=true∨T.any (fun x=>Nat.beq x.i j)=true)→(∀ j,s.getD j true=true→s'.getD j true=true)→(∀ y,y∈T→s'.getD y.i true=true→∀ j,isDep l y.i j=true→s'.getD j false=true)→(T.filter fun x=>!s'.getD x.i true).length≤c→c+k≤m→Cl w w'→(∀ i,rg W i=false→e i=ovl L b0 i)→(∀ x,x∈T→s'.getD x.i true=true→pkn T x.d (e x.d) w')→wpAnyH P .any l.toArray (nrm n Q) (fun w=>Mem w F0) m s' a w' by
  refine key T.length s _ w a m ha hsz (fun j h=>.inl h) (fun j h=>h) (fun y hy h=>?_) (List.length_filter_le _ _) hm (Cl.refl w) (fun _ _=>rfl) (fun x hx h=>?_)
  ·rw[(fall y hy).1] at h;cases h
  ·rw[(fall x hx).1] at h;cases h
 clear ha hm
 have goal:∀ (s':Array Bool) (e:Env) (w':World) (a:Act) (m:Nat),Fits n a e→s'.size=l.length→(∀ j,s'.getD j true=true→s.getD j true=true∨T.any (fun x=>Nat.beq x.i j)=true)→(∀ j,s.getD j true=true→s'.getD j true=true)→(T.filter fun x=>!s'.getD x.i true).length+k≤m→Cl w w'→(∀ i,rg W i=false→e i=ovl L b0 i)→(∀ x,x∈T1→s'.getD x.i true=true)→(∀ x,x∈T→s'.getD x.i true=true→pkn T x.d (e x.d) w')→wpAnyH P .any l.toArray (nrm n Q) (fun w=>Mem w F0) m s' a w':=by
  intro s' e w' a m ha hs hle1 hle2 hkm hc hk hd hp
  have hfl:(U0.filter fun x=>!s'.getD x.i true).length=(T.filter fun x=>!s'.getD x.i true).length:=by
   rw[← hT,List.filter_append,List.length_append,← hS2,List.filter_map,List.length_map]
   have:(T1.filter fun x=>!s'.getD x.i true)=[]:=List.filter_eq_nil_iff.2 fun x hx=>by rw[hd x hx];decide
   rw[this,List.length_nil,Nat.zero_add]
   rfl
  obtain⟨m',rfl⟩:∃ m',m=m'+(k+(U0.filter fun x=>!s'.getD x.i true).length):=⟨m - (k+(U0.filter fun x=>!s'.getD x.i true).length),by rw[hfl];omega⟩
  obtain⟨L',h1,h2⟩:=Know.at (e:=e) (fin (fun i=>s'.getD i true) e w' m' hc) (fun d hdd=>by
   rcases List.mem_append.1 hdd with h|h
   ·obtain⟨x,hx,hxd⟩:=List.any_eq_true.1 (List.all_eq_true.1 hfd d h)
    have:=Nat.eq_of_beq_eq_true hxd
    rw[← this]
    exact hp x (hTin x hx) (hd x hx)
   ·obtain⟨x0,hx0,rfl⟩:=List.mem_map.1 h
    obtain⟨hx1,hx2⟩:=List.mem_filter.1 hx0
    rw[← hS2] at hx1
    obtain⟨x,hx,rfl⟩:=List.mem_map.1 hx1
    exact hp x (hUin x hx) hx2)
  rw[zHm hk,zHl h2] at h1
  have he:stepT (T10++U0.filter fun x=>s'.getD x.i true) s=s':=by
   refine arrB_ext (by rw[stepT_size];omega) fun j hj=>?_
   rw[stepT_getD _ _ _ (fun x hx=>by
    rcases List.mem_append.1 hx with h|h
    ·rw[← hS1] at h
     obtain⟨y,hy,rfl⟩:=List.mem_map.1 h
     rw[hsz];exact hin y (hTin y hy)
    ·have h:=(List.mem_filter.1 h).1
     rw[← hS2] at h
     obtain⟨y,hy,rfl⟩:=List.mem_map.1 h
     rw[hsz];exact hin y (hUin y hy))]
   rw[Bool.eq_iff_iff,Bool.or_eq_true]
   constructor
   ·rintro(h|h)
    ·obtain⟨x,hx,hxj⟩:=List.any_eq_true.1 h
     rw[← Nat.eq_of_beq_eq_true hxj]
     rcases List.mem_append.1 hx with h|h
     ·rw[← hS1] at h
      obtain⟨y,hy,rfl⟩:=List.mem_map.1 h
      exact hd y hy
     ·exact(List.mem_filter.1 h).2
    ·exact hle2 j h
   ·intro h
    rcases hle1 j h with h'|h'
    ·exact .inr h'
    ·obtain⟨x,hx,hxj⟩:=List.any_eq_true.1 h'
     have hxe:=Nat.eq_of_beq_eq_true hxj
     refine .inl (List.any_eq_true.2 ⟨x.strip,?_,hxj⟩)
     rw[← hT] at hx
     rcases List.mem_append.1 hx with h3|h3
     ·exact zz6 _ (hS1 ▸ List.mem_map.2 ⟨x,h3,rfl⟩)
     ·refine zz3 _ (List.mem_filter.2 ⟨hS2 ▸ List.mem_map.2 ⟨x,h3,rfl⟩,?_⟩)
      show s'.getD x.i true=true
      rw[hxe];exact h
  rw[he] at h1
  exact h1.2 a ha
 intro c
 induction c with
 | zero =>
   intro s' e w' a m ha hs hle1 hle2 hcl hms hkm hc hk hp
   have hdone:∀ x,x∈T→s'.getD x.i true=true:=fun x hx=>by
    have h0:(T.filter fun x=>!s'.getD x.i true)=[]:=List.length_eq_zero_iff.1 (by omega)
    have:=List.filter_eq_nil_iff.1 h0 x hx
    simpa using this
   exact goal s' e w' a m ha hs hle1 hle2 (by omega) hc hk (fun x hx=>hdone x (hTin x hx)) hp
 | succ c ih =>
   intro s' e w' a m ha hs hle1 hle2 hcl hms hkm hc hk hp
   by_cases hdone:∀ x,x∈T1→s'.getD x.i true=true
   ·exact goal s' e w' a m ha hs hle1 hle2 (by omega) hc hk hdone hp
   have hle2':∀ j,s.getD j false=true→s'.getD j false=true:=fun j hj=>by
    have hjl:j<l.length:=by
     rcases Nat.lt_or_ge j l.length with h|h
     ·exact h
     ·rw[Array.getD_eq_getD_getElem?,Array.getElem?_eq_none (by omega)] at hj;cases hj
    exact(tf s' j hs hjl).1 (hle2 j ((tf s j hsz hjl).2 hj))
   obtain⟨m,rfl⟩:∃ m',m=m'+1:=⟨m - 1,by omega⟩
   refine⟨fun hr=>absurd (fun x hx=>(tf s' x.i hs (hin x (hTin x hx))).2 (topo_all hr hs hsz htop hle2' x (hTin x hx))) hdone,fun i hi=>?_⟩
   obtain⟨h1,o,ho,haft⟩:=mem_ready.1 hi
   have hil:i<l.length:=by simpa using (Array.getElem?_eq_some_iff.1 ho).1
   have hol:l[i]?=some o:=by simpa using ho
   obtain⟨x,hx,hxi⟩:∃ x,x∈T∧x.i=i:=by
    have:=List.all_eq_true.1 hcov i (List.mem_range.2 hil)
    rw[Bool.or_eq_true,Bool.or_eq_true,Bool.or_eq_true] at this
    rcases this with (h2|h2)|h2|h2
    ·have:=hle2 i h2
     rw[h1] at this
     cases this
    ·obtain⟨x,hx,hxi⟩:=List.any_eq_true.1 h2
     exact⟨x,hx,Nat.eq_of_beq_eq_true hxi⟩
    ·exfalso
     refine hdone fun x hx=>?_
     refine(tf s' x.i hs (hin x (hTin x hx))).2 (gateB_all (D:=fun j=>s'.getD j false=true) (fun j hj=>?_) h2 (fun y hy hd j hj=>hcl y (hTin y hy) ((tf s' y.i hs (hin y (hTin y hy))).2 hd) j hj) x hx)
     obtain⟨ed,he,hb,hon⟩:=depL hol hj
     have:=haft ed he hb
     rwa [hon] at this
    ·exfalso
     obtain⟨j,hj,h3⟩:=List.any_eq_true.1 h2
     simp only[Bool.and_eq_true,Bool.not_eq_true'] at h3
     obtain⟨h4,h5,h6⟩:=h3
     obtain⟨ed,he,hb,hon⟩:=depL hol h6
     have h7:=haft ed he hb
     rw[hon] at h7
     rcases hle1 j ((tf s' j hs (List.mem_range.1 hj)).2 h7) with h8|h8
     ·rw[h4] at h8;cases h8
     ·rw[h5] at h8;cases h8
   subst hxi
   obtain⟨_,hrg,hdep⟩:=fall x hx
   obtain⟨L',h2,h3⟩:=Know.at (e:=e) (hst.get hx hol e w' hc (hM.ext hc)) (fun d hd=>by
    obtain⟨y,hy,hyd,ed,he,hb,hon⟩:=hdep o hol d hd
    have:=haft ed he hb
    rw[hon] at this
    rw[← hyd]
    exact hp y hy ((tf s' y.i hs (hin y hy)).2 this))
   rw[zHm hk,zHl h3] at h2
   refine zA9 hol (fun a' e' w'' hf hK=>?_) h2 a ha
   obtain⟨v,rfl,hc2,hv⟩:=hK
   have hbase:∀ j,j≠x.d→ovl ((x.d,v)::L') e j=e j:=fun j hj=>by
    rw[zBn,if_neg hj,zHl h3]
   have hup:∀ j,(s'.setIfInBounds x.i true).getD j true=(Nat.beq x.i j||s'.getD j true):=fun j=>setB_getD s' x.i j (by omega)
   have hupf:∀ j,s'.getD j false=true→(s'.setIfInBounds x.i true).getD j false=true:=fun j hj=>by
    by_cases hji:x.i=j
    ·subst hji
     rw[Array.getD_eq_getD_getElem?,Array.getElem?_setIfInBounds_self_of_lt (by omega)];rfl
    ·rw[Array.getD_eq_getD_getElem?,Array.getElem?_setIfInBounds_ne hji,← Array.getD_eq_getD_getElem?];exact hj
   refine⟨hM.ext (hc.trans hc2),ih _ _ _ _ _ hf (by simpa using hs) (fun j hj=>?_) (fun j hj=>?_) (fun y hy hd j hj=>?_) ?_ (by omega) (hc.trans hc2) (fun j hj=>?_) (fun y hy hd=>?_)⟩
   ·rw[hup,Bool.or_eq_true] at hj
    rcases hj with hj|hj
    ·exact .inr (List.any_eq_true.2 ⟨x,hx,hj⟩)
    ·exact hle1 j hj
   ·rw[hup,hle2 j hj,Bool.or_true]
   ·rw[hup,Bool.or_eq_true] at hd
    rcases hd with hd|hd
    ·rw[← Nat.eq_of_beq_eq_true hd] at hj
     obtain⟨ed,he,hb,hon⟩:=depL hol hj
     have:=haft ed he hb
     rw[hon] at this
     exact hupf j this
    ·exact hupf j (hcl y hy hd j hj)
   ·have:(T.filter fun y=>!(s'.setIfInBounds x.i true).getD y.i true).length<(T.filter fun y=>!s'.getD y.i true).length:=by
     refine filt_lt (fun y hy h=>?_) ⟨x,hx,by rw[h1];rfl,?_⟩
     ·rw[hup] at h
      cases hb:Nat.beq x.i y.i<;>rw[hb] at h
      ·exact h
      ·cases h
     ·rw[hup,Nat.beq_refl];rfl
    omega
   ·rw[hbase j (fun hjd=>by rw[hjd,hrg] at hj;cases hj)];exact hk j hj
   ·by_cases hji:y.i=x.i
    ·have hyd:=(finj y x hy hx).1 hji
     rw[hyd,zBn,if_pos rfl];exact hv
    ·have hyd:y.d≠x.d:=fun h=>hji ((finj y x hy hx).2 h)
     rw[hbase y.d hyd]
     rw[hup] at hd
     have hb:Nat.beq x.i y.i=false:=by
      cases hb:Nat.beq x.i y.i with
      | false=>rfl
      | true=>exact absurd (Nat.eq_of_beq_eq_true hb).symm hji
     rw[hb,Bool.false_or] at hd
     exact pkn_stable hc2 (hp y hy hd)
end
end Go.Sk
