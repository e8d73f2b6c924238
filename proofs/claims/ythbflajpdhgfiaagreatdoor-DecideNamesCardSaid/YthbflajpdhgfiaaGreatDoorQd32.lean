/- Texts of ours, joined: the steps of the proof, or the claim's theorem. -/
import Derived.Test.YthbflajpdhgfiaaGreatDoorQd31
set_option linter.all false
set_option maxHeartbeats 16000000
namespace Go.Proofs.YthbflajpdhgfiaaGreatDoor
section
open Go Go.Sk Go.RowKit
attribute [local irreducible] Go.Calls
section
variable {F:zC}{s:Sta}{p:SPt}{c:Cmd}{na:Option Addr}{nc:Nat}
def zIW:EPt:=⟨none,0,none,0⟩
def FirR (r:Evt × Int)(M:zC)(v:Value):Prop:=∃ q,v=.tuple #[.agg (r.1.cells q).toArray,.int .i64 r.2]∧EvtM M r.1 q
theorem zL5 (e:Int):FirR (evZ,e) [] (.tuple #[.agg (evZ.cells zIW).toArray,.int .i64 e]):=⟨zIW,rfl,⟨zzD _,zzD _,0,0,[],0,(0,0),fun h=>absurd h (Nat.lt_irrefl 0)⟩,⟨zzD _,zzD _,0,0,[],0,(0,0),fun h=>absurd h (Nat.lt_irrefl 0)⟩⟩
theorem zS6 {k:Int}(hk:1≤k∧k≤20){i:Nat}(hi:some i∈(zAr k).2):i<(zLZ k).1.length:=by
 have key:∀ j∈List.range 20,∀ o∈(zLa.getD j (0,[])).2,∀ i,o=some i→i<(comT.getD j ([32],false)).1.length:=by decide
 exact key (k - 1).toNat (List.mem_range.2 qO) _ hi i rfl
theorem zUk {c:Cmd}(h:zEx c=true):c.nums.length=(zLZ c.kind).1.length:=by
 unfold zEx zBG at h
 simp only[Bool.and_eq_true,beq_iff_eq] at h
 exact h.1.2.1.symm
theorem zQG {k:Int}:(zLZ k).1.length≤10∧(zAr k).2.length≤10:=by
 have key:∀ j∈List.range 20,(comT.getD j ([32],false)).1.length≤10∧(zLa.getD j (0,[])).2.length≤10:=by decide
 by_cases h:(k - 1).toNat<20
 ·exact key _ (List.mem_range.2 h)
 ·have h1:comT.length=20:=by decide
  have h2:zLa.length=20:=by decide
  unfold zLZ zAr
  rw[List.getD_eq_getElem?_getD,List.getD_eq_getElem?_getD,List.getElem?_eq_none qO,List.getElem?_eq_none qO]
  decide
theorem fr_at {k:Int}{j:Nat}(hj:j<(zAr k).2.length):((zAr k).2[j]?=some none∧(frL k).getD j 0=-1)∨∃ i:Nat,(zAr k).2[j]?=some (some i)∧(frL k).getD j 0=(i:Int):=by
 have e:(frL k).getD j 0=frI (zAr k).2[j]:=by
  unfold frL
  rw[List.getD_eq_getElem?_getD,List.getElem?_map,List.getElem?_eq_getElem hj];rfl
 rw[e,List.getElem?_eq_getElem hj]
 cases h:(zAr k).2[j] with
 | none=>exact .inl ⟨rfl,rfl⟩
 | some i=>exact .inr ⟨i,rfl,rfl⟩
def fnL (s:Sta)(c:Cmd):List Int:=(zAr c.kind).2.map fun o=>match o with|some i=>nF c.nums i|none=>(zDP s (zAr c.kind).1).1
theorem zOn {j:Nat}(hj:j<(zAr c.kind).2.length){v:Int}(hv:(∀ i:Nat,(zAr c.kind).2[j]?=some (some i)→v=nF c.nums i)∧((zAr c.kind).2[j]?=some none→v=(zDP s (zAr c.kind).1).1)):((fnL s c).take j).map (Value.int .i64)++[Value.int .i64 v]=((fnL s c).take (j+1)).map (Value.int .i64):=by
 have hl:j<(fnL s c).length:=by unfold fnL;rw[List.length_map];exact hj
 rw[List.take_succ_eq_append_getElem hl,List.map_append]
 congr 1
 have h0:(fnL s c)[j]?=some v:=by
  unfold fnL
  rw[List.getElem?_map]
  cases h:(zAr c.kind).2[j]? with
  | none=>rw[List.getElem?_eq_none_iff] at h;omega
  | some o =>
    cases o with
    | none=>rw[hv.2 h];rfl
    | some i=>rw[hv.1 i h];rfl
 rw[List.getElem?_eq_getElem hl] at h0
 have this:=Option.some.inj h0
 rw[this];rfl
theorem zIX {M F:zC}{a:Option Addr}{n cap:Nat}{T:TypeId}(l:List Int)(h:Go.Sk.Own M T 1 a n cap (l.map (Value.int .i64)))(hM:M⊆F)(hn:n=l.length)(hl:l.length≤1000):Ints F a cap l:=by
 subst hn
 have e:l.map (Value.int .i64)=(List.range l.length).flatMap fun j=>iel l j:=by
  have:∀ k,k≤l.length→(l.take k).map (Value.int .i64)=(List.range k).flatMap fun j=>iel l j:=by
   intro k
   induction k with
   | zero=>intro _;rfl
   | succ k ih =>
     intro hk
     rw[List.range_succ,List.flatMap_append,List.flatMap_singleton,← ih qO,List.take_succ_eq_append_getElem qO,List.map_append]
     simp[iel,List.getElem?_eq_getElem (show k<l.length by omega)]
  rw[← this _ (Nat.le_refl _),List.take_length]
 rw[e] at h
 exact h.sl hM (fun _ _=>rfl) qO
theorem zNQ (h0:zCY s=true)(h1:zEx c=true)(hno:¬(c.kind=12∧¬((zW s.orders (nF c.nums 1)).2=true∧(zW s.orders (nF c.nums 1)).1.acct=nF c.nums 0))):zc s c=if none∈(zAr c.kind).2∧(zDP s (zAr c.kind).1).1>(zDP s (zAr c.kind).1).2 then(evZ,40) else(⟨3,(zAr c.kind).1,fnL s c,if c.text.size=0 then[] else[c.text]⟩,0):=by
 unfold zc
 rw[h0,if_neg (by decide),h1,if_neg (by decide),if_neg (fun g=>hno ⟨g.1,fun e=>by rw[g.2] at e;exact absurd e.1 (by decide)⟩),if_neg (fun g=>hno ⟨g.1,fun e=>g.2 e.2⟩)]
 rfl
structure FI where
 j:Nat
 a:Option Addr
 cap:Nat
 M:zC
theorem zL6 (hW:StaW s)(hc:zDr c)(w0:World)(hF:Mem w0 F)(hK:ComM F)(hs:StaM F s p)(hN:Ints F na nc c.nums) :
  Calls Tryz.prog 26 [.agg (s.cells p).toArray,.agg (c.cells na nc).toArray].toArray w0 (zi (FirR (zc s c)) w0):=by
 have hmay:=fun w h1=>zDG s p hW w (F:=F) h1 hs
 have hmc:=fun w h1=>zKG c hc w (F:=F) h1 hK hN
 cases h0:zCY s with
 | false =>
   have d0:(!zCY s)=true:=by rw[h0];rfl
   have eP:zc s c=(evZ,4):=by unfold zc;rw[if_pos h0]
   rw[eP]
   refine enter [.cell 4 33,.tmp 5] Tryz.func26 rfl Tryz.ntmps26 rfl rfl ?_
   have H:=zA w0
   repeat' (first|refine yT ?_|refine y7 sg H ?_|(refine y9 H ?_;intro b w H)|(refine y10 sg H ?_;intro b w H)|(refine y11 sg H ?_;intro w H)|(refine' y30 zDd ?_ ?_;rotate_left;exact hmay _ (H.memF hF);refine w2 H ?_;clear H;intro w H)|refine yU ?_|with_reducible apply zB|(refine y23 ?_ ?_;all_goals(intro h;try (exfalso;first|((cases d0.symm.trans h);done))))|fail)
   exact zq (vs:=[_,_]) (M:=[]) ⟨zy sg rfl H.mem qB rfl rfl,zb rfl,trivial⟩ (H.sub (zz9 _)) (zL5 4)
 | true =>
 have d0:(!zCY s)=false:=by rw[h0];rfl
 cases h1:zEx c with
 | false =>
   have d1:(!zEx c)=true:=by rw[h1];rfl
   have eP:zc s c=(evZ,1):=by unfold zc;rw[h0,if_neg (by decide),if_pos h1]
   rw[eP]
   refine enter [.cell 4 33,.tmp 5] Tryz.func26 rfl Tryz.ntmps26 rfl rfl ?_
   have H:=zA w0
   repeat' (first|refine yT ?_|refine y7 sg H ?_|(refine y9 H ?_;intro b w H)|(refine y10 sg H ?_;intro b w H)|(refine y11 sg H ?_;intro w H)|(refine' y30 zDd ?_ ?_;rotate_left;exact hmay _ (H.memF hF);refine w2 H ?_;clear H;intro w H)|(refine' y30 ent50 ?_ ?_;rotate_left;exact hmc _ (H.memF hF);refine w2 H ?_;clear H;intro w H)|refine yU ?_|with_reducible apply zB|(refine y23 ?_ ?_;all_goals(intro h;try (exfalso;first|((cases d0.symm.trans h);done)|((cases d1.symm.trans h);done))))|fail)
   exact zq (vs:=[_,_]) (M:=[]) ⟨zy sg rfl H.mem qB rfl rfl,zb rfl,trivial⟩ (H.sub (zz9 _)) (zL5 1)
 | true =>
 have d1:(!zEx c)=false:=by rw[h1];rfl
 have hk:=zEy h1
 have hlen:=zUk h1
 obtain⟨hsc,hsb⟩:=zQG (k:=c.kind)
 obtain⟨hn2,hc2,b2,off2,cs2,T2,fr2,hs2⟩:=id hN
 obtain⟨o,is,hfo⟩:∃ o is,zW s.orders (nF c.nums 1)=(o,is):=⟨_,_,rfl⟩
 have eM:=fun g=>zNQ (s:=s) (c:=c) h0 h1 g
 rw[hfo] at eM
 have hfnd:=fun w (hG:Mem w F)=>zFj s.orders (nF c.nums 1) w hG hs.od
 rw[hfo] at hfnd
 refine enter [.cell 4 33,.tmp 5] Tryz.func26 rfl Tryz.ntmps26 rfl rfl ?_
 have H:=zA w0
 repeat' (first|refine yT ?_|refine y7 sg H ?_|(refine y9 H ?_;intro b w H)|(refine y10 sg H ?_;intro b w H)|(refine' y30 zDd ?_ ?_;rotate_left;exact hmay _ (H.memF hF);refine w2 H ?_;clear H;intro w H)|refine yU ?_|with_reducible apply zB|fail)
 refine CW.named (fun en1 w=>∃ bs bc br en',en1=ovl [(2,.pointer (some ⟨bs,0,none⟩)),(3,.pointer (some ⟨bc,0,none⟩)),(4,.pointer (some ⟨br,0,none⟩)),(5,.int .i64 0),(14,.bool (!zCY s))] en'∧St w0 [cb br (evZ.cells zIW) 33,cb bc (c.cells na nc) 28,cb bs (s.cells p) 48] w) ⟨_,_,_,_,zAE rfl (zAE rfl (zA0 rfl rfl rfl)),H⟩ ?_
 clear H
 rintro _ w ⟨bs,bc,br,en',rfl,H⟩
 refine CW.condF (congrArg Value.bool d0) ?_
 repeat' (first|refine yT ?_|refine y7 sg H ?_|(refine' y30 ent50 ?_ ?_;rotate_left;exact hmc _ (H.memF hF);refine w2 H ?_;clear H;intro w H)|refine yU ?_|fail)
 refine CW.condF (congrArg Value.bool d1) ?_
 repeat' (first|refine yT ?_|refine y7 sg H ?_|refine yU ?_|fail)
 have hs2F:=hs2.mono (show F⊆cb bs (s.cells p) 48::cb bc (c.cells na nc) 28::F from fun x hx=>zz4 _ (zz4 _ hx))
 by_cases hno:c.kind=12∧¬(is=true∧o.acct=nF c.nums 0)
 ·obtain⟨k12,hbad⟩:=hno
  have dk:(c.kind==12)=true:=by rw[k12];rfl
  have hl2:c.nums.length=2:=by rw[hlen,k12];rfl
  refine CW.condT (congrArg Value.bool dk) ?_
  (try with_reducible apply zDu)
  refine CW.cutT (fun en1 w=>∃ b6 en',en1=ovl [(2,.pointer (some ⟨bs,0,none⟩)),(3,.pointer (some ⟨bc,0,none⟩)),(4,.pointer (some ⟨br,0,none⟩)),(6,.pointer (some ⟨b6,0,none⟩)),(7,.bool is)] en'∧St w0 [cb b6 o.cells 55,cb br (evZ.cells zIW) 33,cb bc (c.cells na nc) 28,cb bs (s.cells p) 48] w) ?_ ?_
  ·repeat' (first|refine yT ?_|(refine y10 sg H ?_;intro b w H)|(refine y11 sg H ?_;intro w H)|(refine CW.regionL mixed 13 (z6 (x:=cb bs (s.cells p) 48) (y:=cb bc (c.cells na nc) 28) H hF) [] ?_ ?_;exact rfl;refine w2 H ?_;clear H;intro w H;have qh:=z6 (x:=cb bs (s.cells p) 48) (y:=cb bc (c.cells na nc) 28) H hF;refine lT sg 0 qh ?_;refine' l1 1 qh ?_ ?_;rotate_left;(exact z3 sg);refine lT sg 2 qh ?_;refine' l1 3 qh ?_ ?_;rotate_left;(exact z3 sg);refine' l1 4 qh ?_ ?_;rotate_left;(exact(zQ sg hs2));refine' l1 5 qh ?_ ?_;rotate_left;(exact(zK sg hs2F (show 1<c.nums.length by omega))))|((with_reducible apply RL.nil);decide +kernel)|(refine lT sg 7 (z6 H hF) ?_)|(refine lT sg 8 (z6 H hF) ?_)|(refine lT sg 9 (z6 H hF) ?_)|(refine lT sg 12 (z6 H hF) ?_)|refine l2 6 ?_|refine l2 10 ?_|refine l2 11 ?_|refine l4 6 10 ?_ ?_|(refine l5 (z6 H hF) ?_)|(refine' y30 zFv ?_ ?_;rotate_left;exact hfnd _ (H.memF hF);refine w2 H ?_;clear H;intro w H)|refine yU ?_|fail)
   all_goals exact⟨b,_,zAE rfl (zAE rfl (zA0 rfl rfl rfl)),H⟩
  clear H
  rintro _ w ⟨b6,en',rfl,H⟩
  cases is with
  | false =>
    have eP:zc s c=(evZ,5):=by
     unfold zc
     rw[h0,if_neg (by decide),h1,if_neg (by decide),if_pos ⟨k12,by rw[hfo]⟩]
    rw[eP]
    repeat' (first|refine yT ?_|(refine y11 sg H ?_;intro w H)|refine yU ?_|with_reducible apply zB|fail)
    exact zq (vs:=[_,_]) (M:=[]) ⟨zy sg rfl H.mem qB rfl rfl,zb rfl,trivial⟩ (H.sub (zz9 _)) (zL5 5)
  | true =>
    have hne:o.acct≠nF c.nums 0:=fun e=>hbad ⟨rfl,e⟩
    have dn:(o.acct != nF c.nums 0)=true:=by simpa using hne
    have eP:zc s c=(evZ,49):=by
     unfold zc
     rw[h0,if_neg (by decide),h1,if_neg (by decide),if_neg (by rw[hfo];rintro⟨_,g⟩;cases g),if_pos ⟨k12,by rw[hfo];exact hne⟩]
    rw[eP]
    repeat' (first|refine yT ?_|refine y8 sg H ?_|(refine y11 sg H ?_;intro w H)|refine x41 sg hs2 ?_|((with_reducible apply zT);exact rfl;exact rfl;exact Yq.loadB1 sg hs2 (H.memF hF) rfl rfl rfl rfl (show 0<c.nums.length by omega) rfl)|refine yU ?_|(with_reducible apply zO;refine w2 H ?_;clear H;intro w H)|refine y20 mixed ?_|with_reducible apply zB|(refine y23 ?_ ?_;all_goals(intro h;try (exfalso;first|((exact absurd h (by decide));done)|((cases dn.symm.trans h);done))))|fail)
    exact zq (vs:=[_,_]) (M:=[]) ⟨zy sg rfl H.mem qB rfl rfl,zb rfl,trivial⟩ (H.sub (zz9 _)) (zL5 49)
 replace eM:=eM hno
 (try with_reducible apply zDu)
 refine CW.cutT (fun en1 w=>∃ en',en1=ovl [(2,.pointer (some ⟨bs,0,none⟩)),(3,.pointer (some ⟨bc,0,none⟩)),(4,.pointer (some ⟨br,0,none⟩))] en'∧St w0 [cb br (evZ.cells zIW) 33,cb bc (c.cells na nc) 28,cb bs (s.cells p) 48] w) ?_ ?_
 ·by_cases k12:c.kind=12
  ·have dk:(c.kind==12)=true:=by rw[k12];rfl
   have hl2:c.nums.length=2:=by rw[hlen,k12];rfl
   obtain⟨rfl,hac⟩:is=true∧o.acct=nF c.nums 0:=Decidable.of_not_not fun g=>hno ⟨k12,g⟩
   have dn:(o.acct != nF c.nums 0)=false:=by simpa using hac
   refine CW.condT (congrArg Value.bool dk) ?_
   (try with_reducible apply zDu)
   refine CW.cutT (fun en1 w=>∃ b6 en',en1=ovl [(2,.pointer (some ⟨bs,0,none⟩)),(3,.pointer (some ⟨bc,0,none⟩)),(4,.pointer (some ⟨br,0,none⟩)),(6,.pointer (some ⟨b6,0,none⟩)),(7,.bool true)] en'∧St w0 [cb b6 o.cells 55,cb br (evZ.cells zIW) 33,cb bc (c.cells na nc) 28,cb bs (s.cells p) 48] w) ?_ ?_
   ·repeat' (first|refine yT ?_|(refine y10 sg H ?_;intro b w H)|(refine y11 sg H ?_;intro w H)|(refine CW.regionL mixed 13 (z6 (x:=cb bs (s.cells p) 48) (y:=cb bc (c.cells na nc) 28) H hF) [] ?_ ?_;exact rfl;refine w2 H ?_;clear H;intro w H;have qh:=z6 (x:=cb bs (s.cells p) 48) (y:=cb bc (c.cells na nc) 28) H hF;refine lT sg 0 qh ?_;refine' l1 1 qh ?_ ?_;rotate_left;(exact z3 sg);refine lT sg 2 qh ?_;refine' l1 3 qh ?_ ?_;rotate_left;(exact z3 sg);refine' l1 4 qh ?_ ?_;rotate_left;(exact(zQ sg hs2));refine' l1 5 qh ?_ ?_;rotate_left;(exact(zK sg hs2F (show 1<c.nums.length by omega))))|((with_reducible apply RL.nil);decide +kernel)|(refine lT sg 7 (z6 H hF) ?_)|(refine lT sg 8 (z6 H hF) ?_)|(refine lT sg 9 (z6 H hF) ?_)|(refine lT sg 12 (z6 H hF) ?_)|refine l2 6 ?_|refine l2 10 ?_|refine l2 11 ?_|refine l4 6 10 ?_ ?_|(refine l5 (z6 H hF) ?_)|(refine' y30 zFv ?_ ?_;rotate_left;exact hfnd _ (H.memF hF);refine w2 H ?_;clear H;intro w H)|refine yU ?_|fail)
    all_goals exact⟨b,_,zAE rfl (zAE rfl (zA0 rfl rfl rfl)),H⟩
   clear H
   rintro _ w ⟨b6,en',rfl,H⟩
   repeat' (first|refine yT ?_|refine y8 sg H ?_|refine x41 sg hs2 ?_|((with_reducible apply zT);exact rfl;exact rfl;exact Yq.loadB1 sg hs2 (H.memF hF) rfl rfl rfl rfl (show 0<c.nums.length by omega) rfl)|refine yU ?_|(with_reducible apply zO;refine w2 H ?_;clear H;intro w H)|refine y20 mixed ?_|with_reducible apply zB|(refine y23 ?_ ?_;all_goals(intro h;try (exfalso;first|((exact absurd h (by decide));done)|((cases dn.symm.trans h);done))))|fail)
   exact⟨_,zA0 rfl rfl rfl,H.sub (zz7 _ _)⟩
  ·have dk:(c.kind==12)=false:=by simpa using k12
   refine CW.condF (congrArg Value.bool dk) ?_
   repeat' (first|refine yU ?_|fail)
   exact⟨_,zA0 rfl rfl rfl,H⟩
 clear H
 rintro _ w ⟨en',rfl,H⟩
 (try with_reducible apply zDu)
 refine CW.cutT (fun en1 w=>∃ b8 a en' N,en1=ovl [(2,.pointer (some ⟨bs,0,none⟩)),(3,.pointer (some ⟨bc,0,none⟩)),(4,.pointer (some ⟨br,0,none⟩)),(8,.pointer (some ⟨b8,0,none⟩))] en'∧St w0 (cb br (evZ.cells zIW) 33::cb b8 [.int .u8 (zAr c.kind).1,.slice (some ⟨a,0,none⟩) (frL c.kind).length (frL c.kind).length] 109::cb bc (c.cells na nc) 28::cb bs (s.cells p) 48::N) w∧cb a ((frL c.kind).map (Value.int .i64)) 3∈N) ?_ ?_
 ·have hz:∀ w:World,(zeroValue 109).run Tryz.prog w=.ok (Value.agg #[.int .u8 0,.slice none 0 0]) w:=fun w=>Tryz.zeroValue109 w
  repeat' (first|refine yT ?_|(refine y10 sg H ?_;intro b w H)|(refine y11 sg H ?_;intro w H)|(refine CW.regionL mixed 6 (z6 (x:=cb bs (s.cells p) 48) (y:=cb bc (c.cells na nc) 28) H hF) [] ?_ ?_;exact rfl;refine w2 H ?_;clear H;intro w H;refine lT sg 1 (z6 H hF) ?_;refine' l1 2 (z6 H hF) ?_ ?_;rotate_left;(exact z3 sg))|((with_reducible apply RL.nil);decide +kernel)|refine l2 0 ?_|refine l2 3 ?_|refine l2 4 ?_|refine l2 5 ?_|refine l4 0 4 ?_ ?_|refine l4 3 4 ?_ ?_|(refine l5 (z6 H hF) ?_)|(refine' y32 ent51 ?_ ?_;rotate_left;exact zUj _;intro v M w hR hS;replace H:=H.addR hS;clear hS;(try simp only[List.cons_append,List.nil_append] at H);obtain⟨bm,es,clock,rfl,hbm,hat⟩:=hR;obtain⟨a,hat,hfr⟩:=hat c.kind hk.1 hk.2)|(refine zd rfl rfl (lookS sg KU (fun x:Value=>x) es c.kind _ _ hat hz H.mem (by repeat (first|exact hbm|apply zz4)) rfl rfl rfl rfl rfl) ?_)|refine yU ?_|fail)
  all_goals exact⟨b,a,_,M,zAE rfl (zA0 rfl rfl rfl),H.perm (List.Perm.swap _ _ _),hfr⟩
 clear H
 rintro _ w ⟨b8,a,en',N,rfl,H,hfr⟩
 have hfl:(frL c.kind).length=(zAr c.kind).2.length:=by unfold frL;rw[List.length_map]
 obtain⟨hn5,hc5,b5,off5,cs5,T5,fr5,hs5⟩:=zAl (frL c.kind) qO hfr
 obtain⟨kd,hkd⟩:∃ kd,(zAr c.kind).1=kd:=⟨_,rfl⟩
 rw[hkd] at H
 obtain⟨nx,mo,hnx⟩:∃ nx mo,zDP s kd=(nx,mo):=⟨_,_,rfl⟩
 have hnum:=fun w (hG:Mem w F)=>zS5 s p hW kd w hG hs
 rw[hnx] at hnum
 repeat' (first|refine yT ?_|refine y7 sg H ?_|(refine y10 sg H ?_;intro b w H)|(refine y11 sg H ?_;intro w H)|refine yU ?_|with_reducible apply zB|fail)
 refine CW.named (fun en1 w=>∃ b9 en',en1=ovl [(2,.pointer (some ⟨bs,0,none⟩)),(3,.pointer (some ⟨bc,0,none⟩)),(4,.pointer (some ⟨br,0,none⟩)),(8,.pointer (some ⟨b8,0,none⟩)),(9,.pointer (some ⟨b9,0,none⟩)),(58,.slice (some ⟨a,0,none⟩) (frL c.kind).length (frL c.kind).length),(59,.int .i64 ((frL c.kind).length:Int)),(60,.int .i64 0)] en'∧St w0 (cb b9 [.int .u8 3,.int .u8 kd,.slice none 0 0,.slice none 0 0] 33::cb br (evZ.cells zIW) 33::cb b8 [.int .u8 kd,.slice (some ⟨a,0,none⟩) (frL c.kind).length (frL c.kind).length] 109::cb bc (c.cells na nc) 28::cb bs (s.cells p) 48::N) w) ⟨_,_,zAE rfl (zAE rfl (zAE rfl (zAE rfl (zAE rfl (zA0 rfl rfl rfl))))),H⟩ ?_
 clear H
 rintro _ w ⟨b9,en',rfl,H⟩
 refine zI [(5,5),(11,13),(60,93)] (fun x:FI=>[(60,.int .i64 (x.j:Int))]) (fun x w=>x.j≤(frL c.kind).length∧(∀ i,i<x.j→(zAr c.kind).2[i]?=some none→nx≤mo)∧Go.Sk.Own x.M 2 1 x.a x.j x.cap (((fnL s c).take x.j).map (Value.int .i64))∧St w0 (cb b9 [.int .u8 3,.int .u8 kd,.slice x.a x.j x.cap,.slice none 0 0] 33::cb br (evZ.cells zIW) 33::cb b8 [.int .u8 kd,.slice (some ⟨a,0,none⟩) (frL c.kind).length (frL c.kind).length] 109::cb bc (c.cells na nc) 28::cb bs (s.cells p) 48::(x.M++N)) w) (fun x=>(frL c.kind).length - x.j) ⟨0,none,0,[]⟩ ⟨rfl,trivial⟩ ⟨zzD _,fun i hi=>absurd hi (zzE _),zTP _ _ _,H⟩ ?_
 clear H
 rintro⟨j,aj,cj,M⟩ gh w ⟨hj,hnn,hO,H⟩
 simp only at hj hnn hO H ⊢
 repeat' (first|refine yT ?_|refine yU ?_|fail)
 refine zD rfl (fun h=>?_) (fun h=>?_)
 ·have hlt:j<(frL c.kind).length:=by have:=zzA h;omega
  clear h
  have hj2:j<(zAr c.kind).2.length:=by omega
  repeat' (first|refine yT ?_|refine x40 sg hs5 ?_|refine z13 (Yq.loadB1 sg hs5 (H.mem.sub qS) rfl rfl rfl rfl hlt rfl) ?_|refine yU ?_|with_reducible apply zB|fail)
  rcases fr_at hj2 with ⟨hnone,hv⟩|⟨i,hsome,hv⟩
  ·have dv:((frL c.kind).getD j 0 != -1)=false:=by rw[hv];rfl
   refine CW.condF (congrArg Value.bool dv) ?_
   repeat' (first|refine yT ?_|refine y7 sg H ?_|(refine' y30 ent52 ?_ ?_;rotate_left;exact hnum _ (H.memF hF);refine w2 H ?_;clear H;intro w H)|refine yU ?_|fail)
   refine zD rfl (fun h=>?_) (fun h=>?_)
   ·have hgt:=zzA h
    have hmem:none∈(zAr c.kind).2:=List.mem_of_getElem? hnone
    have eP:zc s c=(evZ,40):=by rw[eM,if_pos ⟨hmem,by rw[hkd,hnx];exact hgt⟩]
    rw[eP]
    repeat' (first|refine yT ?_|(refine y11 sg H ?_;intro w H)|refine yU ?_|fail)
    exact zq (vs:=[_,_]) (M:=[]) ⟨zy sg rfl H.mem qB rfl rfl,zb rfl,trivial⟩ (H.sub (zz9 _)) (zL5 40)
   ·have hle:=zzB h
    clear h
    have hsn:=zOn (s:=s) (c:=c) hj2 (v:=nx) ⟨(fun i hi=>by rw[hnone] at hi;cases hi),(fun _=>by rw[hkd,hnx])⟩
    repeat' (first|refine yT ?_|refine y7 sg H ?_|(refine y11 sg H ?_;intro w H)|(refine z14 sg H ?_;intro b w H)|(have hp:=H.perm (List.perm_append_comm_assoc [_,_,_,_,_,_] M N);refine zj sg 1 8 (M:=M) hp rfl rfl rfl rfl rfl rfl rfl rfl rfl rfl rfl hO (zAL hp.mem (zz3 _ (zz2 _))) rfl (zAU rfl) (by unfold maxLen;omega) qO ?_;clear hp hO H;intro a1 c1 M1 w O1 H;replace H:=(H.sub (List.Sublist.append_left (zz7 _ _) _)).perm (List.perm_append_comm_assoc M1 [_,_,_,_,_] N))|refine yU ?_|fail)
    rw[hsn] at O1
    exact zF ⟨j+1,a1,c1,M1⟩ rfl ⟨zf qO,trivial⟩ ⟨hlt,(fun _ _ _=>by omega),O1,H⟩ (by show(frL c.kind).length - (j+1)<(frL c.kind).length - j;omega)
  ·have dv:((frL c.kind).getD j 0 != -1)=true:=by rw[hv];simp
   have hi:i<c.nums.length:=by rw[hlen];exact zS6 hk (List.mem_of_getElem? hsome)
   have hsn:=zOn (s:=s) (c:=c) hj2 (v:=nF c.nums i) ⟨(fun i' hi'=>by rw[hsome] at hi';cases hi';rfl),(fun g=>by rw[hsome] at g;cases g)⟩
   have hs2G:=hs2.mono (show F⊆cb b9 [.int .u8 3,.int .u8 kd,.slice aj j cj,.slice none 0 0] 33::cb bc (c.cells na nc) 28::F from fun x hx=>zz4 _ (zz4 _ hx))
   refine CW.condT (congrArg Value.bool dv) ?_
   rw[hv]
   repeat' (first|refine yT ?_|(refine y11 sg H ?_;intro w H)|(refine CW.regionL mixed 11 (z6 (x:=cb b9 [.int .u8 3,.int .u8 kd,.slice aj j cj,.slice none 0 0] 33) (y:=cb bc (c.cells na nc) 28) H hF) [9,10] ?_ ?_;exact rfl;refine w2 H ?_;clear H;intro w H;have qh:=z6 (x:=cb b9 [.int .u8 3,.int .u8 kd,.slice aj j cj,.slice none 0 0] 33) (y:=cb bc (c.cells na nc) 28) H hF;refine lT sg 0 qh ?_;refine' l1 1 qh ?_ ?_;rotate_left;(exact z3 sg);refine lT sg 2 qh ?_;refine' l1 3 qh ?_ ?_;rotate_left;(exact z3 sg);refine lT sg 4 qh ?_;refine' l1 5 qh ?_ ?_;rotate_left;(exact(fun w2 _=>zG sg hs2 rfl rfl rfl rfl rfl rfl rfl (zz1 _) qO qO));refine' l1 6 qh ?_ ?_;rotate_left;(exact(zK sg hs2G hi)))|((with_reducible apply RL.nil);decide +kernel)|(refine' l6 9 ?_ ?_;rotate_left;(exact z9 sg))|refine l3 10 ?_|refine l2 7 ?_|refine l2 8 ?_|(refine l5 (z6 H hF) ?_)|(refine z14 sg H ?_;intro b w H)|(have hp:=H.perm (List.perm_append_comm_assoc [_,_,_,_,_,_] M N);refine zj sg 1 8 (M:=M) hp rfl rfl rfl rfl rfl rfl rfl rfl rfl rfl rfl hO (zAL hp.mem (zz3 _ (zz2 _))) rfl (zAU rfl) (by unfold maxLen;omega) qO ?_;clear hp hO H;intro a1 c1 M1 w O1 H;replace H:=(H.sub (List.Sublist.append_left (zz7 _ _) _)).perm (List.perm_append_comm_assoc M1 [_,_,_,_,_] N))|refine yU ?_|fail)
   rw[hsn] at O1
   exact zF ⟨j+1,a1,c1,M1⟩ rfl ⟨zf qO,trivial⟩ ⟨hlt,(fun i' (hi':i'<j+1) g=>by
    rcases(show i'<j∨i'=j by omega) with g1|rfl
    ·exact hnn i' g1 g
    ·rw[hsome] at g;cases g),O1,H⟩ (by show(frL c.kind).length - (j+1)<(frL c.kind).length - j;omega)
 ·obtain rfl:j=(frL c.kind).length:=by have:=zzB h;omega
  clear h
  have hneg:¬(none∈(zAr c.kind).2∧(zDP s (zAr c.kind).1).1>(zDP s (zAr c.kind).1).2):=fun g=>by
   obtain⟨i,hi⟩:=List.getElem?_of_mem g.1
   have hil:i<(zAr c.kind).2.length:=(List.getElem?_eq_some_iff.1 hi).1
   have:=hnn i qO hi
   rw[hkd,hnx] at g
   exact absurd g.2 (by simp only;omega)
  have eP:zc s c=(⟨3,kd,fnL s c,if c.text.size=0 then[] else[c.text]⟩,0):=by rw[eM,if_neg hneg,hkd]
  have hfn:(fnL s c).length=(frL c.kind).length:=by rw[hfl];unfold fnL;rw[List.length_map]
  rw[← hfn,List.take_length] at hO
  rw[eP]
  repeat' (first|refine yT ?_|refine y7 sg H ?_|refine yU ?_|fail)
  refine zD rfl (fun h=>?_) (fun h=>?_)
  ·have ht:¬ c.text.size=0:=by rw[zKF] at h;simpa using h
   rw[if_neg ht]
   repeat' (first|refine yT ?_|refine y7 sg H ?_|(refine y11 sg H ?_;intro w H)|(refine z14 sg H ?_;intro b w H)|refine yU ?_|fail)
   exact zq (vs:=[_,_]) (M:=cb b [.string c.text] 9::M) ⟨zy sg rfl H.mem qB rfl rfl,zb rfl,trivial⟩ (H.sub (List.Sublist.cons_cons _ (List.Sublist.cons _ (List.Sublist.cons _ (List.Sublist.cons _ (List.Sublist.cons _ (List.Sublist.cons _ (List.sublist_append_left M N)))))))) ⟨⟨aj,cj,some ⟨b,0,none⟩,1⟩,by rw[← hfn];rfl,zIX (fnL s c) hO (List.subset_cons_self _ _) rfl qO,zUG c.text (zz2 _)⟩
  ·have ht:c.text.size=0:=by rw[zKF] at h;simpa using h
   rw[if_pos ht]
   repeat' (first|refine yT ?_|refine y7 sg H ?_|(refine y11 sg H ?_;intro w H)|refine yU ?_|fail)
   exact zq (vs:=[_,_]) (M:=M) ⟨zy sg rfl H.mem qB rfl rfl,zb rfl,trivial⟩ (H.sub (List.Sublist.cons _ (List.Sublist.cons _ (List.Sublist.cons _ (List.Sublist.cons _ (List.Sublist.cons _ (List.sublist_append_left M N))))))) ⟨⟨aj,cj,none,0⟩,by rw[← hfn];rfl,zIX (fnL s c) hO (fun _ h=>h) rfl qO,⟨zzD _,zzD _,0,0,[],0,(0,0),fun h=>absurd h (Nat.lt_irrefl 0)⟩⟩
end
end
section
open Go Go.Sk Go.RowKit
structure AwF (s t:Sta):Prop where
 all:zDi zBJ awL=(s,7,0)
 held:(lgR s.rows 2 0).held=600
 trd:zN s (evF 13 [2,1,100,3,0])=(t,0)
 no1:(zN s (evF 13 [2,1,200,3,0])).2=46
 no2:(zN t (evF 2 [1])).2=47
 no3:(zN t (evF 23 [1,50])).2=46
 no4:(zN t (evF 20 [0])).2=4
 r1:lgR t.rows 1 0=⟨1,0,300,0⟩
 r2:lgR t.rows 1 1=⟨1,1,0,2⟩
 r3:lgR t.rows 2 0=⟨2,0,700,0⟩
 r4:lgR t.rows 2 1=⟨2,1,3,0⟩
 ol:t.orders.length=1
 oi:(od_ t.orders 0).id=1
 fee:t.fee=0
theorem AwF.good {s t:Sta}(h:AwF s t):Good s∧Good t:=zCm h.trd
end
end Go.Proofs.YthbflajpdhgfiaaGreatDoor
namespace Go.Sk
open Go Go.RowKit
def Byt (l:List Nat):Prop:=∀ b∈l,b<256
theorem Byt.take {l:List Nat}(h:Byt l)(n:Nat):Byt (l.take n):=fun x hx=>h x (List.mem_of_mem_take hx)
theorem Byt.drop {l:List Nat}(h:Byt l)(n:Nat):Byt (l.drop n):=fun x hx=>h x (List.mem_of_mem_drop hx)
end Go.Sk
namespace Go.Proofs.YthbflajpdhgfiaaGreatDoor
open Go Go.Sk Go.RowKit
attribute [local irreducible] Go.Calls
def EvL (F:zC):List Evt→List EPt→Prop
 | [],[]=>True
 | e::l,q::qs=>EvtM F e q∧EvL F l qs
 | _,_=>False
def ept_ (qs:List EPt)(j:Nat):EPt:=qs.getD j ⟨none,0,none,0⟩
theorem zNR {F:zC}:∀ {l:List Evt} {qs:List EPt},EvL F l qs→∀ j,j<l.length→EvtM F (ev_ l j) (ept_ qs j)
 | [],[],_,j,hj=>absurd hj (zzE j)
 | e::l,q::qs,h,0,_=>h.1
 | e::l,q::qs,h,j+1,hj=>by
   have:=zNR h.2 j (by simpa using hj)
   exact this
 | [],_::_,h,_,_=>h.elim
 | _::_,[],h,_,_=>h.elim
theorem zIY {F:zC}:∀ {l:List Evt} {qs:List EPt},EvL F l qs→(l.zip qs).flatMap (fun x=>x.1.cells x.2)=(List.range l.length).flatMap fun j=>(ev_ l j).cells (ept_ qs j)
 | [],[],_=>rfl
 | e::l,q::qs,h=>by
   rw[List.zip_cons_cons,List.flatMap_cons,zIY h.2,List.length_cons,List.range_succ_eq_map,List.flatMap_cons,List.flatMap_map]
   rfl
 | [],_::_,h=>h.elim
 | _::_,[],h=>h.elim
theorem EvsM.of {F M:zC}{a:Option Addr}{n cap:Nat}{T:TypeId}{xs:List Value}(l:List Evt)(qs:List EPt)(h:Go.Sk.Own M T 4 a n cap xs)(hM:M⊆F)(hE:EvL F l qs)(hn:n=l.length:=by rfl)(hx:xs=(l.zip qs).flatMap (fun x=>x.1.cells x.2):=by rfl)(hl:l.length≤1000:=by decide):EvsM F a cap l (ept_ qs):=by
 subst hn
 rw[hx,zIY hE] at h
 exact⟨h.sl hM (fun _ _=>rfl) qO,zNR hE⟩
theorem zS7 (k:Int)(n:List Int)(hk:0≤k∧k≤255):zGZ (evF k n):=⟨⟨(show(0:Int)≤3 by decide),(show(3:Int)≤255 by decide)⟩,hk,fun t ht=>nomatch ht⟩
theorem zFo {s:Sta}(h:Good s):StaW s:=by
 have h1:=zLW h
 have h2:=zLX h
 have hn:∀ {l:List ByteArray},zBZ l=true→∀ x∈l,x.size≤140737488355328:=fun g x hx=>by
  have h:=(zGg _).1 g |>.1 x hx
  unfold zAI at h
  simp only[Bool.and_eq_true,decide_eq_true_eq] at h
  have:=h.1.2
  omega
 refine⟨by omega,fun k hk=>?_,by omega,fun k hk=>?_,zOc h⟩
 ·exact hn (zB1.1 h.accts).2 _ (List.mem_map.2 ⟨_,zz _ hk,rfl⟩)
 ·exact hn (zB2.1 h.insts).2.2 _ (List.mem_map.2 ⟨_,zz _ hk,rfl⟩)
theorem good_e:Good zBJ:=zBB.1 (by decide +kernel)
theorem lt_z:LtS zCz:=⟨zzD _,zzD _,zzD _,zzD _,zzD _,fun k hk=>absurd hk (zzE _)⟩
theorem AllR.sta {s:Sta}{k e:Int}{M:zC}{v:Value}(h:AllR (s,k,e) M v)(hL:LtS s):∃ p,v=.tuple #[.agg (s.cells p).toArray,.int .i64 k,.int .i64 e]∧StaM M s p:=by
 obtain⟨p,Ma,Mi,Mu,R,rfl,rfl,hC⟩:=h
 exact⟨p,rfl,hC.sta hL⟩
theorem StC.sta {s:Sta}{e:Int}{M:zC}{v:Value}(h:StC (s,e) M v)(hL:LtS s):∃ p,v=.tuple #[.agg (s.cells p).toArray,.int .i64 e]∧StaM M s p:=by
 obtain⟨p,Ma,Mi,Mu,R,rfl,rfl,hC⟩:=h
 exact⟨p,rfl,hC.sta hL⟩
theorem StC.any {s:Sta}{e:Int}{M:zC}{v:Value}(h:StC (s,e) M v):∃ p,v=.tuple #[.agg (s.cells p).toArray,.int .i64 e]:=by
 obtain⟨p,Ma,Mi,Mu,R,rfl,rfl,hC⟩:=h
 exact⟨p,rfl⟩
def wkc (s:Sta)(p:SPt)(a:Option Addr)(n cap:Nat)(e:Int):List Value:=s.cells p++[.slice a n cap,.int .i64 e]
def evX (l:List Evt)(q:Nat→EPt):List Value:=(List.range l.length).flatMap fun j=>(ev_ l j).cells (q j)
def zJM (n:Nat)(q:Nat→EPt)(x:EPt):Nat→EPt:=fun j=>if j<n then q j else x
theorem zOo {l:List Evt}{e:Evt}{j:Nat}(hj:j<l.length):ev_ (l++[e]) j=ev_ l j:=by
 unfold ev_;rw[List.getD_eq_getElem?_getD,List.getD_eq_getElem?_getD,List.getElem?_append_left hj]
theorem zOp {l:List Evt}{e:Evt}:ev_ (l++[e]) l.length=e:=by
 unfold ev_;rw[List.getD_eq_getElem?_getD,List.getElem?_append_right (Nat.le_refl _)];simp
theorem zS8 (l:List Evt)(q:Nat→EPt)(e:Evt)(x:EPt):evX l q++e.cells x=evX (l++[e]) (zJM l.length q x):=by
 unfold evX
 rw[List.length_append,List.length_singleton,List.range_succ,List.flatMap_append,List.flatMap_singleton,zOp]
 congr 1
 ·refine zFK ?_
  intro j hj
  have hj:=List.mem_range.1 hj
  rw[zOo hj];unfold zJM;rw[if_pos hj]
 ·unfold zJM;rw[if_neg (Nat.lt_irrefl _)]
def DoR (bw:Nat)(s:Sta)(l:List Evt)(p:SPt)(a:Option Addr)(cap:Nat)(q:Nat→EPt)(e:Evt)(x:EPt)(O N:zC)(M:zC)(v:Value):Prop :=
 ((zN s e).2=0∧v=.bool true∧∃ p' a' cap' O' R,M=cb bw (wkc (zN s e).1 p' a' (l++[e]).length cap' 0) 86::(O'++(N++R))∧Go.Sk.Own O' 33 4 a' (l++[e]).length cap' (evX (l++[e]) (zJM l.length q x))∧StaM R (zN s e).1 p'∧Good (zN s e).1) ∨
 ((zN s e).2≠0∧v=.bool false∧M=cb bw (wkc s p a l.length cap (zN s e).2) 86::(O++N))
theorem c_do {F:zC}{s:Sta}{l:List Evt}{p:SPt}{a:Option Addr}{cap bw:Nat}{q:Nat→EPt}{O N:zC}{k0:Int}{w0 w:World}(e:Evt)(x:EPt)(H:St w0 (cb bw (wkc s p a l.length cap k0) 86::(O++N)) w)(hF:Mem w0 F)(hP:PriM F)(hK:KinM F)(hown:Go.Sk.Own O 33 4 a l.length cap (evX l q))(hsta:StaM (N++F) s p)(hg:Good s)(hE:zGZ e)(hM:EvtM N e x)(hl:l.length<100) :
  Calls Tryz.prog 34 [.pointer (some ⟨bw,0,none⟩),.agg (e.cells x).toArray].toArray w (zi (DoR bw s l p a cap q e x O N) w0):=by
 have hev:=fun w (G:zC) (hG:Mem w (G++F)) (hs:N⊆G)=>zLu (s:=s) (p:=p) (zFo hg) e x hE w hG (hP.mono (zz8 _ _)) (hK.mono (zz8 _ _)) (hsta.mono fun z hz=>(List.mem_append.1 hz).elim (fun h=>zz6 _ (hs h)) (zz3 _)) (hM.mono fun z hz=>zz6 _ (hs hz))
 have hmay:=fun t (h:zN s e=(t,0))=>zCm h
 have hlt:LtS (zN s e).1:=by
  by_cases h:(zN s e).2=0
  ·exact zDR (hmay _ (Prod.ext rfl h)).2
  ·rw[zQE h];exact lt_z
 unfold DoR
 obtain⟨t,k,hr⟩:∃ t k,zN s e=(t,k):=⟨_,_,rfl⟩
 rw[hr] at hev hlt ⊢
 simp only at hlt ⊢
 refine enter [.tmp 4] Tryz.func34 rfl Tryz.ntmps34 rfl rfl ?_
 repeat' (first|refine yT ?_|(refine y9 H ?_;intro b w H)|refine yU ?_|fail)
 refine CW.cutT (fun en1 w=>∃ be bt p' M en',en1=ovl [(0,.pointer (some ⟨bw,0,none⟩)),(3,.pointer (some ⟨be,0,none⟩)),(5,.pointer (some ⟨bt,0,none⟩)),(6,.int .i64 k)] en'∧StaM M t p'∧St w0 (cb bt (t.cells p') 48::cb be (e.cells x) 33::cb bw (wkc s p a l.length cap k0) 86::(O++(N++M))) w) ?_ ?_
 ·repeat' (first|refine yT ?_|(refine y10 sg H ?_;intro b w H)|(refine y11 sg H ?_;intro w H)|(refine CW.regionL mixed 12 (z6 (x:=cb bw (wkc s p a l.length cap k0) 86) (y:=cb _ (e.cells x) 33) H hF) [] ?_ ?_;exact rfl;refine w2 H ?_;clear H;intro w H;have qh:=z6 (x:=cb bw (wkc s p a l.length cap k0) 86) (y:=cb _ (e.cells x) 33) H hF;refine lT sg 0 qh ?_;refine lT sg 1 qh ?_;refine lT sg 2 qh ?_;refine' l1 3 qh ?_ ?_;rotate_left;(exact z3 sg);refine' l1 4 qh ?_ ?_;rotate_left;(exact z3 sg))|((with_reducible apply RL.nil);decide +kernel)|(refine lT sg 6 (z6 H hF) ?_)|(refine lT sg 7 (z6 H hF) ?_)|(refine lT sg 8 (z6 H hF) ?_)|(refine lT sg 11 (z6 H hF) ?_)|refine l2 5 ?_|refine l2 9 ?_|refine l2 10 ?_|refine l4 5 9 ?_ ?_|(refine l5 (z6 H hF) ?_)|(refine' y32 zNd ?_ ?_;rotate_left;exact hev _ _ (H.all hF) (by intro z hz;simp[hz]);intro v M w hR hS;replace H:=H.addR hS;clear hS;(try simp only[List.cons_append,List.nil_append] at H);obtain⟨px,rfl,hx⟩:=StC.sta hR hlt)|refine yU ?_|fail)
  all_goals exact⟨_,b,px,M,_,zAE rfl (zA0 rfl rfl rfl),hx,by have H2:=H;rw[List.append_assoc] at H2;exact H2⟩
 clear H
 rintro _ w ⟨be,bt,p',M,en',rfl,hT,H⟩
 by_cases hk:k=0
 rotate_left
 ·have dk:(k != 0)=true:=by simpa using hk
  repeat' (first|refine yT ?_|(refine y11 sg H ?_;intro w H)|refine yU ?_|fail)
  refine CW.condT (congrArg Value.bool dk) ?_
  repeat' (first|refine yT ?_|refine yU ?_|fail)
  exact zS (M:=cb bw (wkc s p a l.length cap k) 86::(O++N)) rfl (H.sub (List.Sublist.cons _ (List.Sublist.cons _ (List.Sublist.cons_cons _ (List.Sublist.append_left (List.sublist_append_left N M) O))))) (.inr ⟨hk,rfl,rfl⟩)
 subst hk
 have g2:=(hmay t hr).2
 have hlen:l.length+1=(l++[e]).length:=by simp
 repeat' (first|refine yT ?_|(refine y11 sg H ?_;intro w H)|(refine CW.regionL mixed 16 (z63 (x:=cb bt (t.cells p') 48) (y:=cb be (e.cells x) 33) (z:=cb bw (wkc s p a l.length cap 0) 86) H hF) [1,10,11,12,13,14,15] ?_ ?_;exact rfl;refine w2 H ?_;clear H;intro w H;have qh:=z63 (x:=cb bt (t.cells p') 48) (y:=cb be (e.cells x) 33) (z:=cb bw (wkc s p a l.length cap 0) 86) H hF;refine' l6 1 ?_ ?_;rotate_left;(exact z9 sg);refine lT sg 0 qh ?_;refine' l1 2 qh ?_ ?_;rotate_left;(exact z3 sg);refine lT sg 3 qh ?_;refine lT sg 4 qh ?_;refine lT sg 5 qh ?_;refine' l1 6 qh ?_ ?_;rotate_left;(exact z3 sg);refine' l1 7 qh ?_ ?_;rotate_left;(exact z3 sg))|((with_reducible apply RL.nil);decide +kernel)|(refine' l6 10 ?_ ?_;rotate_left;(exact z9 sg))|(refine' l6 11 ?_ ?_;rotate_left;(exact z9 sg))|(refine' l6 13 ?_ ?_;rotate_left;(exact z9 sg))|(refine' l6 14 ?_ ?_;rotate_left;(exact z9 sg))|refine l3 12 ?_|refine l3 15 ?_|refine l2 8 ?_|refine l2 9 ?_|(refine l5 (z63 (x:=cb bt (t.cells p') 48) (y:=cb be (e.cells x) 33) (z:=cb bw (wkc s p a l.length cap 0) 86) H hF) ?_)|((with_reducible apply OX.buildA sg H);(iterate 12 exact rfl);intro b w H _)|(have hp:=H.perm (List.perm_append_comm_assoc [_,_,_,_] O (N++M));refine zj sg 4 56 (M:=O) hp rfl rfl rfl rfl rfl rfl rfl rfl rfl rfl rfl hown (zAL hp.mem (zz3 _ (zz2 _))) rfl (zAU rfl) (by unfold maxLen;omega) qO ?_;clear hp H;intro a1 c1 O1 w hO1 H;replace H:=H.perm (List.perm_append_comm_assoc O1 [_,_,_,_] (N++M)))|refine yU ?_|fail)
 rw[show[Value.int .u8 e.v,.int .u8 e.kind,.slice x.na e.nums.length x.nc,.slice x.ta e.texts.length x.tc]=e.cells x from rfl,zS8,hlen] at hO1
 rw[hlen] at H
 refine zS (M:=cb bw (wkc t p' a1 (l++[e]).length c1 0) 86::(O1++(N++M))) rfl (H.sub (List.Sublist.cons _ (List.Sublist.cons _ (List.Sublist.cons _ (List.Sublist.refl _))))) (.inl ⟨rfl,rfl,p',a1,c1,O1,M,rfl,hO1,hT,g2⟩)
end Go.Proofs.YthbflajpdhgfiaaGreatDoor
namespace Go.Sk
open Go Go.RowKit
section
attribute [local semireducible] CW OW OX QW QX RW RA RL
variable {P:Program}{n:Nw}{Q:zAQ}{e:Env}{w:World}{l:List Oper}{F0:zC}
theorem CW.regionYL {id:Nat}(hm:P.follows .mixedOrders=true)(k:Nat)(_hM0:Mem w F0)(late:List Nat)(h:∀ w',Cl w w'→RL P n (l.take k) F0 late (Array.replicate k false) k (fun _ e' w'=>OY P n l.toArray Q (l.drop k) e' w') e w')
  (hB:((zDT l.toArray 0 k&&zJU l.toArray k)&&((List.range l.toArray.size).all fun j=>decide (j<k)||(zDT l.toArray j j&&zDT l.toArray j (j+1))))=true:=by decide +kernel) (hnd:zCV l=true:=by exact rfl):CW P n (.region id l.toArray true) Q e w:=by
 intro a ha
 refine wpIn_region_draw fun t=>?_
 simp only[Region.schedule,hm,Bool.true_or,if_true]
 simp only[Bool.and_eq_true] at hB
 obtain⟨⟨hB1,hB2⟩,hB3⟩:=hB
 have hN:=zFs hB1
 have hhd:∀ i,i<k→(l.take k).toArray[i]?=l.toArray[i]?:=fun i hi=>by simp[hi]
 have hsz:(l.take k).toArray.size=k:=by simp only[List.size_toArray] at hN ⊢;simp;omega
 have he:∀ s,Array.replicate s false=zA1 s 0:=fun s=>by
  apply Array.ext
  ·simp[zA1]
  ·intro i _ _;simp[zA1]
 obtain⟨t',ht'⟩:=zKh hB1 hsz hhd k t k (l.toArray.size - k) _ _ (zIm 0 k) (zzC _) (HInv.start (zzD _) hB1)
 rw[show k+(l.toArray.size - k)=l.toArray.size by omega] at ht'
 show wpOpsIn _ _ _ _ _ (Region.linearise.go .any l.toArray l.toArray.size t (Array.replicate l.toArray.size false) []) _ _
 rw[he,ht',zOm (l.toArray.size - k) k t' (by omega) hB3]
 refine zHV (by simpa using hnd) _ _ _ _ ?_
 have h0:=zDZ _ _ _ _ (h { w with drawn:=w.drawn+1 } ((Bel.refl _ _).drew) a ha)
 have h1:=wpAny_sound _ t _ a _ h0
 rw[he] at h1
 refine zFY hhd hB2 _ _ _ (fun i hi=>by have:=go_lt _ _ _ i hi;omega) ?_
 refine zB6 (fun h=>by obtain⟨_,_,h,_⟩:=h;cases h) ?_ _ _ _ h1
 intro x a w hq
 obtain⟨rfl,h0,e',hf,hq⟩:=hq
 have h2:=hq a hf
 have hl:(l.drop k).length=l.toArray.size - k:=by simp
 show wpOpsIn _ _ _ _ _ _ _ _
 rw[← hl,wpOpsIn_eq_wpListIn (l.drop k) k (fun j=>by simp[List.getElem?_drop])]
 exact h2
end
end Go.Sk
