/- Texts of ours, joined: the steps of the proof, or the claim's theorem. -/
import Derived.Test.YthbflajpdhgfiaaGreatDoorQd29
set_option linter.all false
set_option maxHeartbeats 16000000
namespace Go.Proofs.YthbflajpdhgfiaaGreatDoor
section
open Go Go.Sk Go.RowKit
def zE5 (s:Sta)(id:Int):Option Evt :=
 let o:=(zW s.orders id).1
 let u:=(zA9 s.orders o.inst (3 - o.side)).1
 if (zW s.orders id).2=true∧(zA9 s.orders o.inst (3 - o.side)).2=true∧zn o u=true then
  some (evF 13 [id,u.id,u.price,min o.left u.left,(zBa (u.price*min o.left u.left) s.fee).1])
 else none
def zB5 (s:Sta)(id:Int):Evt:=if (zAq s id).2.2=true then evF 18 [id,(zAq s id).1.acct,(zAq s id).1.amount,(zAq s id).2.1] else evF 19 [id]
end
section
open Go Go.Sk Go.RowKit
attribute [local irreducible] Go.Calls
def numB (l m:List Int):Bool:=(List.range l.length).all fun i=>l.getD i 0==m.getD i 0
def txtB (l m:List ByteArray):Bool:=(List.range l.length).all fun i=>(l.getD i ByteArray.empty).toList==(m.getD i ByteArray.empty).toList
def evB (a b:Evt):Bool:=(a.v==b.v&&a.kind==b.kind&&a.nums.length==b.nums.length&&a.texts.length==b.texts.length)&&(numB a.nums b.nums&&txtB a.texts b.texts)
def zHH (l m:List Evt):Bool:=l.length==m.length&&(List.range l.length).all fun i=>evB (ev_ l i) (ev_ m i)
theorem zG7 {F:zC}(a b0:Evt)(p q:EPt)(w0:World)(hF:Mem w0 F)(ha:EvtM F a p)(hb:EvtM F b0 q) :
  Calls Tryz.prog 28 [.agg (a.cells p).toArray,.agg (b0.cells q).toArray].toArray w0 (Ret (.bool (evB a b0)) w0):=by
 obtain⟨⟨hn1,hc1,k1,off1,cs1,T1,fr1,hs1⟩,hn2,hc2,k2,off2,cs2,T2,fr2,hs2⟩:=ha
 obtain⟨⟨hn3,hc3,k3,off3,cs3,T3,fr3,hs3⟩,hn4,hc4,k4,off4,cs4,T4,fr4,hs4⟩:=hb
 by_cases h0:a.v=b0.v∧a.kind=b0.kind∧a.nums.length=b0.nums.length∧a.texts.length=b0.texts.length
 rotate_left
 ·have eP:evB a b0=false:=by
   unfold evB
   rw[Bool.and_eq_false_iff]
   refine .inl (Bool.eq_false_iff.2 fun e=>h0 ?_)
   simp only[Bool.and_eq_true,beq_iff_eq] at e
   exact⟨e.1.1.1,e.1.1.2,e.1.2,e.2⟩
  rw[eP]
  refine enter [.tmp 4] Tryz.func28 rfl Tryz.ntmps28 rfl rfl ?_
  have H:=zA w0
  repeat' (first|refine yT ?_|refine y7 sg H ?_|(refine y9 H ?_;intro b w H)|refine yU ?_|(refine y17 ?_ ?_;all_goals intro h)|with_reducible apply zB|(refine y23 ?_ ?_;all_goals intro h)|fail)
  all_goals first
   | exact zP rfl H.cl rfl
   | (exfalso
      simp only[Bool.not_eq_true',Bool.not_eq_false',beq_iff_eq,bne_eq_false_iff_eq,bne_iff_ne,ne_eq,Decidable.not_not] at *
      exact h0 ⟨by omega,by omega,by omega,by omega⟩)
 obtain⟨g1,g2,g3,g4⟩:=h0
 have eP:evB a b0=(numB a.nums b0.nums&&txtB a.texts b0.texts):=by
  unfold evB;rw[g1,g2,g3,g4];simp
 rw[eP]
 have d1:(a.v != b0.v)=false:=by simpa using g1
 have d2:(a.kind != b0.kind)=false:=by simpa using g2
 have d3:((a.nums.length:Int) != (b0.nums.length:Int))=false:=by rw[g3];simp
 have d4:((a.texts.length:Int) != (b0.texts.length:Int))=false:=by rw[g4];simp
 refine enter [.tmp 4] Tryz.func28 rfl Tryz.ntmps28 rfl rfl ?_
 have H:=zA w0
 repeat' (first|refine yT ?_|refine y7 sg H ?_|(refine y9 H ?_;intro b w H)|refine yU ?_|((first|refine y17 ?_ ?_|refine y23 ?_ ?_);all_goals(intro h;try (exfalso;first|((cases d1.symm.trans h);done)|((cases d2.symm.trans h);done)|((cases d3.symm.trans h);done)|((cases d4.symm.trans h);done))))|with_reducible apply zB|fail)
 refine CW.named (fun en1 w=>∃ b1 b2 en',en1=ovl [(2,.pointer (some ⟨b1,0,none⟩)),(3,.pointer (some ⟨b2,0,none⟩)),(4,.bool false),(5,.int .i64 0)] en'∧St w0 [cb b2 (b0.cells q) 33,cb b1 (a.cells p) 33] w) ⟨_,_,_,zAE rfl (zA0 rfl rfl rfl),H⟩ ?_
 clear H
 rintro _ w ⟨b1,b2,en',rfl,H⟩
 refine zI [(4,5),(37,54)] (fun k:Nat=>[(5,.int .i64 (k:Int))]) (fun k w=>k≤a.nums.length∧(∀ j,j<k→a.nums.getD j 0=b0.nums.getD j 0)∧St w0 [cb b2 (b0.cells q) 33,cb b1 (a.cells p) 33] w) (fun k=>a.nums.length - k) 0 ⟨rfl,trivial⟩ ⟨zzD _,fun j hj=>absurd hj (zzE _),H⟩ ?_
 clear H
 rintro k gh w ⟨hk,hn,H⟩
 by_cases hkl:k<a.nums.length
 ·have d5:decide ((k:Int)<(a.nums.length:Int))=true:=decide_eq_true qO
  by_cases he:a.nums.getD k 0=b0.nums.getD k 0
  ·have d6:(a.nums.getD k 0 != b0.nums.getD k 0)=false:=by simpa using he
   repeat' (first|refine yT ?_|refine y7 sg H ?_|refine y8 sg H ?_|refine x41 sg hs1 ?_|((with_reducible apply zT);exact rfl;exact rfl;exact Yq.loadB1 sg hs1 (H.memF hF) rfl rfl rfl rfl hkl rfl)|refine x41 sg hs3 ?_|((with_reducible apply zT);exact rfl;exact rfl;exact Yq.loadB1 sg hs3 (H.memF hF) rfl rfl rfl rfl (show k<b0.nums.length by omega) rfl)|refine yU ?_|(with_reducible apply zO;refine w2 H ?_;clear H;intro w H)|refine y20 mixed ?_|with_reducible apply zB|(refine y23 ?_ ?_;all_goals(intro h;try (exfalso;first|((cases d5.symm.trans h);done)|((cases d6.symm.trans h);done))))|fail)
   refine zF (k+1) rfl ⟨zf qO,trivial⟩ ⟨hkl,fun j hj=>?_,H⟩ qO
   by_cases e:j=k
   ·rw[e];exact he
   ·exact hn j qO
  ·have d6:(a.nums.getD k 0 != b0.nums.getD k 0)=true:=by simpa using he
   repeat' (first|refine yT ?_|refine y7 sg H ?_|refine y8 sg H ?_|refine x41 sg hs1 ?_|((with_reducible apply zT);exact rfl;exact rfl;exact Yq.loadB1 sg hs1 (H.memF hF) rfl rfl rfl rfl hkl rfl)|refine x41 sg hs3 ?_|((with_reducible apply zT);exact rfl;exact rfl;exact Yq.loadB1 sg hs3 (H.memF hF) rfl rfl rfl rfl (show k<b0.nums.length by omega) rfl)|refine yU ?_|(with_reducible apply zO;refine w2 H ?_;clear H;intro w H)|refine y20 mixed ?_|with_reducible apply zB|(refine y23 ?_ ?_;all_goals(intro h;try (exfalso;first|((cases d5.symm.trans h);done)|((cases d6.symm.trans h);done))))|fail)
   refine zP rfl H.cl (congrArg Value.bool ?_)
   symm
   rw[Bool.and_eq_false_iff]
   refine .inl (Bool.eq_false_iff.2 fun e=>he ?_)
   have:=List.all_eq_true.1 e k (List.mem_range.2 hkl)
   simpa using this
 ·obtain rfl:k=a.nums.length:=by omega
  have d5:decide ((a.nums.length:Int)<(a.nums.length:Int))=false:=decide_eq_false qO
  have hN:numB a.nums b0.nums=true:=List.all_eq_true.2 fun j hj=>by simpa using hn j (List.mem_range.1 hj)
  rw[hN,Bool.true_and]
  clear hn hkl hk
  repeat' (first|refine yT ?_|refine y7 sg H ?_|refine yU ?_|with_reducible apply zB|(refine y23 ?_ ?_;all_goals(intro h;try (exfalso;first|((cases d5.symm.trans h);done))))|fail)
  refine zI [(4,4),(6,6),(55,72)] (fun k:Nat=>[(6,.int .i64 (k:Int))]) (fun k w=>k≤a.texts.length∧(∀ j,j<k→(a.texts.getD j ByteArray.empty).toList=(b0.texts.getD j ByteArray.empty).toList)∧St w0 [cb b2 (b0.cells q) 33,cb b1 (a.cells p) 33] w) (fun k=>a.texts.length - k) 0 ⟨rfl,trivial⟩ ⟨zzD _,fun j hj=>absurd hj (zzE _),H⟩ ?_
  clear H
  rintro k gh2 w ⟨hk,hn,H⟩
  by_cases hkl:k<a.texts.length
  ·have d7:decide ((k:Int)<(a.texts.length:Int))=true:=decide_eq_true qO
   by_cases he:(a.texts.getD k ByteArray.empty).toList=(b0.texts.getD k ByteArray.empty).toList
   ·have d6:(!((a.texts.getD k ByteArray.empty).toList==(b0.texts.getD k ByteArray.empty).toList))=false:=by simpa using he
    repeat' (first|refine yT ?_|refine y7 sg H ?_|refine y8 sg H ?_|refine x41 sg hs2 ?_|((with_reducible apply zT);exact rfl;exact rfl;exact Yq.loadB1 sg hs2 (H.memF hF) rfl rfl rfl rfl hkl rfl)|refine x41 sg hs4 ?_|((with_reducible apply zT);exact rfl;exact rfl;exact Yq.loadB1 sg hs4 (H.memF hF) rfl rfl rfl rfl (show k<b0.texts.length by omega) rfl)|refine yU ?_|(with_reducible apply zO;refine w2 H ?_;clear H;intro w H)|refine y20 mixed ?_|with_reducible apply zB|(refine y23 ?_ ?_;all_goals(intro h;try (exfalso;first|((cases d7.symm.trans h);done)|((cases d6.symm.trans h);done))))|fail)
    refine zF (k+1) rfl ⟨zf qO,trivial⟩ ⟨hkl,fun j hj=>?_,H⟩ qO
    by_cases e:j=k
    ·rw[e];exact he
    ·exact hn j qO
   ·have d6:(!((a.texts.getD k ByteArray.empty).toList==(b0.texts.getD k ByteArray.empty).toList))=true:=by simpa using he
    repeat' (first|refine yT ?_|refine y7 sg H ?_|refine y8 sg H ?_|refine x41 sg hs2 ?_|((with_reducible apply zT);exact rfl;exact rfl;exact Yq.loadB1 sg hs2 (H.memF hF) rfl rfl rfl rfl hkl rfl)|refine x41 sg hs4 ?_|((with_reducible apply zT);exact rfl;exact rfl;exact Yq.loadB1 sg hs4 (H.memF hF) rfl rfl rfl rfl (show k<b0.texts.length by omega) rfl)|refine yU ?_|(with_reducible apply zO;refine w2 H ?_;clear H;intro w H)|refine y20 mixed ?_|with_reducible apply zB|(refine y23 ?_ ?_;all_goals(intro h;try (exfalso;first|((cases d7.symm.trans h);done)|((cases d6.symm.trans h);done))))|fail)
    refine zP rfl H.cl (congrArg Value.bool ?_)
    symm
    refine Bool.eq_false_iff.2 fun e=>he ?_
    have:=List.all_eq_true.1 e k (List.mem_range.2 hkl)
    simpa using this
  ·obtain rfl:k=a.texts.length:=by omega
   have d7:decide ((a.texts.length:Int)<(a.texts.length:Int))=false:=decide_eq_false qO
   have hN:txtB a.texts b0.texts=true:=List.all_eq_true.2 fun j hj=>by simpa using hn j (List.mem_range.1 hj)
   rw[hN]
   repeat' (first|refine yT ?_|refine y7 sg H ?_|refine yU ?_|(refine y23 ?_ ?_;all_goals(intro h;try (exfalso;first|((cases d7.symm.trans h);done))))|fail)
   exact zP rfl H.cl rfl
theorem c_same {F:zC}{a a2:Option Addr}{cap cap2:Nat}(l m:List Evt)(q r:Nat→EPt)(w0:World)(hF:Mem w0 F)(hl:EvsM F a cap l q)(hm:EvsM F a2 cap2 m r) :
  Calls Tryz.prog 33 [.slice a l.length cap,.slice a2 m.length cap2].toArray w0 (Ret (.bool (zHH l m)) w0):=by
 obtain⟨⟨hn1,hc1,k1,off1,cs1,T1,fr1,hs1⟩,hi⟩:=hl
 obtain⟨⟨hn2,hc2,k2,off2,cs2,T2,fr2,hs2⟩,hi2⟩:=hm
 by_cases h0:l.length=m.length
 rotate_left
 ·have eP:zHH l m=false:=by unfold zHH;rw[beq_eq_false_iff_ne.2 h0];rfl
  have d1:((l.length:Int) != (m.length:Int))=true:=by simp;omega
  rw[eP]
  refine enter [.tmp 4] Tryz.func33 rfl Tryz.ntmps33 rfl rfl ?_
  have H:=zA w0
  repeat' (first|refine yT ?_|refine yU ?_|(refine y23 ?_ ?_;all_goals(intro h;try (exfalso;first|((cases d1.symm.trans h);done))))|fail)
  exact zP rfl H.cl rfl
 have eP:zHH l m=(List.range l.length).all fun i=>evB (ev_ l i) (ev_ m i):=by unfold zHH;rw[h0];simp
 have d1:((l.length:Int) != (m.length:Int))=false:=by rw[h0];simp
 rw[eP]
 refine enter [.tmp 4] Tryz.func33 rfl Tryz.ntmps33 rfl rfl ?_
 have H:=zA w0
 repeat' (first|refine yT ?_|refine yU ?_|with_reducible apply zB|(refine y23 ?_ ?_;all_goals(intro h;try (exfalso;first|((cases d1.symm.trans h);done))))|fail)
 refine zI [(4,5),(11,26)] (fun k:Nat=>[(5,.int .i64 (k:Int))]) (fun k w=>k≤l.length∧(∀ j,j<k→evB (ev_ l j) (ev_ m j)=true)∧St w0 [] w) (fun k=>l.length - k) 0 ⟨rfl,trivial⟩ ⟨zzD _,fun j hj=>absurd hj (zzE _),H⟩ ?_
 clear H
 rintro k gh w ⟨hk,hn,H⟩
 by_cases hkl:k<l.length
 ·have d5:decide ((k:Int)<(l.length:Int))=true:=decide_eq_true qO
  have hse:=fun w (hG:Mem w F)=>zG7 (ev_ l k) (ev_ m k) (q k) (r k) w hG (hi k hkl) (hi2 k qO)
  cases he:evB (ev_ l k) (ev_ m k) with
  | true =>
    rw[he] at hse
    repeat' (first|refine yT ?_|refine x41 sg hs1 ?_|refine x43 sg hs1 (H.memF hF) ?_|refine x41 sg hs2 ?_|refine x43 sg hs2 (H.memF hF) ?_|(refine' y31 zNe ?_ ?_;rotate_left;exact(fun _ hcl=>hse _ ((H.ext hcl).memF hF)))|refine yU ?_|(with_reducible apply zO;refine w2 H ?_;clear H;intro w H)|refine y20 mixed ?_|with_reducible apply zB|(refine y23 ?_ ?_;all_goals(intro h;try (exfalso;first|((cases d5.symm.trans h);done)|((exact absurd h (by decide));done))))|fail)
    refine zF (k+1) rfl ⟨zf qO,trivial⟩ ⟨hkl,fun j hj=>?_,H⟩ qO
    by_cases e:j=k
    ·rw[e];exact he
    ·exact hn j qO
  | false =>
    rw[he] at hse
    repeat' (first|refine yT ?_|refine x41 sg hs1 ?_|refine x43 sg hs1 (H.memF hF) ?_|refine x41 sg hs2 ?_|refine x43 sg hs2 (H.memF hF) ?_|(refine' y31 zNe ?_ ?_;rotate_left;exact(fun _ hcl=>hse _ ((H.ext hcl).memF hF)))|refine yU ?_|(with_reducible apply zO;refine w2 H ?_;clear H;intro w H)|refine y20 mixed ?_|with_reducible apply zB|(refine y23 ?_ ?_;all_goals(intro h;try (exfalso;first|((cases d5.symm.trans h);done)|((exact absurd h (by decide));done))))|fail)
    refine zP rfl H.cl (congrArg Value.bool ?_)
    symm
    refine Bool.eq_false_iff.2 fun e=>?_
    have:=List.all_eq_true.1 e k (List.mem_range.2 hkl)
    rw[he] at this;cases this
 ·obtain rfl:k=l.length:=by omega
  have d5:decide ((l.length:Int)<(l.length:Int))=false:=decide_eq_false qO
  have hN:((List.range l.length).all fun i=>evB (ev_ l i) (ev_ m i))=true:=List.all_eq_true.2 fun j hj=>hn j (List.mem_range.1 hj)
  rw[hN]
  repeat' (first|refine yT ?_|refine yU ?_|(refine y23 ?_ ?_;all_goals(intro h;try (exfalso;first|((cases d5.symm.trans h);done))))|fail)
  exact zP rfl H.cl rfl
end
section
open Go Go.Sk Go.RowKit
structure WS where
 ids:List Int
 s:Sta
 l:List Evt
def WS.go (x:WS)(e:Evt):WS:=⟨x.ids.tail,(zN x.s e).1,x.l++[e]⟩
def zFn (nx:WS→Option Evt)(cap:Bool):Nat→WS→List Evt × Int
 | 0,_=>([],40)
 | n+1,x =>
   match nx x with
   | none=>(x.l,0)
   | some e=>if cap=true∧31<x.l.length then([],40) else if (zN x.s e).2≠0 then([],(zN x.s e).2) else zFn nx cap n (x.go e)
def trN (id:Int)(x:WS):Option Evt:=zE5 x.s id
def saN (x:WS):Option Evt:=x.ids.head?.map (zB5 x.s)
def zLw (x:Auc):List Auc→List Auc
 | []=>[x]
 | y::t=>if x.fin<y.fin∨(x.fin=y.fin∧x.id<y.id) then x::y::t else y::zLw x t
def zEO (l:List Auc)(clock:Int):List Auc:=if zAJ l=true then(l.filter fun x=>zAA x clock).foldr zLw [] else[]
def zBC (s:Sta)(c:Cmd):List Evt × Int :=
 if (zc s c).2≠0 then([],(zc s c).2) else
 let f:=(zc s c).1
 if (zN s f).2≠0 then([],(zN s f).2) else
 let t:=(zN s f).1
 if f.kind=11 then zFn (trN (nF f.nums 0)) true 40 ⟨[],t,[f]⟩
 else if f.kind=20 then zFn saN false ((zEO t.aucs t.clock).length+1) ⟨(zEO t.aucs t.clock).map (·.id),t,[f]⟩
 else([f],0)
def zDs:Sta→Int→List Cmd→Sta × Int
 | s,k,[]=>(s,k)
 | s,_,c::l =>
   if (zBC s c).2≠0 then zDs s (zBC s c).2 l
   else if (zDi s (zBC s c).1).2.2≠0 then(s,(zDi s (zBC s c).1).2.2)
   else zDs (zDi s (zBC s c).1).1 0 l
def wkL:List Cmd:=zGk++[cmF 11 [1,1,2,11,3]]
def wkM:List Cmd:=zGk++[cmF 13 [1,1,5,10,2,15],cmF 13 [1,1,5,10,2,18],cmF 14 [2,2,50]]
theorem zGp (x:Auc):∀ l:List Auc,(zLw x l).Perm (x::l)
 | []=>List.Perm.refl _
 | y::t=>by
   unfold zLw
   split
   ·exact List.Perm.refl _
   ·exact((zGp x t).cons y).trans (List.Perm.swap x y t)
theorem zOj {x:Auc}:∀ {l:List Auc},l.Pairwise ltA→(∀ y∈l,x.id≠y.id)→(zLw x l).Pairwise ltA
 | [],_,_=>List.pairwise_singleton _ _
 | y::t,h,hn=>by
   rw[List.pairwise_cons] at h
   unfold zLw
   split
   ·rename_i c
    refine List.pairwise_cons.2 ⟨fun z hz=>?_,List.pairwise_cons.2 h⟩
    rcases List.mem_cons.1 hz with rfl|hz
    ·exact c
    ·have:=h.1 z hz
     unfold ltA at *
     omega
   ·rename_i c
    refine List.pairwise_cons.2 ⟨fun z hz=>?_,zOj h.2 fun z hz=>hn z (zz4 _ hz)⟩
    rcases List.mem_cons.1 ((zGp x t).mem_iff.1 hz) with rfl|hz
    ·have:=hn y (zz2 _)
     unfold ltA at *
     omega
    ·exact h.1 z hz
theorem zEP (l:List Auc)(clock:Int):IsRow l clock (zEO l clock):=by
 unfold zEO
 by_cases hm:zAJ l=true
 ·rw[if_pos hm]
  have hid:(l.map (·.id)).Pairwise (·≠·):=by
   obtain⟨_,_,h3⟩:=zJG hm
   rw[List.pairwise_map,List.pairwise_iff_getElem]
   intro i j hi hj hij e
   have:=h3 i j hij hj
   rw[List.getD_eq_getElem?_getD,List.getD_eq_getElem?_getD,List.getElem?_eq_getElem hi,List.getElem?_eq_getElem hj] at this
   simp only[Option.getD_some] at this
   omega
  have hid2:((l.filter fun x=>zAA x clock).map (·.id)).Pairwise (·≠·):=hid.sublist (List.filter_sublist.map _)
  have hmain:∀ m:List Auc,(m.map (·.id)).Pairwise (·≠·)→(m.foldr zLw []).Pairwise ltA∧(m.foldr zLw []).Perm m:=by
   intro m
   induction m with
   | nil=>intro _;exact⟨List.Pairwise.nil,List.Perm.refl _⟩
   | cons x t ih =>
     intro h
     rw[List.map_cons,List.pairwise_cons] at h
     obtain⟨h1,h2⟩:=ih h.2
     refine⟨zOj h1 fun y hy=>h.1 y.id (List.mem_map.2 ⟨y,h2.mem_iff.1 hy,rfl⟩),?_⟩
     exact(zGp x _).trans (h2.cons x)
  obtain⟨h1,h2⟩:=hmain _ hid2
  exact .inl ⟨hm,h1,h2⟩
 ·rw[if_neg hm]
  exact .inr ⟨by simpa using hm,rfl⟩
def wkB:Bool :=
 let s:=zDs zBJ 0 wkL
 let t:=zDs zBJ 0 wkM
 let a:=zBC s.1 (cmF 11 [2,1,1,12,5])
 let b:=zBC t.1 (cmF 14 [3,2,60])
 let c:=zBC t.1 (cmF 17 [20])
 (a.2==0&&zHH a.1 [evF 11 [2,2,1,1,12,5],evF 13 [2,1,11,3,0]])&&(b.2==0&&zHH b.1 [evF 15 [2,3,60]])&&(c.2==0&&zHH c.1 [evF 20 [20],evF 19 [1],evF 18 [2,2,50,0]])
theorem wk_b:wkB=true:=by decide +kernel
theorem zGq {s:Sta}(h:Good s){i:Nat}(hi:i<s.aucs.length):zAV s (au_ s.aucs i).id=i:=by
 have hp:=(zp.1 h.aucs).2.2
 rw[List.pairwise_iff_getElem] at hp
 have e:∀ k (hk:k<s.aucs.length),au_ s.aucs k=s.aucs[k]:=fun k hk=>by simp[au_,List.getD_eq_getElem?_getD,List.getElem?_eq_getElem hk]
 unfold zAV
 rcases zZ (fun j=>(au_ s.aucs j).id==(au_ s.aucs i).id) s.aucs.length with ⟨k,hk,_,hp',hx⟩|⟨hn,_⟩
 ·rw[hx]
  have h1:(au_ s.aucs k).id=(au_ s.aucs i).id:=by simpa using hp'
  rw[e k hk,e i hi] at h1
  rcases Nat.lt_trichotomy k i with g|g|g
  ·have:=hp k i hk hi g;omega
  ·rw[g]
  ·have:=hp i k hi hk g;omega
 ·have:=hn i hi
  simp at this
theorem zP9 {i a p z:Int}:zCE (evF 18 [i,a,p,z])=true↔(1≤i∧i≤1099511627776)∧(1≤a∧a≤64)∧(1≤p∧p≤1125899906842624)∧0≤z∧z≤1125899906842624:=by
 have e:zCE (evF 18 [i,a,p,z])=((true&&(List.range 4).all fun k=>zCe 3 (([99,97,109,122]:List Nat).getD k 0) (([i,a,p,z]:List Int).getD k 0))&&true):=rfl
 rw[e,show List.range 4=[0,1,2,3] from rfl]
 simp only[List.all_cons,List.all_nil,Bool.true_and,Bool.and_true]
 have e1:zCe 3 (([99,97,109,122]:List Nat).getD 0 0) (([i,a,p,z]:List Int).getD 0 0)=(decide (1≤i)&&decide (i≤1099511627776)):=rfl
 have e2:zCe 3 (([99,97,109,122]:List Nat).getD 1 0) (([i,a,p,z]:List Int).getD 1 0)=(decide (1≤a)&&decide (a≤64)):=rfl
 have e3:zCe 3 (([99,97,109,122]:List Nat).getD 2 0) (([i,a,p,z]:List Int).getD 2 0)=(decide (1≤p)&&decide (p≤1125899906842624)):=rfl
 have e4:zCe 3 (([99,97,109,122]:List Nat).getD 3 0) (([i,a,p,z]:List Int).getD 3 0)=(decide (0≤z)&&decide (z≤1125899906842624)):=rfl
 rw[e1,e2,e3,e4]
 simp only[Bool.and_eq_true,decide_eq_true_eq]
theorem zLx {i:Int}:zCE (evF 19 [i])=true↔(1≤i∧i≤1099511627776):=by
 have e:zCE (evF 19 [i])=((true&&(List.range 1).all fun k=>zCe 3 (([99]:List Nat).getD k 0) (([i]:List Int).getD k 0))&&true):=rfl
 rw[e,show List.range 1=[0] from rfl]
 simp only[List.all_cons,List.all_nil,Bool.true_and,Bool.and_true]
 have e1:zCe 3 (([99]:List Nat).getD 0 0) (([i]:List Int).getD 0 0)=(decide (1≤i)&&decide (i≤1099511627776)):=rfl
 rw[e1]
 simp only[Bool.and_eq_true,decide_eq_true_eq]
theorem zLy {s:Sta}(h:Good s)(k:Int)(n:List Int):(zN s (evF k n)).2=if zCE (evF k n)=true then(zCG s k n ByteArray.empty).2 else 4:=by
 unfold zN zAN
 rw[if_pos (zBB.2 h)]
 by_cases hm:zCE (evF k n)=true
 ·rw[if_pos hm,if_pos ⟨rfl,hm⟩]
  show(if (zCG s k n ByteArray.empty).2=0 then zCG s k n ByteArray.empty else(zCz,(zCG s k n ByteArray.empty).2)).2=_
  split<;>rfl
 ·rw[if_neg hm,if_neg (fun g=>hm g.2)]
theorem zQA (s:Sta)(n:List Int)(t:ByteArray):zCG s 18 n t=zF9 s n:=rfl
theorem zLz (s:Sta)(n:List Int)(t:ByteArray):zCG s 19 n t=zCg s n:=rfl
theorem zOk {s:Sta}(h:Good s){i:Nat}(hi:i<s.aucs.length)(a p z:Int):zF9 s [(au_ s.aucs i).id,a,p,z]=if zAA (au_ s.aucs i) s.clock=true∧(zM s (au_ s.aucs i)).2.2=true∧(zM s (au_ s.aucs i)).1.acct=a∧(zM s (au_ s.aucs i)).1.amount=p∧(zM s (au_ s.aucs i)).2.1=z then zAz s i (zDg (au_ s.aucs i) (zM s (au_ s.aucs i)).1 (zM s (au_ s.aucs i)).2.1) else(s,46):=by
 have e:=zGq h hi
 unfold zF9
 simp only[nF,List.getD_cons_zero,List.getD_cons_succ,e,Int.toNat_natCast]
 rw[if_neg qO]
theorem zJJ {s:Sta}(h:Good s){i:Nat}(hi:i<s.aucs.length):zCg s [(au_ s.aucs i).id]=if (zM s (au_ s.aucs i)).2.2=true∨zAA (au_ s.aucs i) s.clock=false then(s,46) else zAz s i []:=by
 have e:=zGq h hi
 unfold zCg
 simp only[nF,List.getD_cons_zero,e,Int.toNat_natCast]
 rw[if_neg qO]
theorem id_bd {s:Sta}(h:Good s){i:Nat}(hi:i<s.aucs.length):1≤(au_ s.aucs i).id∧(au_ s.aucs i).id≤1099511627776:=zMl ((zp.1 h.aucs).2.1 _ (zk hi))
theorem won_bd {s:Sta}(h:Good s){i:Nat}(hi:i<s.aucs.length)(hw:(zM s (au_ s.aucs i)).2.2=true):((1≤(zM s (au_ s.aucs i)).1.acct∧(zM s (au_ s.aucs i)).1.acct≤64)∧(1≤(zM s (au_ s.aucs i)).1.amount∧(zM s (au_ s.aucs i)).1.amount≤1125899906842624)∧0≤(zM s (au_ s.aucs i)).2.1∧(zM s (au_ s.aucs i)).2.1≤1125899906842624) ∧
  (zM s (au_ s.aucs i)).2.1=(zBa (zM s (au_ s.aucs i)).1.amount s.fee).1∧(au_ s.aucs i).reserve≤(zM s (au_ s.aucs i)).1.amount:=by
 have hm:zAT (au_ s.aucs i)=true:=(zp.1 h.aucs).2.1 _ (zk hi)
 have hn:=zAP.1 h.nums
 obtain⟨w1,w2,w3,w4,w5⟩:=zDq hw
 obtain⟨m,m1,m2,_,_,m5,m6,_⟩:=zDm hm w1
 have hb:=zk (l:=(au_ s.aucs i).bids) m1
 obtain⟨b1,b2,b3,b4,b5,b6⟩:=zCK hm
 have hb6:=b6 _ hb
 have f1:=zOb (q:=(zL (au_ s.aucs i)).1.amount) qO hn.2.1
 rw[w2,w3,m2]
 exact⟨⟨hb6.1,⟨by omega,by omega⟩,by omega,by omega⟩,rfl,m5⟩
theorem zQB {s:Sta}(h:Good s){i:Nat}(hi:i<s.aucs.length)(a p z:Int):((zN s (evF 18 [(au_ s.aucs i).id,a,p,z])).2=0)↔(zAA (au_ s.aucs i) s.clock=true∧(zM s (au_ s.aucs i)).2.2=true∧(zM s (au_ s.aucs i)).1.acct=a∧(zM s (au_ s.aucs i)).1.amount=p∧(zM s (au_ s.aucs i)).2.1=z):=by
 rw[zLy h,zQA,zOk h hi]
 constructor
 ·intro g
  by_cases hm:zCE (evF 18 [(au_ s.aucs i).id,a,p,z])=true
  ·rw[if_pos hm] at g
   by_cases hc:zAA (au_ s.aucs i) s.clock=true∧(zM s (au_ s.aucs i)).2.2=true∧(zM s (au_ s.aucs i)).1.acct=a∧(zM s (au_ s.aucs i)).1.amount=p∧(zM s (au_ s.aucs i)).2.1=z
   ·exact hc
   ·rw[if_neg hc] at g;exact absurd g (show(46:Int)≠0 by decide)
  ·rw[if_neg hm] at g;exact absurd g (by decide)
 ·intro hc
  obtain⟨⟨c1,c2,c3⟩,_,_⟩:=won_bd h hi hc.2.1
  rw[if_pos hc,if_pos (zP9.2 ⟨id_bd h hi,by rw[← hc.2.2.1];exact c1,by rw[← hc.2.2.2.1];exact c2,by rw[← hc.2.2.2.2];exact c3⟩)]
  exact zUf h hi hc.2.1
theorem zL0 {s:Sta}(h:Good s){i:Nat}(hi:i<s.aucs.length):(zN s (evF 19 [(au_ s.aucs i).id])).2=if (zM s (au_ s.aucs i)).2.2=true∨zAA (au_ s.aucs i) s.clock=false then 46 else 0:=by
 rw[zLy h,zLz,zJJ h hi,if_pos (zLx.2 (id_bd h hi))]
 split
 ·rfl
 ·exact zP4 h hi
theorem zQC {s:Sta}(h:Good s){i:Nat}(hi:i<s.aucs.length):zAy s.aucs (au_ s.aucs i).id=(au_ s.aucs i,true):=by
 have e:zHC s.aucs (au_ s.aucs i).id=i:=zGq h hi
 unfold zAy
 rw[e,if_neg qO,Int.toNat_natCast]
def zDA (a b q:Int)(x:Odr):Odr:=if x.id=a∨x.id=b then zBd x q else x
theorem zL1 (a b q:Int)(hab:a≠b):∀ l:List Odr,(∀ x∈l,x.left≠0)→zBU (zBU l a q) b q=(l.map (zDA a b q)).filter fun o=>decide (o.left≠0)
 | [],_=>rfl
 | x::l,h=>by
   have ih:=zL1 a b q hab l fun y hy=>h y (zz5 _ hy)
   have hx:=h x (zz2 _)
   unfold zBU at ih ⊢
   rw[List.map_cons,List.map_cons,List.filter_cons,List.filter_cons]
   by_cases h1:x.id=a
   ·have e1:(if x.id=a then{ x with left:=x.left - q } else x)=zBd x q:=by rw[if_pos h1];rfl
    have e2:zDA a b q x=zBd x q:=by unfold zDA;rw[if_pos (.inl h1)]
    rw[e1,e2]
    by_cases h0:(zBd x q).left≠0
    ·rw[if_pos (decide_eq_true h0),if_pos (decide_eq_true h0),List.map_cons,List.filter_cons]
     have e3:(if (zBd x q).id=b then{ zBd x q with left:=(zBd x q).left - q } else zBd x q)=zBd x q:=if_neg (by show x.id≠b;rw[h1];exact hab)
     rw[e3,if_pos (decide_eq_true h0),ih]
    ·rw[if_neg (by simpa using h0),if_neg (by simpa using h0),ih]
   ·have e1:(if x.id=a then{ x with left:=x.left - q } else x)=x:=if_neg h1
    rw[e1,if_pos (decide_eq_true hx),List.map_cons,List.filter_cons]
    by_cases h2:x.id=b
    ·have e2:zDA a b q x=zBd x q:=by unfold zDA;rw[if_pos (.inr h2)]
     have e3:(if x.id=b then{ x with left:=x.left - q } else x)=zBd x q:=by rw[if_pos h2];rfl
     rw[e2,e3,ih]
    ·have e2:zDA a b q x=x:=by unfold zDA;rw[if_neg (fun e=>e.elim h1 h2)]
     have e3:(if x.id=b then{ x with left:=x.left - q } else x)=x:=if_neg h2
     rw[e2,e3,ih]
theorem zS4 {l:List Odr}(h:ze l=true){u:Odr}(hu:u∈l){i s:Int}(he:(zA9 l i s).1.id=u.id):zA9 l i s=(u,true):=by
 have hu1:=((zAO.1 h).2.1 u hu).1
 rw[zEL] at he ⊢
 cases hh:(zB3 l i s).head? with
 | none=>rw[hh] at he;exact absurd he (by show(0:Int)≠u.id;omega)
 | some o =>
   rw[hh] at he
   have hm:o∈l:=(List.mem_filter.1 ((zB4 (i:=i) (s:=s) h).mem_iff.1 (List.mem_of_mem_head? hh))).1
   have e1:=zBO h hm
   have e2:=zBO h hu
   have he:o.id=u.id:=he
   rw[he,e2] at e1
   rw[(Prod.mk.inj e1).1]
structure TradeFx (s t:Sta)(n:List Int)(o u:Odr):Prop where
 fo:zW s.orders (nF n 0)=(o,true)
 fu:zW s.orders (nF n 1)=(u,true)
 fst:zA9 s.orders u.inst u.side=(u,true)
 last:o.id=s.nextO - 1
 side:o.side≠u.side
 inst:o.inst=u.inst
 acct:o.acct≠u.acct
 cross:zn o u=true
 price:nF n 2=u.price
 prod:0≤nF n 2*nF n 3∧nF n 2*nF n 3≤1125899906842624
 fee:nF n 4=(zBa (nF n 2*nF n 3) s.fee).1
 qty:1≤nF n 3∧nF n 3≤o.left∧nF n 3≤u.left∧(nF n 3=o.left∨nF n 3=u.left)
 ords:t.orders=(s.orders.map (zDA o.id u.id (nF n 3))).filter fun o=>decide (o.left≠0)
 nn:∀ x∈s.orders,0≤(zDA o.id u.id (nF n 3) x).left
 gone:∃ x∈s.orders,(zDA o.id u.id (nF n 3) x).left=0
theorem zQD {s t:Sta}{n:List Int}(h:Good s)(he:zEE s n=(t,0)):∃ o u,TradeFx s t n o u:=by
 unfold zEE at he
 simp only at he
 by_cases h1:(zW s.orders (nF n 0)).2=true∧(zW s.orders (nF n 1)).2=true
 ·rw[if_pos h1] at he
  obtain⟨_,f1,f2⟩:=zCh h1.1
  obtain⟨_,g1,g2⟩:=zCh h1.2
  have fo:zW s.orders (nF n 0)=((zW s.orders (nF n 0)).1,true):=Prod.ext rfl h1.1
  have fu:zW s.orders (nF n 1)=((zW s.orders (nF n 1)).1,true):=Prod.ext rfl h1.2
  generalize (zW s.orders (nF n 0)).1=o at he f1 f2 fo
  generalize (zW s.orders (nF n 1)).1=u at he g1 g2 fu
  by_cases h2:zCy s n o u=true
  ·rw[if_pos h2] at he
   unfold zCy at h2
   simp only[Bool.and_eq_true,beq_iff_eq] at h2
   obtain⟨⟨⟨⟨⟨hl,hf⟩,hc⟩,hp⟩,hq⟩,hfee⟩:=h2
   obtain⟨mo,mu,hin,hsd,hpr⟩:=zBe hc
   by_cases h3:o.acct=u.acct
   ·rw[if_pos h3] at he;exact absurd (Prod.mk.inj he).2 (by decide)
   rw[if_neg h3] at he
   by_cases h4:(zm s (if o.side=2 then zBI u o o.inst (nF n 2) (nF n 3) (nF n 4) else zBI o u o.inst (nF n 2) (nF n 3) (nF n 4))).2≠0
   ·rw[if_pos h4] at he;rw[he] at h4;exact absurd rfl h4
   rw[if_neg h4] at he
   obtain rfl:=(Prod.mk.inj he).1
   have lo:=mo.2.2.2.2.2
   have lu:=mu.2.2.2.2.2
   have pu:=mu.2.2.2.2.1
   have q1:1≤nF n 3:=by omega
   have q2:nF n 3≤o.left:=by omega
   have q3:nF n 3≤u.left:=by omega
   have fx:=zGH h.ords f1 q1 q2
   have hne:u.id≠o.id:=fun e=>by
    have:=zBO h.ords f1
    rw[← e,zBO h.ords g1] at this
    have:=(Prod.mk.inj this).1
    rw[this] at hsd
    exact hsd rfl
   have hl0:∀ x∈s.orders,x.left≠0:=fun x hx=>by have:=((zAO.1 h.ords).2.1 x hx).2.2.2.2.2;omega
   have e1:(zAs (zAs s.orders o.id (nF n 3)).1 u.id (nF n 3)).1=zBU (zBU s.orders o.id (nF n 3)) u.id (nF n 3):=by
    rw[zDp h.ords f1 q1 q2,zDp fx.ok (fx.keep u g1 hne) q1 q3]
   have hmul:=zFe (p:=nF n 2) (q:=nF n 3) qO qO qO qO
   have hprod:0≤nF n 2*nF n 3∧nF n 2*nF n 3≤1125899906842624:=by omega
   have hm:(zHD (nF n 2) (nF n 3)).1=nF n 2*nF n 3:=by
    unfold zHD
    rw[if_neg qO,if_neg qO]
   have uniq:∀ x∈s.orders,∀ y∈s.orders,x.id=y.id→x=y:=fun x hx y hy e=>by
    have:=zBO h.ords hx
    rw[e,zBO h.ords hy] at this
    exact(Prod.mk.inj this).1.symm
   have hval:∀ x∈s.orders,(zDA o.id u.id (nF n 3) x).left=if x=o∨x=u then x.left - nF n 3 else x.left:=fun x hx=>by
    unfold zDA
    by_cases c:x.id=o.id∨x.id=u.id
    ·rw[if_pos c,if_pos (c.imp (uniq x hx o f1) (uniq x hx u g1))];rfl
    ·rw[if_neg c,if_neg (fun e=>c (e.imp (congrArg Odr.id) (congrArg Odr.id)))]
   refine⟨o,u,fo,fu,zS4 h.ords g1 hf,hl,hsd,hin,h3,hc,hp,hprod,by rw[hfee,hm],⟨q1,q2,q3,by omega⟩,?_,fun x hx=>?_,?_⟩
   ·show(zAs (zAs s.orders o.id (nF n 3)).1 u.id (nF n 3)).1=_
    rw[e1,zL1 _ _ _ (Ne.symm hne) _ hl0]
   ·rw[hval x hx]
    have:=((zAO.1 h.ords).2.1 x hx).2.2.2.2.2
    split
    ·rename_i c
     rcases c with rfl|rfl<;>omega
    ·omega
   ·rcases(show nF n 3=o.left∨nF n 3=u.left by omega) with e|e
    ·exact⟨o,f1,by rw[hval o f1,if_pos (.inl rfl)];omega⟩
    ·exact⟨u,g1,by rw[hval u g1,if_pos (.inr rfl)];omega⟩
  ·rw[if_neg h2] at he;exact absurd (Prod.mk.inj he).2 (by decide)
 ·rw[if_neg h1] at he;exact absurd (Prod.mk.inj he).2 (by decide)
theorem zKV {s t:Sta}{e:Evt}(hd:zN s e=(t,0))(hk:e.kind=13):∃ o u,TradeFx s t e.nums o u:=by
 obtain⟨g1,_,_,_,_,hd⟩:=zBf hd
 rw[hk] at hd
 exact zQD g1 hd
theorem zQE {s:Sta}{e:Evt}(h:(zN s e).2≠0):(zN s e).1=zCz:=by
 unfold zN zAN at h ⊢
 split
 ·rename_i h1
  rw[if_pos h1] at h
  split
  ·rename_i h2
   rw[if_pos h2] at h
   split
   ·rename_i h3;rw[if_pos h3] at h;exact absurd h3 h
   ·rfl
  ·rfl
 ·rfl
end
end Go.Proofs.YthbflajpdhgfiaaGreatDoor
