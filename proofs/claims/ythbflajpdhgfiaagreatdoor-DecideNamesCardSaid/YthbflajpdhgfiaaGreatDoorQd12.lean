/- Texts of ours, joined: the steps of the proof, or the claim's theorem. -/
import Derived.Shelf.SlSortCmp.NoneTotal
import Derived.Test.YthbflajpdhgfiaaGreatDoorQd11
set_option linter.all false
set_option maxHeartbeats 16000000
namespace Go.Proofs.YthbflajpdhgfiaaGreatDoor
section
open Go Go.Sk Go.RowKit
theorem zSO {l:List Odr}{i:Nat}(hi:i<l.length):l=l.take i++od_ l i::l.drop (i+1):=by
 conv=>lhs;rw[← List.take_append_drop i l,List.drop_eq_getElem_cons hi]
 simp[od_,List.getElem?_eq_getElem hi]
theorem zUP {l:List Odr}(h:ze l=true){i:Nat}(hi:i<l.length)(q:Int):zBU l (od_ l i).id q=if (od_ l i).left - q=0 then l.eraseIdx i else l.set i (zBd (od_ l i) q):=by
 obtain⟨_,l2,l3⟩:=zAO.1 h
 have e:=zSO hi
 obtain⟨o,ho⟩:∃ o,od_ l i=o:=⟨_,rfl⟩
 rw[ho] at e ⊢
 have hl:(l.take i).length=i:=by rw[List.length_take];omega
 rw[e] at l2 l3
 rw[List.pairwise_append,List.pairwise_cons] at l3
 have ha:∀ x∈l.take i,x.id≠o.id:=fun x hx=>by have:=l3.2.2 x hx o (zz2 _);omega
 have hb:∀ x∈l.drop (i+1),x.id≠o.id:=fun x hx=>by have:=l3.2.1.1 x hx;omega
 have hp:∀ x∈l.take i++o::l.drop (i+1),x.left≠0:=fun x hx=>by have:=(l2 x hx).2.2.2.2.2;omega
 have ht:=zH8 (q:=q) ha hb (fun x hx=>hp x (zz6 _ hx)) (fun x hx=>hp x (zz3 _ (zz5 _ hx)))
 rw[← e] at ht
 rw[ht]
 by_cases h0:o.left - q=0
 ·rw[if_pos h0,if_pos h0,List.eraseIdx_eq_take_drop_succ];rfl
 ·rw[if_neg h0,if_neg h0,List.set_eq_take_append_cons_drop,if_pos hi];rfl
theorem zPp {l:List Odr}(hr:Ris l){id:Int}{i:Nat}(h:lbF l id i)(hn:i<l.length→(od_ l i).id≠id):l.filter (fun x=>decide (x.id<id))=l.take i∧l.filter (fun x=>decide (id<x.id))=l.drop i:=by
 have h1:∀ x∈l.take i,x.id<id:=by
  intro x hx
  obtain⟨k,hk,rfl⟩:=List.getElem_of_mem hx
  rw[List.length_take] at hk
  have:=h.2.1 k qO
  rw[List.getElem_take]
  simpa [od_,List.getElem?_eq_getElem (show k<l.length by omega)] using this
 have h2:∀ x∈l.drop i,id<x.id:=by
  intro x hx
  obtain⟨k,hk,rfl⟩:=List.getElem_of_mem hx
  rw[List.length_drop] at hk
  have h3:=h.2.2 (i+k) qO qO
  have h4:(od_ l (i+k)).id≠id:=by
   rcases Nat.eq_zero_or_pos k with e|e
   ·rw[e];exact hn qO
   ·have h5:=hr i (i+k) qO qO
    have h6:=h.2.2 i (zzC _) qO
    omega
  rw[List.getElem_drop]
  have h7:(od_ l (i+k))=l[i+k]:=by simp[od_,List.getElem?_eq_getElem (show i+k<l.length by omega)]
  rw[← h7];omega
 constructor
 ·conv=>lhs;rw[← List.take_append_drop i l]
  rw[List.filter_append,List.filter_eq_self.2 fun x hx=>decide_eq_true (h1 x hx),List.filter_eq_nil_iff.2 fun x hx=>by have:=h2 x hx;simp;omega,List.append_nil]
 ·conv=>lhs;rw[← List.take_append_drop i l]
  rw[List.filter_append,List.filter_eq_nil_iff.2 fun x hx=>by have:=h1 x hx;simp;omega,List.filter_eq_self.2 fun x hx=>decide_eq_true (h2 x hx),List.nil_append]
theorem zLe {l:List Odr}(hm:ze l=true){id:Int}{i:Nat}(h:lbF l id i):zW l id=if (decide (i<l.length)&&(od_ l i).id==id)=true then(od_ l i,true) else(Odr.zero,false):=by
 unfold zW
 rw[if_pos hm,zON (zKK hm) h]
 by_cases hb:(decide (i<l.length)&&(od_ l i).id==id)=true
 ·rw[if_pos hb,if_pos hb]
 ·rw[if_neg hb,if_neg hb]
end
section
open Go Go.Sk Go.RowKit
attribute [local irreducible] Go.Calls
def priE (i:Nat):List Value:=[if i=1 then .func (.func 297) #[] #[] else if i=2 then .func (.func 298) #[] #[] else .nilFunc]
def PriM (F:zC):Prop:=∃ cs T fr,SlB F 1 (some ⟨0,0,none⟩) 3 0 0 cs T fr priE
theorem PriM.mono {F G:zC}(h:PriM F)(hs:F⊆G):PriM G:=let ⟨a,b,c,d⟩:=h;⟨a,b,c,d.mono hs⟩
theorem zM2 (x y:Odr)(hx:zw x=true)(hy:zw y=true)(hi:(x.inst != y.inst)=false)(hsd:(x.side==y.side)=false)(h1:x.side=1){F:zC}(w0:World)(hF:Mem w0 F)(hP:PriM F) :
  Calls Tryz.prog 64 [.agg x.cells.toArray,.agg y.cells.toArray].toArray w0 (Ret (.bool (decide (zB7 y.price x.price≤0))) w0):=by
 obtain⟨cs,T,fr,hs⟩:=hP
 obtain⟨xi,xa,xn,xs,xp,xl⟩:=x
 simp only at h1;subst h1
 refine enter [.tmp 4] Tryz.func64 rfl Tryz.ntmps64 rfl rfl ?_
 have H:=zA w0
 repeat' (first|refine yT ?_|refine y7 sg H ?_|(refine y9 H ?_;intro b w H)|(refine' y30 zEW ?_ ?_;rotate_left;exact zBM _ _;refine Go.Sk.w2 H ?_;clear H;intro w H)|refine yU ?_|(refine y17 ?_ ?_;all_goals(intro h;try (exfalso;first|((rw[hx] at h;cases h);done)|((rw[hy] at h;cases h);done)|((rw[hi] at h;cases h);done)|((rw[hsd] at h;cases h);done))))|fail)
 refine zD rfl (fun h=>?_) (fun h=>?_)
 ·rw[hsd] at h;cases h
 ·clear h
  repeat' (first|refine yT ?_|refine y8 sg H ?_|((with_reducible apply zT);exact rfl;exact rfl;exact Yq.ixP sg (n:=3) (j:=1) rfl (by show(0:Int)≤1;decide) (by show(1:Int)<3;decide) rfl rfl rfl rfl rfl rfl)|((with_reducible apply zT);exact rfl;exact rfl;exact Yq.loadB1 sg hs (H.memF hF) rfl rfl rfl rfl (j:=1) (by decide) rfl)|(refine' y35 zQ1 ?_ ?_;rotate_left;exact(fun _ hcl=>zJC _ _ _))|(with_reducible apply zO;refine Go.Sk.w2 H ?_;clear H;intro w H)|refine yU ?_|refine y20 mixed ?_|fail)
  exact zP rfl H.cl rfl
theorem zM3 (x y:Odr)(hx:zw x=true)(hy:zw y=true)(hi:(x.inst != y.inst)=false)(hsd:(x.side==y.side)=false)(h1:x.side=2){F:zC}(w0:World)(hF:Mem w0 F)(hP:PriM F) :
  Calls Tryz.prog 64 [.agg x.cells.toArray,.agg y.cells.toArray].toArray w0 (Ret (.bool (decide (zB7 x.price y.price≤0))) w0):=by
 obtain⟨cs,T,fr,hs⟩:=hP
 obtain⟨xi,xa,xn,xs,xp,xl⟩:=x
 simp only at h1;subst h1
 refine enter [.tmp 4] Tryz.func64 rfl Tryz.ntmps64 rfl rfl ?_
 have H:=zA w0
 repeat' (first|refine yT ?_|refine y7 sg H ?_|(refine y9 H ?_;intro b w H)|(refine' y30 zEW ?_ ?_;rotate_left;exact zBM _ _;refine Go.Sk.w2 H ?_;clear H;intro w H)|refine yU ?_|(refine y17 ?_ ?_;all_goals(intro h;try (exfalso;first|((rw[hx] at h;cases h);done)|((rw[hy] at h;cases h);done)|((rw[hi] at h;cases h);done)|((rw[hsd] at h;cases h);done))))|fail)
 refine zD rfl (fun h=>?_) (fun h=>?_)
 ·rw[hsd] at h;cases h
 ·clear h
  repeat' (first|refine yT ?_|refine y8 sg H ?_|((with_reducible apply zT);exact rfl;exact rfl;exact Yq.ixP sg (n:=3) (j:=2) rfl (by show(0:Int)≤2;decide) (by show(2:Int)<3;decide) rfl rfl rfl rfl rfl rfl)|((with_reducible apply zT);exact rfl;exact rfl;exact Yq.loadB1 sg hs (H.memF hF) rfl rfl rfl rfl (j:=2) (by decide) rfl)|(refine' y35 zQ2 ?_ ?_;rotate_left;exact(fun _ hcl=>zJD _ _ _))|(with_reducible apply zO;refine Go.Sk.w2 H ?_;clear H;intro w H)|refine yU ?_|refine y20 mixed ?_|fail)
  exact zP rfl H.cl rfl
theorem side12 {x:Odr}(h:zw x=true):x.side=1∨x.side=2:=((zAf x).1 h).2.2.2.1
theorem zGl (x y:Odr){F:zC}(w0:World)(hF:Mem w0 F)(hP:PriM F) :
  Calls Tryz.prog 64 [.agg x.cells.toArray,.agg y.cells.toArray].toArray w0 (Ret (.bool (zn x y)) w0):=by
 cases hx:zw x with
 | false =>
   refine enter [.tmp 4] Tryz.func64 rfl Tryz.ntmps64 rfl rfl ?_
   have H:=zA w0
   repeat' (first|refine yT ?_|refine y7 sg H ?_|(refine y9 H ?_;intro b w H)|(refine' y30 zEW ?_ ?_;rotate_left;exact zBM _ _;refine Go.Sk.w2 H ?_;clear H;intro w H)|refine yU ?_|(refine y17 ?_ ?_;all_goals(intro h;try (exfalso;first|((rw[hx] at h;cases h);done))))|fail)
   exact zP rfl H.cl (by unfold zn;rw[hx];rfl)
 | true =>
 cases hy:zw y with
 | false =>
   refine enter [.tmp 4] Tryz.func64 rfl Tryz.ntmps64 rfl rfl ?_
   have H:=zA w0
   repeat' (first|refine yT ?_|refine y7 sg H ?_|(refine y9 H ?_;intro b w H)|(refine' y30 zEW ?_ ?_;rotate_left;exact zBM _ _;refine Go.Sk.w2 H ?_;clear H;intro w H)|refine yU ?_|(refine y17 ?_ ?_;all_goals(intro h;try (exfalso;first|((rw[hx] at h;cases h);done)|((rw[hy] at h;cases h);done))))|fail)
   exact zP rfl H.cl (by unfold zn;rw[hx,hy];rfl)
 | true =>
 cases hi:(x.inst != y.inst) with
 | true =>
   refine enter [.tmp 4] Tryz.func64 rfl Tryz.ntmps64 rfl rfl ?_
   have H:=zA w0
   repeat' (first|refine yT ?_|refine y7 sg H ?_|(refine y9 H ?_;intro b w H)|(refine' y30 zEW ?_ ?_;rotate_left;exact zBM _ _;refine Go.Sk.w2 H ?_;clear H;intro w H)|refine yU ?_|(refine y17 ?_ ?_;all_goals(intro h;try (exfalso;first|((rw[hx] at h;cases h);done)|((rw[hy] at h;cases h);done)|((rw[hi] at h;cases h);done))))|fail)
   have e:(x.inst==y.inst)=false:=by simpa [bne] using hi
   exact zP rfl H.cl (by unfold zn;rw[hx,hy,e];rfl)
 | false =>
 have e1:(x.inst==y.inst)=true:=by simpa [bne] using hi
 cases hs:(x.side==y.side) with
 | true =>
   refine enter [.tmp 4] Tryz.func64 rfl Tryz.ntmps64 rfl rfl ?_
   have H:=zA w0
   repeat' (first|refine yT ?_|refine y7 sg H ?_|(refine y9 H ?_;intro b w H)|(refine' y30 zEW ?_ ?_;rotate_left;exact zBM _ _;refine Go.Sk.w2 H ?_;clear H;intro w H)|refine yU ?_|((first|refine y17 ?_ ?_|refine y23 ?_ ?_);all_goals(intro h;try (exfalso;first|((rw[hx] at h;cases h);done)|((rw[hy] at h;cases h);done)|((rw[hi] at h;cases h);done)|((rw[hs] at h;cases h);done))))|fail)
   exact zP rfl H.cl (by unfold zn;rw[hx,hy,e1];simp[bne,hs])
 | false =>
   rcases side12 hx with h1|h1
   ·have h:=zM2 x y hx hy hi hs h1 w0 hF hP
    have e:decide (zB7 y.price x.price≤0)=zn x y:=by
     unfold zn;rw[hx,hy,e1,h1,if_pos rfl]
     have:((1:Int) != y.side)=true:=by rw[← h1];simp[bne,hs]
     rw[this]
     simp only[Bool.true_and,decide_eq_decide]
     unfold zB7;split<;>(try split)<;>omega
    rw[← e];exact h
   ·have h:=zM3 x y hx hy hi hs h1 w0 hF hP
    have e:decide (zB7 x.price y.price≤0)=zn x y:=by
     unfold zn;rw[hx,hy,e1,h1,if_neg (by decide)]
     have:((2:Int) != y.side)=true:=by rw[← h1];simp[bne,hs]
     rw[this]
     simp only[Bool.true_and,decide_eq_decide]
     unfold zB7;split<;>(try split)<;>omega
    rw[← e];exact h
end
end Go.Proofs.YthbflajpdhgfiaaGreatDoor
namespace Go.Sk
open Go Go.Proofs Go.RowKit
open Go.Sort (grow putRow Holds flatK HoldsK putRowK SWO PermIn SortedIn size_flatK get_flatK)
theorem Cl.grown {w w':World}(h:Cl w w'):∃ q os,w'=grow (w.drewN q) os:=by
 refine⟨w'.drawn - w.drawn,w'.heap.extract w.heap.size w'.heap.size,?_⟩
 obtain⟨⟨h1,h2,h3,h4,h5⟩,h6⟩:=h
 obtain⟨hp,tp,dr,os,out⟩:=w
 obtain⟨hp',tp',dr',os',out'⟩:=w'
 simp only at h1 h2 h3 h4 h5 h6
 subst h1;subst h2;subst h3
 have e1:hp'=hp++hp'.extract hp.size hp'.size:=by
  apply Array.ext_getElem?
  intro k
  by_cases hk:k<hp.size
  ·rw[Array.getElem?_append_left hk];exact h5 k hk
  ·rw[Array.getElem?_append_right (by omega),Array.getElem?_extract]
   by_cases hk2:k<hp'.size
   ·rw[if_pos (by omega)];congr 1;omega
   ·rw[if_neg (by omega),Array.getElem?_eq_none (by omega)]
 have e2:dr'=dr+(dr' - dr):=by omega
 simp only[grow,World.drewN]
 congr 1
section
variable {α:Type}[Inhabited α]{enc:α→List Value}{k:Nat}{d:Array α}
theorem zLf (hk:∀ x,(enc x).length=k){t:Nat}(ht:t<d.size*k):(flatK enc k d).toList[t]?=(enc d[t / k]!)[t % k]?:=by
 have k0:0<k:=by
  rcases Nat.eq_zero_or_pos k with h|h
  ·subst h;simp at ht
  ·exact h
 have hs:t<(flatK enc k d).size:=by rw[size_flatK];exact ht
 have h:=get_flatK enc k d t ht
 rw[Array.getElem?_toList,Array.getElem?_eq_getElem hs,← getElem!_pos _ t hs,h,List.getElem?_eq_getElem (by rw[hk];exact Nat.mod_lt _ k0),getElem!_pos _ _ (by rw[hk];exact Nat.mod_lt _ k0)]
theorem zSP (hk:∀ x,(enc x).length=k){cs:List Value}(he:Els cs k d.size fun j=>enc d[j]!):cs.take (flatK enc k d).size=(flatK enc k d).toList.map id:=by
 rw[List.map_id,size_flatK]
 apply List.ext_getElem?
 intro t
 by_cases ht:t<d.size*k
 ·have k0:0<k:=by
   rcases Nat.eq_zero_or_pos k with h|h
   ·subst h;simp at ht
   ·exact h
  have hj:t / k<d.size:=Nat.div_lt_of_lt_mul (by rwa [Nat.mul_comm] at ht)
  obtain⟨h1,h2⟩:=he (t / k) hj
  simp only at h2
  rw[zLf hk ht,List.getElem?_take_of_lt ht,← h2,List.getElem?_take_of_lt (Nat.mod_lt _ k0),List.getElem?_drop]
  congr 1
  rw[Nat.mul_comm];exact(Nat.div_add_mod t k).symm
 ·rw[List.getElem?_eq_none (by rw[List.length_take];omega),List.getElem?_eq_none (by rw[Array.length_toList,size_flatK];omega)]
theorem zSQ (hk:∀ x,(enc x).length=k){cs:List Value}:Els (zEY id (flatK enc k d) cs) k d.size fun j=>enc d[j]! := by
 intro j hj
 have hjk:(j+1)*k≤d.size*k:=Nat.mul_le_mul_right _ hj
 rw[Nat.add_mul,Nat.one_mul] at hjk
 have hl:((flatK enc k d).toList.map id).length=d.size*k:=by simp
 refine⟨by unfold zEY;rw[List.length_append,hl];omega,?_⟩
 apply List.ext_getElem?
 intro i
 rw[List.getElem?_take]
 by_cases hi:i<k
 ·rw[if_pos hi,List.getElem?_drop]
  unfold zEY
  rw[List.getElem?_append_left (by rw[hl];omega),List.map_id,zLf hk (by omega)]
  have e1:(j*k+i) / k=j:=by rw[Nat.mul_comm,Nat.mul_add_div (by omega),Nat.div_eq_of_lt hi,Nat.add_zero]
  have e2:(j*k+i) % k=i:=by rw[Nat.mul_comm,Nat.mul_add_mod,Nat.mod_eq_of_lt hi]
  rw[e1,e2]
 ·rw[if_neg hi,List.getElem?_eq_none (by rw[hk];omega)]
end
theorem zM4 {α:Type}[Inhabited α]{l:List α}{d':Array α}(h:PermIn 0 l.toArray.size l.toArray d'):d'.toList.Perm l:=by
 obtain⟨h1,_,h3⟩:=h
 have e1:(d'.extract 0 l.toArray.size).toList=d'.toList:=by rw[← h1];simp
 have e2:(l.toArray.extract 0 l.toArray.size).toList=l:=by simp
 rw[e1,e2] at h3
 exact h3
theorem zKL {α:Type}[Inhabited α]{lt:α→α→Bool}{n:Nat}{d':Array α}(hn:d'.size=n)(h:SortedIn lt 0 n d'):d'.toList.Pairwise fun a b=>lt b a=false:=by
 rw[List.pairwise_iff_getElem]
 intro i j hi hj hij
 have:=h i j (zzD _) hij (by rw[Array.length_toList] at hj;omega)
 rw[getElem!_pos d' i (by simpa using hi),getElem!_pos d' j (by simpa using hj)] at this
 simpa using this
def zOO {α:Type}[Inhabited α](enc:α→List Value)(k:Nat)(cf:α→α→Int)(g:Nat)(T:TypeId)(G:zC)(n:Nat)(l:List α)(M:zC)(v:Value):Prop :=
 v=.tuple #[]∧∃ (cs':List Value) (l':List α),M=cb g cs' T::G∧cs'.length=n∧l'.Perm l∧l'.Pairwise (fun a b=>ltOf cf b a=false)∧Els cs' k l'.length fun j=>enc (l'.getD j default)
theorem sortK {P:Program}{ρ:Go.Shelf.Ren}{α:Type}[Inhabited α](L:SlLaysF0.n6 P ρ){k:Nat}(aE:∀ w,(isAgg (ρ.t 24)).run P w=.ok true w)(zE:∀ w,(Go.sizeOf (ρ.t 24)).run P w=.ok k w)(enc:α→List Value)(hk:∀ x,(enc x).length=k)(h1:∀ x,∀ v∈enc x,v.oneCell'=true)
  (cf:α→α→Int) (hO:SWO (ltOf cf)) {f:Nat} {caps:List Value} (eg:∀ args w,(callFunc f args).run P w=.ok (.enter f args) w) {w0 w:World} {G:zC} {g cap:Nat} {cs:List Value} {T:TypeId} (l:List α) (hl:l.length≤1000000000000) (H:St w0 (cb g cs T::G) w)
  (he:Els cs k l.length fun j=>enc (l.getD j default)) (hcl:l.length*k≤cs.length) (hc:∀ cs' W x y,St w0 (cb g cs' T::G) W→Calls P f ([Value.agg (enc x).toArray,Value.agg (enc y).toArray]++caps).toArray W (Ret (.int .i64 (cf x y)) W)) :
  Calls P (ρ.f 6) [.slice (some ⟨g,0,none⟩) l.length cap,.func (.func f) #[] caps.toArray].toArray w (zi (zOO enc k cf g T G cs.length l) w0):=by
 have he':Els cs k l.toArray.size fun j=>enc l.toArray[j]! := by
  intro j hj
  have:=he j (by simpa using hj)
  simpa using this
 have hfl:=zSP hk he'
 have hsz:(flatK enc k l.toArray).size=l.length*k:=by simp
 have hH:HoldsK enc k w g 0 l.toArray:=zHt H (zz2 _) hfl
 have hput:∀ (n:Nat) (os:Array Obj) (dk:Array α),dk.size=l.length→St w0 (cb g (zEY id (flatK enc k dk) cs) T::G) (sortWorldK enc k w g 0 n dk os):=fun n os dk hd =>
  St.put (enc:=id) n os H Up.here (by rw[size_flatK,hd];exact hcl)
 have hcmp:CmpLays P f caps.toArray enc k cf g 0 l.toArray.size w:=by
  intro m os dk hd x y
  have hd':dk.size=l.length:=by simpa using hd
  refine Calls.mono (by simpa using hc _ _ x y (hput m os dk hd')) fun e W' hr=>?_
  obtain⟨rfl,hcl⟩:=hr
  exact⟨rfl,Cl.grown hcl⟩
 have:=AnyQ.slices_SortFunc L k aE zE enc hk h1 cf hO f caps.toArray g 0 cap l.toArray w eg hcmp hH (zBx (H.mem _ (zz2 _))) (by simp;omega)
 refine Calls.mono this ?_
 rintro e w' ⟨rfl,d',n,os,hp,hs,rfl⟩
 have hd:d'.size=l.length:=by have:=hp.1;simpa using this
 refine⟨_,_,rfl,⟨rfl,zEY id (flatK enc k d') cs,d'.toList,rfl,?_,zM4 hp,zKL (by simpa using hd) hs,?_⟩,hput n os d' hd⟩
 ·unfold zEY
  rw[List.length_append,List.map_id,List.length_drop,Array.length_toList,size_flatK,hd];omega
 ·have:=zSQ (d:=d') (cs:=cs) hk
  rw[Array.length_toList]
  intro j hj
  have h2:=this j hj
  show j*k+k≤_∧_=enc (d'.toList.getD j default)
  rw[show d'.toList.getD j default=d'[j]! by rw[List.getD_eq_getElem?_getD,Array.getElem?_toList,getElem!_def];cases d'[j]?<;>rfl]
  exact h2
end Go.Sk
namespace Go.Proofs.YthbflajpdhgfiaaGreatDoor
section
open Go Go.Sk Go.RowKit
open Go.Sort (SWO)
attribute [local irreducible] Go.Calls
theorem zUQ (x y:Row4)(w0:World):Calls Tryz.prog 232 [.agg x.cells.toArray,.agg y.cells.toArray].toArray w0 (Ret (.int .i64 (zMT x.acct x.asset y.acct y.asset)) w0):=by
 refine enter [.tmp 4] Tryz.func232 rfl Tryz.ntmps232 rfl rfl ?_
 have H:=zA w0
 repeat' (first|refine yT ?_|refine y7 sg H ?_|(refine y9 H ?_;intro b w H)|(refine' y30 zQv ?_ ?_;rotate_left;exact zQ9 _ _ _ _ _;refine Go.Sk.w2 H ?_;clear H;intro w H)|refine yU ?_|fail)
 exact zP rfl H.cl rfl
theorem zUR (x y:Odr)(h1:x.side=1){F:zC}(w0:World)(hF:Mem w0 F)(hP:PriM F) :
  Calls Tryz.prog 41 [.agg x.cells.toArray,.agg y.cells.toArray].toArray w0 (Ret (.int .i64 (zGi x y)) w0):=by
 obtain⟨cs,T,fr,hs⟩:=hP
 obtain⟨xi,xa,xn,xs,xp,xl⟩:=x
 simp only at h1;subst h1
 refine enter [.tmp 4] Tryz.func41 rfl Tryz.ntmps41 rfl rfl ?_
 have H:=zA w0
 repeat' (first|refine yT ?_|refine y8 sg H ?_|(refine y9 H ?_;intro b w H)|refine y12 ?_|(refine CW.regionR mixed ?_;refine Go.Sk.w2 H ?_;clear H;intro w H;(with_reducible apply RW.quiet 12);exact rfl;decide +kernel;simp only[List.append_eq,List.cons_append,List.nil_append,List.take_succ_cons,List.take_zero,List.drop_zero])|((with_reducible apply zT);exact rfl;exact rfl;exact Yq.ixP sg (n:=3) (j:=1) rfl (by show(0:Int)≤1;decide) (by show(1:Int)<3;decide) rfl rfl rfl rfl rfl rfl)|((with_reducible apply zT);exact rfl;exact rfl;exact Yq.loadB1 sg hs (H.memF hF) rfl rfl rfl rfl (j:=1) (by decide) rfl)|(refine' y35 zQ1 ?_ ?_;rotate_left;exact(fun _ hcl=>zJC _ _ _))|(refine' y31 zQb ?_ ?_;rotate_left;exact(fun _ hcl=>zMS ⟨xi,xa,xn,1,xp,xl⟩ y _))|(refine z14 sg H ?_;intro b w H)|(refine' y30 zQd ?_ ?_;rotate_left;exact zQ8 _ _ _ (H.mem) (zz2 _);refine Go.Sk.w2 H ?_;clear H;intro w H)|refine yU ?_|(with_reducible apply zO;refine Go.Sk.w2 H ?_;clear H;intro w H)|fail)
 exact zP rfl H.cl rfl
theorem zUS (x y:Odr)(h1:x.side=2){F:zC}(w0:World)(hF:Mem w0 F)(hP:PriM F) :
  Calls Tryz.prog 41 [.agg x.cells.toArray,.agg y.cells.toArray].toArray w0 (Ret (.int .i64 (zGi x y)) w0):=by
 obtain⟨cs,T,fr,hs⟩:=hP
 obtain⟨xi,xa,xn,xs,xp,xl⟩:=x
 simp only at h1;subst h1
 refine enter [.tmp 4] Tryz.func41 rfl Tryz.ntmps41 rfl rfl ?_
 have H:=zA w0
 repeat' (first|refine yT ?_|refine y8 sg H ?_|(refine y9 H ?_;intro b w H)|refine y12 ?_|(refine CW.regionR mixed ?_;refine Go.Sk.w2 H ?_;clear H;intro w H;(with_reducible apply RW.quiet 12);exact rfl;decide +kernel;simp only[List.append_eq,List.cons_append,List.nil_append,List.take_succ_cons,List.take_zero,List.drop_zero])|((with_reducible apply zT);exact rfl;exact rfl;exact Yq.ixP sg (n:=3) (j:=2) rfl (by show(0:Int)≤2;decide) (by show(2:Int)<3;decide) rfl rfl rfl rfl rfl rfl)|((with_reducible apply zT);exact rfl;exact rfl;exact Yq.loadB1 sg hs (H.memF hF) rfl rfl rfl rfl (j:=2) (by decide) rfl)|(refine' y35 zQ2 ?_ ?_;rotate_left;exact(fun _ hcl=>zJD _ _ _))|(refine' y31 zQb ?_ ?_;rotate_left;exact(fun _ hcl=>zMS ⟨xi,xa,xn,2,xp,xl⟩ y _))|(refine z14 sg H ?_;intro b w H)|(refine' y30 zQd ?_ ?_;rotate_left;exact zQ8 _ _ _ (H.mem) (zz2 _);refine Go.Sk.w2 H ?_;clear H;intro w H)|refine yU ?_|(with_reducible apply zO;refine Go.Sk.w2 H ?_;clear H;intro w H)|fail)
 exact zP rfl H.cl rfl
theorem c_brow (x y:Odr)(h1:x.side=1∨x.side=2){F:zC}(w0:World)(hF:Mem w0 F)(hP:PriM F) :
  Calls Tryz.prog 41 [.agg x.cells.toArray,.agg y.cells.toArray].toArray w0 (Ret (.int .i64 (zGi x y)) w0):=by
 rcases h1 with h|h
 ·exact zUR x y h w0 hF hP
 ·exact zUS x y h w0 hF hP
def cfE (x y:Row4):Int:=zMT x.acct x.asset y.acct y.asset
theorem zE0 (x y:Row4):ltOf cfE x y=true↔LtR x y:=by
 unfold ltOf cfE LtR
 rw[decide_eq_true_eq,zNm]
theorem swoE:SWO (ltOf cfE) where
 irrefl x:=by rw[← Bool.not_eq_true,zE0];exact LtR.irr x
 trans x y z:=by rw[zE0,zE0,zE0];exact fun h k=>h.tr k
 ntrans x y z:=by
  rw[← Bool.not_eq_true,← Bool.not_eq_true,← Bool.not_eq_true,zE0,zE0,zE0]
  unfold LtR;omega
theorem zPq {w0 w:World}{G:zC}{g cap:Nat}{cs:List Value}(l:List Row4)(hl:l.length≤1000000000000)(H:St w0 (cb g cs 275::G) w)(he:Els cs 4 l.length (rwl l))(hcl:l.length*4≤cs.length) :
  Calls Tryz.prog 231 [.slice (some ⟨g,0,none⟩) l.length cap,.func (.func 232) #[] #[]].toArray w (zi (zOO Row4.cells 4 cfE g 275 G cs.length l) w0) :=
 sortK layFE Tryz.isAgg275 Tryz.sizeOf275 Row4.cells (fun _=>rfl) Row4.cone cfE swoE (caps:=[]) (enters_of Tryz.func232 (by kernel_rfl) rfl) l hl H he hcl fun _ W x y _=>zUQ x y W
theorem zM5 {w:World}{a:Option Addr}{cap:Nat}{fv:Value}:Calls Tryz.prog 231 [.slice a 0 cap,fv].toArray w (Ret (.tuple #[]) w) :=
 Calls.mono (AnyF.slices_SortFunc_none layFE a cap fv w) fun _ _ ⟨h1,h2⟩=>⟨h1,h2 ▸ Cl.refl _⟩
theorem zM6 {l m n:List Row4}(hp:m.Perm l)(hs:m.Pairwise fun a b=>ltOf cfE b a=false)(hk:(l.map zAH).Nodup)(hn:n.Pairwise LtR)(he:∀ r,r∈n↔r∈l):m=n:=by
 have hk2:(m.map zAH).Nodup:=(hp.map _).nodup_iff.2 hk
 rw[List.nodup_iff_pairwise_ne,List.pairwise_map] at hk2
 have hm:m.Pairwise LtR:=(hs.and hk2).imp fun{a b} h=>by
  have h1:¬ LtR b a:=fun g=>by rw[(zE0 b a).2 g] at h;cases h.1
  have h2:=h.2
  unfold LtR at *
  unfold zAH at h2
  by_cases e:a.acct=b.acct
  ·have:a.asset≠b.asset:=fun e2=>h2 (by rw[e,e2])
   omega
  ·omega
 exact zHO LtR.irr LtR.asy hm hn fun r=>by rw[hp.mem_iff,he]
abbrev OdrS (s:Int):={ o:Odr // o.side=s }
instance (s:Int):Inhabited (OdrS s):=⟨⟨{ (default:Odr) with side:=s },rfl⟩⟩
def cfO (s:Int)(x y:OdrS s):Int:=zGi x.1 y.1
theorem zE1 {s:Int}(x y:OdrS s):ltOf (cfO s) x y=zAF x.1 y.1:=by
 unfold ltOf cfO
 rw[Bool.eq_iff_iff,decide_eq_true_eq,zR7]
theorem swoO (s:Int):SWO (ltOf (cfO s)) where
 irrefl x:=by rw[zE1];unfold zAF;simp
 trans x y z:=by
  rw[zE1,zE1,zE1]
  unfold zAF
  rw[x.2,y.2]
  by_cases hs:s=1
  ·simp only[if_pos hs];repeat' split
   all_goals simp only[decide_eq_true_eq];omega
  ·simp only[if_neg hs];repeat' split
   all_goals simp only[decide_eq_true_eq];omega
 ntrans x y z:=by
  rw[zE1,zE1,zE1]
  exact fun h k=>zIE z.2 y.2 x.2 k h
theorem zPr {w0 w:World}{G F:zC}{g cap:Nat}{cs:List Value}(l:List Odr)(s:Int)(h12:s=1∨s=2)(hside:∀ o∈l,o.side=s)(hl:l.length≤1000000000000)(H:St w0 (cb g cs 55::G) w)(he:Els cs 6 l.length (odl l))(hcl:l.length*6≤cs.length)(hF:Mem w0 F)(hP:PriM F) :
  Calls Tryz.prog 40 [.slice (some ⟨g,0,none⟩) l.length cap,.func (.func 41) #[] #[]].toArray w
   (zi (fun M v=>v=.tuple #[]∧∃ cs' m,M=cb g cs' 55::G∧cs'.length=cs.length∧m.Perm l∧m.Pairwise (fun a b=>zAF b a=false)∧Els cs' 6 m.length (odl m)) w0):=by
 obtain⟨l',hl'⟩:∃ l':List (OdrS s),l'.map (·.1)=l:=⟨l.pmap Subtype.mk hside,by rw[List.map_pmap];simp⟩
 have hlen:l'.length=l.length:=by rw[← hl',List.length_map]
 have hgd:∀ (q:List (OdrS s)) j,j<q.length→(q.getD j default).1=od_ (q.map (·.1)) j:=fun q j hj=>by
  simp[od_,List.getElem?_eq_getElem hj]
 have he':Els cs 6 l'.length fun j=>(l'.getD j default).1.cells:=by
  rw[hlen]
  exact he.congr fun j hj=>by show(od_ l j).cells=_;rw[hgd l' j qO,hl']
 have:=sortK (enc:=fun o:OdrS s=>o.1.cells) layFO Tryz.isAgg55 Tryz.sizeOf55 (k:=6) (fun _=>rfl) (fun x=>Odr.cone x.1) (cfO s) (swoO s) (f:=41) (caps:=[]) (cap:=cap) (enters_of Tryz.func41 (by kernel_rfl) rfl) l' qO H he' (by rw[hlen];exact hcl)
  (fun cs' W x y HW=>c_brow x.1 y.1 (by rw[x.2];exact h12) W (HW.memF hF) hP)
 rw[hlen] at this
 refine Calls.mono this ?_
 rintro e w' ⟨v,M,rfl,⟨rfl,cs',m,rfl,h1,h2,h3,h4⟩,h5⟩
 refine⟨_,_,rfl,⟨rfl,cs',m.map (·.1),rfl,h1,hl' ▸ h2.map _,?_,?_⟩,h5⟩
 ·rw[List.pairwise_map];exact h3.imp fun{a b} h=>by rw[zE1] at h;exact h
 ·rw[List.length_map]
  exact h4.congr fun j hj=>by show(m.getD j default).1.cells=(od_ _ j).cells;rw[hgd m j hj]
theorem zIL {w:World}{a:Option Addr}{cap:Nat}{fv:Value}:Calls Tryz.prog 40 [.slice a 0 cap,fv].toArray w (Ret (.tuple #[]) w) :=
 Calls.mono (AnyF.slices_SortFunc_none layFO a cap fv w) fun _ _ ⟨h1,h2⟩=>⟨h1,h2 ▸ Cl.refl _⟩
end
section
open Go Go.Sk Go.RowKit
attribute [local irreducible] Go.Calls
theorem ofS_no (i s:Int)(l:List Odr):(l.filter fun x=>!(x.inst != i||x.side != s))=l.filter (ofS i s):=by
 refine List.filter_congr fun x _=>?_
 unfold ofS
 simp[bne]
theorem SlA.nil {F:zC}{size:Nat}{a:Option Addr}{cap:Nat}{el:Nat→List Value}:SlA F size a 0 cap el:=⟨zzD _,zzD _,0,0,[],0,(0,0),fun h=>absurd h (Nat.lt_irrefl 0)⟩
theorem zUT {a:Option Addr}{cap:Nat}(l:List Odr)(i s:Int){F:zC}(w0:World)(hF:Mem w0 F)(hP:PriM F)(hs0:SlA F 6 a l.length cap (odl l)) :
  Calls Tryz.prog 20 [.slice a l.length cap,.int .i64 i,.int .u8 s].toArray w0 (zi (fun M v=>∃ a1 c1,v=.slice a1 (zB3 l i s).length c1∧SlA M 6 a1 (zB3 l i s).length c1 (odl (zB3 l i s))) w0):=by
 by_cases hm:ze l=true
 ·have hl:=(zAh.1 hm).1
  refine enter [.tmp 6] Tryz.func20 rfl Tryz.ntmps20 rfl rfl ?_
  have H:=zA w0
  repeat' (first|refine yT ?_|(refine y9 H ?_;intro b w H)|(refine' y30 zCd ?_ ?_;rotate_left;exact zAk l _ (H.memF hF) hs0;refine Go.Sk.w2 H ?_;clear H;intro w H)|(refine' y32 zQY ?_ ?_;rotate_left;exact zFi _ (H.memF hF) hs0 (fun j _=>Odr.cone _) (fun j _=>rfl) qO;intro v M w hR hS;replace H:=H.addR hS;clear hS;(try simp only[List.cons_append,List.nil_append] at H);obtain⟨a',cap',rfl,hO⟩:=hR)|refine yU ?_|(refine y23 ?_ ?_;all_goals(intro h;try (exfalso;first|((rw[hm] at h;cases h);done))))|fail)
  rcases Nat.eq_zero_or_pos l.length with h0|h0
  ·obtain rfl:=List.length_eq_zero_iff.1 h0
   have e:zB3 [] i s=[]:=List.perm_nil.1 (zB4 (l:=[]) hm)
   repeat' (first|refine yT ?_|(refine' y30 ent37 ?_ ?_;rotate_left;exact zPP (a:=a') (cap:=cap') (caps:=[.pointer (some ⟨_,0,none⟩),.pointer (some ⟨_,0,none⟩)]) ent39;refine Go.Sk.w2 H ?_;clear H;intro w H)|(refine' y30 zQZ ?_ ?_;rotate_left;exact zIL (a:=a') (cap:=cap');refine Go.Sk.w2 H ?_;clear H;intro w H)|refine yU ?_|fail)
   exact zS (M:=[]) rfl (H.sub (zz9 _)) ⟨a',cap',by rw[e];rfl,by rw[e];exact SlA.nil⟩
  ·obtain⟨g,cs,rfl,rfl,hnc,he⟩:=hO.els h0 (fun j _=>rfl)
   clear hO
   replace H:=H.perm (List.perm_append_comm (l₁:=[_,_]) (l₂:=[_]))
   simp only[List.cons_append,List.nil_append] at H
   repeat' (first|refine yT ?_|(refine za rfl rfl (En.fn ent37 rfl rfl) (zPN (n:=l.length) (d:=od_ l) (caps:=[.pointer (some ⟨_,0,none⟩),.pointer (some ⟨_,0,none⟩)]) (fun j=>(od_ l j).inst != i||(od_ l j).side != s) H he qO hnc ent39 (fun j hj L cs' w' H'=>zUO (od_ l j) i s _ _ w' H'.mem (zz3 _ (zz5 _ (zz5 _ (zz2 _)))) (zz3 _ (zz5 _ (zz2 _))))) ?_;rintro _ _ w ⟨rfl,cs2,rfl,hl2,he2⟩ H2;clear H;have H:=H2;clear H2)|refine yU ?_|fail)
   obtain⟨hk1,hk2⟩:=zG3 l (fun x=>x.inst != i||x.side != s) default
   rw[ofS_no] at hk1 hk2
   have hk1':(kp (fun j=>(od_ l j).inst != i||(od_ l j).side != s) l.length).length=(l.filter (ofS i s)).length:=hk1
   rw[hk1'] at he2 ⊢
   replace he2:Els cs2 6 (l.filter (ofS i s)).length (odl (l.filter (ofS i s))):=he2.congr fun t ht=>by
    have:=hk2 t ht
    show(zCH _ l.length (od_ l) t).cells=(od_ _ t).cells
    exact congrArg Odr.cells this
   obtain⟨m,hmm⟩:∃ m,l.filter (ofS i s)=m:=⟨_,rfl⟩
   have hperm:=zB4 (i:=i) (s:=s) hm
   have hside:∀ o∈m,o.side=s:=by rw[← hmm];exact zC7
   have hmem:∀ o∈m,o∈l:=by rw[← hmm];exact fun o ho=>(List.mem_filter.1 ho).1
   have hml:m.length≤l.length:=by rw[← hmm];exact List.length_filter_le _ _
   have hun:=fun n=>zPk (m:=n) (i:=i) (s:=s) hm
   rw[hmm] at hperm he2 hun ⊢
   have hcl:l.length*6≤cs.length:=by
    have:=(he (l.length - 1) qO).1
    omega
   rcases Nat.eq_zero_or_pos m.length with h1|h1
   ·obtain rfl:=List.length_eq_zero_iff.1 h1
    have e:zB3 l i s=[]:=List.perm_nil.1 hperm
    repeat' (first|refine yT ?_|(refine' y30 zQZ ?_ ?_;rotate_left;exact zIL (a:=some ⟨g,0,none⟩) (cap:=cap');refine Go.Sk.w2 H ?_;clear H;intro w H)|refine yU ?_|fail)
    exact zS (M:=[]) rfl (H.sub (zz9 _)) ⟨_,cap',by rw[e],by rw[e];exact SlA.nil⟩
   ·have h12:s=1∨s=2:=by
     have ho:od_ m 0∈m:=zz _ h1
     rw[← hside _ ho]
     exact((zAO.1 hm).2.1 _ (hmem _ ho)).2.2.2.1
    repeat' (first|refine yT ?_|(refine za rfl rfl (En.fn zQZ rfl rfl) (zPr m s h12 hside qO H he2 qO hF hP) ?_;rintro _ _ w ⟨rfl,cs3,n,rfl,hl3,hp3,hs3,he3⟩ H2;clear H;have H:=H2;clear H2)|refine yU ?_|fail)
    obtain⟨rfl,_⟩:=hun n hp3 hs3
    rw[hp3.length_eq] at he3
    refine zS (M:=[cb g cs3 55]) rfl (H.sub (List.Sublist.cons_cons _ (zz9 _))) ⟨some ⟨g,0,none⟩,cap',by rw[hp3.length_eq],?_⟩
    rw[hp3.length_eq]
    exact⟨by omega,by omega,g,0,cs3,_,(0,0),he3.slb (zz2 _)⟩
 ·have hm:ze l=false:=by simpa using hm
  have e:zB3 l i s=[]:=by unfold zB3;rw[hm];rfl
  refine enter [.tmp 6] Tryz.func20 rfl Tryz.ntmps20 rfl rfl ?_
  have H:=zA w0
  repeat' (first|refine yT ?_|(refine y9 H ?_;intro b w H)|(refine' y30 zCd ?_ ?_;rotate_left;exact zAk l _ (H.memF hF) hs0;refine Go.Sk.w2 H ?_;clear H;intro w H)|refine yU ?_|(refine y23 ?_ ?_;all_goals(intro h;try (exfalso;first|((rw[hm] at h;cases h);done))))|fail)
  exact zS (M:=[]) rfl (H.sub (zz9 _)) ⟨none,0,by rw[e];rfl,by rw[e];exact SlA.nil⟩
theorem zOP {a:Option Addr}{cap:Nat}(l:List Odr)(i s:Int){F:zC}(w0:World)(hF:Mem w0 F)(hP:PriM F)(hs0:SlA F 6 a l.length cap (odl l)) :
  Calls Tryz.prog 96 [.slice a l.length cap,.int .i64 i,.int .u8 s].toArray w0 (Ret (.tuple #[.agg (zA9 l i s).1.cells.toArray,.bool (zA9 l i s).2]) w0):=by
 have hf:=zEL (l:=l) (i:=i) (s:=s)
 refine enter [.cell 6 55,.tmp 7] Tryz.func96 rfl Tryz.ntmps96 rfl rfl ?_
 have H:=zA w0
 repeat' (first|refine yT ?_|(refine y10 sg H ?_;intro b w H)|(refine' y32 ent20 ?_ ?_;rotate_left;exact zUT l i s _ (H.memF hF) hP hs0;intro v M w hR hS;replace H:=H.addR hS;clear hS;(try simp only[List.cons_append,List.nil_append] at H);obtain⟨a1,c1,rfl,hs1⟩:=hR)|refine yU ?_|fail)
 generalize zB3 l i s=m at hf hs1 ⊢
 cases m with
 | nil =>
   repeat' (first|refine yT ?_|(refine y11 sg H ?_;intro w H)|refine yU ?_|fail)
   refine zA5 (vs:=[_,_]) ⟨zy sg rfl H.mem qB rfl rfl,zb rfl,trivial⟩ H.cl ?_
   rw[hf];rfl
 | cons o m =>
   obtain⟨hn,hc,b0,off,cs,T,fr,hs⟩:=hs1
   have hln:(o::m).length=m.length+1:=rfl
   have d1:(((o::m).length:Int)==0)=false:=beq_eq_false_iff_ne.2 qO
   repeat' (first|refine yT ?_|(refine y11 sg H ?_;intro w H)|refine x40 sg hs ?_|refine x42 sg hs (H.mem.sub qS) ?_|refine yU ?_|fail)
   refine zA5 (vs:=[_,_]) ⟨zy sg rfl H.mem qB rfl rfl,zb rfl,trivial⟩ H.cl ?_
   rw[hf];rfl
theorem zPs {w0 w:World}{g n cap i:Nat}{j:Int}{G:zC}{cs:List Value}{el:Nat→List Value}(H:St w0 (cb g cs 55::G) w)(he:Els cs 6 n el)(hel:∀ j,j<n→(el j).length=6)(h1:∀ j,j<n→∀ u∈el j,u.oneCell'=true)(hi:i<n)(hj:j=((i+1:Nat):Int))(hn:n≤1000000)(hnc:n≤cap) :
  Calls Tryz.prog 211 [.slice (some ⟨g,0,none⟩) n cap,.int .i64 (i:Int),.int .i64 j].toArray w
   (zi (fun M v=>v=.slice (some ⟨g,0,none⟩) (n - 1) cap∧∃ cs',M=cb g cs' 55::G∧cs'.length=cs.length∧Els cs' 6 (n - 1) (fun j=>if j<i then el j else el (j+1))) w0):=by
 subst hj
 have d1:(((i:Nat):Int)==((i+1:Nat):Int))=false:=beq_eq_false_iff_ne.2 qO
 have hcut:=he.cut hel hi
 have hlast:=(he (n - 1) qO).1
 have hX:i+(n - (i+1))=n - 1:=by omega
 have hsl:SlB [cb g cs 55] 6 (some ⟨g,0+(i+1)*6,none⟩) (n - (i+1)) g (0+(i+1)*6) cs 55 (0,0) (fun t=>el (i+1+t)):=fun _=>⟨rfl,zz2 _,fun t ht=>by
  have:=he (i+1+t) qO
  rw[show 0+(i+1)*6+t*6=(i+1+t)*6 by omega];exact this⟩
 have hfl:((List.range (n - (i+1))).flatMap fun t=>el (i+1+t)).length=(n - (i+1))*6:=Go.Sk.flat_len _ fun t ht=>hel _ qO
 have hsrc:∀ w,Mem w (cb g cs 55::G)→Src w (.slice (if cap=i+1 then(some ⟨g,0,none⟩:Option Addr) else Option.map (fun x:Addr=>x.add ((i+1)*6)) (some ⟨g,0,none⟩)) (n - (i+1)) (cap - (i+1))) (n - (i+1)) ((List.range (n - (i+1))).flatMap fun t=>el (i+1+t)):=by
  intro w hM
  by_cases h:cap=i+1
  ·have h0:n - (i+1)=0:=by omega
   rw[if_pos h,h0]
   exact .inl ⟨_,_,rfl,fun j u hj=>by cases hj⟩
  ·rw[if_neg h,Option.map_some,zAC]
   exact zGc hsl (fun t ht=>hel _ qO) (hM.sub (by intro p hp;rw[List.mem_singleton] at hp;exact hp ▸ zz2 _))
 have hfit:i*6+((List.range (n - (i+1))).flatMap fun t=>el (i+1+t)).length≤cs.length:=by rw[hfl];omega
 have hwl:=zBt hfit
 refine enter [.tmp 6] Tryz.func211 rfl Tryz.ntmps211 rfl rfl ?_
 repeat' (first|refine yT ?_|refine y12 ?_|refine z13 (Yq.sliceLHM sg rfl rfl rfl rfl rfl rfl rfl rfl qO qO qO qO) ?_|(refine CW.regionR mixed ?_;refine Go.Sk.w2 H ?_;clear H;intro w H;(with_reducible apply RW.quiet 6);exact rfl;decide +kernel;simp only[List.append_eq,List.cons_append,List.nil_append,List.take_succ_cons,List.take_zero,List.drop_zero])|((with_reducible apply zT);exact rfl;exact rfl;exact Yq.sliceHi sg rfl rfl rfl rfl rfl rfl (zz1 _) qO qO)|((with_reducible apply zT);exact rfl;exact rfl;exact Yq.sliceLo sg rfl rfl rfl rfl rfl rfl (zz1 _) qO qO)|(refine OX.appendR sg 6 H rfl rfl rfl rfl rfl rfl rfl rfl rfl (hsrc _ H.mem) hfl (zEs fun t ht=>h1 _ qO) qO hfit ?_;clear H;intro w H;rw[hX])|refine z13 (Yq.sliceLH sg rfl rfl rfl rfl rfl rfl rfl (zz1 _) (zz1 _) qO qO qO qO) ?_|(refine OX.clearP sg H qO rfl rfl rfl rfl rfl rfl rfl rfl rfl (by rw[hwl];show 0+(n - 1)*6+(n - (n - 1))*6≤_;omega) ?_;clear H;intro cs3 w hl3 hk3 H)|refine yU ?_|(with_reducible apply zO;refine Go.Sk.w2 H ?_;clear H;intro w H)|(refine y23 ?_ ?_;all_goals(intro h;try (exfalso;first|((rw[d1] at h;cases h);done))))|fail)
 exact zq (vs:=[_]) (M:=_) ⟨zb rfl,trivial⟩ H ⟨rfl,cs3,rfl,hl3.trans hwl,hcut.keep (zzC _) hl3 (fun q hq=>hk3 q (by show q<0+(n - 1)*6;omega))⟩
theorem zPt {w0 w:World}{g n cap i:Nat}{j:Int}{G:zC}{cs:List Value}{el:Nat→List Value}(H:St w0 (cb g cs 67::G) w)(he:Els cs 9 n el)(hel:∀ j,j<n→(el j).length=9)(h1:∀ j,j<n→∀ u∈el j,u.oneCell'=true)(hi:i<n)(hj:j=((i+1:Nat):Int))(hn:n≤1000000)(hnc:n≤cap) :
  Calls Tryz.prog 214 [.slice (some ⟨g,0,none⟩) n cap,.int .i64 (i:Int),.int .i64 j].toArray w
   (zi (fun M v=>v=.slice (some ⟨g,0,none⟩) (n - 1) cap∧∃ cs',M=cb g cs' 67::G∧cs'.length=cs.length∧Els cs' 9 (n - 1) (fun j=>if j<i then el j else el (j+1))) w0):=by
 subst hj
 have d1:(((i:Nat):Int)==((i+1:Nat):Int))=false:=beq_eq_false_iff_ne.2 qO
 have hcut:=he.cut hel hi
 have hlast:=(he (n - 1) qO).1
 have hX:i+(n - (i+1))=n - 1:=by omega
 have hsl:SlB [cb g cs 67] 9 (some ⟨g,0+(i+1)*9,none⟩) (n - (i+1)) g (0+(i+1)*9) cs 67 (0,0) (fun t=>el (i+1+t)):=fun _=>⟨rfl,zz2 _,fun t ht=>by
  have:=he (i+1+t) qO
  rw[show 0+(i+1)*9+t*9=(i+1+t)*9 by omega];exact this⟩
 have hfl:((List.range (n - (i+1))).flatMap fun t=>el (i+1+t)).length=(n - (i+1))*9:=Go.Sk.flat_len _ fun t ht=>hel _ qO
 have hsrc:∀ w,Mem w (cb g cs 67::G)→Src w (.slice (if cap=i+1 then(some ⟨g,0,none⟩:Option Addr) else Option.map (fun x:Addr=>x.add ((i+1)*9)) (some ⟨g,0,none⟩)) (n - (i+1)) (cap - (i+1))) (n - (i+1)) ((List.range (n - (i+1))).flatMap fun t=>el (i+1+t)):=by
  intro w hM
  by_cases h:cap=i+1
  ·have h0:n - (i+1)=0:=by omega
   rw[if_pos h,h0]
   exact .inl ⟨_,_,rfl,fun j u hj=>by cases hj⟩
  ·rw[if_neg h,Option.map_some,zAC]
   exact zGc hsl (fun t ht=>hel _ qO) (hM.sub (by intro p hp;rw[List.mem_singleton] at hp;exact hp ▸ zz2 _))
 have hfit:i*9+((List.range (n - (i+1))).flatMap fun t=>el (i+1+t)).length≤cs.length:=by rw[hfl];omega
 have hwl:=zBt hfit
 refine enter [.tmp 6] Tryz.func214 rfl Tryz.ntmps214 rfl rfl ?_
 repeat' (first|refine yT ?_|refine y12 ?_|refine z13 (Yq.sliceLHM sg rfl rfl rfl rfl rfl rfl rfl rfl qO qO qO qO) ?_|(refine CW.regionR mixed ?_;refine Go.Sk.w2 H ?_;clear H;intro w H;(with_reducible apply RW.quiet 6);exact rfl;decide +kernel;simp only[List.append_eq,List.cons_append,List.nil_append,List.take_succ_cons,List.take_zero,List.drop_zero])|((with_reducible apply zT);exact rfl;exact rfl;exact Yq.sliceHi sg rfl rfl rfl rfl rfl rfl (zz1 _) qO qO)|((with_reducible apply zT);exact rfl;exact rfl;exact Yq.sliceLo sg rfl rfl rfl rfl rfl rfl (zz1 _) qO qO)|(refine OX.appendR sg 9 H rfl rfl rfl rfl rfl rfl rfl rfl rfl (hsrc _ H.mem) hfl (zEs fun t ht=>h1 _ qO) qO hfit ?_;clear H;intro w H;rw[hX])|refine z13 (Yq.sliceLH sg rfl rfl rfl rfl rfl rfl rfl (zz1 _) (zz1 _) qO qO qO qO) ?_|(refine OX.clearP sg H qO rfl rfl rfl rfl rfl rfl rfl rfl rfl (by rw[hwl];show 0+(n - 1)*9+(n - (n - 1))*9≤_;omega) ?_;clear H;intro cs3 w hl3 hk3 H)|refine yU ?_|(with_reducible apply zO;refine Go.Sk.w2 H ?_;clear H;intro w H)|(refine y23 ?_ ?_;all_goals(intro h;try (exfalso;first|((rw[d1] at h;cases h);done))))|fail)
 exact zq (vs:=[_]) (M:=_) ⟨zb rfl,trivial⟩ H ⟨rfl,cs3,rfl,hl3.trans hwl,hcut.keep (zzC _) hl3 (fun q hq=>hk3 q (by show q<0+(n - 1)*9;omega))⟩
theorem zA4 {α:Type}(f:α→List Value)(l:List α)(d:α):((List.range l.length).flatMap fun j=>f (l.getD j d))=l.flatMap f:=by
 have:∀ k,k≤l.length→((List.range k).flatMap fun j=>f (l.getD j d))=(l.take k).flatMap f:=by
  intro k
  induction k with
  | zero=>intro _;rfl
  | succ k ih =>
    intro hk
    rw[List.range_succ,List.flatMap_append,ih qO,List.flatMap_singleton,List.take_succ_eq_append_getElem qO,List.flatMap_append,List.flatMap_singleton]
    simp[List.getElem?_eq_getElem (show k<l.length by omega)]
 rw[this _ (Nat.le_refl _),List.take_length]
theorem zFk {α β:Type}{f g:α→List β}:∀ {l:List α},(∀ x∈l,f x=g x)→l.flatMap f=l.flatMap g
 | [],_=>rfl
 | a::l,h=>by rw[List.flatMap_cons,List.flatMap_cons,h a (List.Mem.head _),zFk fun x hx=>h x (List.Mem.tail _ hx)]
def zSR (r:List Odr × Int)(M:zC)(v:Value):Prop:=∃ a1 c1,v=.tuple #[.slice a1 r.1.length c1,.int .i64 r.2]∧SlA M 6 a1 r.1.length c1 (odl r.1)
theorem Src.full {w:World}{size n:Nat}{a:Option Addr}{xs:List Value}{cap:Nat}(h:Src w (.slice a n cap) n xs)(hl:xs.length=n*size):Full w size a n xs:=by
 refine⟨hl,fun h0=>?_⟩
 rcases h with ⟨b,c,e,hb⟩|⟨c,e,h⟩
 ·cases e;exact⟨b,rfl,hb⟩
 ·omega
theorem c_Add_ {a:Option Addr}{cap:Nat}(l:List Odr)(o:Odr){F:zC}(w0:World)(hF:Mem w0 F)(hs0:SlA F 6 a l.length cap (odl l)) :
  Calls Tryz.prog 170 [.slice a l.length cap,.agg o.cells.toArray].toArray w0 (zi (zSR (zEp l o)) w0):=by
 by_cases hg:ze l=true∧zw o=true
 ·obtain⟨hm,ho⟩:=hg
  have hl:=(zAh.1 hm).1
  have hr:=zKK hm
  obtain⟨i,hi⟩:=zSM l hr o.id
  have hfa:=zLe hm hi
  have hs1:=hs0
  obtain⟨hn,hc,b0,off,cs,T,fr,hs⟩:=hs1
  cases hb:(decide (i<l.length)&&(od_ l i).id==o.id) with
  | true =>
    have e:zEp l o=([],6):=by unfold zEp;rw[if_pos ⟨hm,ho⟩,hfa,if_pos hb];rfl
    have hp:=fun w h1=>zFL l o.id qO hr i hi (F:=F) w h1 hs0
    rw[hb] at hp
    refine enter [.tmp 4,.tmp 5] Tryz.func170 rfl Tryz.ntmps170 rfl rfl ?_
    have H:=zA w0
    repeat' (first|refine yT ?_|refine y7 sg H ?_|(refine y9 H ?_;intro b w H)|(refine' y30 zCd ?_ ?_;rotate_left;exact zAk l _ (H.memF hF) hs0;refine Go.Sk.w2 H ?_;clear H;intro w H)|(refine' y30 zEW ?_ ?_;rotate_left;exact zBM o _;refine Go.Sk.w2 H ?_;clear H;intro w H)|(refine' y30 zGy ?_ ?_;rotate_left;exact hp _ (H.memF hF);refine Go.Sk.w2 H ?_;clear H;intro w H)|refine yU ?_|((first|refine y17 ?_ ?_|refine y23 ?_ ?_);all_goals(intro h;try (exfalso;first|((rw[hm] at h;cases h);done)|((rw[ho] at h;cases h);done)|((exact absurd h (by decide));done))))|with_reducible apply zB|fail)
    exact zCW (M:=[]) rfl rfl (H.sub (zz9 _)) ⟨none,0,by rw[e];rfl,by rw[e];exact SlA.nil⟩
  | false =>
    have hp:=fun w h1=>zFL l o.id qO hr i hi (F:=F) w h1 hs0
    rw[hb] at hp hfa
    rw[if_neg (by decide)] at hfa
    by_cases h128:l.length=128
    ·have e:zEp l o=([],40):=by unfold zEp;rw[if_pos ⟨hm,ho⟩,hfa,if_neg (by decide),if_pos h128]
     have d1:((l.length:Int)==128)=true:=by rw[h128];rfl
     refine enter [.tmp 4,.tmp 5] Tryz.func170 rfl Tryz.ntmps170 rfl rfl ?_
     have H:=zA w0
     repeat' (first|refine yT ?_|refine y7 sg H ?_|(refine y9 H ?_;intro b w H)|(refine' y30 zCd ?_ ?_;rotate_left;exact zAk l _ (H.memF hF) hs0;refine Go.Sk.w2 H ?_;clear H;intro w H)|(refine' y30 zEW ?_ ?_;rotate_left;exact zBM o _;refine Go.Sk.w2 H ?_;clear H;intro w H)|(refine' y30 zGy ?_ ?_;rotate_left;exact hp _ (H.memF hF);refine Go.Sk.w2 H ?_;clear H;intro w H)|refine yU ?_|((first|refine y17 ?_ ?_|refine y23 ?_ ?_);all_goals(intro h;try (exfalso;first|((rw[hm] at h;cases h);done)|((rw[ho] at h;cases h);done)|((exact absurd h (by decide));done)|((rw[d1] at h;cases h);done))))|with_reducible apply zB|fail)
     exact zCW (M:=[]) rfl rfl (H.sub (zz9 _)) ⟨none,0,by rw[e];rfl,by rw[e];exact SlA.nil⟩
    ·have hno:i<l.length→(od_ l i).id≠o.id:=fun hil he=>by
      rw[Bool.and_eq_false_iff] at hb
      rcases hb with h|h
      ·exact absurd hil (zzB h)
      ·rw[he] at h;simp at h
     obtain⟨f1,f2⟩:=zPp hr hi hno
     have e:zEp l o=(l.take i++o::l.drop i,0):=by unfold zEp;rw[if_pos ⟨hm,ho⟩,hfa,if_neg (by decide),if_neg h128,f1,f2]
     have d1:((l.length:Int)==128)=false:=beq_eq_false_iff_ne.2 qO
     have hil:i≤l.length:=hi.1
     have hpre:∀ w,Mem w F→Full w 6 a i ((List.range i).flatMap (odl l)):=fun w hM=>by
      have hsp:SlB F 6 a i b0 off cs T fr (odl l):=fun h0=>⟨(hs qO).1,(hs qO).2.1,fun j hj=>(hs qO).2.2 j qO⟩
      exact Src.full (zGc (cap:=i) hsp (fun j _=>rfl) hM) (zC1 fun j _=>rfl)
     have hsuf:∀ w,Mem w F→Src w (.slice (if cap=i then a else a.map (·.add (i*6))) (l.length - i) (cap - i)) (l.length - i) ((List.range (l.length - i)).flatMap fun t=>odl l (i+t)):=fun w hM=>by
      by_cases h0:i<l.length
      ·obtain⟨rfl,hmm,hel⟩:=hs qO
       rw[if_neg qO,Option.map_some,zAC]
       refine zGc (size:=6) (n:=l.length - i) (el:=fun t=>odl l (i+t)) (F:=F) (b:=b0) (off:=off+i*6) (cs:=cs) (T:=T) (fr:=fr) (fun _=>⟨rfl,hmm,fun t ht=>?_⟩) (fun _ _=>rfl) hM
       have:=hel (i+t) qO
       rw[show off+i*6+t*6=off+(i+t)*6 by omega];exact this
      ·have hz:l.length - i=0:=by omega
       rw[hz]
       cases (if cap=i then a else a.map (·.add (i*6))) with
       | none=>exact .inr ⟨_,rfl,rfl⟩
       | some x=>exact .inl ⟨x,_,rfl,fun j u hj=>by cases hj⟩
     have hcells:(List.range i).flatMap (odl l)++o.cells++((List.range (l.length - i)).flatMap fun t=>odl l (i+t))=(List.range (l.take i++o::l.drop i).length).flatMap (odl (l.take i++o::l.drop i)):=by
      have h1:=zA4 Odr.cells (l.take i++o::l.drop i) default
      have h2:=zA4 Odr.cells (l.take i) default
      have h3:=zA4 Odr.cells (l.drop i) default
      rw[List.length_take,Nat.min_eq_left hil] at h2
      rw[List.length_drop] at h3
      have h4:(List.range i).flatMap (odl l)=(l.take i).flatMap Odr.cells:=by
       rw[← h2]
       exact zFk fun j hj=>by
        have:=List.mem_range.1 hj
        show(od_ l j).cells=_
        rw[show(l.take i).getD j default=od_ l j by simp[od_,List.getElem?_take,this]]
      have h5:((List.range (l.length - i)).flatMap fun t=>odl l (i+t))=(l.drop i).flatMap Odr.cells:=by
       rw[← h3]
       exact zFk fun j hj=>by
        show(od_ l (i+j)).cells=_
        rw[show(l.drop i).getD j default=od_ l (i+j) by simp[od_]]
      rw[h4,h5]
      refine Eq.trans ?_ h1.symm
      simp[List.flatMap_append,List.flatMap_cons]
     refine enter [.tmp 4,.tmp 5] Tryz.func170 rfl Tryz.ntmps170 rfl rfl ?_
     have H:=zA w0
     repeat' (first|refine yT ?_|refine y7 sg H ?_|(refine y9 H ?_;intro b w H)|(refine' y30 zCd ?_ ?_;rotate_left;exact zAk l _ (H.memF hF) hs0;refine Go.Sk.w2 H ?_;clear H;intro w H)|(refine' y30 zEW ?_ ?_;rotate_left;exact zBM o _;refine Go.Sk.w2 H ?_;clear H;intro w H)|(refine' y30 zGy ?_ ?_;rotate_left;exact hp _ (H.memF hF);refine Go.Sk.w2 H ?_;clear H;intro w H)|(refine zA2 mixed 13 ?_ ?_;exact rfl;refine Go.Sk.w2 H ?_;clear H;intro w H)|((with_reducible apply zEg);decide +kernel)|(refine' z8 0 ?_ ?_;rotate_left;first|exact z9 sg|exact(fun w=>Yq.sliceHM sg rfl rfl rfl rfl rfl rfl rfl (zz1 _) qO qO)|exact(fun w=>Yq.sliceLo sg rfl rfl rfl rfl rfl rfl (zz1 _) qO qO))|(refine' z8 1 ?_ ?_;rotate_left;first|exact z9 sg|exact(fun w=>Yq.sliceHM sg rfl rfl rfl rfl rfl rfl rfl (zz1 _) qO qO)|exact(fun w=>Yq.sliceLo sg rfl rfl rfl rfl rfl rfl (zz1 _) qO qO))|(refine' z8 2 ?_ ?_;rotate_left;first|exact z9 sg|exact(fun w=>Yq.sliceHM sg rfl rfl rfl rfl rfl rfl rfl (zz1 _) qO qO)|exact(fun w=>Yq.sliceLo sg rfl rfl rfl rfl rfl rfl (zz1 _) qO qO))|(refine' z8 3 ?_ ?_;rotate_left;first|exact z9 sg|exact(fun w=>Yq.sliceHM sg rfl rfl rfl rfl rfl rfl rfl (zz1 _) qO qO)|exact(fun w=>Yq.sliceLo sg rfl rfl rfl rfl rfl rfl (zz1 _) qO qO))|(refine' z8 7 ?_ ?_;rotate_left;first|exact z9 sg|exact(fun w=>Yq.sliceHM sg rfl rfl rfl rfl rfl rfl rfl (zz1 _) qO qO)|exact(fun w=>Yq.sliceLo sg rfl rfl rfl rfl rfl rfl (zz1 _) qO qO))|(refine' z8 8 ?_ ?_;rotate_left;first|exact z9 sg|exact(fun w=>Yq.sliceHM sg rfl rfl rfl rfl rfl rfl rfl (zz1 _) qO qO)|exact(fun w=>Yq.sliceLo sg rfl rfl rfl rfl rfl rfl (zz1 _) qO qO))|(refine' z8 9 ?_ ?_;rotate_left;first|exact z9 sg|exact(fun w=>Yq.sliceHM sg rfl rfl rfl rfl rfl rfl rfl (zz1 _) qO qO)|exact(fun w=>Yq.sliceLo sg rfl rfl rfl rfl rfl rfl (zz1 _) qO qO))|refine z10 4 ?_|refine z10 5 ?_|refine z10 6 ?_|refine z10 10 ?_|refine z10 11 ?_|refine z10 12 ?_|((with_reducible apply OX.buildA sg H);(iterate 12 exact rfl);intro b w H _)|(refine OX.appendF sg 6 48 (k:=i) (xs:=(List.range i).flatMap (odl l)) (news:=o.cells) (m:=1) H rfl rfl rfl rfl rfl rfl rfl rfl rfl rfl rfl (hpre _ (H.memF hF)) (zAL H.mem (zz2 _)) qO rfl (Odr.cone o) (by unfold maxLen;omega) qO ?_;intro a1 c1 M1 w O1 H)|(refine zj sg 6 48 (M:=M1) (m:=l.length - i) H rfl rfl rfl rfl rfl rfl rfl rfl rfl rfl rfl O1 (hsuf _ (H.memF hF)) (zC1 fun _ _=>rfl) (zEs fun j _=>Odr.cone _) (by unfold maxLen;omega) qO ?_;clear H O1;intro a2 c2 M2 w O2 H)|refine yU ?_|((first|refine y17 ?_ ?_|refine y23 ?_ ?_);all_goals(intro h;try (exfalso;first|((rw[hm] at h;cases h);done)|((rw[ho] at h;cases h);done)|((exact absurd h (by decide));done)|((rw[d1] at h;cases h);done))))|with_reducible apply zB|fail)
     have hlen:(l.take i++o::l.drop i).length=i+1+(l.length - i):=by simp[Nat.min_eq_left hil];omega
     rw[hcells,← hlen] at O2
     refine zCW (M:=M2) rfl rfl (H.sub (List.sublist_append_left _ _)) ⟨a2,c2,by rw[e,← hlen],?_⟩
     rw[e]
     exact O2.sl (fun _ h=>h) (fun _ _=>rfl) (by rw[hlen];omega)
 ·have e:zEp l o=([],4):=by unfold zEp;rw[if_neg hg]
  refine enter [.tmp 4,.tmp 5] Tryz.func170 rfl Tryz.ntmps170 rfl rfl ?_
  have H:=zA w0
  repeat' (first|refine yT ?_|refine y7 sg H ?_|(refine y9 H ?_;intro b w H)|(refine' y30 zCd ?_ ?_;rotate_left;exact zAk l _ (H.memF hF) hs0;refine Go.Sk.w2 H ?_;clear H;intro w H)|(refine' y30 zEW ?_ ?_;rotate_left;exact zBM o _;refine Go.Sk.w2 H ?_;clear H;intro w H)|refine yU ?_|((first|refine y17 ?_ ?_|refine y23 ?_ ?_);all_goals(intro h;try (exfalso;first|((exact hg ⟨by simpa using h_1,by simpa using h⟩);done))))|fail)
  all_goals first
   | exact zCW (M:=[]) rfl rfl (H.sub (zz9 _)) ⟨none,0,by rw[e];rfl,by rw[e];exact SlA.nil⟩
   | (exfalso;simp_all;done)
theorem zKM {l:List Odr}{x:Odr}{k j:Nat}(hk:k<l.length):od_ (l.set k x) j=if j=k then x else od_ l j:=by
 unfold od_
 simp only[List.getD_eq_getElem?_getD,List.getElem?_set]
 by_cases h:j=k
 ·subst h;simp[hk]
 ·simp[h,Ne.symm h]
theorem zSS {l:List Odr}{k j:Nat}:od_ (l.eraseIdx k) j=if j<k then od_ l j else od_ l (j+1):=by
 unfold od_
 simp only[List.getD_eq_getElem?_getD,List.getElem?_eraseIdx]
 split<;>rfl
theorem zHR {a:Option Addr}{cap:Nat}(l:List Odr)(id q:Int){F:zC}(w0:World)(hF:Mem w0 F)(hs0:SlA F 6 a l.length cap (odl l)) :
  Calls Tryz.prog 174 [.slice a l.length cap,.int .i64 id,.int .i64 q].toArray w0 (zi (zSR (zAs l id q)) w0):=by
 by_cases hm:ze l=true
 ·have hl:=(zAh.1 hm).1
  have hr:=zKK hm
  obtain⟨i,hi⟩:=zSM l hr id
  have hfa:=zLe hm hi
  have hs1:=hs0
  obtain⟨hn,hc,b0,off,cs,T,fr,hs⟩:=hs1
  cases hb:(decide (i<l.length)&&(od_ l i).id==id) with
  | false =>
    have hp:=fun w h1=>zFL l id qO hr i hi (F:=F) w h1 hs0
    rw[hb] at hp hfa
    rw[if_neg (by decide)] at hfa
    have e:zAs l id q=([],5):=by unfold zAs;rw[if_pos hm,hfa];rfl
    refine enter [.tmp 6,.tmp 7] Tryz.func174 rfl Tryz.ntmps174 rfl rfl ?_
    have H:=zA w0
    repeat' (first|refine yT ?_|(refine' y30 zCd ?_ ?_;rotate_left;exact zAk l _ (H.memF hF) hs0;refine Go.Sk.w2 H ?_;clear H;intro w H)|(refine' y30 zGy ?_ ?_;rotate_left;exact hp _ (H.memF hF);refine Go.Sk.w2 H ?_;clear H;intro w H)|refine yU ?_|with_reducible apply zB|(refine y23 ?_ ?_;all_goals(intro h;try (exfalso;first|((rw[hm] at h;cases h);done)|((exact absurd h (by decide));done))))|fail)
    exact zCW (M:=[]) rfl rfl (H.sub (zz9 _)) ⟨none,0,by rw[e];rfl,by rw[e];exact SlA.nil⟩
  | true =>
    have hp:=fun w h1=>zFL l id qO hr i hi (F:=F) w h1 hs0
    rw[hb] at hp hfa
    rw[if_pos rfl] at hfa
    rw[Bool.and_eq_true,decide_eq_true_eq,beq_iff_eq] at hb
    obtain⟨hil,rfl⟩:=hb
    have hmo:=(zAO.1 hm).2.1 _ (show od_ l i∈l from zz _ hil)
    by_cases hq:q<1∨q>(od_ l i).left
    ·have e:zAs l (od_ l i).id q=([],1):=by unfold zAs;rw[if_pos hm,hfa,if_pos rfl,if_pos hq]
     refine enter [.tmp 6,.tmp 7] Tryz.func174 rfl Tryz.ntmps174 rfl rfl ?_
     have H:=zA w0
     repeat' (first|refine yT ?_|(refine' y30 zCd ?_ ?_;rotate_left;exact zAk l _ (H.memF hF) hs0;refine Go.Sk.w2 H ?_;clear H;intro w H)|(refine' y30 zGy ?_ ?_;rotate_left;exact hp _ (H.memF hF);refine Go.Sk.w2 H ?_;clear H;intro w H)|refine x40 sg hs ?_|refine x44 sg hs (H.memF hF) ?_|refine yU ?_|((first|refine y17 ?_ ?_|refine y23 ?_ ?_);all_goals(intro h;try (exfalso;first|((rw[hm] at h;cases h);done)|((exact absurd h (by decide));done))))|with_reducible apply zB|fail)
     all_goals first
      | exact zCW (M:=[]) rfl rfl (H.sub (zz9 _)) ⟨none,0,by rw[e];rfl,by rw[e];exact SlA.nil⟩
      | (exfalso;simp only[decide_eq_true_eq,decide_eq_false_iff_not] at *;omega)
    ·have hq1:1≤q∧q≤(od_ l i).left:=by omega
     have e:zAs l (od_ l i).id q=(zBU l (od_ l i).id q,0):=by unfold zAs;rw[if_pos hm,hfa,if_pos rfl,if_neg hq]
     have hta:=zUP hm hil q
     have d1:decide (q<1)=false:=decide_eq_false qO
     have d2:decide (q>(od_ l i).left)=false:=decide_eq_false qO
     have hleft:=hmo.2.2.2.2.2
     refine enter [.tmp 6,.tmp 7] Tryz.func174 rfl Tryz.ntmps174 rfl rfl ?_
     have H:=zA w0
     repeat' (first|refine yT ?_|(refine' y30 zCd ?_ ?_;rotate_left;exact zAk l _ (H.memF hF) hs0;refine Go.Sk.w2 H ?_;clear H;intro w H)|(refine' y30 zGy ?_ ?_;rotate_left;exact hp _ (H.memF hF);refine Go.Sk.w2 H ?_;clear H;intro w H)|refine x40 sg hs ?_|refine x44 sg hs (H.memF hF) ?_|(refine' y32 zQY ?_ ?_;rotate_left;exact zFi _ (H.memF hF) hs0 (fun j _=>Odr.cone _) (fun j _=>rfl) qO;intro v M w hR hS;replace H:=H.addR hS;clear hS;(try simp only[List.cons_append,List.nil_append] at H);obtain⟨a',cap',rfl,hO⟩:=hR)|refine yU ?_|((first|refine y17 ?_ ?_|refine y23 ?_ ?_);all_goals(intro h;try (exfalso;first|((rw[hm] at h;cases h);done)|((exact absurd h (by decide));done)|((rw[d1] at h;cases h);done)|((rw[d2] at h;cases h);done))))|with_reducible apply zB|fail)
     obtain⟨g,cs2,rfl,rfl,hnc2,he⟩:=hO.els qO (fun j _=>rfl)
     clear hO
     have hs2:=he.slb (F:=[cb g cs2 55]) (T:=55) (zz2 _)
     have hfit:=(he i hil).1
     have hw:IntKind.i64.wrap ((od_ l i).left - q)=(od_ l i).left - q:=w64 qO qO
     have hE2:Els (wr cs2 (0+i*6+5) [.int .i64 (IntKind.i64.wrap ((od_ l i).left - q))]) 6 l.length (odl (l.set i (zBd (od_ l i) q))):=by
      rw[Nat.zero_add]
      refine(zFt (vs:=[.int .i64 (IntKind.i64.wrap ((od_ l i).left - q))]) (f:=5) he hil (Nat.le_refl 6)).congr fun j hj=>?_
      show _=(od_ (l.set i (zBd (od_ l i) q)) j).cells
      rw[zKM hil]
      by_cases hji:j=i
      ·subst hji
       rw[if_pos rfl,if_pos rfl,hw];rfl
      ·rw[if_neg hji,if_neg hji];rfl
     have hmi:(od_ (l.set i (zBd (od_ l i) q)) i).left=(od_ l i).left - q:=by rw[zKM hil,if_pos rfl];rfl
     have hm2:∀ {w:World} {cs:List Value},St w0 [cb g cs 55] w→Mem w [cb g cs 55]:=fun H=>H.mem
     repeat' (first|refine yT ?_|refine x40 sg hs2 ?_|refine x44 sg hs2 H.mem ?_|(refine OX.storeX sg (v:=.int .i64 (IntKind.i64.wrap ((od_ l i).left - q))) (vs:=[.int .i64 (IntKind.i64.wrap ((od_ l i).left - q))]) H rfl rfl rfl rfl rfl rfl rfl Up.here (by simp only[List.length_singleton];omega) (zAU rfl) ?_;clear H;intro w H)|refine yU ?_|fail)
     have hs3:=hE2.slb (F:=[cb g (wr cs2 (0+i*6+5) [.int .i64 (IntKind.i64.wrap ((od_ l i).left - q))]) 55]) (T:=55) (zz2 _)
     by_cases h0:(od_ l i).left - q=0
     ·have d3:((od_ (l.set i (zBd (od_ l i) q)) i).left==0)=true:=by rw[hmi,h0];rfl
      rw[if_pos h0] at hta
      have hlen:(l.eraseIdx i).length=l.length - 1:=List.length_eraseIdx_of_lt hil
      repeat' (first|refine yT ?_|refine x44 sg hs3 H.mem ?_|(refine za rfl rfl (En.fn ent211 rfl rfl) (zPs H hE2 (fun _ _=>rfl) (fun j _=>Odr.cone _) hil (by rw[w64 qO qO];omega) qO hnc2) ?_;rintro _ _ w ⟨rfl,cs3,rfl,hl3,he3⟩ H2;clear H;have H:=H2;clear H2)|refine yU ?_|(refine y23 ?_ ?_;all_goals(intro h;try (exfalso;first|((rw[d3] at h;cases h);done))))|fail)
      refine zCW (M:=[cb g cs3 55]) rfl rfl H ⟨some ⟨g,0,none⟩,cap',by rw[e,hta,hlen],?_⟩
      rw[e,hta,hlen]
      refine⟨by omega,by omega,g,0,cs3,_,(0,0),Els.slb (he3.congr fun j hj=>?_) (zz2 _)⟩
      show _=(od_ (l.eraseIdx i) j).cells
      rw[zSS]
      by_cases hji:j<i
      ·rw[if_pos hji,if_pos hji]
       show(od_ (l.set i _) j).cells=_
       rw[zKM hil,if_neg qO]
      ·rw[if_neg hji,if_neg hji]
       show(od_ (l.set i _) (j+1)).cells=_
       rw[zKM hil,if_neg qO]
     ·have d3:((od_ (l.set i (zBd (od_ l i) q)) i).left==0)=false:=by rw[hmi];exact beq_eq_false_iff_ne.2 h0
      rw[if_neg h0] at hta
      have hlen:(l.set i (zBd (od_ l i) q)).length=l.length:=List.length_set
      repeat' (first|refine yT ?_|refine x44 sg hs3 H.mem ?_|refine yU ?_|(refine y23 ?_ ?_;all_goals(intro h;try (exfalso;first|((rw[d3] at h;cases h);done))))|fail)
      refine zCW (M:=[_]) rfl rfl H ⟨some ⟨g,0,none⟩,cap',by rw[e,hta,hlen],?_⟩
      rw[e,hta,hlen]
      exact⟨by omega,by omega,g,0,_,_,(0,0),hE2.slb (zz2 _)⟩
 ·have hm:ze l=false:=by simpa using hm
  have e:zAs l id q=([],4):=by unfold zAs;rw[hm];rfl
  refine enter [.tmp 6,.tmp 7] Tryz.func174 rfl Tryz.ntmps174 rfl rfl ?_
  have H:=zA w0
  repeat' (first|refine yT ?_|(refine' y30 zCd ?_ ?_;rotate_left;exact zAk l _ (H.memF hF) hs0;refine Go.Sk.w2 H ?_;clear H;intro w H)|refine yU ?_|(refine y23 ?_ ?_;all_goals(intro h;try (exfalso;first|((rw[hm] at h;cases h);done))))|fail)
  exact zCW (M:=[]) rfl rfl (H.sub (zz9 _)) ⟨none,0,by rw[e];rfl,by rw[e];exact SlA.nil⟩
theorem c_Drop {a:Option Addr}{cap:Nat}(l:List Odr)(id:Int){F:zC}(w0:World)(hF:Mem w0 F)(hs0:SlA F 6 a l.length cap (odl l)) :
  Calls Tryz.prog 171 [.slice a l.length cap,.int .i64 id].toArray w0 (zi (zSR (zDI l id)) w0):=by
 by_cases hg:(zW l id).2=false∧ze l=true
 ·have e:zDI l id=([],5):=by unfold zDI zAs;rw[if_pos hg.2,hg.1];rfl
  refine enter [.tmp 4,.tmp 5] Tryz.func171 rfl Tryz.ntmps171 rfl rfl ?_
  have H:=zA w0
  repeat' (first|refine yT ?_|(refine y10 sg H ?_;intro b w H)|(refine y11 sg H ?_;intro w H)|(refine' y30 zFv ?_ ?_;rotate_left;exact zFj l id _ (H.memF hF) hs0;refine Go.Sk.w2 H ?_;clear H;intro w H)|(refine' y30 zCd ?_ ?_;rotate_left;exact zAk l _ (H.memF hF) hs0;refine Go.Sk.w2 H ?_;clear H;intro w H)|refine yU ?_|((first|refine y17 ?_ ?_|refine y23 ?_ ?_);all_goals(intro h;try (exfalso;first|((rw[hg.1] at h;cases h);done)|((rw[hg.2] at h;cases h);done))))|fail)
  exact zCW (M:=[]) rfl rfl (H.sub (zz9 _)) ⟨none,0,by rw[e];rfl,by rw[e];exact SlA.nil⟩
 ·cases hf:(zW l id).2 with
  | false =>
    have hm:ze l=false:=by
     rw[← Bool.not_eq_true];exact fun h=>hg ⟨hf,h⟩
    refine enter [.tmp 4,.tmp 5] Tryz.func171 rfl Tryz.ntmps171 rfl rfl ?_
    have H:=zA w0
    repeat' (first|refine yT ?_|refine y7 sg H ?_|(refine y10 sg H ?_;intro b w H)|(refine y11 sg H ?_;intro w H)|(refine' y30 zFv ?_ ?_;rotate_left;exact zFj l id _ (H.memF hF) hs0;refine Go.Sk.w2 H ?_;clear H;intro w H)|(refine' y30 zCd ?_ ?_;rotate_left;exact zAk l _ (H.memF hF) hs0;refine Go.Sk.w2 H ?_;clear H;intro w H)|(refine' y32 zJa ?_ ?_;rotate_left;exact zHR l id (zW l id).1.left _ (H.memF hF) hs0;intro v M w hR hS;replace H:=H.addR hS;clear hS;(try simp only[List.cons_append,List.nil_append] at H);obtain⟨a1,c1,rfl,hsl⟩:=hR)|refine yU ?_|((first|refine y17 ?_ ?_|refine y23 ?_ ?_);all_goals(intro h;try (exfalso;first|((rw[hf] at h;cases h);done)|((rw[hm] at h;cases h);done))))|fail)
    exact zCW (M:=M) rfl rfl (H.sub (zz7 _ _)) ⟨a1,c1,rfl,hsl⟩
  | true =>
    refine enter [.tmp 4,.tmp 5] Tryz.func171 rfl Tryz.ntmps171 rfl rfl ?_
    have H:=zA w0
    repeat' (first|refine yT ?_|refine y7 sg H ?_|(refine y10 sg H ?_;intro b w H)|(refine y11 sg H ?_;intro w H)|(refine' y30 zFv ?_ ?_;rotate_left;exact zFj l id _ (H.memF hF) hs0;refine Go.Sk.w2 H ?_;clear H;intro w H)|(refine' y32 zJa ?_ ?_;rotate_left;exact zHR l id (zW l id).1.left _ (H.memF hF) hs0;intro v M w hR hS;replace H:=H.addR hS;clear hS;(try simp only[List.cons_append,List.nil_append] at H);obtain⟨a1,c1,rfl,hsl⟩:=hR)|refine yU ?_|(refine y17 ?_ ?_;all_goals(intro h;try (exfalso;first|((rw[hf] at h;cases h);done))))|fail)
    exact zCW (M:=M) rfl rfl (H.sub (zz7 _ _)) ⟨a1,c1,rfl,hsl⟩
end
end Go.Proofs.YthbflajpdhgfiaaGreatDoor
