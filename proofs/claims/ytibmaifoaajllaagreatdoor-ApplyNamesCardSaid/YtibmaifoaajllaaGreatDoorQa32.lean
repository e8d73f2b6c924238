/- Texts of ours, joined: the steps of the proof, or the claim's theorem. -/
import Derived.Shelf.SlSortCmp.NoneTotal
import Derived.Test.YtibmaifoaajllaaGreatDoorQa30
import Derived.Test.YtibmaifoaajllaaGreatDoorQa31
set_option linter.unusedSimpArgs false
set_option linter.unusedVariables false
set_option maxHeartbeats 16000000
namespace Go.Proofs.YtibmaifoaajllaaGreatDoor
section
open Go Go.Sk Go.RowKit
theorem zR7 {l:List Odr}{i:Nat}(hi:i<l.length):l=l.take i++od_ l i::l.drop (i+1):=by
 conv=>lhs;rw[← List.take_append_drop i l,List.drop_eq_getElem_cons hi]
 simp[od_,List.getElem?_eq_getElem hi]
theorem zT8 {l:List Odr}(h:zd l=true){i:Nat}(hi:i<l.length)(q:Int):zBs l (od_ l i).id q=if (od_ l i).left - q=0 then l.eraseIdx i else l.set i (zBM (od_ l i) q):=by
 obtain⟨_,l2,l3⟩:=zAP.1 h
 have e:=zR7 hi
 obtain⟨o,ho⟩:∃ o,od_ l i=o:=⟨_,rfl⟩
 rw[ho] at e ⊢
 have hl:(l.take i).length=i:=by rw[List.length_take];omega
 rw[e] at l2 l3
 rw[List.pairwise_append,List.pairwise_cons] at l3
 have ha:∀ x∈l.take i,x.id≠o.id:=fun x hx=>by have:=l3.2.2 x hx o (zz2 _);omega
 have hb:∀ x∈l.drop (i+1),x.id≠o.id:=fun x hx=>by have:=l3.2.1.1 x hx;omega
 have hp:∀ x∈l.take i++o::l.drop (i+1),x.left≠0:=fun x hx=>by have:=(l2 x hx).2.2.2.2.2;omega
 have ht:=zFt (q:=q) ha hb (fun x hx=>hp x (zz6 _ hx)) (fun x hx=>hp x (zz3 _ (zz5 _ hx)))
 rw[← e] at ht
 rw[ht]
 by_cases h0:o.left - q=0
 ·rw[if_pos h0,if_pos h0,List.eraseIdx_eq_take_drop_succ];rfl
 ·rw[if_neg h0,if_neg h0,List.set_eq_take_append_cons_drop,if_pos hi];rfl
theorem zPZ {l:List Odr}(hr:Ris l){id:Int}{i:Nat}(h:lbF l id i)(hn:i<l.length→(od_ l i).id≠id):l.filter (fun x=>decide (x.id<id))=l.take i∧l.filter (fun x=>decide (id<x.id))=l.drop i:=by
 have h1:∀ x∈l.take i,x.id<id:=by
  intro x hx
  obtain⟨k,hk,rfl⟩:=List.getElem_of_mem hx
  rw[List.length_take] at hk
  have:=h.2.1 k (by omega)
  rw[List.getElem_take]
  simpa [od_,List.getElem?_eq_getElem (show k<l.length by omega)] using this
 have h2:∀ x∈l.drop i,id<x.id:=by
  intro x hx
  obtain⟨k,hk,rfl⟩:=List.getElem_of_mem hx
  rw[List.length_drop] at hk
  have h3:=h.2.2 (i+k) (by omega) (by omega)
  have h4:(od_ l (i+k)).id≠id:=by
   rcases Nat.eq_zero_or_pos k with e|e
   ·rw[e];exact hn (by omega)
   ·have h5:=hr i (i+k) (by omega) (by omega)
    have h6:=h.2.2 i (zzC _) (by omega)
    omega
  rw[List.getElem_drop]
  have h7:(od_ l (i+k))=l[i+k]:=by simp[od_,List.getElem?_eq_getElem (show i+k<l.length by omega)]
  rw[← h7];omega
 constructor
 ·conv=>lhs;rw[← List.take_append_drop i l]
  rw[List.filter_append,List.filter_eq_self.2 fun x hx=>decide_eq_true (h1 x hx),List.filter_eq_nil_iff.2 fun x hx=>by have:=h2 x hx;simp;omega,List.append_nil]
 ·conv=>lhs;rw[← List.take_append_drop i l]
  rw[List.filter_append,List.filter_eq_nil_iff.2 fun x hx=>by have:=h1 x hx;simp;omega,List.filter_eq_self.2 fun x hx=>decide_eq_true (h2 x hx),List.nil_append]
theorem zLV {l:List Odr}(hm:zd l=true){id:Int}{i:Nat}(h:lbF l id i):zV l id=if (decide (i<l.length)&&(od_ l i).id==id)=true then(od_ l i,true) else(Odr.zero,false):=by
 unfold zV
 rw[if_pos hm,zOA (zKL hm) h]
 by_cases hb:(decide (i<l.length)&&(od_ l i).id==id)=true
 ·rw[if_pos hb,if_pos hb]
 ·rw[if_neg hb,if_neg hb]
end
section
open Go Go.Sk Go.RowKit
attribute [local irreducible] Go.Calls
def priE (i:Nat):List Value:=[if i=1 then .func (.func 287) #[] #[] else if i=2 then .func (.func 288) #[] #[] else .nilFunc]
def PriM (F:zH):Prop:=∃ cs T fr,SlB F 1 (some ⟨0,0,none⟩) 3 0 0 cs T fr priE
theorem PriM.mono {F G:zH}(h:PriM F)(hs:F⊆G):PriM G:=let ⟨a,b,c,d⟩:=h;⟨a,b,c,d.mono hs⟩
theorem zMr (x y:Odr)(hx:zu x=true)(hy:zu y=true)(hi:(x.inst != y.inst)=false)(hsd:(x.side==y.side)=false)(h1:x.side=1){F:zH}(w0:World)(hF:Mem w0 F)(hP:PriM F) :
  Calls Tryz.prog 18 [.agg x.cells.toArray,.agg y.cells.toArray].toArray w0 (Ret (.bool (decide (zCB y.price x.price≤0))) w0):=by
 obtain⟨cs,T,fr,hs⟩:=hP
 obtain⟨xi,xa,xn,xs,xp,xl⟩:=x
 simp only at h1;subst h1
 refine enter [.tmp 4] Tryz.func18 rfl Tryz.ntmps18 rfl rfl ?_
 have H:=zB w0
 repeat' (first|refine yT ?_|refine y7 sg H ?_|(refine y9 H ?_;intro b w H)|(refine' y30 zEa ?_ ?_;rotate_left;exact zBK _ _;intro w hcl;replace H:=H.ext hcl;clear hcl)|refine yU ?_|(refine y17 ?_ ?_;all_goals(intro h;try (exfalso;first|((rw[hx] at h;cases h);done)|((rw[hy] at h;cases h);done)|((rw[hi] at h;cases h);done)|((rw[hsd] at h;cases h);done))))|fail)
 refine zJ rfl (fun h=>?_) (fun h=>?_)
 ·rw[hsd] at h;cases h
 ·clear h
  repeat' (first|refine yT ?_|refine y8 sg H ?_|((with_reducible apply zP);exact rfl;exact rfl;exact Yq.ixP sg (n:=3) (j:=1) rfl (by show(0:Int)≤1;decide) (by show(1:Int)<3;decide) rfl rfl rfl rfl rfl rfl)|((with_reducible apply zP);exact rfl;exact rfl;exact Yq.loadB1 sg hs (H.memF hF) rfl rfl rfl rfl (j:=1) (by decide) rfl)|(refine' y35 zQp ?_ ?_;rotate_left;exact(fun _ hcl=>zJK _ _ _))|(with_reducible apply zL;intro w hcl;replace H:=H.ext hcl;clear hcl)|refine yU ?_|refine y20 mixed ?_|fail)
  exact zQ rfl H.cl rfl
theorem zMs (x y:Odr)(hx:zu x=true)(hy:zu y=true)(hi:(x.inst != y.inst)=false)(hsd:(x.side==y.side)=false)(h1:x.side=2){F:zH}(w0:World)(hF:Mem w0 F)(hP:PriM F) :
  Calls Tryz.prog 18 [.agg x.cells.toArray,.agg y.cells.toArray].toArray w0 (Ret (.bool (decide (zCB x.price y.price≤0))) w0):=by
 obtain⟨cs,T,fr,hs⟩:=hP
 obtain⟨xi,xa,xn,xs,xp,xl⟩:=x
 simp only at h1;subst h1
 refine enter [.tmp 4] Tryz.func18 rfl Tryz.ntmps18 rfl rfl ?_
 have H:=zB w0
 repeat' (first|refine yT ?_|refine y7 sg H ?_|(refine y9 H ?_;intro b w H)|(refine' y30 zEa ?_ ?_;rotate_left;exact zBK _ _;intro w hcl;replace H:=H.ext hcl;clear hcl)|refine yU ?_|(refine y17 ?_ ?_;all_goals(intro h;try (exfalso;first|((rw[hx] at h;cases h);done)|((rw[hy] at h;cases h);done)|((rw[hi] at h;cases h);done)|((rw[hsd] at h;cases h);done))))|fail)
 refine zJ rfl (fun h=>?_) (fun h=>?_)
 ·rw[hsd] at h;cases h
 ·clear h
  repeat' (first|refine yT ?_|refine y8 sg H ?_|((with_reducible apply zP);exact rfl;exact rfl;exact Yq.ixP sg (n:=3) (j:=2) rfl (by show(0:Int)≤2;decide) (by show(2:Int)<3;decide) rfl rfl rfl rfl rfl rfl)|((with_reducible apply zP);exact rfl;exact rfl;exact Yq.loadB1 sg hs (H.memF hF) rfl rfl rfl rfl (j:=2) (by decide) rfl)|(refine' y35 zQq ?_ ?_;rotate_left;exact(fun _ hcl=>zJL _ _ _))|(with_reducible apply zL;intro w hcl;replace H:=H.ext hcl;clear hcl)|refine yU ?_|refine y20 mixed ?_|fail)
  exact zQ rfl H.cl rfl
theorem side12 {x:Odr}(h:zu x=true):x.side=1∨x.side=2:=((zAi x).1 h).2.2.2.1
theorem zJM (x y:Odr){F:zH}(w0:World)(hF:Mem w0 F)(hP:PriM F) :
  Calls Tryz.prog 18 [.agg x.cells.toArray,.agg y.cells.toArray].toArray w0 (Ret (.bool (zAu x y)) w0):=by
 cases hx:zu x with
 | false =>
   refine enter [.tmp 4] Tryz.func18 rfl Tryz.ntmps18 rfl rfl ?_
   have H:=zB w0
   repeat' (first|refine yT ?_|refine y7 sg H ?_|(refine y9 H ?_;intro b w H)|(refine' y30 zEa ?_ ?_;rotate_left;exact zBK _ _;intro w hcl;replace H:=H.ext hcl;clear hcl)|refine yU ?_|(refine y17 ?_ ?_;all_goals(intro h;try (exfalso;first|((rw[hx] at h;cases h);done))))|fail)
   exact zQ rfl H.cl (by unfold zAu;rw[hx];rfl)
 | true =>
 cases hy:zu y with
 | false =>
   refine enter [.tmp 4] Tryz.func18 rfl Tryz.ntmps18 rfl rfl ?_
   have H:=zB w0
   repeat' (first|refine yT ?_|refine y7 sg H ?_|(refine y9 H ?_;intro b w H)|(refine' y30 zEa ?_ ?_;rotate_left;exact zBK _ _;intro w hcl;replace H:=H.ext hcl;clear hcl)|refine yU ?_|(refine y17 ?_ ?_;all_goals(intro h;try (exfalso;first|((rw[hx] at h;cases h);done)|((rw[hy] at h;cases h);done))))|fail)
   exact zQ rfl H.cl (by unfold zAu;rw[hx,hy];rfl)
 | true =>
 cases hi:(x.inst != y.inst) with
 | true =>
   refine enter [.tmp 4] Tryz.func18 rfl Tryz.ntmps18 rfl rfl ?_
   have H:=zB w0
   repeat' (first|refine yT ?_|refine y7 sg H ?_|(refine y9 H ?_;intro b w H)|(refine' y30 zEa ?_ ?_;rotate_left;exact zBK _ _;intro w hcl;replace H:=H.ext hcl;clear hcl)|refine yU ?_|(refine y17 ?_ ?_;all_goals(intro h;try (exfalso;first|((rw[hx] at h;cases h);done)|((rw[hy] at h;cases h);done)|((rw[hi] at h;cases h);done))))|fail)
   have e:(x.inst==y.inst)=false:=by simpa [bne] using hi
   exact zQ rfl H.cl (by unfold zAu;rw[hx,hy,e];rfl)
 | false =>
 have e1:(x.inst==y.inst)=true:=by simpa [bne] using hi
 cases hs:(x.side==y.side) with
 | true =>
   refine enter [.tmp 4] Tryz.func18 rfl Tryz.ntmps18 rfl rfl ?_
   have H:=zB w0
   repeat' (first|refine yT ?_|refine y7 sg H ?_|(refine y9 H ?_;intro b w H)|(refine' y30 zEa ?_ ?_;rotate_left;exact zBK _ _;intro w hcl;replace H:=H.ext hcl;clear hcl)|refine yU ?_|(refine y17 ?_ ?_;all_goals(intro h;try (exfalso;first|((rw[hx] at h;cases h);done)|((rw[hy] at h;cases h);done)|((rw[hi] at h;cases h);done)|((rw[hs] at h;cases h);done))))|(refine y23 ?_ ?_;all_goals(intro h;try (exfalso;first|((rw[hx] at h;cases h);done)|((rw[hy] at h;cases h);done)|((rw[hi] at h;cases h);done)|((rw[hs] at h;cases h);done))))|fail)
   exact zQ rfl H.cl (by unfold zAu;rw[hx,hy,e1];simp[bne,hs])
 | false =>
   rcases side12 hx with h1|h1
   ·have h:=zMr x y hx hy hi hs h1 w0 hF hP
    have e:decide (zCB y.price x.price≤0)=zAu x y:=by
     unfold zAu;rw[hx,hy,e1,h1,if_pos rfl]
     have:((1:Int) != y.side)=true:=by rw[← h1];simp[bne,hs]
     rw[this]
     simp only[Bool.true_and,decide_eq_decide]
     unfold zCB;split<;>(try split)<;>omega
    rw[← e];exact h
   ·have h:=zMs x y hx hy hi hs h1 w0 hF hP
    have e:decide (zCB x.price y.price≤0)=zAu x y:=by
     unfold zAu;rw[hx,hy,e1,h1,if_neg (by decide)]
     have:((2:Int) != y.side)=true:=by rw[← h1];simp[bne,hs]
     rw[this]
     simp only[Bool.true_and,decide_eq_decide]
     unfold zCB;split<;>(try split)<;>omega
    rw[← e];exact h
end
end Go.Proofs.YtibmaifoaajllaaGreatDoor
namespace Go.Sk
open Go Go.Proofs Go.RowKit
open Go.Sort (grow putRow Holds flatK HoldsK putRowK SWO PermIn SortedIn size_flatK get_flatK)
theorem Cl.grown {w w':World}(h:Cl w w'):∃ q os,w'=grow (w.drewN q) os:=by
 refine⟨w'.drawn - w.drawn,w'.heap.extract w.heap.size w'.heap.size,?_⟩
 obtain⟨⟨h1,h2,h3,h4,h5⟩,h6⟩:=h
 obtain⟨hp,tp,dr,os,out⟩:=w
 obtain⟨hp',tp',dr',os',out'⟩:=w'
 simp only at h1 h2 h3 h4 h5 h6
 subst h1;subst h2;subst h3
 have e1:hp'=hp++hp'.extract hp.size hp'.size:=by
  apply Array.ext_getElem?
  intro k
  by_cases hk:k<hp.size
  ·rw[Array.getElem?_append_left hk];exact h5 k hk
  ·rw[Array.getElem?_append_right (by omega),Array.getElem?_extract]
   by_cases hk2:k<hp'.size
   ·rw[if_pos (by omega)];congr 1;omega
   ·rw[if_neg (by omega),Array.getElem?_eq_none (by omega)]
 have e2:dr'=dr+(dr' - dr):=by omega
 simp only[grow,World.drewN]
 congr 1
section
variable {α:Type}[Inhabited α]{enc:α→List Value}{k:Nat}{d:Array α}
theorem zLW (hk:∀ x,(enc x).length=k){t:Nat}(ht:t<d.size*k):(flatK enc k d).toList[t]?=(enc d[t / k]!)[t % k]?:=by
 have k0:0<k:=by
  rcases Nat.eq_zero_or_pos k with h|h
  ·subst h;simp at ht
  ·exact h
 have hs:t<(flatK enc k d).size:=by rw[size_flatK];exact ht
 have h:=get_flatK enc k d t ht
 rw[Array.getElem?_toList,Array.getElem?_eq_getElem hs,← getElem!_pos _ t hs,h,List.getElem?_eq_getElem (by rw[hk];exact Nat.mod_lt _ k0),getElem!_pos _ _ (by rw[hk];exact Nat.mod_lt _ k0)]
theorem zR8 (hk:∀ x,(enc x).length=k){cs:List Value}(he:Els cs k d.size fun j=>enc d[j]!):cs.take (flatK enc k d).size=(flatK enc k d).toList.map id:=by
 rw[List.map_id,size_flatK]
 apply List.ext_getElem?
 intro t
 by_cases ht:t<d.size*k
 ·have k0:0<k:=by
   rcases Nat.eq_zero_or_pos k with h|h
   ·subst h;simp at ht
   ·exact h
  have hj:t / k<d.size:=Nat.div_lt_of_lt_mul (by rwa [Nat.mul_comm] at ht)
  obtain⟨h1,h2⟩:=he (t / k) hj
  simp only at h2
  rw[zLW hk ht,List.getElem?_take_of_lt ht,← h2,List.getElem?_take_of_lt (Nat.mod_lt _ k0),List.getElem?_drop]
  congr 1
  rw[Nat.mul_comm];exact(Nat.div_add_mod t k).symm
 ·rw[List.getElem?_eq_none (by rw[List.length_take];omega),List.getElem?_eq_none (by rw[Array.length_toList,size_flatK];omega)]
theorem zR9 (hk:∀ x,(enc x).length=k){cs:List Value}:Els (zEc id (flatK enc k d) cs) k d.size fun j=>enc d[j]! := by
 intro j hj
 have hjk:(j+1)*k≤d.size*k:=Nat.mul_le_mul_right _ hj
 rw[Nat.add_mul,Nat.one_mul] at hjk
 have hl:((flatK enc k d).toList.map id).length=d.size*k:=by simp
 refine⟨by unfold zEc;rw[List.length_append,hl];omega,?_⟩
 apply List.ext_getElem?
 intro i
 rw[List.getElem?_take]
 by_cases hi:i<k
 ·rw[if_pos hi,List.getElem?_drop]
  unfold zEc
  rw[List.getElem?_append_left (by rw[hl];omega),List.map_id,zLW hk (by omega)]
  have e1:(j*k+i) / k=j:=by rw[Nat.mul_comm,Nat.mul_add_div (by omega),Nat.div_eq_of_lt hi,Nat.add_zero]
  have e2:(j*k+i) % k=i:=by rw[Nat.mul_comm,Nat.mul_add_mod,Nat.mod_eq_of_lt hi]
  rw[e1,e2]
 ·rw[if_neg hi,List.getElem?_eq_none (by rw[hk];omega)]
end
theorem zMt {α:Type}[Inhabited α]{l:List α}{d':Array α}(h:PermIn 0 l.toArray.size l.toArray d'):d'.toList.Perm l:=by
 obtain⟨h1,_,h3⟩:=h
 have e1:(d'.extract 0 l.toArray.size).toList=d'.toList:=by rw[← h1];simp
 have e2:(l.toArray.extract 0 l.toArray.size).toList=l:=by simp
 rw[e1,e2] at h3
 exact h3
theorem zKM {α:Type}[Inhabited α]{lt:α→α→Bool}{n:Nat}{d':Array α}(hn:d'.size=n)(h:SortedIn lt 0 n d'):d'.toList.Pairwise fun a b=>lt b a=false:=by
 rw[List.pairwise_iff_getElem]
 intro i j hi hj hij
 have:=h i j (zzD _) hij (by rw[Array.length_toList] at hj;omega)
 rw[getElem!_pos d' i (by simpa using hi),getElem!_pos d' j (by simpa using hj)] at this
 simpa using this
def zOB {α:Type}[Inhabited α](enc:α→List Value)(k:Nat)(cf:α→α→Int)(g:Nat)(T:TypeId)(G:zH)(n:Nat)(l:List α)(M:zH)(v:Value):Prop :=
 v=.tuple #[]∧∃ (cs':List Value) (l':List α),M=cb g cs' T::G∧cs'.length=n∧l'.Perm l∧l'.Pairwise (fun a b=>ltOf cf b a=false)∧Els cs' k l'.length fun j=>enc (l'.getD j default)
theorem sortK {P:Program}{ρ:Go.Shelf.Ren}{α:Type}[Inhabited α](L:SlLaysF0.n6 P ρ){k:Nat}(aE:∀ w,(isAgg (ρ.t 24)).run P w=.ok true w)(zE:∀ w,(Go.sizeOf (ρ.t 24)).run P w=.ok k w)(enc:α→List Value)(hk:∀ x,(enc x).length=k)(h1:∀ x,∀ v∈enc x,v.oneCell'=true)
  (cf:α→α→Int) (hO:SWO (ltOf cf)) {f:Nat} {caps:List Value} (eg:∀ args w,(callFunc f args).run P w=.ok (.enter f args) w) {w0 w:World} {G:zH} {g cap:Nat} {cs:List Value} {T:TypeId} (l:List α) (hl:l.length≤1000000000000) (H:St w0 (cb g cs T::G) w)
  (he:Els cs k l.length fun j=>enc (l.getD j default)) (hcl:l.length*k≤cs.length) (hc:∀ cs' W x y,St w0 (cb g cs' T::G) W→Calls P f ([Value.agg (enc x).toArray,Value.agg (enc y).toArray]++caps).toArray W (Ret (.int .i64 (cf x y)) W)) :
  Calls P (ρ.f 6) [.slice (some ⟨g,0,none⟩) l.length cap,.func (.func f) #[] caps.toArray].toArray w (zn (zOB enc k cf g T G cs.length l) w0):=by
 have he':Els cs k l.toArray.size fun j=>enc l.toArray[j]! := by
  intro j hj
  have:=he j (by simpa using hj)
  simpa using this
 have hfl:=zR8 hk he'
 have hsz:(flatK enc k l.toArray).size=l.length*k:=by simp
 have hH:HoldsK enc k w g 0 l.toArray:=zH2 H (zz2 _) hfl
 have hput:∀ (n:Nat) (os:Array Obj) (dk:Array α),dk.size=l.length→St w0 (cb g (zEc id (flatK enc k dk) cs) T::G) (sortWorldK enc k w g 0 n dk os):=fun n os dk hd =>
  St.put (enc:=id) n os H Up.here (by rw[size_flatK,hd];exact hcl)
 have hcmp:CmpLays P f caps.toArray enc k cf g 0 l.toArray.size w:=by
  intro m os dk hd x y
  have hd':dk.size=l.length:=by simpa using hd
  refine Calls.mono (by simpa using hc _ _ x y (hput m os dk hd')) fun e W' hr=>?_
  obtain⟨rfl,hcl⟩:=hr
  exact⟨rfl,Cl.grown hcl⟩
 have:=AnyQ.slices_SortFunc L k aE zE enc hk h1 cf hO f caps.toArray g 0 cap l.toArray w eg hcmp hH (zB5 (H.mem _ (zz2 _))) (by simp;omega)
 refine Calls.mono this ?_
 rintro e w' ⟨rfl,d',n,os,hp,hs,rfl⟩
 have hd:d'.size=l.length:=by have:=hp.1;simpa using this
 refine⟨_,_,rfl,⟨rfl,zEc id (flatK enc k d') cs,d'.toList,rfl,?_,zMt hp,zKM (by simpa using hd) hs,?_⟩,hput n os d' hd⟩
 ·unfold zEc
  rw[List.length_append,List.map_id,List.length_drop,Array.length_toList,size_flatK,hd];omega
 ·have:=zR9 (d:=d') (cs:=cs) hk
  rw[Array.length_toList]
  intro j hj
  have h2:=this j hj
  show j*k+k≤_∧_=enc (d'.toList.getD j default)
  rw[show d'.toList.getD j default=d'[j]! by rw[List.getD_eq_getElem?_getD,Array.getElem?_toList,getElem!_def];cases d'[j]?<;>rfl]
  exact h2
end Go.Sk
