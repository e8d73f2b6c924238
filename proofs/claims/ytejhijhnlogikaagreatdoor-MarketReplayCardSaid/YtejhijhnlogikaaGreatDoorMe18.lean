/- Steps of the proof. -/
import Derived.Shelf.SlSortCmp.NoneTotal
import Derived.Test.YtejhijhnlogikaaGreatDoorMe17
set_option linter.all false
set_option maxHeartbeats 16000000
namespace Go.Proofs.YtejhijhnlogikaaGreatDoor
open Go Go.Sk Go.RowKit Tryz
attribute [local irreducible] Go.Calls
theorem zF4 {a:OA}{cap:Nat}(l:List Odr)(id:Int)(hl:l.length<=1000000)(hr:Ris l)(i0:Nat)(h0:lbF l id i0){F:zA}(w0:World)(hF:Mem w0 F)(hs0:SlA F 6 a l.length cap (odl l)) :
  Cr 146 [.slice a l.length cap,.int .i64 id] (.tuple #[.int .i64 (i0:Int),.bool (decide (i0<l.length)&&(od_ l i0).id==id)]) w0:=by refine eS func146 ntmps146 fun H=>?_;(repeat' first|refine yW ?_|(refine c0 ent204 ?_;refine⟨_,zR3 l id hl hr i0 h0 _ (H.memF hF) hs0,?_⟩;clear H;intro w H)|fail);exact zFL rfl rfl H.cl rfl
theorem zL7 {l:List Odr}(h:zb l=true):Ris l:=by{
have hp:=(zAk.1 h).2;have key:∀ d s,s+d+1<l.length->(od_ l s).id<(od_ l (s+d+1)).id:=by
 intro d;induction d with
 | zero =>
   intro s hs;rcases(hp (s+1) hs).2 with e|e
   .omega
   .exact e
 | succ d ih =>
   intro s hs;rcases(hp (s+(d+1)+1) hs).2 with e|e
   .omega
   .exact Int.lt_trans (ih s qO) e
intro s t hst ht;have:=key (t - s - 1) s qO
rwa [show s+(t - s - 1)+1=t by omega] at this}
theorem zQY {l:List Odr}{id:Int}{i:Nat}(hr:Ris l)(h:lbF l id i):l.find? (fun o=>o.id==id)=if (decide (i<l.length)&&(od_ l i).id==id)=true then some (od_ l i) else none:=by{
split
.rename_i hc;rw[yy3,decide_eq_true_eq] at hc;rw[List.find?_eq_some_iff_getElem];have e:od_ l i=l[i]:=by simp[od_,yy1 hc.1]
 refine⟨hc.2,i,hc.1,e.symm,fun j hj=>?_⟩;have:=h.2.1 j hj;rw[show od_ l j=l[j] by simp[od_,yy1 (show j<l.length by omega)]] at this;simp;omega
.rename_i hc;rw[List.find?_eq_none];intro x hx hxe;obtain⟨k,hk,rfl⟩:=zBd (d:=default) hx;have hxe:(od_ l k).id=id:=eq_of_beq hxe;apply hc;have:k=i:=by
  rcases Nat.lt_trichotomy k i with g|g|g
  .have:=h.2.1 k g;omega
  .exact g
  .have h1:=h.2.2 i (zzC _) qO;have h2:=hr i k g hk;omega
 subst this;rw[yy3,decide_eq_true_eq];exact⟨hk,by simpa using hxe⟩}
theorem zGc {a:OA}{cap:Nat}(l:List Odr)(id:Int){F:zA}(w0:World)(hF:Mem w0 F)(hs0:SlA F 6 a l.length cap (odl l)) :
  Cr 112 [.slice a l.length cap,.int .i64 id] (.tuple #[.agg (zO l id).1.cells.toArray,.bool (zO l id).2]) w0:=by{
by_cases hm:zb l=true
.have hl:=(zAk.1 hm).1;have hr:=zL7 hm;obtain⟨i,hi⟩:=zUp l hr id;have hfl:=zQY hr hi;have hs1:=hs0;obtain⟨hn,hc,b0,off,cs,T,fr,hs⟩:=hs1;have hf:zO l id=match (if (decide (i<l.length)&&(od_ l i).id==id)=true then some (od_ l i) else none) with|some o=>(o,true)|none=>(Odr.zero,false):=by unfold zO;rw[if_pos hm,hfl];rfl
 refine eS func112 ntmps112 fun H=>?_;cases hb:(decide (i<l.length)&&(od_ l i).id==id) with
 | false =>
   rw[hb] at hf;have hp:=fun w h1=>zF4 l id qO hr i hi (F:=F) w h1 hs0;rw[hb] at hp;(repeat' first|refine yW ?_|(refine yB ?_;intro b w H)|(refine y11 sg H ?_;intro w H)|(refine c0 zC0 ?_;refine⟨_,zAo l _ (H.memF hF) hs0,?_⟩;clear H;intro w H)|(refine c0 zFR ?_;refine⟨_,hp _ (H.memF hF),?_⟩;clear H;intro w H)|(refine y23 ?_ ?_;all_goals(intro h;try (exfalso;first|((rw[hm] at h;cases h);done)|((exact absurd h (by decide));done))))|fail);refine zAv (vs:=[_,_]) ⟨zg sg rfl H.mem (zz2 _) rfl rfl,zP rfl,trivial⟩ H.cl ?_;rw[hf];rfl
 | true =>
   have hil:i<l.length:=by rw[yy3,decide_eq_true_eq] at hb;exact hb.1
   rw[hb] at hf;have hp:=fun w h1=>zF4 l id qO hr i hi (F:=F) w h1 hs0;rw[hb] at hp;(repeat' first|refine yW ?_|(refine yB ?_;intro b w H)|(refine y11 sg H ?_;intro w H)|(refine c0 zC0 ?_;refine⟨_,zAo l _ (H.memF hF) hs0,?_⟩;clear H;intro w H)|(refine c0 zFR ?_;refine⟨_,hp _ (H.memF hF),?_⟩;clear H;intro w H)|refine x40 sg hs ?_|refine x42 sg hs (H.memF hF) ?_|(refine y23 ?_ ?_;all_goals(intro h;try (exfalso;first|((rw[hm] at h;cases h);done)|((exact absurd h (by decide));done))))|fail);refine zAv (vs:=[_,_]) ⟨zg sg rfl H.mem (zz2 _) rfl rfl,zP rfl,trivial⟩ H.cl ?_;rw[hf];rfl
.have hm:zb l=false:=by simpa using hm
 refine eS func112 ntmps112 fun H=>?_;(repeat' first|refine yW ?_|(refine yB ?_;intro b w H)|(refine y11 sg H ?_;intro w H)|(refine c0 zC0 ?_;refine⟨_,zAo l _ (H.memF hF) hs0,?_⟩;clear H;intro w H)|(refine y23 ?_ ?_;all_goals(intro h;try (exfalso;first|((rw[hm] at h;cases h);done))))|fail);refine zAv (vs:=[_,_]) ⟨zg sg rfl H.mem (zz2 _) rfl rfl,zP rfl,trivial⟩ H.cl ?_;unfold zO;rw[hm];rfl}
theorem zUr {l:List Odr}{i:Nat}(hi:i<l.length):l=l.take i++od_ l i::l.drop (i+1):=by
 conv=>lhs;rw[<- List.take_append_drop i l,List.drop_eq_getElem_cons hi]
 simp[od_,yy1 hi]
theorem zXA {l:List Odr}(h:zb l=true){i:Nat}(hi:i<l.length)(q:Int):zBi l (od_ l i).id q=if (od_ l i).left - q=0 then l.eraseIdx i else l.set i (zBr (od_ l i) q):=by{
obtain⟨_,l2,l3⟩:=zAK.1 h;have e:=zUr hi;obtain⟨o,ho⟩:∃ o,od_ l i=o:=⟨_,rfl⟩;rw[ho] at e ⊢;have hl:(l.take i).length=i:=by rw[List.length_take];omega
rw[e] at l2 l3;rw[List.pairwise_append,List.pairwise_cons] at l3;have ha:∀ x∈l.take i,x.id≠o.id:=fun x hx=>by have:=l3.2.2 x hx o (zz2 _);omega
have hb:∀ x∈l.drop (i+1),x.id≠o.id:=fun x hx=>by have:=l3.2.1.1 x hx;omega
have hp:∀ x∈l.take i++o::l.drop (i+1),x.left≠0:=fun x hx=>by have:=(l2 x hx).2.2.2.2.2;omega
have ht:=zJT (q:=q) ha hb (fun x hx=>hp x (zz6 _ hx)) (fun x hx=>hp x (zz3 _ (zz5 _ hx)));rw[<- e] at ht;rw[ht];by_cases h0:o.left - q=0
.rw[if_pos h0,if_pos h0,List.eraseIdx_eq_take_drop_succ];rfl
.rw[if_neg h0,if_neg h0,List.set_eq_take_append_cons_drop,if_pos hi];rfl}
theorem zR4 {l:List Odr}(hr:Ris l){id:Int}{i:Nat}(h:lbF l id i)(hn:i<l.length->(od_ l i).id≠id):l.filter (fun x=>decide (x.id<id))=l.take i/\l.filter (fun x=>decide (id<x.id))=l.drop i:=by{
have h1:∀ x∈l.take i,x.id<id:=by intro x hx;obtain⟨k,hk,rfl⟩:=List.getElem_of_mem hx;rw[List.length_take] at hk;have:=h.2.1 k qO;rw[List.getElem_take];simpa [od_,yy1 (show k<l.length by omega)] using this
have h2:∀ x∈l.drop i,id<x.id:=by
 intro x hx;obtain⟨k,hk,rfl⟩:=List.getElem_of_mem hx;rw[List.length_drop] at hk;have h3:=h.2.2 (i+k) qO qO;have h4:(od_ l (i+k)).id≠id:=by
  rcases yyn k with e|e
  .rw[e];exact hn qO
  .have h5:=hr i (i+k) qO qO;have h6:=h.2.2 i (zzC _) qO;omega
 rw[List.getElem_drop];have h7:(od_ l (i+k))=l[i+k]:=by simp[od_,yy1 (show i+k<l.length by omega)]
 rw[<- h7];omega
constructor
.conv=>lhs;rw[<- List.take_append_drop i l]
 rw[List.filter_append,List.filter_eq_self.2 fun x hx=>yyb (h1 x hx),List.filter_eq_nil_iff.2 fun x hx=>by have:=h2 x hx;simp;omega,List.append_nil]
.conv=>lhs;rw[<- List.take_append_drop i l]
 rw[List.filter_append,List.filter_eq_nil_iff.2 fun x hx=>by have:=h1 x hx;simp;omega,List.filter_eq_self.2 fun x hx=>yyb (h2 x hx),List.nil_append]}
theorem zNT {l:List Odr}(hm:zb l=true){id:Int}{i:Nat}(h:lbF l id i):zO l id=if (decide (i<l.length)&&(od_ l i).id==id)=true then(od_ l i,true) else(Odr.zero,false):=by{
unfold zO;rw[if_pos hm,zQY (zL7 hm) h];by_cases hb:(decide (i<l.length)&&(od_ l i).id==id)=true
.rw[if_pos hb,if_pos hb]
.rw[if_neg hb,if_neg hb]}
def priE (i:Nat):List Value:=[if i=1 then .func (.func 331) #[] #[] else if i=2 then .func (.func 332) #[] #[] else .nilFunc]
def PriM (F:zA):Prop:=∃ cs T fr,SlB F 1 (some ⟨0,0,none⟩) 3 0 0 cs T fr priE
theorem PriM.mono {F G:zA}(h:PriM F)(hs:F⊆G):PriM G:=let ⟨a,b,c,d⟩:=h;⟨a,b,c,d.mono hs⟩
theorem zO7 (x y:Odr)(hx:zt x=true)(hy:zt y=true)(hi:(x.inst != y.inst)=false)(hsd:(x.side==y.side)=false)(h1:x.side=1){F:zA}(w0:World)(hF:Mem w0 F)(hP:PriM F) :
  Cr 17 [.agg x.cells.toArray,.agg y.cells.toArray] (.bool (decide (zCO y.price x.price<=0))) w0:=by{
obtain⟨cs,T,fr,hs⟩:=hP;obtain⟨xi,xa,xn,xs,xp,xl⟩:=x;simp only at h1;subst h1;refine eS func17 ntmps17 fun H=>?_;(repeat' first|refine yX ?_|(refine yB ?_;intro b w H)|(refine c0 zFA ?_;refine⟨_,zBa _ _,?_⟩;clear H;intro w H)|(refine y17 ?_ ?_;all_goals(intro h;try (exfalso;first|((rw[hx] at h;cases h);done)|((rw[hy] at h;cases h);done)|((rw[hi] at h;cases h);done)|((rw[hsd] at h;cases h);done))))|fail);refine zB rfl (fun h=>?_) (fun h=>?_)
.rw[hsd] at h;cases h
.clear h;(repeat' first|refine yX ?_|refine zq (Yq.ixP sg (n:=3) (j:=1) rfl (by show(0:Int)<=1;decide) (by show(1:Int)<3;decide) rfl rfl rfl rfl rfl rfl) ?_|refine zq (Yq.loadB1 sg hs (H.memF hF) rfl rfl rfl rfl (j:=1) (by decide) rfl) ?_|(refine' y35 zTa ?_ ?_;rotate_left;exact(fun _ hcl=>zKn _ _ _))|(refine qN H ?_;clear H;intro w H)|refine y20 mixed ?_|fail);exact zG rfl H.cl rfl}
theorem zO8 (x y:Odr)(hx:zt x=true)(hy:zt y=true)(hi:(x.inst != y.inst)=false)(hsd:(x.side==y.side)=false)(h1:x.side=2){F:zA}(w0:World)(hF:Mem w0 F)(hP:PriM F) :
  Cr 17 [.agg x.cells.toArray,.agg y.cells.toArray] (.bool (decide (zCO x.price y.price<=0))) w0:=by{
obtain⟨cs,T,fr,hs⟩:=hP;obtain⟨xi,xa,xn,xs,xp,xl⟩:=x;simp only at h1;subst h1;refine eS func17 ntmps17 fun H=>?_;(repeat' first|refine yX ?_|(refine yB ?_;intro b w H)|(refine c0 zFA ?_;refine⟨_,zBa _ _,?_⟩;clear H;intro w H)|(refine y17 ?_ ?_;all_goals(intro h;try (exfalso;first|((rw[hx] at h;cases h);done)|((rw[hy] at h;cases h);done)|((rw[hi] at h;cases h);done)|((rw[hsd] at h;cases h);done))))|fail);refine zB rfl (fun h=>?_) (fun h=>?_)
.rw[hsd] at h;cases h
.clear h;(repeat' first|refine yX ?_|refine zq (Yq.ixP sg (n:=3) (j:=2) rfl (by show(0:Int)<=2;decide) (by show(2:Int)<3;decide) rfl rfl rfl rfl rfl rfl) ?_|refine zq (Yq.loadB1 sg hs (H.memF hF) rfl rfl rfl rfl (j:=2) (by decide) rfl) ?_|(refine' y35 zTb ?_ ?_;rotate_left;exact(fun _ hcl=>zKo _ _ _))|(refine qN H ?_;clear H;intro w H)|refine y20 mixed ?_|fail);exact zG rfl H.cl rfl}
theorem side12 {x:Odr}(h:zt x=true):x.side=1\/x.side=2:=((zAi x).1 h).2.2.2.1
theorem zKp (x y:Odr){F:zA}(w0:World)(hF:Mem w0 F)(hP:PriM F) :
  Cr 17 [.agg x.cells.toArray,.agg y.cells.toArray] (.bool (zw x y)) w0:=by{
cases hx:zt x with
| false =>
  refine eS func17 ntmps17 fun H=>?_;(repeat' first|refine yW ?_|(refine yB ?_;intro b w H)|(refine c0 zFA ?_;refine⟨_,zBa _ _,?_⟩;clear H;intro w H)|(refine y17 ?_ ?_;all_goals(intro h;try (exfalso;first|((rw[hx] at h;cases h);done))))|fail);exact zG rfl H.cl (by unfold zw;rw[hx];rfl)
| true =>
cases hy:zt y with
| false =>
  refine eS func17 ntmps17 fun H=>?_;(repeat' first|refine yW ?_|(refine yB ?_;intro b w H)|(refine c0 zFA ?_;refine⟨_,zBa _ _,?_⟩;clear H;intro w H)|(refine y17 ?_ ?_;all_goals(intro h;try (exfalso;first|((rw[hx] at h;cases h);done)|((rw[hy] at h;cases h);done))))|fail);exact zG rfl H.cl (by unfold zw;rw[hx,hy];rfl)
| true =>
cases hi:(x.inst != y.inst) with
| true =>
  refine eS func17 ntmps17 fun H=>?_;(repeat' first|refine yW ?_|(refine yB ?_;intro b w H)|(refine c0 zFA ?_;refine⟨_,zBa _ _,?_⟩;clear H;intro w H)|(refine y17 ?_ ?_;all_goals(intro h;try (exfalso;first|((rw[hx] at h;cases h);done)|((rw[hy] at h;cases h);done)|((rw[hi] at h;cases h);done))))|fail);have e:(x.inst==y.inst)=false:=by{simpa [bne] using hi};exact zG rfl H.cl (by unfold zw;rw[hx,hy,e];rfl)
| false =>
have e1:(x.inst==y.inst)=true:=by simpa [bne] using hi
cases hs:(x.side==y.side) with
| true =>
  refine eS func17 ntmps17 fun H=>?_;(repeat' first|refine yW ?_|(refine yB ?_;intro b w H)|(refine c0 zFA ?_;refine⟨_,zBa _ _,?_⟩;clear H;intro w H)|(refine y17 ?_ ?_;all_goals(intro h;try (exfalso;first|((rw[hx] at h;cases h);done)|((rw[hy] at h;cases h);done)|((rw[hi] at h;cases h);done)|((rw[hs] at h;cases h);done))))|fail);exact zG rfl H.cl (by unfold zw;rw[hx,hy,e1];simp[bne,hs])
| false =>
  rcases side12 hx with h1|h1
  .have h:=zO7 x y hx hy hi hs h1 w0 hF hP;have e:decide (zCO y.price x.price<=0)=zw x y:=by
    unfold zw;rw[hx,hy,e1,h1,if_pos rfl];have:((1:Int) != y.side)=true:=by rw[<- h1];simp[bne,hs]
    rw[this];simp only[Bool.true_and,decide_eq_decide];unfold zCO;split<;>(try split)<;>omega
   rw[<- e];exact h
  .have h:=zO8 x y hx hy hi hs h1 w0 hF hP;have e:decide (zCO x.price y.price<=0)=zw x y:=by
    unfold zw;rw[hx,hy,e1,h1,if_neg (by decide)];have:((2:Int) != y.side)=true:=by rw[<- h1];simp[bne,hs]
    rw[this];simp only[Bool.true_and,decide_eq_decide];unfold zCO;split<;>(try split)<;>omega
   rw[<- e];exact h}
end Go.Proofs.YtejhijhnlogikaaGreatDoor
namespace Go.Sk
open Go Go.Proofs Go.RowKit
open Go.Sort (grow putRow Holds flatK HoldsK putRowK SWO PermIn SortedIn size_flatK get_flatK)
theorem Cl.grown {w w':World}(h:Cl w w'):∃ q os,w'=grow (w.drewN q) os:=by{
refine⟨w'.drawn - w.drawn,w'.heap.extract w.heap.size w'.heap.size,?_⟩;obtain⟨⟨h1,h2,h3,h4,h5⟩,h6⟩:=h;obtain⟨hp,tp,dr,os,out⟩:=w;obtain⟨hp',tp',dr',os',out'⟩:=w';simp only at h1 h2 h3 h4 h5 h6;subst h1;subst h2;subst h3;have e1:hp'=hp++hp'.extract hp.size hp'.size:=by
 apply Array.ext_getElem?;intro k;by_cases hk:k<hp.size
 .rw[Array.getElem?_append_left hk];exact h5 k hk
 .rw[Array.getElem?_append_right (by omega),Array.getElem?_extract];by_cases hk2:k<hp'.size
  .rw[if_pos (by omega)];congr 1;omega
  .rw[if_neg (by omega),Array.getElem?_eq_none (by omega)]
have e2:dr'=dr+(dr' - dr):=by omega
simp only[grow,World.drewN]
congr 1}
section
variable {α:Type}[Inhabited α]{enc:α->List Value}{k:Nat}{d:Array α}
theorem zNU (hk:∀ x,(enc x).length=k){t:Nat}(ht:t<d.size*k):(flatK enc k d).toList[t]?=(enc d[t / k]!)[t % k]?:=by{
have k0:0<k:=by
 rcases yyn k with h|h
 .subst h;simp at ht
 .exact h
have hs:t<(flatK enc k d).size:=by rw[size_flatK];exact ht
have h:=get_flatK enc k d t ht;rw[Array.getElem?_toList,Array.getElem?_eq_getElem hs,<- getElem!_pos _ t hs,h,yy1 (by rw[hk];exact Nat.mod_lt _ k0),getElem!_pos _ _ (by rw[hk];exact Nat.mod_lt _ k0)]}
theorem zUs (hk:∀ x,(enc x).length=k){cs:List Value}(he:Els cs k d.size fun j=>enc d[j]!):cs.take (flatK enc k d).size=(flatK enc k d).toList.map id:=by{
rw[List.map_id,size_flatK];apply List.ext_getElem?;intro t;by_cases ht:t<d.size*k
.have k0:0<k:=by
  rcases yyn k with h|h
  .subst h;simp at ht
  .exact h
 have hj:t / k<d.size:=Nat.div_lt_of_lt_mul (by rwa [Nat.mul_comm] at ht);obtain⟨h1,h2⟩:=he (t / k) hj;simp only at h2;rw[zNU hk ht,List.getElem?_take_of_lt ht,<- h2,List.getElem?_take_of_lt (Nat.mod_lt _ k0),yyr]
 congr 1
 rw[Nat.mul_comm];exact(Nat.div_add_mod t k).symm
.rw[List.getElem?_eq_none (by rw[List.length_take];omega),List.getElem?_eq_none (by rw[Array.length_toList,size_flatK];omega)]}
theorem zUt (hk:∀ x,(enc x).length=k){cs:List Value}:Els (zFC id (flatK enc k d) cs) k d.size fun j=>enc d[j]! := by{
intro j hj;have hjk:(j+1)*k<=d.size*k:=Nat.mul_le_mul_right _ hj;rw[Nat.add_mul,Nat.one_mul] at hjk;have hl:((flatK enc k d).toList.map id).length=d.size*k:=by simp
refine⟨by unfold zFC;rw[yy4,hl];omega,?_⟩;apply List.ext_getElem?;intro i;rw[List.getElem?_take];by_cases hi:i<k
.rw[if_pos hi,yyr];unfold zFC;rw[yyl (by rw[hl];omega),List.map_id,zNU hk (by omega)];have e1:(j*k+i) / k=j:=by rw[Nat.mul_comm,Nat.mul_add_div (by omega),Nat.div_eq_of_lt hi,Nat.add_zero]
 have e2:(j*k+i) % k=i:=by rw[Nat.mul_comm,Nat.mul_add_mod,Nat.mod_eq_of_lt hi]
 rw[e1,e2]
.rw[if_neg hi,List.getElem?_eq_none (by rw[hk];omega)]}
end
theorem zO9 {α:Type}[Inhabited α]{l:List α}{d':Array α}(h:PermIn 0 l.toArray.size l.toArray d'):d'.toList.Perm l:=by{
obtain⟨h1,_,h3⟩:=h;have e1:(d'.extract 0 l.toArray.size).toList=d'.toList:=by rw[<- h1];simp
have e2:(l.toArray.extract 0 l.toArray.size).toList=l:=by simp
rw[e1,e2] at h3;exact h3}
theorem zL8 {α:Type}[Inhabited α]{lt:α->α->Bool}{n:Nat}{d':Array α}(hn:d'.size=n)(h:SortedIn lt 0 n d'):d'.toList.Pairwise fun a b=>lt b a=false:=by rw[List.pairwise_iff_getElem];intro i j hi hj hij;have:=h i j (zzD _) hij (by rw[Array.length_toList] at hj;omega);rw[getElem!_pos d' i (by simpa using hi),getElem!_pos d' j (by simpa using hj)] at this;simpa using this
def zQZ {α:Type}[Inhabited α](enc:α->List Value)(k:Nat)(cf:α->α->Int)(g:Nat)(T:TypeId)(G:zA)(n:Nat)(l:List α)(M:zA)(v:Value):Prop :=
 v=.tuple #[]/\∃ (cs':List Value) (l':List α),M=cb g cs' T::G/\cs'.length=n/\l'.Perm l/\l'.Pairwise (fun a b=>ltOf cf b a=false)/\Els cs' k l'.length fun j=>enc (l'.getD j default)
theorem sortK {P:Program}{ρ:Go.Shelf.Ren}{α:Type}[Inhabited α](L:SlLaysF0.n6 P ρ){k:Nat}(aE:∀ w,(isAgg (ρ.t 24)).run P w=.ok true w)(zE:∀ w,(Go.sizeOf (ρ.t 24)).run P w=.ok k w)(enc:α->List Value)(hk:∀ x,(enc x).length=k)(h1:∀ x,∀ v∈enc x,v.oneCell'=true)
  (cf:α->α->Int) (hO:SWO (ltOf cf)) {f:Nat} {caps:List Value} (eg:∀ args w,(callFunc f args).run P w=.ok (.enter f args) w) {w0 w:World} {G:zA} {g cap:Nat} {cs:List Value} {T:TypeId} (l:List α) (hl:l.length<=1000000000000) (H:St w0 (cb g cs T::G) w)
  (he:Els cs k l.length fun j=>enc (l.getD j default)) (hcl:l.length*k<=cs.length) (hc:∀ cs' W x y,St w0 (cb g cs' T::G) W->Calls P f ([Value.agg (enc x).toArray,Value.agg (enc y).toArray]++caps).toArray W (Ret (.int .i64 (cf x y)) W)) :
  Calls P (ρ.f 6) [.slice (some ⟨g,0,none⟩) l.length cap,.func (.func f) #[] caps.toArray].toArray w (zZ (zQZ enc k cf g T G cs.length l) w0):=by{
have he':Els cs k l.toArray.size fun j=>enc l.toArray[j]! := by intro j hj;have:=he j (by simpa using hj);simpa using this
have hfl:=zUs hk he';have hsz:(flatK enc k l.toArray).size=l.length*k:=by simp
have hH:HoldsK enc k w g 0 l.toArray:=zJC H (zz2 _) hfl
have hput:∀ (n:Nat) (os:Array Obj) (dk:Array α),dk.size=l.length->St w0 (cb g (zFC id (flatK enc k dk) cs) T::G) (sortWorldK enc k w g 0 n dk os):=fun n os dk hd =>
 St.put (enc:=id) n os H Up.here (by rw[size_flatK,hd];exact hcl)
have hcmp:CmpLays P f caps.toArray enc k cf g 0 l.toArray.size w:=by
 intro m os dk hd x y;have hd':dk.size=l.length:=by simpa using hd
 refine Calls.mono (by simpa using hc _ _ x y (hput m os dk hd')) fun e W' hr=>?_;obtain⟨rfl,hcl⟩:=hr;exact⟨rfl,Cl.grown hcl⟩
have:=AnyQ.slices_SortFunc L k aE zE enc hk h1 cf hO f caps.toArray g 0 cap l.toArray w eg hcmp hH (zCF (H.mem _ (zz2 _))) (by simp;omega);refine Calls.mono this ?_;rintro e w' ⟨rfl,d',n,os,hp,hs,rfl⟩;have hd:d'.size=l.length:=by have:=hp.1;simpa using this
refine⟨_,_,rfl,⟨rfl,zFC id (flatK enc k d') cs,d'.toList,rfl,?_,zO9 hp,zL8 (by simpa using hd) hs,?_⟩,hput n os d' hd⟩
.unfold zFC;rw[yy4,List.map_id,List.length_drop,Array.length_toList,size_flatK,hd];omega
.have:=zUt (d:=d') (cs:=cs) hk;rw[Array.length_toList];intro j hj;have h2:=this j hj;show j*k+k<=_/\_=enc (d'.toList.getD j default);rw[show d'.toList.getD j default=d'[j]! by rw[yy2,Array.getElem?_toList,getElem!_def];cases d'[j]?<;>rfl];exact h2}
end Go.Sk
namespace Go.Proofs.YtejhijhnlogikaaGreatDoor
section
open Go Go.Sk Go.RowKit Tryz
open Go.Sort (SWO)
attribute [local irreducible] Go.Calls
theorem zXB (x y:Row4)(w0:World):Cr 272 [.agg x.cells.toArray,.agg y.cells.toArray] (.int .i64 (zOW x.acct x.asset y.acct y.asset)) w0:=by refine eS func272 ntmps272 fun H=>?_;(repeat' first|refine yW ?_|(refine yB ?_;intro b w H)|(refine c0 zTQ ?_;refine⟨_,zTi _ _ _ _ _,?_⟩;clear H;intro w H)|fail);exact zG rfl H.cl rfl
theorem zXC (x y:Odr)(h1:x.side=1){F:zA}(w0:World)(hF:Mem w0 F)(hP:PriM F) :
  Cr 95 [.agg x.cells.toArray,.agg y.cells.toArray] (.int .i64 (zHr x y)) w0:=by obtain⟨cs,T,fr,hs⟩:=hP;obtain⟨xi,xa,xn,xs,xp,xl⟩:=x;simp only at h1;subst h1;refine eS func95 ntmps95 fun H=>?_;(repeat' first|refine yS ?_|(refine yB ?_;intro b w H)|refine y12 ?_|(refine CW.regionR mixed ?_;refine wQ H ?_;clear H;intro w H;(with_reducible apply RW.quiet 12);exact rfl;decide +kernel;simp only[List.append_eq,List.cons_append,List.nil_append,List.take_succ_cons,List.take_zero,List.drop_zero])|refine zq (Yq.ixP sg (n:=3) (j:=1) rfl (by show(0:Int)<=1;decide) (by show(1:Int)<3;decide) rfl rfl rfl rfl rfl rfl) ?_|refine zq (Yq.loadB1 sg hs (H.memF hF) rfl rfl rfl rfl (j:=1) (by decide) rfl) ?_|(refine' y35 zTa ?_ ?_;rotate_left;exact(fun _ hcl=>zKn _ _ _))|(refine q0 zOF ?_;refine⟨_,fun _ hcl=>zOV ⟨xi,xa,xn,1,xp,xl⟩ y _,?_⟩)|(refine c0 zOH ?_;refine⟨_,zTh _ _ _ (H.mem) (zz2 _),?_⟩;clear H;intro w H)|refine yU ?_|(refine qN H ?_;clear H;intro w H)|fail);exact zG rfl H.cl rfl
theorem zXD (x y:Odr)(h1:x.side=2){F:zA}(w0:World)(hF:Mem w0 F)(hP:PriM F) :
  Cr 95 [.agg x.cells.toArray,.agg y.cells.toArray] (.int .i64 (zHr x y)) w0:=by obtain⟨cs,T,fr,hs⟩:=hP;obtain⟨xi,xa,xn,xs,xp,xl⟩:=x;simp only at h1;subst h1;refine eS func95 ntmps95 fun H=>?_;(repeat' first|refine yS ?_|(refine yB ?_;intro b w H)|refine y12 ?_|(refine CW.regionR mixed ?_;refine wQ H ?_;clear H;intro w H;(with_reducible apply RW.quiet 12);exact rfl;decide +kernel;simp only[List.append_eq,List.cons_append,List.nil_append,List.take_succ_cons,List.take_zero,List.drop_zero])|refine zq (Yq.ixP sg (n:=3) (j:=2) rfl (by show(0:Int)<=2;decide) (by show(2:Int)<3;decide) rfl rfl rfl rfl rfl rfl) ?_|refine zq (Yq.loadB1 sg hs (H.memF hF) rfl rfl rfl rfl (j:=2) (by decide) rfl) ?_|(refine' y35 zTb ?_ ?_;rotate_left;exact(fun _ hcl=>zKo _ _ _))|(refine q0 zOF ?_;refine⟨_,fun _ hcl=>zOV ⟨xi,xa,xn,2,xp,xl⟩ y _,?_⟩)|(refine c0 zOH ?_;refine⟨_,zTh _ _ _ (H.mem) (zz2 _),?_⟩;clear H;intro w H)|refine yU ?_|(refine qN H ?_;clear H;intro w H)|fail);exact zG rfl H.cl rfl
theorem c_brow (x y:Odr)(h1:x.side=1\/x.side=2){F:zA}(w0:World)(hF:Mem w0 F)(hP:PriM F) :
  Cr 95 [.agg x.cells.toArray,.agg y.cells.toArray] (.int .i64 (zHr x y)) w0:=by{
rcases h1 with h|h
.exact zXC x y h w0 hF hP
.exact zXD x y h w0 hF hP}
def cfE (x y:Row4):Int:=zOW x.acct x.asset y.acct y.asset
theorem zFg (x y:Row4):ltOf cfE x y=true↔LtR x y:=by unfold ltOf cfE LtR;rw[decide_eq_true_eq,zPy]
theorem swoE:SWO (ltOf cfE) where
 irrefl x:=by rw[<- Bool.not_eq_true,zFg];exact LtR.irr x
 trans x y z:=by rw[zFg,zFg,zFg];exact fun h k=>h.tr k
 ntrans x y z:=by rw[<- Bool.not_eq_true,<- Bool.not_eq_true,<- Bool.not_eq_true,zFg,zFg,zFg];unfold LtR;omega
theorem zR5 {w0 w:World}{G:zA}{g cap:Nat}{cs:List Value}(l:List Row4)(hl:l.length<=1000000000000)(H:St w0 (cb g cs 281::G) w)(he:Els cs 4 l.length (rwl l))(hcl:l.length*4<=cs.length) :
  Calls prog 271 [.slice (some ⟨g,0,none⟩) l.length cap,.func (.func 272) #[] #[]].toArray w (zZ (zQZ Row4.cells 4 cfE g 281 G cs.length l) w0) :=
 sortK layFE isAgg281 sizeOf281 Row4.cells (fun _=>rfl) Row4.cone cfE swoE (caps:=[]) (enters_of func272 (by kernel_rfl) rfl) l hl H he hcl fun _ W x y _=>zXB x y W
theorem zPA {w:World}{a:OA}{cap:Nat}{fv:Value}:Cr 271 [.slice a 0 cap,fv] (.tuple #[]) w :=
 Calls.mono (AnyF.slices_SortFunc_none layFE a cap fv w) fun _ _ ⟨h1,h2⟩=>⟨h1,h2 ▸ Cl.refl _⟩
theorem zPB {l m n:List Row4}(hp:m.Perm l)(hs:m.Pairwise fun a b=>ltOf cfE b a=false)(hk:(l.map zAD).Nodup)(hn:n.Pairwise LtR)(he:∀ r,r∈n↔r∈l):m=n:=by{
have hk2:(m.map zAD).Nodup:=(hp.map _).nodup_iff.2 hk;rw[List.nodup_iff_pairwise_ne,List.pairwise_map] at hk2;have hm:m.Pairwise LtR:=(hs.and hk2).imp fun{a b} h=>by
 have h1:¬ LtR b a:=fun g=>by rw[(zFg b a).2 g] at h;cases h.1
 have h2:=h.2;unfold LtR at *;unfold zAD at h2;by_cases e:a.acct=b.acct
 .have:a.asset≠b.asset:=fun e2=>h2 (by rw[e,e2]);omega
 .omega
exact zIf LtR.irr LtR.asy hm hn fun r=>by rw[hp.mem_iff,he]}
abbrev OdrS (s:Int):={ o:Odr // o.side=s }
instance (s:Int):Inhabited (OdrS s):=⟨⟨{ (default:Odr) with side:=s },rfl⟩⟩
def cfO (s:Int)(x y:OdrS s):Int:=zHr x.1 y.1
theorem zFh {s:Int}(x y:OdrS s):ltOf (cfO s) x y=zAB x.1 y.1:=by unfold ltOf cfO;rw[Bool.eq_iff_iff,decide_eq_true_eq,zUe]
theorem swoO (s:Int):SWO (ltOf (cfO s)) where
 irrefl x:=by rw[zFh];unfold zAB;simp
 trans x y z:=by
  rw[zFh,zFh,zFh];unfold zAB;rw[x.2,y.2];by_cases hs:s=1
  .simp only[if_pos hs];repeat' split
   all_goals simp only[decide_eq_true_eq];omega
  .simp only[if_neg hs];repeat' split
   all_goals simp only[decide_eq_true_eq];omega
 ntrans x y z:=by rw[zFh,zFh,zFh];exact fun h k=>zJY z.2 y.2 x.2 k h
theorem zR6 {w0 w:World}{G F:zA}{g cap:Nat}{cs:List Value}(l:List Odr)(s:Int)(h12:s=1\/s=2)(hside:∀ o∈l,o.side=s)(hl:l.length<=1000000000000)(H:St w0 (cb g cs 45::G) w)(he:Els cs 6 l.length (odl l))(hcl:l.length*6<=cs.length)(hF:Mem w0 F)(hP:PriM F) :
  Calls prog 94 [.slice (some ⟨g,0,none⟩) l.length cap,.func (.func 95) #[] #[]].toArray w
   (zZ (fun M v=>v=.tuple #[]/\∃ cs' m,M=cb g cs' 45::G/\cs'.length=cs.length/\m.Perm l/\m.Pairwise (fun a b=>zAB b a=false)/\Els cs' 6 m.length (odl m)) w0):=by{
obtain⟨l',hl'⟩:∃ l':List (OdrS s),l'.map (·.1)=l:=⟨l.pmap Subtype.mk hside,by rw[List.map_pmap];simp⟩;have hlen:l'.length=l.length:=by rw[<- hl',yyp]
have hgd:∀ (q:List (OdrS s)) j,j<q.length->(q.getD j default).1=od_ (q.map (·.1)) j:=fun q j hj=>by simp[od_,yy1 hj]
have he':Els cs 6 l'.length fun j=>(l'.getD j default).1.cells:=by rw[hlen];exact he.congr fun j hj=>by show(od_ l j).cells=_;rw[hgd l' j qO,hl']
have:=sortK (enc:=fun o:OdrS s=>o.1.cells) layFO isAgg45 sizeOf45 (k:=6) (fun _=>rfl) (fun x=>Odr.cone x.1) (cfO s) (swoO s) (f:=95) (caps:=[]) (cap:=cap) (enters_of func95 (by kernel_rfl) rfl) l' qO H he' (by rw[hlen];exact hcl)
 (fun cs' W x y HW=>c_brow x.1 y.1 (by rw[x.2];exact h12) W (HW.memF hF) hP)
rw[hlen] at this;refine Calls.mono this ?_;rintro e w' ⟨v,M,rfl,⟨rfl,cs',m,rfl,h1,h2,h3,h4⟩,h5⟩;refine⟨_,_,rfl,⟨rfl,cs',m.map (·.1),rfl,h1,hl' ▸ h2.map _,?_,?_⟩,h5⟩
.rw[List.pairwise_map];exact h3.imp fun{a b} h=>by rw[zFh] at h;exact h
.rw[yyp];exact h4.congr fun j hj=>by show(m.getD j default).1.cells=(od_ _ j).cells;rw[hgd m j hj]}
theorem zJd {w:World}{a:OA}{cap:Nat}{fv:Value}:Cr 94 [.slice a 0 cap,fv] (.tuple #[]) w :=
 Calls.mono (AnyF.slices_SortFunc_none layFO a cap fv w) fun _ _ ⟨h1,h2⟩=>⟨h1,h2 ▸ Cl.refl _⟩
end
section
open Go Go.Sk Go.RowKit Tryz
attribute [local irreducible] Go.Calls
theorem ofS_no (i s:Int)(l:List Odr):(l.filter fun x=>!(x.inst != i||x.side != s))=l.filter (ofS i s):=by refine List.filter_congr fun x _=>?_;unfold ofS;simp[bne]
theorem SlA.nil {F:zA}{size:Nat}{a:OA}{cap:Nat}{el:Nat->List Value}:SlA F size a 0 cap el:=⟨zzD _,zzD _,0,0,[],0,(0,0),fun h=>absurd h (yyz 0)⟩
theorem zXE {a:OA}{cap:Nat}(l:List Odr)(i s:Int){F:zA}(w0:World)(hF:Mem w0 F)(hP:PriM F)(hs0:SlA F 6 a l.length cap (odl l)) :
  Cf 50 [.slice a l.length cap,.int .i64 i,.int .u8 s] (fun M v=>∃ a1 c1,v=.slice a1 (zCL l i s).length c1/\SlA M 6 a1 (zCL l i s).length c1 (odl (zCL l i s))) w0:=by{
by_cases hm:zb l=true
.have hl:=(zAk.1 hm).1;refine eS func50 ntmps50 fun H=>?_;(repeat' first|refine yW ?_|(refine yB ?_;intro b w H)|(refine c0 zC0 ?_;refine⟨_,zAo l _ (H.memF hF) hs0,?_⟩;clear H;intro w H)|(refine f0 zS6 ?_;refine⟨_,zGb _ (H.memF hF) hs0 (fun j _=>Odr.cone _) (fun j _=>rfl) qO,?_⟩;clear H;intro v M w hR H;(try simp only[zca,zcb] at H);obtain⟨a',cap',rfl,hO⟩:=hR)|(refine y23 ?_ ?_;all_goals(intro h;try (exfalso;first|((rw[hm] at h;cases h);done))))|fail);rcases yyn l.length with h0|h0
 .obtain rfl:=List.length_eq_zero_iff.1 h0;have e:zCL [] i s=[]:=List.perm_nil.1 (zCM (l:=[]) hm);(repeat' first|refine yW ?_|(refine c0 ent92 ?_;refine⟨_,zRe (a:=a') (cap:=cap') (caps:=[(pt _),(pt _)]) ent93,?_⟩;clear H;intro w H)|(refine c0 zS8 ?_;refine⟨_,zJd (a:=a') (cap:=cap'),?_⟩;clear H;intro w H)|fail);exact zL (M:=[]) rfl (H.sub (zz9 _)) ⟨a',cap',by rw[e];rfl,by rw[e];exact SlA.nil⟩
 .obtain⟨g,cs,rfl,rfl,hnc,he⟩:=hO.els h0 (fun j _=>rfl);clear hO;replace H:=H.perm (yyg (l₁:=[_,_]) (l₂:=[_]));simp only[zca,zcb] at H;(repeat' first|refine yW ?_|(refine zW rfl rfl (En.fn ent92 rfl rfl) (zRc (n:=l.length) (d:=od_ l) (caps:=[(pt _),(pt _)]) (fun j=>(od_ l j).inst != i||(od_ l j).side != s) H he qO hnc ent93 (fun j hj L cs' w' H'=>zW9 (od_ l j) i s _ _ w' H'.mem (zz3 _ (zz5 _ (zz5 _ (zz2 _)))) (zz3 _ (zz5 _ (zz2 _))))) ?_;rintro _ _ w ⟨rfl,cs2,rfl,hl2,he2⟩ H2;clear H;have H:=H2;clear H2)|fail);obtain⟨hk1,hk2⟩:=zIF l (fun x=>x.inst != i||x.side != s) default;rw[ofS_no] at hk1 hk2;have hk1':(kp (fun j=>(od_ l j).inst != i||(od_ l j).side != s) l.length).length=(l.filter (ofS i s)).length:=hk1;rw[hk1'] at he2 ⊢;replace he2:Els cs2 6 (l.filter (ofS i s)).length (odl (l.filter (ofS i s))):=he2.congr fun t ht=>by have:=hk2 t ht;show(zCX _ l.length (od_ l) t).cells=(od_ _ t).cells;exact congrArg Odr.cells this
  obtain⟨m,hmm⟩:∃ m,l.filter (ofS i s)=m:=⟨_,rfl⟩;have hperm:=zCM (i:=i) (s:=s) hm;have hside:∀ o∈m,o.side=s:=by rw[<- hmm];exact zDa
  have hmem:∀ o∈m,o∈l:=by rw[<- hmm];exact fun o ho=>(List.mem_filter.1 ho).1
  have hml:m.length<=l.length:=by rw[<- hmm];exact List.length_filter_le _ _
  have hun:=fun n=>zRz (m:=n) (i:=i) (s:=s) hm;rw[hmm] at hperm he2 hun ⊢;have hcl:l.length*6<=cs.length:=by have:=(he (l.length - 1) qO).1;omega
  rcases yyn m.length with h1|h1
  .obtain rfl:=List.length_eq_zero_iff.1 h1;have e:zCL l i s=[]:=List.perm_nil.1 hperm;(repeat' first|refine yW ?_|(refine c0 zS8 ?_;refine⟨_,zJd (a:=some ⟨g,0,none⟩) (cap:=cap'),?_⟩;clear H;intro w H)|fail);exact zL (M:=[]) rfl (H.sub (zz9 _)) ⟨_,cap',by rw[e],by rw[e];exact SlA.nil⟩
  .have h12:s=1\/s=2:=by have ho:od_ m 0∈m:=zAP _ h1;rw[<- hside _ ho];exact((zAK.1 hm).2.1 _ (hmem _ ho)).2.2.2.1
   (repeat' first|refine yW ?_|(refine zW rfl rfl (En.fn zS8 rfl rfl) (zR6 m s h12 hside qO H he2 qO hF hP) ?_;rintro _ _ w ⟨rfl,cs3,n,rfl,hl3,hp3,hs3,he3⟩ H2;clear H;have H:=H2;clear H2)|fail);obtain⟨rfl,_⟩:=hun n hp3 hs3;rw[hp3.length_eq] at he3;refine zL (M:=[cb g cs3 45]) rfl (H.sub (yy5 _ (zz9 _))) ⟨some ⟨g,0,none⟩,cap',by rw[hp3.length_eq],?_⟩;rw[hp3.length_eq];exact⟨by omega,by omega,g,0,cs3,_,(0,0),he3.slb (zz2 _)⟩
.have hm:zb l=false:=by simpa using hm
 have e:zCL l i s=[]:=by unfold zCL;rw[hm];rfl
 refine eS func50 ntmps50 fun H=>?_;(repeat' first|refine yW ?_|(refine yB ?_;intro b w H)|(refine c0 zC0 ?_;refine⟨_,zAo l _ (H.memF hF) hs0,?_⟩;clear H;intro w H)|(refine y23 ?_ ?_;all_goals(intro h;try (exfalso;first|((rw[hm] at h;cases h);done))))|fail);exact zL (M:=[]) rfl (H.sub (zz9 _)) ⟨none,0,by rw[e];rfl,by rw[e];exact SlA.nil⟩}
theorem zQa {a:OA}{cap:Nat}(l:List Odr)(i s:Int){F:zA}(w0:World)(hF:Mem w0 F)(hP:PriM F)(hs0:SlA F 6 a l.length cap (odl l)) :
  Cr 16 [.slice a l.length cap,.int .i64 i,.int .u8 s] (.tuple #[.agg (zBM l i s).1.cells.toArray,.bool (zBM l i s).2]) w0:=by{
have hf:=zEw (l:=l) (i:=i) (s:=s);refine eS func16 ntmps16 fun H=>?_;(repeat' first|refine yX ?_|(refine yB ?_;intro b w H)|(refine f0 ent50 ?_;refine⟨_,zXE l i s _ (H.memF hF) hP hs0,?_⟩;clear H;intro v M w hR H;(try simp only[zca,zcb] at H);obtain⟨a1,c1,rfl,hs1⟩:=hR)|fail);generalize zCL l i s=m at hf hs1 ⊢;cases m with
| nil =>
  (repeat' first|refine yW ?_|(refine y11 sg H ?_;intro w H)|fail);refine zAv (vs:=[_,_]) ⟨zg sg rfl H.mem qB rfl rfl,zP rfl,trivial⟩ H.cl ?_;rw[hf];rfl
| cons o m =>
  obtain⟨hn,hc,b0,off,cs,T,fr,hs⟩:=hs1;have hln:(o::m).length=m.length+1:=rfl;have d1:(((o::m).length:Int)==0)=false:=beq_eq_false_iff_ne.2 qO;(repeat' first|refine yW ?_|(refine y11 sg H ?_;intro w H)|refine x40 sg hs ?_|refine x42 sg hs (H.mem.sub qS) ?_|fail);refine zAv (vs:=[_,_]) ⟨zg sg rfl H.mem qB rfl rfl,zP rfl,trivial⟩ H.cl ?_;rw[hf];rfl}
end
end Go.Proofs.YtejhijhnlogikaaGreatDoor
