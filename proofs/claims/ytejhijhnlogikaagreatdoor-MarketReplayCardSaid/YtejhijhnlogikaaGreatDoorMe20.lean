/- Steps of the proof. -/
import Derived.Test.YtejhijhnlogikaaGreatDoorMe19
set_option linter.all false
set_option maxHeartbeats 16000000
namespace Go
section
variable {P:Program}{ops:Array Oper}{Q:Exit->Act->World->Prop}{md:Region.Mode}{S:World->Prop}{late:List Nat}
def zCy (P:Program)(md:Region.Mode)(ops:Array Oper)(Q:Exit->Act->World->Prop)(S:World->Prop)(late:List Nat):Nat->Array Bool->Act->World->Prop
 | 0,listed,a,w=>Region.ready md ops listed=[]/\Q .normal a w
 | fuel+1,listed,a,w =>
   (Region.ready md ops listed=[]->Q .normal a w) /\
   ∀ i∈Region.ready md ops listed,wpOp P ops Q i (fun a' w'=>(late.contains i=false->S w')/\zCy P md ops Q S late fuel (listed.setIfInBounds i true) a' w') a w
theorem zD2:∀ (fuel:Nat) (listed:Array Bool) (a:Act) (w:World),zCy P md ops Q S late fuel listed a w->wpAny P md ops Q fuel listed a w
 | 0,_,_,_,h=>h
 | fuel+1,_,_,_,h=>⟨h.1,fun i hi=>wpOp_mono (fun a' w' h'=>zD2 fuel _ a' w' h'.2) (h.2 i hi)⟩
def zE7 (md:Region.Mode)(ops:Array Oper)(listed:Array Bool)(i:Nat):Nat->Nat->Bool
 | 0,_=>false
 | f+1,j=>match ops[j]? with
   | some o=>o.after.any fun e=>Region.binds md e&&(e.on==i||(!listed.getD e.on true&&zE7 md ops listed i f e.on))
   | none=>false
theorem zKq {listed:Array Bool}{i k:Nat}{ok:Oper}(hk:k∈Region.ready md ops listed)(hok:ops[k]?=some ok)(hnot:∀ e∈ok.after,Region.binds md e=true->e.on≠i)(f:Nat):zE7 md ops listed i f k=false:=by{
cases f with
| zero=>rfl
| succ f =>
  rw[<- Bool.not_eq_true];intro h;unfold zE7 at h;rw[hok] at h;simp only[Array.any_eq_true,yy3,Bool.or_eq_true,beq_iff_eq,Bool.not_eq_true'] at h;obtain⟨q,hq,hb,he⟩:=h;obtain⟨_,oj,hoj,hall⟩:=mem_ready.1 hk;rw[hok] at hoj;cases hoj;rcases he with he|⟨he,_⟩
  .exact hnot _ (Array.getElem_mem hq) hb he
  .have h1:=hall _ (Array.getElem_mem hq) hb;rcases Nat.lt_or_ge (ok.after[q]).on listed.size with h'|h'
   .simp[h'] at he h1;rw[he] at h1;cases h1
   .simp[Array.getElem?_eq_none h'] at h1}
theorem zJg {listed:Array Bool}{i k:Nat}{ok:Oper}(hk:k∈Region.ready md ops listed)(hok:ops[k]?=some ok)(hnot:∀ e∈ok.after,Region.binds md e=true->e.on≠i):∀ (f j:Nat),zE7 md ops listed i f j=true->zE7 md ops (listed.setIfInBounds k true) i f j=true
 | 0,_,h=>h
 | f+1,j,h=>by
   unfold zE7 at h ⊢
   cases ho:ops[j]? with
   | none=>rw[ho] at h;cases h
   | some o =>
     rw[ho] at h
     simp only[Array.any_eq_true,yy3,Bool.or_eq_true,beq_iff_eq,Bool.not_eq_true'] at h ⊢
     obtain⟨q,hq,hb,he⟩:=h
     refine⟨q,hq,hb,he.imp id fun⟨h1,h2⟩=>?_⟩
     by_cases hkq:k=(o.after[q]).on
     .rw[<- hkq,zKq hk hok hnot] at h2;cases h2
     .exact⟨by rw[getD_set_ne true hkq];exact h1,zJg hk hok hnot f _ h2⟩
def zFE (md:Region.Mode)(ops:Array Oper)(late:List Nat)(listed:Array Bool)(i:Nat):Bool :=
 late.all fun j=>listed.getD j true||zE7 md ops listed i 14 j
theorem zPD {listed:Array Bool}{i j:Nat}{oj:Oper}(hj:j∈Region.ready md ops listed)(hoj:ops[j]?=some oj)(hnot:∀ e∈oj.after,Region.binds md e=true->e.on≠i)(h:zFE md ops late listed i=true):zFE md ops late (listed.setIfInBounds j true) i=true:=by{
unfold zFE at *;rw[yye] at *;intro k hk;have h1:=h k hk;rw[Bool.or_eq_true] at *;refine h1.imp (fun h2=>?_) fun h2=>zJg hj hoj hnot _ _ h2;by_cases hjk:j=k
.subst hjk;simp only[Array.getD_eq_getD_getElem?,Array.getElem?_setIfInBounds];split
 .split<;>rfl
 .contradiction
.rw[getD_set_ne true hjk];exact h2}
theorem zHD {T:World->Prop}{i:Nat}{oi:Oper}{v:Value}(hi:ops[i]?=some oi)(hsel:∀ (j:Nat) (o:Oper) cs b,ops[j]?=some o->o.op≠.select cs b)
  (hQ:∀ c a w,Q (.panic c) (a.put oi.dst v) w->Q (.panic c) a w) (lb:Array Bool->Bool) (hmono:∀ listed j oj,j∈Region.ready md ops listed->ops[j]?=some oj->(∀ e∈oj.after,Region.binds md e=true->e.on≠i)->lb listed=true->lb (listed.setIfInBounds j true)=true)
  (hl:∀ listed j oj,lb listed=true->j∈Region.ready md ops listed->listed.getD j true=false->ops[j]?=some oj->(∀ e∈oj.after,Region.binds md e=true->e.on≠i)->∀ w,(late.contains j=false->S w)->T w) (hTS:∀ w,T w->late.contains i=false->S w) :
  ∀ (fuel:Nat) (listed:Array Bool) (a:Act) (w:World),lb listed=true ->
    (∀ j oj,ops[j]?=some oj->j≠i->listed.getD j true=false->(∀ e∈oj.after,Region.binds md e=true->e.on≠i)->oi.apart ops oj=true) ->
    i∈Region.ready md ops listed->YieldsIf P ops T oi v a->T w ->
    zCy P md ops Q S late fuel (listed.setIfInBounds i true) (a.put oi.dst v) w->zCy P md ops Q S late (fuel+1) listed a w:=by{
intro fuel;induction fuel with
| zero =>
  intro listed a w _ _ hr hy hT H;refine⟨fun h=>(by rw[h] at hr;cases hr),fun j hj=>?_⟩;by_cases hji:j=i
  .subst hji;exact hy.wpOp hi hT ⟨hTS _ hT,H⟩
  .have:=ready_mono hj hji;rw[H.1] at this;cases this
| succ fuel ih =>
  intro listed a w hlb hfree hr hy hT H;refine⟨fun h=>(by rw[h] at hr;cases hr),fun j hj=>?_⟩;by_cases hji:j=i
  .subst hji;exact hy.wpOp hi hT ⟨hTS _ hT,H⟩
  .have h1:=H.2 j (ready_mono hj hji);obtain⟨hjun,oj,hoj,hall⟩:=mem_ready.1 hj;have hnot:∀ e∈oj.after,Region.binds md e=true->e.on≠i:=fun e he hb heq=>by
    have h1:=hall e he hb;have h0:=(mem_ready.1 hr).1;rw[heq] at h1;rcases Nat.lt_or_ge i listed.size with h'|h'
    .simp[h'] at h0 h1;rw[h0] at h1;cases h1
    .simp[Array.getElem?_eq_none h'] at h1
   have h2:=wpOp_putIf hoj (hfree j oj hoj hji hjun hnot) (fun cs b=>hsel i oi cs b hi) (fun cs b=>hsel j oj cs b hoj) hQ hy h1
   have hfree':∀ k ok,ops[k]?=some ok->k≠i->(listed.setIfInBounds j true).getD k true=false ->
     (∀ e∈ok.after,Region.binds md e=true->e.on≠i)->oi.apart ops ok=true:=fun k ok hk hki hun hno=>by
    refine hfree k ok hk hki ?_ hno;by_cases hjk:j=k
    .subst hjk;exact hjun
    .rw[getD_set_ne true hjk] at hun;exact hun
   refine wpOp_mono (fun a' w' h3=>⟨h3.2.1,ih (listed.setIfInBounds j true) a' w' (hmono _ _ _ hj hoj hnot hlb) hfree' (ready_mono hr (Ne.symm hji)) h3.1 (hl listed j oj hlb hj hjun hoj hnot w' h3.2.1) ?_⟩) h2;rw[Array.setIfInBounds_comm _ _ hji];exact h3.2.2}
theorem zFi {i:Nat}{oi:Oper}{v:Value}{fuel:Nat}{listed:Array Bool}{a:Act}{w:World}(hi:ops[i]?=some oi)
  (hs:Region.noSelect ops=true) (hf:Region.free md ops listed i=true) (hr:(Region.ready md ops listed).contains i=true) (hl:zFE md ops late listed i=true)
  (hQ:∀ c a w,Q (.panic c) (a.put oi.dst v) w->Q (.panic c) a w) (hy:YieldsIf P ops S oi v a) (hS:S w)
  (h:zCy P md ops Q S late fuel (listed.setIfInBounds i true) (a.put oi.dst v) w):zCy P md ops Q S late (fuel+1) listed a w:=by refine zHD (T:=S) hi (Region.noSelect_spec hs) hQ (fun listed=>zFE md ops late listed i) (fun _ _ _ hj ho hn h=>zPD hj ho hn h) ?_ (fun _ h _=>h) fuel listed a w hl (Region.free_spec hi hf) (by simpa using hr) hy hS h;intro listed j oj hlb hj hjun hoj hnot w hw;refine hw ?_;rw[<- Bool.not_eq_true];intro hc;have h2:=List.all_eq_true.1 hlb j (by simpa using hc);rw[hjun,Bool.false_or,zKq hj hoj hnot] at h2;cases h2
theorem zMA {i:Nat}{oi:Oper}{v:Value}{fuel:Nat}{listed:Array Bool}{a:Act}{w:World}(hi:ops[i]?=some oi)
  (hs:Region.noSelect ops=true) (hf:Region.free md ops listed i=true) (hr:(Region.ready md ops listed).contains i=true)
  (hQ:∀ c a w,Q (.panic c) (a.put oi.dst v) w->Q (.panic c) a w) (hy:YieldsIf P ops (fun _=>True) oi v a) (hc:late.contains i=true)
  (h:zCy P md ops Q S late fuel (listed.setIfInBounds i true) (a.put oi.dst v) w):zCy P md ops Q S late (fuel+1) listed a w :=
 zHD (T:=fun _=>True) hi (Region.noSelect_spec hs) hQ (fun _=>true) (fun _ _ _ _ _ _ h=>h) (fun _ _ _ _ _ _ _ _ _ _=>trivial) (fun w _ hl=>by rw[hc] at hl;cases hl) fuel listed a w rfl (Region.free_spec hi hf) (by simpa using hr) hy trivial h
theorem zGe {rs:List Nat}{fuel:Nat}{listed:Array Bool}{a:Act}{w:World}(hr:Region.ready md ops listed=rs)(hne:rs≠[])
  (h:∀ i∈rs,wpOp P ops Q i (fun a' w'=>(late.contains i=false->S w')/\zCy P md ops Q S late fuel (listed.setIfInBounds i true) a' w') a w):zCy P md ops Q S late (fuel+1) listed a w :=
 ⟨fun h0=>absurd (hr ▸ h0) hne,hr ▸ h⟩
theorem zNW {listed:Array Bool}{a:Act}{w:World}(hr:Region.ready md ops listed=[])(h:Q .normal a w) :
  ∀ fuel,zCy P md ops Q S late fuel listed a w
 | 0=>⟨hr,h⟩
 | _+1=>⟨fun _=>h,by rw[hr];simp⟩
end
end Go
namespace Go.Sk
open Go Go.RowKit
attribute [local semireducible] CW OW OX QW QX Yq RA
def RL (P:Program)(n:Nw)(l:List Oper)(F0:zA)(late:List Nat)(s:Array Bool)(m:Nat)(Q:zAM)(e:Env)(w:World):Prop :=
 ∀ a,Fits n a e->zCy P .any l.toArray (nrm n Q) (fun w=>Mem w F0) late m s a w
section
variable {P:Program}{n:Nw}{id:Nat}{Q:zAM}{e:Env}{w:World}{l:List Oper}{s:Array Bool}{m:Nat}{F0:zA}{late:List Nat}
theorem CW.regionL (hm:P.follows .mixedOrders=true)(N:Nat)(_hM0:Mem w F0)(late:List Nat)(hN:Nat.beq l.length N=true)(h:∀ w',Cl w w'->RL P n l F0 late (Array.replicate N false) N Q e w')(hnd:zCq l=true:=by exact rfl):CW P n (.region id l.toArray true) Q e w :=
 zBD hm N hN (fun w' hw a ha=>zD2 _ _ _ _ (h w' hw a ha)) hnd
theorem RL.nil (hr:(Region.ready .any l.toArray s).isEmpty=true)(h:Q .normal e w):RL P n l F0 late s m Q e w :=
 fun a ha=>zNW (by simpa using hr) ⟨rfl,nofun,e,ha,h⟩ m
theorem RL.take {L:List (Nat × Value)}{b0:Env}(i:Nat){o:Oper}{d:Nat}{v:Value}(hM:Mem w F0)(hB:(((Region.noSelect l.toArray&&Region.free .any l.toArray s i)&&(Region.ready .any l.toArray s).contains i)&&zFE .any l.toArray late s i)=true)
  (ho:l[i]?=some o) (hg:o.guard=none) (hd:o.dst=some d) (hlt:Nat.blt d n.n=true) (hy:∀ w,Mem w F0->Yq P o (ovl L b0) w v)
  {m':Nat} (hm:m'=m+1) (h:RL P n l F0 late (s.setIfInBounds i true) m Q (ovl ((d,v)::L) b0) w):RL P n l F0 late s m' Q (ovl L b0) w:=by{
subst hm;intro a ha;simp only[yy3] at hB;obtain⟨⟨⟨h1,h2⟩,h3⟩,h4⟩:=hB;refine zFi (oi:=o) (v:=v) (by simpa using ho) h1 h2 h3 h4 (fun c a w hq=>absurd hq.1 (by simp)) (.inl ⟨by simp[Region.wanted,hg],fun w' hw'=>?_⟩) hM ?_
.rw[ha.eval];exact hy w' hw' w' (Cl.refl w')
.rw[hd];exact h _ (ha.put hlt v)}
theorem RL.takeG {L:List (Nat × Value)}{b0:Env}(i:Nat){o:Oper}{d:Nat}{v:Value}{j d2:Nat}{want:Bool}(hM:Mem w F0)(hB:(((Region.noSelect l.toArray&&Region.free .any l.toArray s i)&&(Region.ready .any l.toArray s).contains i)&&zFE .any l.toArray late s i)=true)
  (ho:l[i]?=some o) (hg:o.guard=some (j,want)) (hj:(l.toArray[j]?).bind (·.dst)=some d2) (hv:gd (ovl L b0 d2) want=some true) (hd:o.dst=some d) (hlt:Nat.blt d n.n=true) (hy:∀ w,Mem w F0->Yq P o (ovl L b0) w v)
  {m':Nat} (hm:m'=m+1) (h:RL P n l F0 late (s.setIfInBounds i true) m Q (ovl ((d,v)::L) b0) w):RL P n l F0 late s m' Q (ovl L b0) w:=by{
subst hm;intro a ha;simp only[yy3] at hB;obtain⟨⟨⟨h1,h2⟩,h3⟩,h4⟩:=hB;refine zFi (oi:=o) (v:=v) (by simpa using ho) h1 h2 h3 h4 (fun c a w hq=>absurd hq.1 (by simp)) (.inl ⟨zCB ha hg hj hv,fun w' hw'=>?_⟩) hM ?_
.rw[ha.eval];exact hy w' hw' w' (Cl.refl w')
.rw[hd];exact h _ (ha.put hlt v)}
theorem RL.takeN {L:List (Nat × Value)}{b0:Env}(i:Nat){o:Oper}{d:Nat}{j d2:Nat}{want:Bool}(hM:Mem w F0)(hB:(((Region.noSelect l.toArray&&Region.free .any l.toArray s i)&&(Region.ready .any l.toArray s).contains i)&&zFE .any l.toArray late s i)=true)
  (ho:l[i]?=some o) (hg:o.guard=some (j,want)) (hj:(l.toArray[j]?).bind (·.dst)=some d2) (hv:gd (ovl L b0 d2) want=some false) (hd:o.dst=some d) (hlt:Nat.blt d n.n=true)
  {m':Nat} (hm:m'=m+1) (h:RL P n l F0 late (s.setIfInBounds i true) m Q (ovl ((d,undef)::L) b0) w):RL P n l F0 late s m' Q (ovl L b0) w:=by subst hm;intro a ha;simp only[yy3] at hB;obtain⟨⟨⟨h1,h2⟩,h3⟩,h4⟩:=hB;refine zFi (oi:=o) (v:=undef) (by simpa using ho) h1 h2 h3 h4 (fun c a w hq=>absurd hq.1 (by simp)) (.inr ⟨zCB ha hg hj hv,rfl⟩) hM ?_;rw[hd];exact h _ (ha.put hlt undef)
theorem RL.takeP {L:List (Nat × Value)}{b0:Env}(i:Nat){o:Oper}{d:Nat}{v:Value}(hB:(((Region.noSelect l.toArray&&Region.free .any l.toArray s i)&&(Region.ready .any l.toArray s).contains i)&&late.contains i)=true)
  (ho:l[i]?=some o) (hg:o.guard=none) (hd:o.dst=some d) (hlt:Nat.blt d n.n=true) (hy:∀ w,Yq P o (ovl L b0) w v)
  {m':Nat} (hm:m'=m+1) (h:RL P n l F0 late (s.setIfInBounds i true) m Q (ovl ((d,v)::L) b0) w):RL P n l F0 late s m' Q (ovl L b0) w:=by{
subst hm;intro a ha;simp only[yy3] at hB;obtain⟨⟨⟨h1,h2⟩,h3⟩,h4⟩:=hB;refine zMA (oi:=o) (v:=v) (by simpa using ho) h1 h2 h3 (fun c a w hq=>absurd hq.1 (by simp)) (.inl ⟨by simp[Region.wanted,hg],fun w' _=>?_⟩) h4 ?_
.rw[ha.eval];exact hy w' w' (Cl.refl w')
.rw[hd];exact h _ (ha.put hlt v)}
theorem RL.c1 (i:Nat){o:Oper}{m':Nat}(hm:m'=m+1)(hB:(Region.ready .any l.toArray s==[i])=true)(ho:l[i]?=some o)
  (h:OW P n l.toArray (thn (fun e' w'=>Mem w' F0/\RL P n l F0 late (s.setIfInBounds i true) m Q e' w') (fun _ _ _=>False)) [o] e w):RL P n l F0 late s m' Q e w:=by subst hm;refine fun a ha=>zGe (rs:=[i]) (by simpa using hB) (by simp) (fun j hj=>?_);simp only[yyd] at hj;subst hj;exact zBI ho (fun a e w hf hk=>⟨fun _=>hk.1,hk.2 a hf⟩) h a ha
theorem RL.cl (i:Nat){o:Oper}{m':Nat}(hm:m'=m+1)(hB:((Region.ready .any l.toArray s==[i])&&late.contains i)=true)(ho:l[i]?=some o)
  (h:OW P n l.toArray (thn (fun e' w'=>RL P n l F0 late (s.setIfInBounds i true) m Q e' w') (fun _ _ _=>False)) [o] e w):RL P n l F0 late s m' Q e w:=by subst hm;rw[yy3] at hB;refine fun a ha=>zGe (rs:=[i]) (by simpa using hB.1) (by simp) (fun j hj=>?_);simp only[yyd] at hj;subst hj;exact zBI ho (fun a e w hf hk=>⟨fun hl=>(by rw[hB.2] at hl;cases hl),hk a hf⟩) h a ha
theorem RL.c2 (i j:Nat){o o':Oper}{m':Nat}(hm:m'=m+1)(hB:(Region.ready .any l.toArray s==[i,j])=true)(ho:l[i]?=some o)(ho':l[j]?=some o')
  (h:OW P n l.toArray (thn (fun e' w'=>Mem w' F0/\RL P n l F0 late (s.setIfInBounds i true) m Q e' w') (fun _ _ _=>False)) [o] e w)
  (h':OW P n l.toArray (thn (fun e' w'=>Mem w' F0/\RL P n l F0 late (s.setIfInBounds j true) m Q e' w') (fun _ _ _=>False)) [o'] e w):RL P n l F0 late s m' Q e w:=by{
subst hm;refine fun a ha=>zGe (rs:=[i,j]) (by simpa using hB) (by simp) (fun k hk=>?_);simp only[List.mem_cons,List.not_mem_nil,or_false] at hk;rcases hk with rfl|rfl
.exact zBI ho (fun a e w hf hk=>⟨fun _=>hk.1,hk.2 a hf⟩) h a ha
.exact zBI ho' (fun a e w hf hk=>⟨fun _=>hk.1,hk.2 a hf⟩) h' a ha}
theorem l1 {L:List (Nat × Value)}{b0:Env}{o:Oper}(i:Nat){d:Nat}{v:Value}(hM:Mem w F0)(hy:∀ w,Mem w F0->Yq P o (ovl L b0) w v)(h:RL P n l F0 late (s.setIfInBounds i true) m Q (ovl ((d,v)::L) b0) w){m':Nat}(hB:(((Region.noSelect l.toArray&&Region.free .any l.toArray s i)&&(Region.ready .any l.toArray s).contains i)&&zFE .any l.toArray late s i)=true:=by decide +kernel)
  (ho:l[i]?=some o:=by exact rfl) (hg:o.guard=none:=by exact rfl) (hd:o.dst=some d:=by exact rfl) (hlt:Nat.blt d n.n=true:=by exact rfl) (hm:m'=m+1:=by exact rfl):RL P n l F0 late s m' Q (ovl L b0) w:=RL.take i hM hB ho hg hd hlt hy hm h
theorem lT (S:Sig P){L:List (Nat × Value)}{b0:Env}{o:Oper}(i:Nat){d:Nat}{v:Value}(hM:Mem w F0)(h:RL P n l F0 late (s.setIfInBounds i true) m Q (ovl ((d,v)::L) b0) w){m':Nat}(hB:(((Region.noSelect l.toArray&&Region.free .any l.toArray s i)&&(Region.ready .any l.toArray s).contains i)&&zFE .any l.toArray late s i)=true:=by decide +kernel)
  (ho:l[i]?=some o:=by exact rfl) (hg:o.guard=none:=by exact rfl) (hd:o.dst=some d:=by exact rfl) (hlt:Nat.blt d n.n=true:=by exact rfl) (hm:m'=m+1:=by exact rfl) (hv:pvn S.tab (ovl L b0) o.op=some v:=by exact rfl):RL P n l F0 late s m' Q (ovl L b0) w:=RL.take i hM hB ho hg hd hlt (fun w _=>zCS S hv w) hm h
theorem l6 {L:List (Nat × Value)}{b0:Env}{o:Oper}(i:Nat){d:Nat}{v:Value}(hy:∀ w,Yq P o (ovl L b0) w v)(h:RL P n l F0 late (s.setIfInBounds i true) m Q (ovl ((d,v)::L) b0) w){m':Nat}(hB:(((Region.noSelect l.toArray&&Region.free .any l.toArray s i)&&(Region.ready .any l.toArray s).contains i)&&late.contains i)=true:=by decide +kernel)
  (ho:l[i]?=some o:=by exact rfl) (hg:o.guard=none:=by exact rfl) (hd:o.dst=some d:=by exact rfl) (hlt:Nat.blt d n.n=true:=by exact rfl) (hm:m'=m+1:=by exact rfl):RL P n l F0 late s m' Q (ovl L b0) w:=RL.takeP i hB ho hg hd hlt hy hm h
theorem l7 {L:List (Nat × Value)}{b0:Env}{o:Oper}(i:Nat){d:Nat}{v:Value}{j d2:Nat}{want:Bool}(hM:Mem w F0)(hy:∀ w,Mem w F0->Yq P o (ovl L b0) w v)(h:RL P n l F0 late (s.setIfInBounds i true) m Q (ovl ((d,v)::L) b0) w){m':Nat}(hB:(((Region.noSelect l.toArray&&Region.free .any l.toArray s i)&&(Region.ready .any l.toArray s).contains i)&&zFE .any l.toArray late s i)=true:=by decide +kernel)
  (ho:l[i]?=some o:=by exact rfl) (hg:o.guard=some (j,want):=by exact rfl) (hj:(l.toArray[j]?).bind (·.dst)=some d2:=by exact rfl) (hv:gd (ovl L b0 d2) want=some true:=by exact rfl) (hd:o.dst=some d:=by exact rfl) (hlt:Nat.blt d n.n=true:=by exact rfl) (hm:m'=m+1:=by exact rfl):RL P n l F0 late s m' Q (ovl L b0) w:=RL.takeG i hM hB ho hg hj hv hd hlt hy hm h
theorem l8 {L:List (Nat × Value)}{b0:Env}{o:Oper}(i:Nat){d:Nat}{j d2:Nat}{want:Bool}(hM:Mem w F0)(h:RL P n l F0 late (s.setIfInBounds i true) m Q (ovl ((d,undef)::L) b0) w){m':Nat}(hB:(((Region.noSelect l.toArray&&Region.free .any l.toArray s i)&&(Region.ready .any l.toArray s).contains i)&&zFE .any l.toArray late s i)=true:=by decide +kernel)
  (ho:l[i]?=some o:=by exact rfl) (hg:o.guard=some (j,want):=by exact rfl) (hj:(l.toArray[j]?).bind (·.dst)=some d2:=by exact rfl) (hv:gd (ovl L b0 d2) want=some false:=by exact rfl) (hd:o.dst=some d:=by exact rfl) (hlt:Nat.blt d n.n=true:=by exact rfl) (hm:m'=m+1:=by exact rfl):RL P n l F0 late s m' Q (ovl L b0) w:=RL.takeN i hM hB ho hg hj hv hd hlt hm h
theorem lN (h:Q .normal e w){m':Nat}(hr:(Region.ready .any l.toArray s).isEmpty=true:=by decide +kernel):RL P n l F0 late s m' Q e w:=RL.nil hr h
theorem l2 {o:Oper}(i:Nat)(h:OW P n l.toArray (thn (fun e' w'=>Mem w' F0/\RL P n l F0 late (s.setIfInBounds i true) m Q e' w') (fun _ _ _=>False)) [o] e w){m':Nat}(hB:(Region.ready .any l.toArray s==[i])=true:=by decide +kernel)(ho:l[i]?=some o:=by exact rfl)(hm:m'=m+1:=by exact rfl):RL P n l F0 late s m' Q e w:=RL.c1 i hm hB ho h
theorem l3 {o:Oper}(i:Nat)(h:OW P n l.toArray (thn (fun e' w'=>RL P n l F0 late (s.setIfInBounds i true) m Q e' w') (fun _ _ _=>False)) [o] e w){m':Nat}(hB:((Region.ready .any l.toArray s==[i])&&late.contains i)=true:=by decide +kernel)(ho:l[i]?=some o:=by exact rfl)(hm:m'=m+1:=by exact rfl):RL P n l F0 late s m' Q e w:=RL.cl i hm hB ho h
theorem l4 {o o':Oper}(i j:Nat)(h:OW P n l.toArray (thn (fun e' w'=>Mem w' F0/\RL P n l F0 late (s.setIfInBounds i true) m Q e' w') (fun _ _ _=>False)) [o] e w)
  (h':OW P n l.toArray (thn (fun e' w'=>Mem w' F0/\RL P n l F0 late (s.setIfInBounds j true) m Q e' w') (fun _ _ _=>False)) [o'] e w) {m':Nat} (hB:(Region.ready .any l.toArray s==[i,j])=true:=by decide +kernel) (ho:l[i]?=some o:=by exact rfl) (ho':l[j]?=some o':=by exact rfl) (hm:m'=m+1:=by exact rfl):RL P n l F0 late s m' Q e w:=RL.c2 i j hm hB ho ho' h h'
theorem l5 (hM:Mem w F0)(h:RL P n l F0 late s m Q e w):Mem w F0/\RL P n l F0 late s m Q e w:=⟨hM,h⟩
end
attribute [irreducible] RL
end Go.Sk
namespace Go.Proofs.YtejhijhnlogikaaGreatDoor
section
open Go Go.Sk Go.RowKit Tryz
attribute [local irreducible] Go.Calls
def mkc (s:Sta)(p:SPt)(n:List Int)(na:OA)(nc:Nat)(t:ByteArray):List Value:=s.cells p++[.slice na n.length nc,.string t]
structure Mkt (F:zA)(bm:Nat)(s:Sta)(p:SPt)(n:List Int)(na:OA)(nc:Nat)(t:ByteArray):Prop where
 blk:cb bm (mkc s p n na nc t) 182∈F
 sta:StaM F s p
 num:Ints F na nc n
abbrev mkL (bm:Nat)(cs:List Value)(Ma Mi Mu R:zA):zA:=cb bm cs 182::(Ma++(Mi++(Mu++R)))
theorem ze {s:Sta}{p:SPt}{Ma Mi Mu R L F:zA}{bm:Nat}{n:List Int}{na:OA}{nc:Nat}{t:ByteArray}(hC:Cps s p Ma Mi Mu R)(hL:LtS s)(hN:Ints F na nc n)(hm:cb bm (mkc s p n na nc t) 182∈L:=by repeat (first|exact zz2 _|refine zz5 _ ?_))(hs:(Ma++(Mi++(Mu++R)))⊆L:=by intro p hp;repeat (first|exact hp|apply zz4)):Mkt (L++F) bm s p n na nc t :=
 ⟨zz6 _ hm,(hC.sta hL).mono fun x hx=>zz6 _ (hs hx),SlA.mono hN (zz8 _ _)⟩
theorem zCY (ts:zA){x:Nat × Obj}{A B C D:zA}:(ts++(x::(A++(B++(C++D))))).Perm (x::(A++(B++(C++(D++ts))))):=by refine List.perm_append_comm.trans (List.Perm.of_eq ?_);simp
section
variable {G:zA}{bm:Nat}{s:Sta}{p:SPt}{n:List Int}{na:OA}{nc:Nat}{t:ByteArray}
theorem zA6 (i:Nat)(hi:i<n.length)(w0:World)(hG:Mem w0 G)(hM:Mkt G bm s p n na nc t) :
  Cr 209 [(pt bm),.int .i64 (i:Int)] (.int .i64 (nF n i)) w0:=by obtain⟨hn2,hc2,b2,off2,cs2,T2,fr2,hs2⟩:=hM.num;refine eS func209 ntmps209 fun H=>?_;(repeat' first|refine yW ?_|refine z13 (zF sg rfl rfl (H.memF hG) hM.blk rfl rfl) ?_|refine x40 sg hs2 ?_|refine z13 (zLB sg hs2 (H.memF hG) hi) ?_|fail);exact zG rfl H.cl rfl
theorem zQb {a:OA}{cap:Nat}(l:List Nat)(hl:l.length<=1000)(hi:∀ k,k<l.length->l.getD k 0<n.length){F:zA}(w0:World)(hF:Mem w0 F)(hs0:SlA F 1 a l.length cap fun k=>[Value.int .i64 ((l.getD k 0:Nat):Int)])(hG:Mem w0 G)(hM:Mkt G bm s p n na nc t) :
  Cr 211 [(pt bm),.slice a l.length cap] (.int .i64 (if (l.all fun i=>zAC s (nF n i))=true then 0 else 5)) w0:=by{
obtain⟨hn,hc,b0,off,cs,T,fr,hs⟩:=hs0;refine eS func211 ntmps211 fun H=>?_;(repeat' first|refine yX ?_|fail);refine zD [(4,4),(6,8),(11,28)] (fun k:Nat=>[(11,.int .i64 (k:Int))]) (fun k w=>k<=l.length/\(∀ j,j<k->zAC s (nF n (l.getD j 0))=true)/\St w0 [] w) (fun k=>l.length - k) 0 ⟨rfl,trivial⟩ ⟨zzD _,fun j hj=>absurd hj (zzE _),H⟩ ?_;clear H;rintro k gh w ⟨hk,hok,H⟩;(repeat' first|refine yX ?_|fail);refine zB rfl (fun h=>?_) (fun h=>?_)
.have hlt:k<l.length:=by have:=zzA h;omega
 clear h;have hik:=hi k hlt;cases ho:zAC s (nF n (l.getD k 0)) with
 | true =>
   have ho2:(zBQ s.accts (nF n (l.getD k 0))).2=true:=ho;(repeat' first|refine yW ?_|(refine yB ?_;intro b w H)|(refine y11 sg H ?_;intro w H)|refine x40 sg hs ?_|refine z13 (zLB sg hs (H.memF hF) hlt) ?_|(refine CW.regionL mixed 14 (H.memF hG) [] ?_ ?_;exact rfl;refine wQ H ?_;clear H;intro w H)|refine lN ?_|refine lT sg 0 (H.memF hG) ?_|refine lT sg 1 (H.memF hG) ?_|refine lT sg 2 (H.memF hG) ?_|(refine' l1 3 (H.memF hG) ?_ ?_;rotate_left;exact fun _ hM2=>zF sg rfl rfl hM2 hM.blk rfl rfl)|refine lT sg 4 (H.memF hG) ?_|refine lT sg 5 (H.memF hG) ?_|refine lT sg 8 (H.memF hG) ?_|refine lT sg 9 (H.memF hG) ?_|refine lT sg 10 (H.memF hG) ?_|refine l2 6 ?_|refine l2 7 ?_|refine l2 11 ?_|refine l2 12 ?_|refine l2 13 ?_|refine l4 6 11 ?_ ?_|refine l4 7 11 ?_ ?_|(refine l5 (H.memF hG) ?_)|(refine c0 zA3 ?_;refine⟨_,zA6 _ hik _ (H.memF hG) hM,?_⟩;clear H;intro w H)|(refine c0 zON ?_;refine⟨_,zOb s p _ _ (H.memF hG) hM.sta,?_⟩;clear H;intro w H)|(refine y23 ?_ ?_;all_goals(intro h;try (exfalso;first|((rw[ho2] at h;cases h);done))))|fail);all_goals refine zC (k+1) rfl ⟨zU qO,trivial⟩ ⟨hlt,fun j hj=>?_,H.sub (zz9 _)⟩ (by show l.length - (k+1)<l.length - k;omega)
   all_goals
    rcases(show j<k\/j=k by have:j<k+1:=hj;omega) with g|rfl
    .exact hok j g
    .exact ho
 | false =>
   have ho2:(zBQ s.accts (nF n (l.getD k 0))).2=false:=ho;(repeat' first|refine yW ?_|(refine yB ?_;intro b w H)|(refine y11 sg H ?_;intro w H)|refine x40 sg hs ?_|refine z13 (zLB sg hs (H.memF hF) hlt) ?_|(refine CW.regionL mixed 14 (H.memF hG) [] ?_ ?_;exact rfl;refine wQ H ?_;clear H;intro w H)|refine lN ?_|refine lT sg 0 (H.memF hG) ?_|refine lT sg 1 (H.memF hG) ?_|refine lT sg 2 (H.memF hG) ?_|(refine' l1 3 (H.memF hG) ?_ ?_;rotate_left;exact fun _ hM2=>zF sg rfl rfl hM2 hM.blk rfl rfl)|refine lT sg 4 (H.memF hG) ?_|refine lT sg 5 (H.memF hG) ?_|refine lT sg 8 (H.memF hG) ?_|refine lT sg 9 (H.memF hG) ?_|refine lT sg 10 (H.memF hG) ?_|refine l2 6 ?_|refine l2 7 ?_|refine l2 11 ?_|refine l2 12 ?_|refine l2 13 ?_|refine l4 6 11 ?_ ?_|refine l4 7 11 ?_ ?_|(refine l5 (H.memF hG) ?_)|(refine c0 zA3 ?_;refine⟨_,zA6 _ hik _ (H.memF hG) hM,?_⟩;clear H;intro w H)|(refine c0 zON ?_;refine⟨_,zOb s p _ _ (H.memF hG) hM.sta,?_⟩;clear H;intro w H)|(refine y23 ?_ ?_;all_goals(intro h;try (exfalso;first|((rw[ho2] at h;cases h);done))))|fail)
   all_goals
    refine zG rfl H.cl (congrArg (Value.int .i64) ?_);rw[if_neg];intro h;have:=List.all_eq_true.1 h _ (zAP 0 hlt);rw[ho] at this;cases this
.obtain rfl:k=l.length:=by have:=zzB h;omega
 clear h;(repeat' first|refine yX ?_|fail);refine zG rfl H.cl (congrArg (Value.int .i64) ?_);rw[if_pos];rw[yye];intro x hx;obtain⟨j,hj,rfl⟩:=zBd (d:=0) hx;exact hok j hj}
def zCZ (s:Sta)(p:SPt)(x:Int):OA:=if zBO s x=true then p.inA.map (fun a=>a.add ((x - 1).toNat*3)) else none
theorem zMB (i:Nat)(hi:i<n.length)(h1:1<=nF n i/\nF n i<=1000)(w0:World)(hG:Mem w0 G)(hM:Mkt G bm s p n na nc t) :
  Cr 230 [(pt bm),.int .i64 (i:Int)] (.pointer (zCZ s p (nF n i))) w0:=by{
obtain⟨hn2,hc2,b2,off2,cs2,T2,fr2,hs2⟩:=hM.num;obtain⟨hn3,hc3,b3,off3,cs3,T3,fr3,hs3⟩:=hM.sta.ins;cases hh:zBO s (nF n i) with
| false =>
  have hgt:decide (nF n i>(s.insts.length:Int))=true:=yyb (by
   by_cases g:nF n i<=s.insts.length
   .rw[zAh.2 ⟨h1.1,g⟩] at hh;cases hh
   .omega)
  refine eS func230 ntmps230 fun H=>?_;(repeat' first|refine yW ?_|refine zq (zF sg rfl rfl (H.memF hG) hM.blk rfl rfl) ?_|refine x41 sg hs2 ?_|refine zq (zLB sg hs2 (H.memF hG) hi) ?_|(refine qN H ?_;clear H;intro w H)|refine y20 mixed ?_|fail);exact zG rfl H.cl (by unfold zCZ;rw[hh];rfl)
| true =>
  have hle:=(zAh.1 hh).2;have hgt:decide (nF n i>(s.insts.length:Int))=false:=yyc qO;have hq:IntKind.i64.wrap (nF n i - 1)=(((nF n i - 1).toNat:Nat):Int):=by rw[w64 qO qO];omega
  refine eS func230 ntmps230 fun H=>?_;(repeat' first|refine yW ?_|refine zq (zF sg rfl rfl (H.memF hG) hM.blk rfl rfl) ?_|refine x41 sg hs2 ?_|refine zq (zLB sg hs2 (H.memF hG) hi) ?_|refine zq (zIX sg hs3 ((congrArg Int.toNat hq).trans (zz1 _)) (by rw[hq];omega) (by rw[hq];omega)) ?_|(refine qN H ?_;clear H;intro w H)|refine y20 mixed ?_|fail);refine zG rfl H.cl ?_;unfold zCZ;rw[if_pos hh,(hs3 qO).1,Option.map_some,zAA]}
theorem pl_one {F:zA}{b:Nat}{T:TypeId}(i:Nat)(h:cb b [Value.int .i64 (i:Int)] T∈F):SlA F 1 (some ⟨b,0,none⟩) [i].length 1 fun k=>[Value.int .i64 ((([i]:List Nat).getD k 0:Nat):Int)] :=
 ⟨Nat.le_refl 1,(show 1<=140737488355328 by decide),b,0,_,T,(0,0),fun _=>⟨rfl,h,fun j hj=>by
  have:j=0:=by have:j<1:=hj;omega
  subst this
  exact⟨Nat.le_refl 1,rfl⟩⟩⟩
theorem pl_two {F:zA}{b:Nat}{T:TypeId}(i k:Nat)(h:cb b [Value.int .i64 (i:Int),Value.int .i64 (k:Int)] T∈F):SlA F 1 (some ⟨b,0,none⟩) [i,k].length 2 fun j=>[Value.int .i64 ((([i,k]:List Nat).getD j 0:Nat):Int)] :=
 ⟨Nat.le_refl 2,(show 2<=140737488355328 by decide),b,0,_,T,(0,0),fun _=>⟨rfl,h,fun j hj=>by
  rcases(show j=0\/j=1 by have:j<2:=hj;omega) with rfl|rfl
  .exact⟨(show 1<=2 by decide),rfl⟩
  .exact⟨(show 2<=2 by decide),rfl⟩⟩⟩
theorem zCu {F:zA}{b:Nat}{T:TypeId}(i:Nat)(hi:i<n.length)(w0:World)(hF:Mem w0 F)(hm:cb b [Value.int .i64 (i:Int)] T∈F)(hG:Mem w0 G)(hM:Mkt G bm s p n na nc t) :
  Cr 211 [(pt bm),.slice (some ⟨b,0,none⟩) 1 1] (.int .i64 (if zAC s (nF n i)=true then 0 else 5)) w0:=by{
have h:=zQb [i] (show 1<=1000 by decide) (fun k hk=>by
 obtain rfl:k=0:=(by have:k<1:=hk;omega)
 exact hi) w0 hF (pl_one i hm) hG hM
simp only[List.all_cons,List.all_nil,Bool.and_true] at h;exact h}
theorem zUy {F:zA}{b:Nat}{T:TypeId}(i k:Nat)(hi:i<n.length)(hk:k<n.length)(w0:World)(hF:Mem w0 F)(hm:cb b [Value.int .i64 (i:Int),Value.int .i64 (k:Int)] T∈F)(hG:Mem w0 G)(hM:Mkt G bm s p n na nc t) :
  Cr 211 [(pt bm),.slice (some ⟨b,0,none⟩) 2 2] (.int .i64 (if zAC s (nF n i)=true/\zAC s (nF n k)=true then 0 else 5)) w0:=by{
have h:=zQb [i,k] (show 2<=1000 by decide) (fun j hj=>by
 rcases(show j=0\/j=1 by have:j<2:=hj;omega) with rfl|rfl
 .exact hi
 .exact hk) w0 hF (pl_two i k hm) hG hM
simp only[List.all_cons,List.all_nil,Bool.and_true,yy3] at h;exact h}
theorem zHE (h2:1<n.length)(h1:1<=nF n 1/\nF n 1<=1000)(w0:World)(hG:Mem w0 G)(hM:Mkt G bm s p n na nc t) :
  Cr 217 [(pt bm)] (.int .i64 (if zAC s (nF n 0)=true/\zBO s (nF n 1)=true then 0 else 5)) w0:=by{
have hi:0<n.length:=by omega
cases ho:zAC s (nF n 0) with
| false =>
  have ha:=fun w (b:Nat) (F:zA) (hF:Mem w F) (hm:cb b [Value.int .i64 (0:Int)] 3∈F) (hG:Mem w G)=>zCu (T:=3) 0 hi w hF hm hG hM;rw[ho] at ha;refine eS func217 ntmps217 fun H=>?_;(repeat' first|refine yW ?_|(refine yB ?_;intro b w H)|(refine c0 zA4 ?_;refine⟨_,ha _ _ _ (H.mem) (zz2 _) (H.memF hG),?_⟩;clear H;intro w H)|fail);exact zG rfl H.cl (by simp)
| true =>
  have ha:=fun w (b:Nat) (F:zA) (hF:Mem w F) (hm:cb b [Value.int .i64 (0:Int)] 3∈F) (hG:Mem w G)=>zCu (T:=3) 0 hi w hF hm hG hM;rw[ho] at ha;have hb:=fun w (hG:Mem w G)=>zMB 1 h2 h1 w hG hM;cases hh:zBO s (nF n 1) with
  | false =>
    have e:zCZ s p (nF n 1)=none:=by unfold zCZ;rw[hh];rfl
    rw[e] at hb;refine eS func217 ntmps217 fun H=>?_;(repeat' first|refine yW ?_|(refine yB ?_;intro b w H)|(refine c0 zA4 ?_;refine⟨_,ha _ _ _ (H.mem) (zz2 _) (H.memF hG),?_⟩;clear H;intro w H)|(refine c0 zDF ?_;refine⟨_,hb _ (H.memF hG),?_⟩;clear H;intro w H)|fail);exact zG rfl H.cl (by simp)
  | true =>
    obtain⟨hn3,hc3,b3,off3,cs3,T3,fr3,hs3⟩:=hM.sta.ins;have hle:=zAh.1 hh;have e:zCZ s p (nF n 1)=some ⟨b3,off3+(nF n 1 - 1).toNat*3,none⟩:=by unfold zCZ;rw[if_pos hh,(hs3 qO).1,Option.map_some,zAA]
    rw[e] at hb;refine eS func217 ntmps217 fun H=>?_;(repeat' first|refine yW ?_|(refine yB ?_;intro b w H)|(refine c0 zA4 ?_;refine⟨_,ha _ _ _ (H.mem) (zz2 _) (H.memF hG),?_⟩;clear H;intro w H)|(refine c0 zDF ?_;refine⟨_,hb _ (H.memF hG),?_⟩;clear H;intro w H)|fail);exact zG rfl H.cl (by simp)}
end
end
section
open Go Go.Sk Go.RowKit Tryz
attribute [local irreducible] Go.Calls
theorem Cps.mono {s:Sta}{p:SPt}{Ma Mi Mu R R':zA}(h:Cps s p Ma Mi Mu R)(hs:R⊆R'):Cps s p Ma Mi Mu R' :=
 ⟨h.ac,h.ins,SlA.mono h.rw hs,SlA.mono h.od hs,h.au,fun j hj=>SlA.mono (h.bd j hj) hs⟩
def MkP (bm:Nat)(n:List Int)(na:OA)(nc:Nat)(t:ByteArray)(Ma Mi Mu R:zA)(r:Sta × Int)(M:zA)(v:Value):Prop :=
 v=.int .i64 r.2/\∃ p' M',M=mkL bm (mkc r.1 p' n na nc t) Ma Mi Mu (R++M')/\Cps r.1 p' Ma Mi Mu (R++M')
def zCE (bm:Nat)(n:List Int)(na:OA)(nc:Nat)(t:ByteArray)(r:Sta × Int)(M:zA)(v:Value):Prop :=
 v=.int .i64 r.2/\(r.2=0->∃ p' Ma Mi Mu R,M=mkL bm (mkc r.1 p' n na nc t) Ma Mi Mu R/\Cps r.1 p' Ma Mi Mu R)
def WfR (s:Sta):Prop:=∀ j,j<s.rows.length->(rw_ s.rows j).wf
theorem zJh {F:zA}{b:Nat}{T:TypeId}(ps:List Pst)(hl:ps.length<=1000){cs:List Value}(hcs:cs=ps.flatMap Pst.cells)(h:cb b cs T∈F):SlA F 4 (some ⟨b,0,none⟩) ps.length ps.length (qsl ps):=by subst hcs;have e:ps.flatMap Pst.cells=(List.range ps.length).flatMap (qsl ps):=(zBF Pst.cells ps default).symm;rw[e] at h;refine⟨zzC _,by omega,b,0,_,T,(0,0),fun _=>⟨rfl,h,fun j hj=>?_⟩⟩;have hfl:=Go.Sk.flat_len (el:=qsl ps) (size:=4) ps.length fun j _=>rfl;have:(j+1)*4<=ps.length*4:=Nat.mul_le_mul_right _ hj;refine⟨by rw[hfl];omega,?_⟩;rw[yyv];exact Go.Sk.flat_at (el:=qsl ps) (size:=4) ps.length (fun j _=>rfl) j hj
section
variable {F:zA}{bm:Nat}{s:Sta}{p:SPt}{n:List Int}{na:OA}{nc:Nat}{t:ByteArray}{Ma Mi Mu R:zA}
theorem zJi {cs:List Value}{ts:zA}{x:Nat × Obj}(h:x∈ts):x∈mkL bm cs Ma Mi Mu (R++ts):=by simp[h]
theorem MkP.mkt {r:Sta × Int}{M:zA}{v:Value}(h:MkP bm n na nc t Ma Mi Mu R r M v):zCE bm n na nc t r M v :=
 let ⟨h1,p',M',h2,h3⟩:=h;⟨h1,fun _=>⟨p',Ma,Mi,Mu,_,h2,h3⟩⟩
theorem MkP.up {ts:zA}{r:Sta × Int}{M:zA}{v:Value}(h:MkP bm n na nc t Ma Mi Mu (R++ts) r M v):MkP bm n na nc t Ma Mi Mu R r M v :=
 let ⟨h1,p',M',h2,h3⟩:=h;⟨h1,p',ts++M',by rw[h2,yyh],by rw[<- yyh];exact h3⟩
theorem zGf {w0 w:World}{ap:OA}{cp:Nat}(hLt:LtS s)(hW:WfR s)(ps:List Pst){G:zA}(H:St w0 (mkL bm (mkc s p n na nc t) Ma Mi Mu R) w)(hC:Cps s p Ma Mi Mu R)(hG:Mem w G)(hp:SlA G 4 ap ps.length cp (qsl ps)) :
  Calls prog 224 [(pt bm),.slice ap ps.length cp].toArray w (zZ (MkP bm n na nc t Ma Mi Mu R (zf s ps)) w0):=by{
have hpost:=fun w (hM:Mem w (mkL bm (mkc s p n na nc t) Ma Mi Mu R)) (hG:Mem w G)=>c_Post s.rows hLt.rw hW ps (F:=mkL bm (mkc s p n na nc t) Ma Mi Mu R++G) w (hM.app hG) (SlA.mono hC.rw qS) (SlA.mono hp (zz8 _ _));refine eN func224 ntmps224 ?_;by_cases h0:(zBR s.rows ps).2=0
.have d0:((zBR s.rows ps).2==0)=true:=by rw[h0];rfl
 have e:zf s ps=({ s with rows:=(zBR s.rows ps).1 },0):=by unfold zf;rw[if_pos h0]
 (repeat' first|refine yW ?_|(refine y11 sg H ?_;intro w H)|(refine f0 zTV ?_;refine⟨_,hpost _ H.mem hG,?_⟩;clear H;intro v M w hR H;(try simp only[zca,zcb] at H);obtain⟨a1,c1,rfl,hsl⟩:=hR)|fail);simp only[yyh] at H;refine zL (M:=mkL bm (mkc { s with rows:=(zBR s.rows ps).1 } { p with rwA:=a1,rwC:=c1 } n na nc t) Ma Mi Mu (R++M)) rfl H ⟨by rw[e,h0],{ p with rwA:=a1,rwC:=c1 },M,by rw[e],?_⟩;rw[e];exact⟨hC.ac,hC.ins,SlA.mono hsl (zz8 _ _),SlA.mono hC.od (yyi _ _),hC.au,fun j hj=>SlA.mono (hC.bd j hj) (yyi _ _)⟩
.have d0:((zBR s.rows ps).2==0)=false:=beq_eq_false_iff_ne.2 h0;have e:zf s ps=(s,(zBR s.rows ps).2):=by unfold zf;rw[if_neg h0]
 (repeat' first|refine yW ?_|(refine f0 zTV ?_;refine⟨_,hpost _ H.mem hG,?_⟩;clear H;intro v M w hR H;(try simp only[zca,zcb] at H);obtain⟨a1,c1,rfl,hsl⟩:=hR)|fail);simp only[yyh] at H;refine zL (M:=mkL bm (mkc s p n na nc t) Ma Mi Mu (R++M)) rfl H ⟨by rw[e],p,M,by rw[e],?_⟩;rw[e];exact hC.mono (yyi _ _)}
theorem zJj {w0 w:World}(hLt:LtS s)(hW:WfR s)(a1 a2 q z:Int)(hz:-4611686018427387904<=z/\z<=4611686018427387904)(H:St w0 (mkL bm (mkc s p n na nc t) Ma Mi Mu R) w)(hC:Cps s p Ma Mi Mu R) :
  Calls prog 216 [(pt bm),.int .i64 a1,.int .i64 a2,.int .i64 q,.int .i64 z].toArray w (zZ (MkP bm n na nc t Ma Mi Mu R (zDQ s a1 a2 q z)) w0):=by{
have hneg:IntKind.i64.wrap (0 - z)=-z:=by rw[w64 qO qO];omega
have e:zDQ s a1 a2 q z=zf s [⟨a1,q,IntKind.i64.wrap (0 - z),0⟩,⟨a2,q,z,0⟩]:=by unfold zDQ;rw[hneg]
rw[e];refine eN func216 ntmps216 ?_;(repeat' first|refine yW ?_|(refine zBA sg H ?_;intro b w H _)|(replace H:=H.perm (zCY [_]);refine zW rfl rfl (En.fn zGT rfl rfl) (zGf hLt hW [⟨a1,q,IntKind.i64.wrap (0 - z),0⟩,⟨a2,q,z,0⟩] H (hC.mono (yyi _ _)) H.mem (zJh _ (Nat.le_of_ble_eq_true rfl) rfl (zJi (zz2 _)))) ?_;rintro _ _ w ⟨rfl,hR2⟩ H2;clear H;have H:=H2;clear H2)|fail);exact zL (M:=_) rfl H (MkP.up ⟨rfl,hR2⟩)}
theorem c_holds {w0 w:World}(hLt:LtS s)(hW:WfR s)(a1 q z:Int)(hz:-4611686018427387904<=z/\z<=4611686018427387904)(H:St w0 (mkL bm (mkc s p n na nc t) Ma Mi Mu R) w)(hC:Cps s p Ma Mi Mu R) :
  Calls prog 220 [(pt bm),.int .i64 a1,.int .i64 q,.int .i64 z].toArray w (zZ (MkP bm n na nc t Ma Mi Mu R (zAX s a1 q z)) w0):=by{
have hneg:IntKind.i64.wrap (0 - z)=-z:=by rw[w64 qO qO];omega
have e:zAX s a1 q z=zf s [⟨a1,q,IntKind.i64.wrap (0 - z),z⟩]:=by unfold zAX;rw[hneg]
rw[e];refine eN func220 ntmps220 ?_;(repeat' first|refine yW ?_|(refine zBA sg H ?_;intro b w H _)|(replace H:=H.perm (zCY [_]);refine zW rfl rfl (En.fn zGT rfl rfl) (zGf hLt hW [⟨a1,q,IntKind.i64.wrap (0 - z),z⟩] H (hC.mono (yyi _ _)) H.mem (zJh _ (Nat.le_of_ble_eq_true rfl) rfl (zJi (zz2 _)))) ?_;rintro _ _ w ⟨rfl,hR2⟩ H2;clear H;have H:=H2;clear H2)|fail);exact zL (M:=_) rfl H (MkP.up ⟨rfl,hR2⟩)}
theorem zNX {w0 w:World}(hLt:LtS s)(hW:WfR s)(hl:2<=n.length)(hz:0<=nF n 1/\nF n 1<=1125899906842624)(H:St w0 (mkL bm (mkc s p n na nc t) Ma Mi Mu R) w)(hC:Cps s p Ma Mi Mu R)(hF:Mem w0 F)(hN:Ints F na nc n) :
  Calls prog 157 [(pt bm)].toArray w (zZ (zCE bm n na nc t (if zAC s (nF n 0) then zDQ s (0) (nF n 0) 0 (nF n 1) else(s,5))) w0):=by{
obtain⟨hn2,hc2,b2,off2,cs2,T2,fr2,hs2⟩:=id hN;have ha:=fun w (b:Nat) (X:zA) (hX:Mem w X) (hm:cb b [Value.int .i64 (0:Int)] 3∈X) (G:zA) (hG:Mem w G) (hM:Mkt G bm s p n na nc t)=>zCu (T:=3) 0 qO w hX hm hG hM;cases ho:zAC s (nF n 0) with
| false =>
  rw[ho] at ha;refine eN func157 ntmps157 ?_;(repeat' first|refine yW ?_|(refine yB ?_;intro b w H)|(refine c0 zA4 ?_;refine⟨_,ha _ _ _ H.mem (zz2 _) _ (H.all hF) (ze hC hLt hN),?_⟩;clear H;intro w H)|fail);exact zL (M:=_) rfl H ⟨rfl,fun h=>absurd h (show(5:Int)≠0 by decide)⟩
| true =>
  rw[ho] at ha;refine eN func157 ntmps157 ?_;(repeat' first|refine yS ?_|refine y12 ?_|(refine yB ?_;intro b w H)|(refine c0 zA4 ?_;refine⟨_,ha _ _ _ H.mem (zz2 _) _ (H.all hF) (ze hC hLt hN),?_⟩;clear H;intro w H)|(refine CW.regionR mixed ?_;refine wQ H ?_;clear H;intro w H;(with_reducible apply RW.quiet 9);exact rfl;decide +kernel;simp only[List.append_eq,List.cons_append,List.nil_append,List.take_succ_cons,List.take_zero,List.drop_zero])|(refine q0 zA3 ?_;refine⟨_,fun _ hcl=>zA6 0 qO _ ((H.ext hcl).all hF) (ze hC hLt hN),?_⟩)|refine x41 sg hs2 ?_|refine zq (zLB sg hs2 (H.memF hF) (show 1<n.length by omega)) ?_|(replace H:=H.perm (zCY [_]);refine zW rfl rfl (En.fn zI0 rfl rfl) (zJj hLt hW (0) (nF n 0) 0 (nF n 1) qO H (hC.mono (yyi _ _))) ?_;rintro _ _ w hR2 H2;clear H;have H:=H2;clear H2;obtain⟨rfl,hR2⟩:=hR2)|refine yFe ?_|refine yU ?_|(refine qN H ?_;clear H;intro w H)|fail);obtain⟨p2,M2,rfl,hC2⟩:=hR2;exact zL (M:=_) rfl H ⟨rfl,fun _=>⟨p2,Ma,Mi,Mu,_,rfl,hC2⟩⟩}
theorem zNY {w0 w:World}(hLt:LtS s)(hW:WfR s)(hl:2<=n.length)(hz:0<=nF n 1/\nF n 1<=1125899906842624)(H:St w0 (mkL bm (mkc s p n na nc t) Ma Mi Mu R) w)(hC:Cps s p Ma Mi Mu R)(hF:Mem w0 F)(hN:Ints F na nc n) :
  Calls prog 158 [(pt bm)].toArray w (zZ (zCE bm n na nc t (if zAC s (nF n 0) then zDQ s (nF n 0) (0) 0 (nF n 1) else(s,5))) w0):=by{
obtain⟨hn2,hc2,b2,off2,cs2,T2,fr2,hs2⟩:=id hN;have ha:=fun w (b:Nat) (X:zA) (hX:Mem w X) (hm:cb b [Value.int .i64 (0:Int)] 3∈X) (G:zA) (hG:Mem w G) (hM:Mkt G bm s p n na nc t)=>zCu (T:=3) 0 qO w hX hm hG hM;cases ho:zAC s (nF n 0) with
| false =>
  rw[ho] at ha;refine eN func158 ntmps158 ?_;(repeat' first|refine yW ?_|(refine yB ?_;intro b w H)|(refine c0 zA4 ?_;refine⟨_,ha _ _ _ H.mem (zz2 _) _ (H.all hF) (ze hC hLt hN),?_⟩;clear H;intro w H)|fail);exact zL (M:=_) rfl H ⟨rfl,fun h=>absurd h (show(5:Int)≠0 by decide)⟩
| true =>
  rw[ho] at ha;refine eN func158 ntmps158 ?_;(repeat' first|refine yS ?_|refine y12 ?_|(refine yB ?_;intro b w H)|(refine c0 zA4 ?_;refine⟨_,ha _ _ _ H.mem (zz2 _) _ (H.all hF) (ze hC hLt hN),?_⟩;clear H;intro w H)|(refine CW.regionR mixed ?_;refine wQ H ?_;clear H;intro w H;(with_reducible apply RW.quiet 9);exact rfl;decide +kernel;simp only[List.append_eq,List.cons_append,List.nil_append,List.take_succ_cons,List.take_zero,List.drop_zero])|(refine q0 zA3 ?_;refine⟨_,fun _ hcl=>zA6 0 qO _ ((H.ext hcl).all hF) (ze hC hLt hN),?_⟩)|refine x41 sg hs2 ?_|refine zq (zLB sg hs2 (H.memF hF) (show 1<n.length by omega)) ?_|(replace H:=H.perm (zCY [_]);refine zW rfl rfl (En.fn zI0 rfl rfl) (zJj hLt hW (nF n 0) (0) 0 (nF n 1) qO H (hC.mono (yyi _ _))) ?_;rintro _ _ w hR2 H2;clear H;have H:=H2;clear H2;obtain⟨rfl,hR2⟩:=hR2)|refine yFe ?_|refine yU ?_|(refine qN H ?_;clear H;intro w H)|fail);obtain⟨p2,M2,rfl,hC2⟩:=hR2;exact zL (M:=_) rfl H ⟨rfl,fun _=>⟨p2,Ma,Mi,Mu,_,rfl,hC2⟩⟩}
end
end
section
open Go Go.Sk Go.RowKit Tryz
attribute [local irreducible] Go.Calls
theorem z6s {w0 w:World}{L F:zA}{x:Nat × Obj}(H:St w0 L w)(hF:Mem w0 F)(hx:x∈L:=by repeat (first|exact zz2 _|refine zz5 _ ?_)):Mem w (x::F):=fun p hp=>by{
rcases List.mem_cons.1 hp with rfl|hp
.exact H.mem _ hx
.exact H.memF hF _ hp}
theorem zCA {M:zA}{E:TypeId}{size:Nat}{a:OA}{n cap:Nat}{el:Nat->List Value}(h:Go.Sk.Own M E size a n cap ((List.range n).flatMap el))(h0:0<n)(hel:∀ j,j<n->(el j).length=size) :
  ∃ g cs,a=some ⟨g,0,none⟩/\M=[cb g cs E]/\n<=cap/\cap<=maxLen/\cs.length=cap*size/\Els cs size n el:=by{
obtain⟨g,cs,h1,h2,h3,h4⟩:=h.els h0 hel;rcases h.2 with ⟨g0,_⟩|⟨g',cs',e1,e2,e3,e4,e5,e6⟩
.omega
.rw[h2] at e2;cases e2;exact⟨g,cs,h1,h2,h3,e4,e5,h4⟩}
theorem zHF {x y:Nat × Obj}{A B C:zA}:(x::(A++([y]++(B++C)))).Perm (y::x::(A++(B++C))):=by{
have h:(x::(A++y::(B++C))).Perm (y::x::(A++(B++C))) :=
 (List.Perm.cons x List.perm_middle).trans (List.Perm.swap y x _)
exact h}
theorem zIl {x y:Nat × Obj}{A B:zA}:(x::y::(A++B)).Perm (A++(x::y::B)):=by have:=(yyg (l₁:=[x,y]) (l₂:=A)).append_right B;simpa only[List.cons_append,List.nil_append,yyh] using this
theorem zXG {l:List Ac}{x:Ac}:(List.range l.length).flatMap (acl l)++x.cells=(List.range (l++[x]).length).flatMap (acl (l++[x])):=by rw[show(List.range l.length).flatMap (acl l)=l.flatMap Ac.cells from zBF Ac.cells l default,show(List.range (l++[x]).length).flatMap (acl (l++[x]))=(l++[x]).flatMap Ac.cells from zBF Ac.cells (l++[x]) default,yy9,yya]
theorem zXH {l:List Ins}{x:Ins}:(List.range l.length).flatMap (ing l)++x.cells=(List.range (l++[x]).length).flatMap (ing (l++[x])):=by rw[show(List.range l.length).flatMap (ing l)=l.flatMap Ins.cells from zBF Ins.cells l default,show(List.range (l++[x]).length).flatMap (ing (l++[x]))=(l++[x]).flatMap Ins.cells from zBF Ins.cells (l++[x]) default,yy9,yya]
section
variable {F:zA}{bm:Nat}{s:Sta}{p:SPt}{n:List Int}{na:OA}{nc:Nat}{t:ByteArray}{Ma Mi Mu R:zA}
theorem zUz {w0 w:World}(hLt:LtS s)(hW:WfR s)(hl:3<=n.length)(h1:1<=nF n 1/\nF n 1<=1000)(hz:0<=nF n 2/\nF n 2<=1125899906842624)(H:St w0 (mkL bm (mkc s p n na nc t) Ma Mi Mu R) w)(hC:Cps s p Ma Mi Mu R)(hF:Mem w0 F)(hN:Ints F na nc n) :
  Calls prog 159 [(pt bm)].toArray w (zZ (zCE bm n na nc t (if zAC s (nF n 0)=true/\zBO s (nF n 1)=true then zDQ s (0) (nF n 0) (nF n 1) (nF n 2) else(s,5))) w0):=by{
obtain⟨hn2,hc2,b2,off2,cs2,T2,fr2,hs2⟩:=id hN;have ha:=fun w (G:zA) (hG:Mem w G) (hM:Mkt G bm s p n na nc t)=>zHE qO h1 w hG hM;by_cases ho:zAC s (nF n 0)=true/\zBO s (nF n 1)=true
.rw[if_pos ho] at ha ⊢;refine eN func159 ntmps159 ?_;(repeat' first|refine yS ?_|refine y12 ?_|(refine c0 zLM ?_;refine⟨_,ha _ _ (H.all hF) (ze hC hLt hN),?_⟩;clear H;intro w H)|(refine CW.regionR mixed ?_;refine wQ H ?_;clear H;intro w H;(with_reducible apply RW.quiet 15);exact rfl;decide +kernel;simp only[List.append_eq,List.cons_append,List.nil_append,List.take_succ_cons,List.take_zero,List.drop_zero])|(refine q0 zA3 ?_;refine⟨_,fun _ hcl=>zA6 0 qO _ ((H.ext hcl).all hF) (ze hC hLt hN),?_⟩)|refine x41 sg hs2 ?_|refine zq (zLB sg hs2 (H.memF hF) (show 1<n.length by omega)) ?_|refine zq (zLB sg hs2 (H.memF hF) (show 2<n.length by omega)) ?_|(refine zW rfl rfl (En.fn zI0 rfl rfl) (zJj hLt hW (0) (nF n 0) (nF n 1) (nF n 2) qO H hC) ?_;rintro _ _ w hR2 H2;clear H;have H:=H2;clear H2;obtain⟨rfl,hR2⟩:=hR2)|refine yFe ?_|refine yU ?_|(refine qN H ?_;clear H;intro w H)|fail);obtain⟨p2,M2,rfl,hC2⟩:=hR2;exact zL (M:=_) rfl H ⟨rfl,fun _=>⟨p2,Ma,Mi,Mu,_,rfl,hC2⟩⟩
.rw[if_neg ho] at ha ⊢;refine eN func159 ntmps159 ?_;(repeat' first|refine yW ?_|(refine c0 zLM ?_;refine⟨_,ha _ _ (H.all hF) (ze hC hLt hN),?_⟩;clear H;intro w H)|fail);exact zL (M:=_) rfl H ⟨rfl,fun h=>absurd h (show(5:Int)≠0 by decide)⟩}
theorem zPE {w0 w:World}(hLt:LtS s)(hW:WfR s)(hl:3<=n.length)(h1:1<=nF n 1/\nF n 1<=1000)(hz:0<=nF n 2/\nF n 2<=1125899906842624)(H:St w0 (mkL bm (mkc s p n na nc t) Ma Mi Mu R) w)(hC:Cps s p Ma Mi Mu R)(hF:Mem w0 F)(hN:Ints F na nc n) :
  Calls prog 160 [(pt bm)].toArray w (zZ (zCE bm n na nc t (if zAC s (nF n 0)=true/\zBO s (nF n 1)=true then zDQ s (nF n 0) (0) (nF n 1) (nF n 2) else(s,5))) w0):=by{
obtain⟨hn2,hc2,b2,off2,cs2,T2,fr2,hs2⟩:=id hN;have ha:=fun w (G:zA) (hG:Mem w G) (hM:Mkt G bm s p n na nc t)=>zHE qO h1 w hG hM;by_cases ho:zAC s (nF n 0)=true/\zBO s (nF n 1)=true
.rw[if_pos ho] at ha ⊢;refine eN func160 ntmps160 ?_;(repeat' first|refine yS ?_|refine y12 ?_|(refine c0 zLM ?_;refine⟨_,ha _ _ (H.all hF) (ze hC hLt hN),?_⟩;clear H;intro w H)|(refine CW.regionR mixed ?_;refine wQ H ?_;clear H;intro w H;(with_reducible apply RW.quiet 15);exact rfl;decide +kernel;simp only[List.append_eq,List.cons_append,List.nil_append,List.take_succ_cons,List.take_zero,List.drop_zero])|(refine q0 zA3 ?_;refine⟨_,fun _ hcl=>zA6 0 qO _ ((H.ext hcl).all hF) (ze hC hLt hN),?_⟩)|refine x41 sg hs2 ?_|refine zq (zLB sg hs2 (H.memF hF) (show 1<n.length by omega)) ?_|refine zq (zLB sg hs2 (H.memF hF) (show 2<n.length by omega)) ?_|(refine zW rfl rfl (En.fn zI0 rfl rfl) (zJj hLt hW (nF n 0) (0) (nF n 1) (nF n 2) qO H hC) ?_;rintro _ _ w hR2 H2;clear H;have H:=H2;clear H2;obtain⟨rfl,hR2⟩:=hR2)|refine yFe ?_|refine yU ?_|(refine qN H ?_;clear H;intro w H)|fail);obtain⟨p2,M2,rfl,hC2⟩:=hR2;exact zL (M:=_) rfl H ⟨rfl,fun _=>⟨p2,Ma,Mi,Mu,_,rfl,hC2⟩⟩
.rw[if_neg ho] at ha ⊢;refine eN func160 ntmps160 ?_;(repeat' first|refine yW ?_|(refine c0 zLM ?_;refine⟨_,ha _ _ (H.all hF) (ze hC hLt hN),?_⟩;clear H;intro w H)|fail);exact zL (M:=_) rfl H ⟨rfl,fun h=>absurd h (show(5:Int)≠0 by decide)⟩}
theorem zU0 {w0 w:World}(hl:1<=n.length)(H:St w0 (mkL bm (mkc s p n na nc t) Ma Mi Mu R) w)(hC:Cps s p Ma Mi Mu R)(hF:Mem w0 F)(hN:Ints F na nc n) :
  Calls prog 161 [(pt bm)].toArray w (zZ (zCE bm n na nc t ({ s with fee:=nF n 0 },0)) w0):=by obtain⟨hn2,hc2,b2,off2,cs2,T2,fr2,hs2⟩:=id hN;refine eN func161 ntmps161 ?_;(repeat' first|refine yW ?_|(refine y11 sg H ?_;intro w H)|refine x40 sg hs2 ?_|refine z13 (zLB sg hs2 (H.memF hF) (show 0<n.length by omega)) ?_|fail);exact zL (M:=mkL bm (mkc { s with fee:=nF n 0 } p n na nc t) Ma Mi Mu R) rfl H ⟨rfl,fun _=>⟨p,Ma,Mi,Mu,R,rfl,hC.ac,hC.ins,hC.rw,hC.od,hC.au,hC.bd⟩⟩
theorem zKE {w0 w:World}(hLt:LtS s)(hW:WfR s)(hl:3<=n.length)(hz:0<=nF n 2/\nF n 2<=1125899906842624)(H:St w0 (mkL bm (mkc s p n na nc t) Ma Mi Mu R) w)(hC:Cps s p Ma Mi Mu R)(hF:Mem w0 F)(hN:Ints F na nc n) :
  Calls prog 172 [(pt bm)].toArray w (zZ (zCE bm n na nc t (zBy s n)) w0):=by{
obtain⟨hn2,hc2,b2,off2,cs2,T2,fr2,hs2⟩:=id hN;have ha:=fun w (b:Nat) (X:zA) (hX:Mem w X) (hm:cb b [Value.int .i64 (0:Int),Value.int .i64 (1:Int)] 3∈X) (G:zA) (hG:Mem w G) (hM:Mkt G bm s p n na nc t)=>zUy (T:=3) 0 1 qO qO w hX hm hG hM;unfold zBy;by_cases ho:zAC s (nF n 0)=true/\zAC s (nF n 1)=true
.rw[if_pos ho] at ha ⊢;by_cases he:nF n 0=nF n 1
 .have d1:(nF n 0==nF n 1)=true:=by rw[he];exact beq_self_eq_true _
  rw[if_pos he];refine eN func172 ntmps172 ?_;(repeat' first|refine yW ?_|(refine yB ?_;intro b w H)|(refine c0 zA4 ?_;refine⟨_,ha _ _ _ H.mem (zz2 _) _ (H.all hF) (ze hC hLt hN),?_⟩;clear H;intro w H)|refine x41 sg hs2 ?_|refine zq (zLB sg hs2 (H.memF hF) (show 0<n.length by omega)) ?_|refine zq (zLB sg hs2 (H.memF hF) (show 1<n.length by omega)) ?_|(refine qN H ?_;clear H;intro w H)|refine y20 mixed ?_|fail);exact zL (M:=_) rfl H ⟨rfl,fun h=>absurd h (show(1:Int)≠0 by decide)⟩
 .have d1:(nF n 0==nF n 1)=false:=beq_eq_false_iff_ne.2 he;rw[if_neg he];refine eN func172 ntmps172 ?_;(repeat' first|refine yX ?_|(refine yB ?_;intro b w H)|(refine c0 zA4 ?_;refine⟨_,ha _ _ _ H.mem (zz2 _) _ (H.all hF) (ze hC hLt hN),?_⟩;clear H;intro w H)|refine x41 sg hs2 ?_|refine zq (zLB sg hs2 (H.memF hF) (show 0<n.length by omega)) ?_|refine zq (zLB sg hs2 (H.memF hF) (show 1<n.length by omega)) ?_|(refine qN H ?_;clear H;intro w H)|refine y20 mixed ?_|fail);refine CW.condF (congrArg Value.bool d1) ?_;(repeat' first|refine yS ?_|refine y12 ?_|(refine CW.regionR mixed ?_;refine wQ H ?_;clear H;intro w H;(with_reducible apply RW.quiet 11);exact rfl;decide +kernel;simp only[List.append_eq,List.cons_append,List.nil_append,List.take_succ_cons,List.take_zero,List.drop_zero])|(refine q0 zA3 ?_;refine⟨_,fun _ hcl=>zA6 0 qO _ ((H.ext hcl).all hF) (ze hC hLt hN),?_⟩)|(refine q0 zA3 ?_;refine⟨_,fun _ hcl=>zA6 1 qO _ ((H.ext hcl).all hF) (ze hC hLt hN),?_⟩)|refine x41 sg hs2 ?_|refine zq (zLB sg hs2 (H.memF hF) (show 2<n.length by omega)) ?_|(replace H:=H.perm (zCY [_]);refine zW rfl rfl (En.fn zI0 rfl rfl) (zJj hLt hW (nF n 0) (nF n 1) 0 (nF n 2) qO H (hC.mono (yyi _ _))) ?_;rintro _ _ w hR2 H2;clear H;have H:=H2;clear H2;obtain⟨rfl,hR2⟩:=hR2)|refine yU ?_|(refine qN H ?_;clear H;intro w H)|fail);obtain⟨p2,M2,rfl,hC2⟩:=hR2;exact zL (M:=_) rfl H ⟨rfl,fun _=>⟨p2,Ma,Mi,Mu,_,rfl,hC2⟩⟩
.rw[if_neg ho] at ha ⊢;refine eN func172 ntmps172 ?_;(repeat' first|refine yW ?_|(refine yB ?_;intro b w H)|(refine c0 zA4 ?_;refine⟨_,ha _ _ _ H.mem (zz2 _) _ (H.all hF) (ze hC hLt hN),?_⟩;clear H;intro w H)|fail);exact zL (M:=_) rfl H ⟨rfl,fun h=>absurd h (show(5:Int)≠0 by decide)⟩}
theorem zU1 {w0 w:World}(hLt:LtS s)(hl:1<=n.length)(H:St w0 (mkL bm (mkc s p n na nc t) Ma Mi Mu R) w)(hC:Cps s p Ma Mi Mu R)(hF:Mem w0 F)(hN:Ints F na nc n) :
  Calls prog 152 [(pt bm)].toArray w (zZ (zCE bm n na nc t (zEj s n t)) w0):=by{
have hac:=hLt.ac;have w1:IntKind.i64.wrap ((s.accts.length:Int)+1)=s.accts.length+1:=w64 qO qO;have hnm:=fun w (G:zA) (hG:Mem w G) (hM:Mkt G bm s p n na nc t)=>zQC s p t w hG hM.sta;unfold zEj;by_cases h0:nF n 0≠s.accts.length+1
.have d0:(nF n 0 != IntKind.i64.wrap ((s.accts.length:Int)+1))=true:=by rw[w1];simpa using h0
 rw[if_pos h0];refine eN func152 ntmps152 ?_;(repeat' first|refine yW ?_|(refine q0 zA3 ?_;refine⟨_,fun _ hcl=>zA6 0 qO _ ((H.ext hcl).all hF) (ze hC hLt hN),?_⟩)|(refine qN H ?_;clear H;intro w H)|refine y20 mixed ?_|fail);exact zL (M:=_) rfl H ⟨rfl,fun h=>absurd h (show(46:Int)≠0 by decide)⟩
.have d0:(nF n 0 != IntKind.i64.wrap ((s.accts.length:Int)+1))=false:=by rw[w1];simpa using h0
 rw[if_neg h0];by_cases h1:zBE s.accts t >= 0
 .have d1:(zBE s.accts t+1 != 0)=true:=by simp;omega
  rw[if_pos h1];refine eN func152 ntmps152 ?_;(repeat' first|refine yW ?_|(refine q0 zA3 ?_;refine⟨_,fun _ hcl=>zA6 0 qO _ ((H.ext hcl).all hF) (ze hC hLt hN),?_⟩)|(refine q0 zLL ?_;refine⟨_,fun _ hcl=>hnm _ _ ((H.ext hcl).all hF) (ze hC hLt hN),?_⟩)|(refine qN H ?_;clear H;intro w H)|refine y20 mixed ?_|fail);exact zL (M:=_) rfl H ⟨rfl,fun h=>absurd h (show(6:Int)≠0 by decide)⟩
 .have h2:=(zKY s.accts t).1;have d1:(zBE s.accts t+1 != 0)=false:=by simp;omega
  rw[if_neg h1];refine eN func152 ntmps152 ?_;(repeat' first|refine yX ?_|(refine q0 zA3 ?_;refine⟨_,fun _ hcl=>zA6 0 qO _ ((H.ext hcl).all hF) (ze hC hLt hN),?_⟩)|(refine qN H ?_;clear H;intro w H)|refine y20 mixed ?_|fail);refine CW.condF (congrArg Value.bool d0) ?_;(repeat' first|refine yX ?_|(refine q0 zLL ?_;refine⟨_,fun _ hcl=>hnm _ _ ((H.ext hcl).all hF) (ze hC hLt hN),?_⟩)|(refine qN H ?_;clear H;intro w H)|refine y20 mixed ?_|fail);refine CW.condF (congrArg Value.bool d1) ?_;(repeat' first|refine yX ?_|(refine y11 sg H ?_;intro w H)|(refine CW.regionL mixed 17 (z6s (x:=cb bm (mkc s p n na nc t) 182) H hF) [13,14,15,16] ?_ ?_;exact rfl;refine wQ H ?_;clear H;intro w H)|refine lN ?_|refine lT sg 0 (z6s H hF) ?_|refine lT sg 1 (z6s H hF) ?_|refine lT sg 2 (z6s H hF) ?_|refine lT sg 3 (z6s H hF) ?_|refine lT sg 4 (z6s H hF) ?_|(refine' l1 5 (z6s H hF) ?_ ?_;rotate_left;exact z3 sg)|refine lT sg 6 (z6s H hF) ?_|refine lT sg 7 (z6s H hF) ?_|refine lT sg 8 (z6s H hF) ?_|(refine' l1 9 (z6s H hF) ?_ ?_;rotate_left;exact z3 sg)|refine lT sg 10 (z6s H hF) ?_|(refine' l6 13 ?_ ?_;rotate_left;exact z9 sg)|(refine' l6 14 ?_ ?_;rotate_left;exact z9 sg)|(refine' l6 15 ?_ ?_;rotate_left;exact z9 sg)|refine l3 16 ?_|refine l2 11 ?_|refine l2 12 ?_|(refine l5 (z6s H hF) ?_)|(refine zBA sg H ?_;intro b w H _)|(have hp:=H.perm zIl;refine zY sg 2 24 (M:=Ma) hp rfl rfl rfl rfl rfl rfl rfl rfl rfl rfl rfl hC.ac (zh hp.mem (zz3 _ (zz2 _))) rfl (zx rfl) (by unfold maxLen;omega) qO ?_;clear hp H;intro a1 c1 M1 w O1 H;replace H:=H.perm zIl.symm)|fail);have hlen:s.accts.length+1=(s.accts++[(⟨t,true⟩:Ac)]).length:=by{simp};have O2:=O1
  rw[show[Value.string t,Value.bool true]=(⟨t,true⟩:Ac).cells from rfl,zXG,hlen] at O2;rw[hlen] at H;exact zL (M:=mkL bm (mkc { s with accts:=s.accts++[⟨t,true⟩] } { p with acA:=a1,acC:=c1 } n na nc t) M1 Mi Mu R) rfl (H.sub (zz7 _ _)) ⟨rfl,fun _=>⟨{ p with acA:=a1,acC:=c1 },M1,Mi,Mu,R,rfl,O2,hC.ins,hC.rw,hC.od,hC.au,hC.bd⟩⟩}
end
end
section
open Go Go.Sk Go.RowKit Tryz
attribute [local irreducible] Go.Calls
section
variable {F:zA}{bm:Nat}{s:Sta}{p:SPt}{n:List Int}{na:OA}{nc:Nat}{t:ByteArray}{Ma Mi Mu R:zA}
theorem zU2 {l:List Ac}{k:Nat}{x:Ac}(hk:k<l.length){g cap:Nat}{cs vs:List Value}{f:Nat}(hE:Els cs 2 l.length (acl l))(hf:f+vs.length<=2)(hx:wr (acl l k) f vs=x.cells)(h1:l.length<=cap)(h2:cap<=maxLen)(h3:cs.length=cap*2) :
  Go.Sk.Own [cb g (wr cs (k*2+f) vs) 97] 97 2 (some ⟨g,0,none⟩) l.length cap ((List.range l.length).flatMap (acl (l.set k x))):=by{
refine Els.own ((zGm hE hk hf).congr fun j hj=>?_) (fun _ _=>rfl) h1 h2 (by
 have:=(hE k hk).1
 rw[zCC qO];exact h3)
show(if j=k then wr (acl l k) f vs else acl l j)=(ac_ (l.set k x) j).cells;rw[zOt hk];by_cases hjk:j=k
.rw[if_pos hjk,if_pos hjk,hx]
.rw[if_neg hjk,if_neg hjk];rfl}
theorem zU3 {l:List Ins}{k:Nat}{x:Ins}(hk:k<l.length){g cap:Nat}{cs vs:List Value}{f:Nat}(hE:Els cs 3 l.length (ing l))(hf:f+vs.length<=3)(hx:wr (ing l k) f vs=x.cells)(h1:l.length<=cap)(h2:cap<=maxLen)(h3:cs.length=cap*3) :
  Go.Sk.Own [cb g (wr cs (k*3+f) vs) 99] 99 3 (some ⟨g,0,none⟩) l.length cap ((List.range l.length).flatMap (ing (l.set k x))):=by{
refine Els.own ((zGm hE hk hf).congr fun j hj=>?_) (fun _ _=>rfl) h1 h2 (by
 have:=(hE k hk).1
 rw[zCC qO];exact h3)
show(if j=k then wr (ing l k) f vs else ing l j)=(in_ (l.set k x) j).cells;rw[zUX hk];by_cases hjk:j=k
.rw[if_pos hjk,if_pos hjk,hx]
.rw[if_neg hjk,if_neg hjk];rfl}
theorem zQc {w0 w:World}{y:Nat × Obj}{l':List Ac}{R':zA}(H:St w0 (mkL bm (mkc s p n na nc t) [y] Mi Mu R') w)(hO:Go.Sk.Own [y] 97 2 p.acA s.accts.length p.acC ((List.range s.accts.length).flatMap (acl l')))(hl:l'.length=s.accts.length)(hC:Cps s p Ma Mi Mu R)(hs:R⊆R') :
  ∃ M,St w0 M w/\zCE bm n na nc t ({ s with accts:=l' },0) M (.int .i64 0):=by
 have e:mkc { s with accts:=l' } p n na nc t=mkc s p n na nc t:=by unfold mkc Sta.cells;simp only[hl]
 refine⟨_,H,rfl,fun _=>⟨p,[y],Mi,Mu,R',by rw[e],?_,hC.ins,SlA.mono hC.rw hs,SlA.mono hC.od hs,hC.au,fun j hj=>SlA.mono (hC.bd j hj) hs⟩⟩;show Go.Sk.Own _ _ 2 p.acA l'.length p.acC ((List.range l'.length).flatMap (acl l'));rw[hl];exact hO
theorem zQd {w0 w:World}{y:Nat × Obj}{l':List Ins}{R':zA}(H:St w0 (mkL bm (mkc s p n na nc t) Ma [y] Mu R') w)(hO:Go.Sk.Own [y] 99 3 p.inA s.insts.length p.inC ((List.range s.insts.length).flatMap (ing l')))(hl:l'.length=s.insts.length)(hC:Cps s p Ma Mi Mu R)(hs:R⊆R') :
  ∃ M,St w0 M w/\zCE bm n na nc t ({ s with insts:=l' },0) M (.int .i64 0):=by
 have e:mkc { s with insts:=l' } p n na nc t=mkc s p n na nc t:=by unfold mkc Sta.cells;simp only[hl]
 refine⟨_,H,rfl,fun _=>⟨p,Ma,[y],Mu,R',by rw[e],hC.ac,?_,SlA.mono hC.rw hs,SlA.mono hC.od hs,hC.au,fun j hj=>SlA.mono (hC.bd j hj) hs⟩⟩;show Go.Sk.Own _ _ 3 p.inA l'.length p.inC ((List.range l'.length).flatMap (ing l'));rw[hl];exact hO
theorem zU4 {w0 w:World}(hLt:LtS s)(hl:1<=n.length)(hb0:nF n 0<=1000)(H:St w0 (mkL bm (mkc s p n na nc t) Ma Mi Mu R) w)(hC:Cps s p Ma Mi Mu R)(hF:Mem w0 F)(hN:Ints F na nc n) :
  Calls prog 153 [(pt bm)].toArray w (zZ (zCE bm n na nc t (zEk s n)) w0):=by{
obtain⟨hn2,hc2,b2,off2,cs2,T2,fr2,hs2⟩:=id hN;have ha:=fun w (b:Nat) (X:zA) (hX:Mem w X) (hm:cb b [Value.int .i64 (0:Int)] 3∈X) (G:zA) (hG:Mem w G) (hM:Mkt G bm s p n na nc t)=>zCu (T:=3) 0 qO w hX hm hG hM;unfold zEk;by_cases ho:zAC s (nF n 0)=true
.rw[if_pos ho] at ha ⊢;have hoi:=zCo.1 ho;have hof:(ofF s.rows (nF n 0)).length>0↔(s.rows.any fun r=>r.acct==nF n 0)=true:=by unfold ofF;rw[gt_iff_lt,List.length_pos_iff,ne_eq,List.filter_eq_nil_iff,List.any_eq_true];simp
 have hcall:=fun w (G:zA) (hG:Mem w G) (hM:Mkt G bm s p n na nc t)=>c_Of s.rows (nF n 0) (by have:=hLt.rw;omega) w hG hM.sta.rw;by_cases hr:(s.rows.any fun r=>r.acct==nF n 0)=true
 .rw[if_pos hr];have d1:decide (((ofF s.rows (nF n 0)).length:Int)>0)=true:=yyb (by have:=hof.2 hr;omega);refine eN func153 ntmps153 ?_;(repeat' first|refine yW ?_|(refine yB ?_;intro b w H)|(refine c0 zA4 ?_;refine⟨_,ha _ _ _ H.mem (zz2 _) _ (H.all hF) (ze hC hLt hN),?_⟩;clear H;intro w H)|(refine CW.regionL mixed 10 (z6s (x:=cb bm (mkc s p n na nc t) 182) H hF) [] ?_ ?_;exact rfl;refine wQ H ?_;clear H;intro w H)|refine lN ?_|refine lT sg 0 (z6s H hF) ?_|refine lT sg 1 (z6s H hF) ?_|refine lT sg 2 (z6s H hF) ?_|refine lT sg 3 (z6s H hF) ?_|(refine' l1 4 (z6s H hF) ?_ ?_;rotate_left;exact z3 sg)|refine lT sg 5 (z6s H hF) ?_|refine lT sg 8 (z6s H hF) ?_|refine lT sg 9 (z6s H hF) ?_|refine l2 6 ?_|refine l2 7 ?_|(refine l5 (z6s H hF) ?_)|(refine c0 zA3 ?_;refine⟨_,zA6 0 qO _ (H.all hF) (ze hC hLt hN),?_⟩;clear H;intro w H)|(refine f0 zTJ ?_;refine⟨_,hcall _ _ (H.all hF) (ze hC hLt hN),?_⟩;clear H;intro v M w hR H;(try simp only[zca,zcb] at H);obtain⟨a1,c1,rfl⟩:=hR)|fail);exact zL (M:=_) rfl H ⟨rfl,fun h=>absurd h (show(47:Int)≠0 by decide)⟩
 .rw[if_neg hr];have d1:decide (((ofF s.rows (nF n 0)).length:Int)>0)=false:=yyc (by have:=mt hof.1 hr;omega);have hk:(nF n 0 - 1).toNat<s.accts.length:=by{omega};have hq:IntKind.i64.wrap (nF n 0 - 1)=(((nF n 0 - 1).toNat:Nat):Int):=by rw[w64 qO qO];omega
  obtain⟨g,cs,hA,rfl,hcap,hcm,hcl,hE⟩:=zCA hC.ac qO (fun _ _=>rfl);have hsA:=hE.slb (F:=[cb g cs 97]) (T:=97) (zz2 _);rw[<- hA] at hsA;have hfit:=(hE _ hk).1;have hs2F:=hs2.mono (yyu (cb bm (mkc s p n na nc t) 182) F);refine eN func153 ntmps153 ?_;(repeat' first|refine yX ?_|(refine yB ?_;intro b w H)|(refine c0 zA4 ?_;refine⟨_,ha _ _ _ H.mem (zz2 _) _ (H.all hF) (ze hC hLt hN),?_⟩;clear H;intro w H)|(refine CW.regionL mixed 10 (z6s (x:=cb bm (mkc s p n na nc t) 182) H hF) [] ?_ ?_;exact rfl;refine wQ H ?_;clear H;intro w H)|refine lN ?_|refine lT sg 0 (z6s H hF) ?_|refine lT sg 1 (z6s H hF) ?_|refine lT sg 2 (z6s H hF) ?_|refine lT sg 3 (z6s H hF) ?_|(refine' l1 4 (z6s H hF) ?_ ?_;rotate_left;exact z3 sg)|refine lT sg 5 (z6s H hF) ?_|refine lT sg 8 (z6s H hF) ?_|refine lT sg 9 (z6s H hF) ?_|refine l2 6 ?_|refine l2 7 ?_|(refine l5 (z6s H hF) ?_)|(refine c0 zA3 ?_;refine⟨_,zA6 0 qO _ (H.all hF) (ze hC hLt hN),?_⟩;clear H;intro w H)|(refine f0 zTJ ?_;refine⟨_,hcall _ _ (H.all hF) (ze hC hLt hN),?_⟩;clear H;intro v M w hR H;(try simp only[zca,zcb] at H);obtain⟨a1,c1,rfl⟩:=hR)|fail);refine CW.condF (congrArg Value.bool d1) ?_;(try simp only[zca,zcb] at H);(repeat' first|refine yX ?_|(refine CW.regionL mixed 15 (z6s (x:=cb bm (mkc s p n na nc t) 182) H hF) [12,13,14] ?_ ?_;exact rfl;refine wQ H ?_;clear H;intro w H)|refine lN ?_|refine lT sg 0 (z6s H hF) ?_|refine lT sg 1 (z6s H hF) ?_|refine lT sg 2 (z6s H hF) ?_|refine lT sg 3 (z6s H hF) ?_|(refine' l1 4 (z6s H hF) ?_ ?_;rotate_left;exact z3 sg)|refine lT sg 5 (z6s H hF) ?_|refine lT sg 6 (z6s H hF) ?_|refine lT sg 7 (z6s H hF) ?_|(refine' l1 8 (z6s H hF) ?_ ?_;rotate_left;exact z3 sg)|(refine' l1 9 (z6s H hF) ?_ ?_;rotate_left;exact(zQ sg hs2))|(refine' l1 10 (z6s H hF) ?_ ?_;rotate_left;exact(zK sg hs2F (show 0<n.length by omega)))|refine lT sg 11 (z6s H hF) ?_|(refine' l6 12 ?_ ?_;rotate_left;exact(fun w2=>zIX sg hsA ((congrArg Int.toNat hq).trans (zz1 _)) (by rw[hq];omega) (by rw[hq];omega)))|(refine' l6 13 ?_ ?_;rotate_left;exact z9 sg)|refine l3 14 ?_|(refine OX.storeX sg (v:=.bool false) (vs:=[.bool false]) H rfl rfl rfl rfl rfl rfl rfl (Up.there (Up.there Up.here)) (by simp only[yyo];omega) (zx rfl) ?_;clear H;intro w H)|fail);have O2:=zU2 (g:=g) (x:=⟨(ac_ s.accts (nF n 0 - 1).toNat).name,false⟩) (vs:=[.bool false]) (f:=1) hk hE (Nat.le_refl 2) rfl hcap hcm hcl;rw[<- hA] at O2;replace H:=H.sub (zz7 _ _);simp only[yyh,yyv] at H;obtain⟨M9,H9,hR9⟩:=zQc (l':=s.accts.set (nF n 0 - 1).toNat ⟨(ac_ s.accts (nF n 0 - 1).toNat).name,false⟩) H O2 List.length_set hC (yyi _ _);exact zL (M:=M9) rfl H9 hR9
.have ho2:zAC s (nF n 0)=false:=by simpa using ho
 rw[if_neg ho] at ha ⊢;refine eN func153 ntmps153 ?_;(repeat' first|refine yW ?_|(refine yB ?_;intro b w H)|(refine c0 zA4 ?_;refine⟨_,ha _ _ _ H.mem (zz2 _) _ (H.all hF) (ze hC hLt hN),?_⟩;clear H;intro w H)|fail);exact zL (M:=_) rfl H ⟨rfl,fun h=>absurd h (show(5:Int)≠0 by decide)⟩}
end
end
section
open Go Go.Sk Go.RowKit Tryz
attribute [local irreducible] Go.Calls
theorem zQe {α:Type}(l:List α)(q:α->Bool)(d:α):decide (idx (fun j=>q (l.getD j d)) l.length >= 0)=l.any q:=by{
rcases zX (fun j=>q (l.getD j d)) l.length with ⟨k,hk,_,hpk,hix⟩|⟨hall,hix⟩
.rw[hix,yyb qO];symm;exact List.any_eq_true.2 ⟨_,zAP d hk,hpk⟩
.rw[hix,yyc qO];symm;rw[List.any_eq_false];intro x hx;obtain⟨k,hk,rfl⟩:=zBd (d:=d) hx;have:q (l.getD k d)=false:=hall k hk;rw[this];decide}
section
variable {F:zA}{bm:Nat}{s:Sta}{p:SPt}{n:List Int}{na:OA}{nc:Nat}{t:ByteArray}{Ma Mi Mu R:zA}
theorem zSB {w0 w:World}(hLt:LtS s)(hl:1<=n.length)(hb0:nF n 0<=1000)(H:St w0 (mkL bm (mkc s p n na nc t) Ma Mi Mu R) w)(hC:Cps s p Ma Mi Mu R)(hF:Mem w0 F)(hN:Ints F na nc n) :
  Calls prog 173 [(pt bm)].toArray w (zZ (zCE bm n na nc t (zDT s n t)) w0):=by{
obtain⟨hn2,hc2,b2,off2,cs2,T2,fr2,hs2⟩:=id hN;have ha:=fun w (b:Nat) (X:zA) (hX:Mem w X) (hm:cb b [Value.int .i64 (0:Int)] 3∈X) (G:zA) (hG:Mem w G) (hM:Mkt G bm s p n na nc t)=>zCu (T:=3) 0 qO w hX hm hG hM;have hnm:=fun w (G:zA) (hG:Mem w G) (hM:Mkt G bm s p n na nc t)=>zQC s p t w hG hM.sta;unfold zDT;by_cases ho:zAC s (nF n 0)=true
.rw[if_pos ho] at ha ⊢;have hoi:=zCo.1 ho;have h2:=(zKY s.accts t).1;by_cases h1:zBE s.accts t >= 0
 .have d1:(zBE s.accts t+1 != 0)=true:=by simp;omega
  rw[if_pos h1];refine eN func173 ntmps173 ?_;(repeat' first|refine yW ?_|(refine yB ?_;intro b w H)|(refine c0 zA4 ?_;refine⟨_,ha _ _ _ H.mem (zz2 _) _ (H.all hF) (ze hC hLt hN),?_⟩;clear H;intro w H)|(refine q0 zLL ?_;refine⟨_,fun _ hcl=>hnm _ _ ((H.ext hcl).all hF) (ze hC hLt hN),?_⟩)|(refine qN H ?_;clear H;intro w H)|refine y20 mixed ?_|fail);exact zL (M:=_) rfl H ⟨rfl,fun h=>absurd h (show(6:Int)≠0 by decide)⟩
 .have d1:(zBE s.accts t+1 != 0)=false:=by simp;omega
  rw[if_neg h1];have hk:(nF n 0 - 1).toNat<s.accts.length:=by{omega};have hq:IntKind.i64.wrap (nF n 0 - 1)=(((nF n 0 - 1).toNat:Nat):Int):=by rw[w64 qO qO];omega
  obtain⟨g,cs,hA,rfl,hcap,hcm,hcl,hE⟩:=zCA hC.ac qO (fun _ _=>rfl);have hsA:=hE.slb (F:=[cb g cs 97]) (T:=97) (zz2 _);rw[<- hA] at hsA;have hfit:=(hE _ hk).1;have hs2F:=hs2.mono (yyu (cb bm (mkc s p n na nc t) 182) F);refine eN func173 ntmps173 ?_;(repeat' first|refine yX ?_|(refine yB ?_;intro b w H)|(refine c0 zA4 ?_;refine⟨_,ha _ _ _ H.mem (zz2 _) _ (H.all hF) (ze hC hLt hN),?_⟩;clear H;intro w H)|(refine q0 zLL ?_;refine⟨_,fun _ hcl=>hnm _ _ ((H.ext hcl).all hF) (ze hC hLt hN),?_⟩)|(refine qN H ?_;clear H;intro w H)|refine y20 mixed ?_|fail);refine CW.condF (congrArg Value.bool d1) ?_;(repeat' first|refine yX ?_|(refine CW.regionL mixed 19 (z6s (x:=cb bm (mkc s p n na nc t) 182) H hF) [16,17,18] ?_ ?_;exact rfl;refine wQ H ?_;clear H;intro w H)|refine lN ?_|refine lT sg 0 (z6s H hF) ?_|refine lT sg 1 (z6s H hF) ?_|refine lT sg 2 (z6s H hF) ?_|refine lT sg 3 (z6s H hF) ?_|(refine' l1 4 (z6s H hF) ?_ ?_;rotate_left;exact z3 sg)|refine lT sg 5 (z6s H hF) ?_|refine lT sg 6 (z6s H hF) ?_|refine lT sg 7 (z6s H hF) ?_|(refine' l1 8 (z6s H hF) ?_ ?_;rotate_left;exact z3 sg)|(refine' l1 9 (z6s H hF) ?_ ?_;rotate_left;exact(zQ sg hs2))|(refine' l1 10 (z6s H hF) ?_ ?_;rotate_left;exact(zK sg hs2F (show 0<n.length by omega)))|refine lT sg 11 (z6s H hF) ?_|refine lT sg 12 (z6s H hF) ?_|refine lT sg 13 (z6s H hF) ?_|refine lT sg 14 (z6s H hF) ?_|(refine' l1 15 (z6s H hF) ?_ ?_;rotate_left;exact z3 sg)|(refine' l6 16 ?_ ?_;rotate_left;exact(fun w2=>zIX sg hsA ((congrArg Int.toNat hq).trans (zz1 _)) (by rw[hq];omega) (by rw[hq];omega)))|(refine' l6 17 ?_ ?_;rotate_left;exact z9 sg)|refine l3 18 ?_|(refine OX.storeX sg (v:=.string t) (vs:=[.string t]) H rfl rfl rfl rfl rfl rfl rfl (Up.there (Up.there Up.here)) (by simp only[yyo];omega) (zx rfl) ?_;clear H;intro w H)|fail);have O2:=zU2 (g:=g) (x:=⟨t,(ac_ s.accts (nF n 0 - 1).toNat).opn⟩) (vs:=[.string t]) (f:=0) hk hE (Nat.le_succ 1) rfl hcap hcm hcl;rw[<- hA] at O2;replace H:=H.sub (zz7 _ _);simp only[yyv,Nat.add_zero] at H O2;obtain⟨M9,H9,hR9⟩:=zQc (l':=s.accts.set (nF n 0 - 1).toNat ⟨t,(ac_ s.accts (nF n 0 - 1).toNat).opn⟩) H O2 List.length_set hC (List.Subset.refl _);exact zL (M:=M9) rfl H9 hR9
.rw[if_neg ho] at ha ⊢;refine eN func173 ntmps173 ?_;(repeat' first|refine yW ?_|(refine yB ?_;intro b w H)|(refine c0 zA4 ?_;refine⟨_,ha _ _ _ H.mem (zz2 _) _ (H.all hF) (ze hC hLt hN),?_⟩;clear H;intro w H)|fail);exact zL (M:=_) rfl H ⟨rfl,fun h=>absurd h (show(5:Int)≠0 by decide)⟩}
theorem zU5 {w0 w:World}(is:Bool)(hl:1<=n.length)(hb0:1<=nF n 0/\nF n 0<=1000)(hLt:LtS s)(H:St w0 (mkL bm (mkc s p n na nc t) Ma Mi Mu R) w)(hC:Cps s p Ma Mi Mu R)(hF:Mem w0 F)(hN:Ints F na nc n) :
  Calls prog 215 [(pt bm),.bool is].toArray w (zZ (zCE bm n na nc t (zGL s n is)) w0):=by{
have hin:=fun w (G:zA) (hG:Mem w G) (hM:Mkt G bm s p n na nc t)=>zMB 0 qO hb0 w hG hM;unfold zGL;by_cases hh:zBO s (nF n 0)=true
.rw[if_pos hh];have hle:=zAh.1 hh;have hk:(nF n 0 - 1).toNat<s.insts.length:=by omega
 obtain⟨g,cs,hA,rfl,hcap,hcm,hcl,hE⟩:=zCA hC.ins qO (fun _ _=>rfl);have e:zCZ s p (nF n 0)=some ⟨g,0+(nF n 0 - 1).toNat*3,none⟩:=by unfold zCZ;rw[if_pos hh,hA,Option.map_some,zAA]
 rw[e] at hin;have hfit:=(hE _ hk).1;have hsI:=hE.slb (F:=[cb g cs 99]) (T:=99) (zz2 _);by_cases hx:(in_ s.insts (nF n 0 - 1).toNat).halted=is
 .have d1:((in_ s.insts (nF n 0 - 1).toNat).halted==is)=true:=by rw[hx];exact beq_self_eq_true _
  rw[if_pos hx];refine eN func215 ntmps215 ?_;(repeat' first|refine yS ?_|(refine c0 zDF ?_;refine⟨_,hin _ _ (H.all hF) (ze hC hLt hN),?_⟩;clear H;intro w H)|refine yU ?_|fail);replace H:=H.perm zHF;(repeat' first|refine yW ?_|refine x44 sg hsI (z7 H) ?_|fail);exact zL (M:=_) rfl H ⟨rfl,fun h=>absurd h (show(46:Int)≠0 by decide)⟩
 .have d1:((in_ s.insts (nF n 0 - 1).toNat).halted==is)=false:=by{simpa using hx};rw[if_neg hx]
  refine eN func215 ntmps215 ?_;(repeat' first|refine yS ?_|(refine c0 zDF ?_;refine⟨_,hin _ _ (H.all hF) (ze hC hLt hN),?_⟩;clear H;intro w H)|refine yU ?_|fail);replace H:=H.perm zHF;(repeat' first|refine yW ?_|refine x44 sg hsI (z7 H) ?_|(refine OX.storeX sg (v:=.bool is) (vs:=[.bool is]) H rfl rfl rfl rfl rfl rfl rfl Up.here (by simp only[yyo];omega) (zx rfl) ?_;clear H;intro w H)|fail);have O2:=zU3 (g:=g) (x:=⟨(in_ s.insts (nF n 0 - 1).toNat).name,(in_ s.insts (nF n 0 - 1).toNat).tick,is⟩) (vs:=[.bool is]) (f:=2) hk hE (Nat.le_refl 3) rfl hcap hcm hcl;rw[<- hA] at O2;simp only[yyv] at H;replace H:=H.perm zHF.symm;obtain⟨M9,H9,hR9⟩:=zQd H O2 List.length_set hC (List.Subset.refl _);exact zL (M:=M9) rfl H9 hR9
.have e:zCZ s p (nF n 0)=none:=by unfold zCZ;rw[if_neg hh]
 rw[e] at hin;rw[if_neg hh];refine eN func215 ntmps215 ?_;(repeat' first|refine yW ?_|(refine c0 zDF ?_;refine⟨_,hin _ _ (H.all hF) (ze hC hLt hN),?_⟩;clear H;intro w H)|fail);exact zL (M:=_) rfl H ⟨rfl,fun h=>absurd h (show(5:Int)≠0 by decide)⟩}
theorem zU6 {w0 w:World}(hl:1<=n.length)(hb0:1<=nF n 0/\nF n 0<=1000)(hLt:LtS s)(H:St w0 (mkL bm (mkc s p n na nc t) Ma Mi Mu R) w)(hC:Cps s p Ma Mi Mu R)(hF:Mem w0 F)(hN:Ints F na nc n) :
  Calls prog 155 [(pt bm)].toArray w (zZ (zCE bm n na nc t (zGL s n true)) w0):=by refine eN func155 ntmps155 ?_;(repeat' first|refine yW ?_|(refine zW rfl rfl (En.fn zTL rfl rfl) (zU5 true hl hb0 hLt H hC hF hN) ?_;rintro _ _ w ⟨rfl,hR2⟩ H2;clear H;have H:=H2;clear H2)|fail);exact zL (M:=_) rfl H ⟨rfl,hR2⟩
theorem zSC {w0 w:World}(hl:1<=n.length)(hb0:1<=nF n 0/\nF n 0<=1000)(hLt:LtS s)(H:St w0 (mkL bm (mkc s p n na nc t) Ma Mi Mu R) w)(hC:Cps s p Ma Mi Mu R)(hF:Mem w0 F)(hN:Ints F na nc n) :
  Calls prog 156 [(pt bm)].toArray w (zZ (zCE bm n na nc t (zGL s n false)) w0):=by refine eN func156 ntmps156 ?_;(repeat' first|refine yW ?_|(refine zW rfl rfl (En.fn zTL rfl rfl) (zU5 false hl hb0 hLt H hC hF hN) ?_;rintro _ _ w ⟨rfl,hR2⟩ H2;clear H;have H:=H2;clear H2)|fail);exact zL (M:=_) rfl H ⟨rfl,hR2⟩
end
end
section
open Go Go.Sk Go.RowKit Tryz
attribute [local irreducible] Go.Calls
theorem zQf {x y z:Nat × Obj}{A B C:zA}:(x::y::z::(A++(B++C))).Perm (B++(x::y::z::(A++C))):=by have:=(yyg (l₁:=x::y::z::A) (l₂:=B)).append_right C;simpa only[List.cons_append,yyh] using this
section
variable {F G:zA}{bm:Nat}{s:Sta}{p:SPt}{n:List Int}{na:OA}{nc:Nat}{t:ByteArray}{Ma Mi Mu R:zA}
theorem zSD (o:Odr)(b1:Nat){T1:TypeId}(hi:0<n.length)(w0:World)(hG:Mem w0 G)(hm:cb b1 [(pt bm)] T1∈G)(hM:Mkt G bm s p n na nc t) :
  Cr 231 [.agg o.cells.toArray,(pt b1)] (.bool (o.inst==nF n 0)) w0:=by obtain⟨hn2,hc2,b2,off2,cs2,T2,fr2,hs2⟩:=hM.num;refine eS func231 ntmps231 fun H=>?_;(repeat' first|refine yW ?_|(refine yB ?_;intro b w H)|refine zq (zF sg rfl rfl (H.memF hG) hm rfl rfl) ?_|refine zq (zF sg rfl rfl (H.memF hG) hM.blk rfl rfl) ?_|refine x41 sg hs2 ?_|refine zq (zLB sg hs2 (H.memF hG) hi) ?_|(refine qN H ?_;clear H;intro w H)|refine y20 mixed ?_|fail);exact zG rfl H.cl rfl
theorem zSE (x:Ins)(b1:Nat){T1:TypeId}(w0:World)(hG:Mem w0 G)(hm:cb b1 [(pt bm)] T1∈G)(hM:Mkt G bm s p n na nc t) :
  Cr 213 [.agg x.cells.toArray,(pt b1)] (.bool (x.name.toList==t.toList)) w0:=by refine eS func213 ntmps213 fun H=>?_;(repeat' first|refine yW ?_|(refine yB ?_;intro b w H)|refine zq (zF sg rfl rfl (H.memF hG) hm rfl rfl) ?_|refine zq (zF sg rfl rfl (H.memF hG) hM.blk rfl rfl) ?_|(refine qN H ?_;clear H;intro w H)|refine y20 mixed ?_|fail);exact zG rfl H.cl rfl
theorem zU7 {w0 w:World}(hl:2<=n.length)(hb0:1<=nF n 0/\nF n 0<=1000)(hLt:LtS s)(H:St w0 (mkL bm (mkc s p n na nc t) Ma Mi Mu R) w)(hC:Cps s p Ma Mi Mu R)(hF:Mem w0 F)(hN:Ints F na nc n) :
  Calls prog 174 [(pt bm)].toArray w (zZ (zCE bm n na nc t (zEm s n)) w0):=by{
obtain⟨hn2,hc2,b2,off2,cs2,T2,fr2,hs2⟩:=id hN;have hin:=fun w (G:zA) (hG:Mem w G) (hM:Mkt G bm s p n na nc t)=>zMB 0 qO hb0 w hG hM;have hct:=fun w (b:Nat) (T:TypeId) (G:zA) (hG:Mem w G) (hm:cb b [(pt bm)] T∈G) (hM:Mkt G bm s p n na nc t)=>zDy (caps:=[(pt b)]) (fun j=>(od_ s.orders j).inst==nF n 0) w hG hM.sta.od ent231 (fun j hj w' hw=>zSD (od_ s.orders j) b qO w' (hG.ext hw) hm hM);have hany:decide (idx (fun j=>(od_ s.orders j).inst==nF n 0) s.orders.length >= 0)=s.orders.any (fun o=>o.inst==nF n 0):=zQe s.orders (fun o=>o.inst==nF n 0) default;rw[hany] at hct;unfold zEm;by_cases hh:zBO s (nF n 0)=true
.rw[if_pos hh];have hle:=zAh.1 hh;have hk:(nF n 0 - 1).toNat<s.insts.length:=by omega
 obtain⟨g,cs,hA,rfl,hcap,hcm,hcl,hE⟩:=zCA hC.ins qO (fun _ _=>rfl);have e:zCZ s p (nF n 0)=some ⟨g,0+(nF n 0 - 1).toNat*3,none⟩:=by unfold zCZ;rw[if_pos hh,hA,Option.map_some,zAA]
 rw[e] at hin;have hfit:=(hE _ hk).1;cases ha:s.orders.any (fun o=>o.inst==nF n 0) with
 | true =>
   rw[ha] at hct;rw[if_pos rfl];refine eN func174 ntmps174 ?_;(repeat' first|refine yW ?_|(refine yB ?_;intro b w H)|(refine c0 zDF ?_;refine⟨_,hin _ _ (H.all hF) (ze hC hLt hN),?_⟩;clear H;intro w H)|(refine c0 zLH ?_;refine⟨_,hct _ _ _ _ (H.all hF) (zz2 _) (ze hC hLt hN),?_⟩;clear H;intro w H)|fail);exact zL (M:=_) rfl H ⟨rfl,fun h=>absurd h (show(46:Int)≠0 by decide)⟩
 | false =>
   rw[ha] at hct;rw[if_neg (by decide)];refine eN func174 ntmps174 ?_;(repeat' first|refine yW ?_|(refine yB ?_;intro b w H)|(refine c0 zDF ?_;refine⟨_,hin _ _ (H.all hF) (ze hC hLt hN),?_⟩;clear H;intro w H)|(refine c0 zLH ?_;refine⟨_,hct _ _ _ _ (H.all hF) (zz2 _) (ze hC hLt hN),?_⟩;clear H;intro w H)|refine x40 sg hs2 ?_|refine z13 (zLB sg hs2 (H.memF hF) (show 1<n.length by omega)) ?_|(replace H:=(H.sub (zz7 _ _)).perm zHF;refine OX.storeX sg (v:=.int .i64 (nF n 1)) (vs:=[.int .i64 (nF n 1)]) H rfl rfl rfl rfl rfl rfl rfl Up.here (by simp only[yyo];omega) (zx rfl) ?_;clear H;intro w H)|fail);have O2:=zU3 (g:=g) (x:=⟨(in_ s.insts (nF n 0 - 1).toNat).name,nF n 1,(in_ s.insts (nF n 0 - 1).toNat).halted⟩) (vs:=[.int .i64 (nF n 1)]) (f:=1) hk hE (show 1+1<=3 by decide) rfl hcap hcm hcl;rw[<- hA] at O2;simp only[yyv] at H;replace H:=H.perm zHF.symm;obtain⟨M9,H9,hR9⟩:=zQd H O2 List.length_set hC (List.Subset.refl _);exact zL (M:=M9) rfl H9 hR9
.have e:zCZ s p (nF n 0)=none:=by unfold zCZ;rw[if_neg hh]
 rw[e] at hin;rw[if_neg hh];refine eN func174 ntmps174 ?_;(repeat' first|refine yW ?_|(refine yB ?_;intro b w H)|(refine c0 zDF ?_;refine⟨_,hin _ _ (H.all hF) (ze hC hLt hN),?_⟩;clear H;intro w H)|fail);exact zL (M:=_) rfl H ⟨rfl,fun h=>absurd h (show(5:Int)≠0 by decide)⟩}
theorem zU8 {w0 w:World}(hLt:LtS s)(hl:2<=n.length)(H:St w0 (mkL bm (mkc s p n na nc t) Ma Mi Mu R) w)(hC:Cps s p Ma Mi Mu R)(hF:Mem w0 F)(hN:Ints F na nc n) :
  Calls prog 154 [(pt bm)].toArray w (zZ (zCE bm n na nc t (zEl s n t)) w0):=by{
obtain⟨hn2,hc2,b2,off2,cs2,T2,fr2,hs2⟩:=id hN;have hac:=hLt.ins;have w1:IntKind.i64.wrap ((s.insts.length:Int)+1)=s.insts.length+1:=w64 qO qO;have hct:=fun w (b:Nat) (T:TypeId) (G:zA) (hG:Mem w G) (hm:cb b [(pt bm)] T∈G) (hM:Mkt G bm s p n na nc t)=>zKC (caps:=[(pt b)]) (fun j=>(in_ s.insts j).name.toList==t.toList) w hG hM.sta.ins ent213 (fun j hj w' hw=>zSE (in_ s.insts j) b w' (hG.ext hw) hm hM);have hany:decide (idx (fun j=>(in_ s.insts j).name.toList==t.toList) s.insts.length >= 0)=s.insts.any (fun x=>x.name.toList==t.toList):=zQe s.insts (fun x=>x.name.toList==t.toList) default;rw[hany] at hct;unfold zEl;by_cases h0:nF n 0≠s.insts.length+1
.have d0:(nF n 0 != IntKind.i64.wrap ((s.insts.length:Int)+1))=true:=by rw[w1];simpa using h0
 rw[if_pos h0];refine eN func154 ntmps154 ?_;(repeat' first|refine yW ?_|(refine yB ?_;intro b w H)|(refine q0 zA3 ?_;refine⟨_,fun _ hcl=>zA6 0 qO _ ((H.ext hcl).all hF) (ze hC hLt hN),?_⟩)|(refine qN H ?_;clear H;intro w H)|refine y20 mixed ?_|fail);exact zL (M:=_) rfl H ⟨rfl,fun h=>absurd h (show(46:Int)≠0 by decide)⟩
.have d0:(nF n 0 != IntKind.i64.wrap ((s.insts.length:Int)+1))=false:=by rw[w1];simpa using h0
 rw[if_neg h0];cases h1:s.insts.any (fun x=>x.name.toList==t.toList) with
 | true =>
   rw[h1] at hct;rw[if_pos rfl];refine eN func154 ntmps154 ?_;(repeat' first|refine yW ?_|(refine yB ?_;intro b w H)|(refine q0 zA3 ?_;refine⟨_,fun _ hcl=>zA6 0 qO _ ((H.ext hcl).all hF) (ze hC hLt hN),?_⟩)|(refine c0 zTK ?_;refine⟨_,hct _ _ _ _ (H.all hF) (zz2 _) (ze hC hLt hN),?_⟩;clear H;intro w H)|(refine qN H ?_;clear H;intro w H)|refine y20 mixed ?_|fail);exact zL (M:=_) rfl H ⟨rfl,fun h=>absurd h (show(6:Int)≠0 by decide)⟩
 | false =>
   rw[h1] at hct;rw[if_neg (by decide)];refine eN func154 ntmps154 ?_;(repeat' first|refine yX ?_|(refine yB ?_;intro b w H)|(refine q0 zA3 ?_;refine⟨_,fun _ hcl=>zA6 0 qO _ ((H.ext hcl).all hF) (ze hC hLt hN),?_⟩)|(refine qN H ?_;clear H;intro w H)|refine y20 mixed ?_|fail);refine CW.condF (congrArg Value.bool d0) ?_;(repeat' first|refine yX ?_|(refine c0 zTK ?_;refine⟨_,hct _ _ _ _ (H.all hF) (zz2 _) (ze hC hLt hN),?_⟩;clear H;intro w H)|fail);have hs2F:=(hs2.mono (yyu (cb bm (mkc s p n na nc t) 182) F)).mono (yyu (cb b [(pt bm)] 180) _);have hOi:=hC.ins;(repeat' first|refine yX ?_|(refine y11 sg H ?_;intro w H)|(refine CW.regionL mixed 23 (z6 (x:=cb _ [(pt bm)] 180) (y:=cb bm (mkc s p n na nc t) 182) H hF) [19,20,21,22] ?_ ?_;exact rfl;refine wQ H ?_;clear H;intro w H)|refine lN ?_|(refine' l1 0 (z6 H hF) ?_ ?_;rotate_left;exact z3 sg)|(refine' l1 1 (z6 H hF) ?_ ?_;rotate_left;exact z3 sg)|refine lT sg 2 (z6 H hF) ?_|refine lT sg 3 (z6 H hF) ?_|refine lT sg 4 (z6 H hF) ?_|(refine' l1 5 (z6 H hF) ?_ ?_;rotate_left;exact z3 sg)|(refine' l1 6 (z6 H hF) ?_ ?_;rotate_left;exact z3 sg)|refine lT sg 7 (z6 H hF) ?_|refine lT sg 8 (z6 H hF) ?_|(refine' l1 9 (z6 H hF) ?_ ?_;rotate_left;exact z3 sg)|(refine' l1 10 (z6 H hF) ?_ ?_;rotate_left;exact z3 sg)|refine lT sg 11 (z6 H hF) ?_|refine lT sg 12 (z6 H hF) ?_|(refine' l1 13 (z6 H hF) ?_ ?_;rotate_left;exact z3 sg)|(refine' l1 14 (z6 H hF) ?_ ?_;rotate_left;exact(zQ sg hs2))|(refine' l1 15 (z6 H hF) ?_ ?_;rotate_left;exact(zK sg hs2F (show 1<n.length by omega)))|refine lT sg 16 (z6 H hF) ?_|(refine' l6 19 ?_ ?_;rotate_left;exact z9 sg)|(refine' l6 20 ?_ ?_;rotate_left;exact z9 sg)|(refine' l6 21 ?_ ?_;rotate_left;exact z9 sg)|refine l3 22 ?_|refine l2 17 ?_|refine l2 18 ?_|(refine l5 (z6 H hF) ?_)|(refine zBA sg H ?_;intro b w H _)|(have hp:=H.perm zQf;refine zY sg 3 32 (M:=Mi) hp rfl rfl rfl rfl rfl rfl rfl rfl rfl rfl rfl hOi (zh hp.mem (zz3 _ (zz2 _))) rfl (zx rfl) (by unfold maxLen;omega) qO ?_;clear hp H;intro a1 c1 M1 w O1 H;replace H:=H.perm zQf.symm)|fail);have hlen:s.insts.length+1=(s.insts++[(⟨t,nF n 1,false⟩:Ins)]).length:=by{simp};have O2:Go.Sk.Own M1 99 3 a1 (s.insts.length+1) c1 ((List.range s.insts.length).flatMap (ing s.insts)++(⟨t,nF n 1,false⟩:Ins).cells):=O1
   rw[zXH,hlen] at O2;rw[hlen] at H;exact zL (M:=mkL bm (mkc { s with insts:=s.insts++[⟨t,nF n 1,false⟩] } { p with inA:=a1,inC:=c1 } n na nc t) Ma M1 Mu R) rfl (H.sub sub2) ⟨rfl,fun _=>⟨{ p with inA:=a1,inC:=c1 },Ma,M1,Mu,R,rfl,hC.ac,O2,hC.rw,hC.od,hC.au,hC.bd⟩⟩}
end
end
end Go.Proofs.YtejhijhnlogikaaGreatDoor
