/- Steps of the proof. -/
import Derived.Test.YtejhijhnlogikaaGreatDoorMe10
set_option linter.all false
set_option maxHeartbeats 16000000
namespace Go.Proofs.YtejhijhnlogikaaGreatDoor
open Go Go.Sk Go.RowKit Tryz
attribute [local irreducible] Go.Calls
theorem zOl {n cap:Nat}{a:OA}{el:Nat->List Value}{f:FuncId}{caps:List Value}{F:zA}(p:Nat->Bool)(w0:World)(hF:Mem w0 F)(hs:SlA F 2 a n cap el)(hf:Ent prog f)
  (hp:∀ j,j<n->∀ w,Cl w0 w->Cr f ([Value.agg (el j).toArray]++caps) (.bool (p j)) w) :
  Cr 253 [.slice a n cap,.func (.func f) #[] caps.toArray] (.int .i64 (idx p n)) w0:=by{
obtain⟨hn,hc,b,off,cs,T,fr,hs⟩:=hs;refine eS func253 ntmps253 fun H=>?_;(repeat' first|refine yX ?_|fail);refine zD [(4,5),(8,18)] (fun k:Nat=>[(8,.int .i64 (k:Int))]) (fun k w=>k<=n/\(∀ j,j<k->p j=false)/\St w0 [] w) (fun k=>n - k) 0 ⟨rfl,trivial⟩ ⟨zzD _,fun j hj=>by omega,H⟩ ?_;clear H;rintro k g w ⟨hk,hpk,H⟩;(repeat' first|refine yX ?_|fail);refine zB rfl (fun h=>?_) (fun h=>?_)
.have hlt:k<n:=by simpa using h
 (repeat' first|refine yX ?_|(refine za rfl rfl (zAO sg hs rfl rfl rfl rfl rfl rfl rfl rfl qO qO) ?_)|(refine za rfl rfl (zA7 sg hs (H.memF hF) rfl rfl rfl rfl rfl hlt) ?_)|(refine OX.call rfl rfl (zAq hf rfl rfl rfl) (hp k hlt _ H.cl) ?_;refine wQ H ?_;clear H;intro w H)|fail);refine zB rfl (fun h2=>?_) (fun h2=>?_)
 ·(repeat' first|refine yX ?_|fail);exact zG rfl H.cl (by rw[zBv hlt hpk h2])
 ·(repeat' first|refine yX ?_|fail);refine zC (k+1) rfl ⟨zU qO,trivial⟩ ⟨hlt,fun j hj=>?_,H⟩ qO;by_cases hj':j=k
  .rw[hj',h2]
  .exact hpk j qO
·(repeat' first|refine yX ?_|fail);have hkn:k=n:=by simp at h;omega
 exact zG rfl H.cl (by rw[zA8 (hkn ▸ hpk)])}
theorem zOm {n cap:Nat}{a:OA}{el:Nat->List Value}{f:FuncId}{caps:List Value}{F:zA}(p:Nat->Bool)(w0:World)(hF:Mem w0 F)(hs:SlA F 3 a n cap el)(hf:Ent prog f)
  (hp:∀ j,j<n->∀ w,Cl w0 w->Cr f ([Value.agg (el j).toArray]++caps) (.bool (p j)) w) :
  Cr 257 [.slice a n cap,.func (.func f) #[] caps.toArray] (.int .i64 (idx p n)) w0:=by{
obtain⟨hn,hc,b,off,cs,T,fr,hs⟩:=hs;refine eS func257 ntmps257 fun H=>?_;(repeat' first|refine yX ?_|fail);refine zD [(4,5),(8,18)] (fun k:Nat=>[(8,.int .i64 (k:Int))]) (fun k w=>k<=n/\(∀ j,j<k->p j=false)/\St w0 [] w) (fun k=>n - k) 0 ⟨rfl,trivial⟩ ⟨zzD _,fun j hj=>by omega,H⟩ ?_;clear H;rintro k g w ⟨hk,hpk,H⟩;(repeat' first|refine yX ?_|fail);refine zB rfl (fun h=>?_) (fun h=>?_)
.have hlt:k<n:=by simpa using h
 (repeat' first|refine yX ?_|(refine za rfl rfl (zAO sg hs rfl rfl rfl rfl rfl rfl rfl rfl qO qO) ?_)|(refine za rfl rfl (zA7 sg hs (H.memF hF) rfl rfl rfl rfl rfl hlt) ?_)|(refine OX.call rfl rfl (zAq hf rfl rfl rfl) (hp k hlt _ H.cl) ?_;refine wQ H ?_;clear H;intro w H)|fail);refine zB rfl (fun h2=>?_) (fun h2=>?_)
 ·(repeat' first|refine yX ?_|fail);exact zG rfl H.cl (by rw[zBv hlt hpk h2])
 ·(repeat' first|refine yX ?_|fail);refine zC (k+1) rfl ⟨zU qO,trivial⟩ ⟨hlt,fun j hj=>?_,H⟩ qO;by_cases hj':j=k
  .rw[hj',h2]
  .exact hpk j qO
·(repeat' first|refine yX ?_|fail);have hkn:k=n:=by simp at h;omega
 exact zG rfl H.cl (by rw[zA8 (hkn ▸ hpk)])}
theorem zKC {n cap:Nat}{a:OA}{el:Nat->List Value}{f:FuncId}{caps:List Value}{F:zA}(p:Nat->Bool)(w0:World)(hF:Mem w0 F)(hs:SlA F 3 a n cap el)(hf:Ent prog f)
  (hp:∀ j,j<n->∀ w,Cl w0 w->Cr f ([Value.agg (el j).toArray]++caps) (.bool (p j)) w) :
  Cr 214 [.slice a n cap,.func (.func f) #[] caps.toArray] (.bool (decide (idx p n >= 0))) w0:=by refine eS func214 ntmps214 fun H=>?_;(repeat' first|refine yW ?_|(refine c0 ent257 ?_;refine⟨_,zOm p _ (H.memF hF) hs hf (fun j hj w' hw'=>hp j hj w' (H.cl.trans hw')),?_⟩;clear H;intro w H)|fail);all_goals exact zG rfl H.cl rfl
theorem zOn {n cap:Nat}{a:OA}{el:Nat->List Value}{F:zA}(w0:World)(hF:Mem w0 F)(hs:SlA F 2 a n cap el)(h1:∀ j,j<n->∀ u∈el j,u.oneCell'=true)(hel:∀ j,j<n->(el j).length=2)(hn:n*24<=140737488355328) :
  Cf 81 [.slice a n cap] (fun M v=>∃ a' cap',v=.slice a' n cap'/\Go.Sk.Own M 97 2 a' n cap' ((List.range n).flatMap el)) w0:=by{
obtain⟨hnc,hcb,b,off,cs,T,fr,hs⟩:=hs;refine eS func81 ntmps81 fun H=>?_;(repeat' first|refine yX ?_|(refine za rfl rfl (Yq.nilS sg rfl rfl rfl rfl) ?_)|fail);refine zB rfl (fun h=>?_) (fun h=>?_)
.have hn0:n=0:=by
  rcases yyn n with h0|h0
  .exact h0
  .rw[(hs h0).1] at h;cases h
 subst hn0;(repeat' first|refine yX ?_|fail);exact zL rfl H ⟨_,_,rfl,zWD _ _ _⟩
.have hM:=H.memF hF;have hlen:∀ m,m<=n->((List.range m).flatMap el).length=m*2:=by
  intro m;induction m with
  | zero=>intro _;rfl
  | succ m ih=>intro hm;rw[yys,yy9,yy4,ih qO,yya,hel m qO];omega
 have hflat:∀ m,m<=n->∀ j u,((List.range m).flatMap el)[j]?=some u->0<n->cs[off+j]?=some u:=by
  intro m;induction m with
  | zero=>intro _ j u hj;cases hj
  | succ m ih =>
    intro hm j u hj h0;rw[yys,yy9,yya] at hj;by_cases hjm:j<m*2
    .rw[yyl (by rw[hlen m qO];exact hjm)] at hj;exact ih qO j u hj h0
    .rw[yym (by rw[hlen m qO];omega),hlen m qO] at hj;have h2:=((hs h0).2.2 m qO).2;rw[<- h2,List.getElem?_take] at hj;split at hj
     .rw[yyr] at hj;rw[show off+j=off+m*2+(j - m*2) by omega];exact hj
     .cases hj
 have hsrc:∀ w,Mem w F->Src w (.slice a n cap) n ((List.range n).flatMap el):=by
  intro w hM;rcases yyn n with h0|h0
  .subst h0;cases a with
   | none=>cases h
   | some a=>exact .inl ⟨a,cap,rfl,fun j u hj=>by cases hj⟩
  .obtain⟨rfl,hm,_⟩:=hs h0;refine .inl ⟨_,_,rfl,fun j u hj=>?_⟩;rw[zAA,zB9 hM hm];exact hflat n (zzC _) j u hj h0
 clear hM;have hone:∀ u∈(List.range n).flatMap el,u.oneCell'=true:=by intro u hu;obtain⟨j,hj,hu⟩:=List.mem_flatMap.1 hu;exact h1 j (List.mem_range.1 hj) u hu
 (repeat' first|refine yX ?_|(refine zCG sg H rfl rfl rfl rfl rfl rfl ?_;intro b w H _)|(refine zY sg 2 24 (M:=[]) (G:=[]) H rfl rfl rfl rfl rfl rfl rfl rfl rfl rfl rfl (zWD _ _ _) (hsrc _ (H.memF hF)) (hlen n (zzC _)) hone (by unfold maxLen;omega) qO ?_;intro a' cap' M w hO H;simp only[yyv,List.nil_append] at hO;rw[List.append_nil] at H;rw[yyv])|fail);exact zL rfl H ⟨_,_,rfl,hO⟩}
theorem zOo {n cap:Nat}{a:OA}{el:Nat->List Value}{F:zA}(w0:World)(hF:Mem w0 F)(hs:SlA F 3 a n cap el)(h1:∀ j,j<n->∀ u∈el j,u.oneCell'=true)(hel:∀ j,j<n->(el j).length=3)(hn:n*32<=140737488355328) :
  Cf 82 [.slice a n cap] (fun M v=>∃ a' cap',v=.slice a' n cap'/\Go.Sk.Own M 99 3 a' n cap' ((List.range n).flatMap el)) w0:=by{
obtain⟨hnc,hcb,b,off,cs,T,fr,hs⟩:=hs;refine eS func82 ntmps82 fun H=>?_;(repeat' first|refine yX ?_|(refine za rfl rfl (Yq.nilS sg rfl rfl rfl rfl) ?_)|fail);refine zB rfl (fun h=>?_) (fun h=>?_)
.have hn0:n=0:=by
  rcases yyn n with h0|h0
  .exact h0
  .rw[(hs h0).1] at h;cases h
 subst hn0;(repeat' first|refine yX ?_|fail);exact zL rfl H ⟨_,_,rfl,zWD _ _ _⟩
.have hM:=H.memF hF;have hlen:∀ m,m<=n->((List.range m).flatMap el).length=m*3:=by
  intro m;induction m with
  | zero=>intro _;rfl
  | succ m ih=>intro hm;rw[yys,yy9,yy4,ih qO,yya,hel m qO];omega
 have hflat:∀ m,m<=n->∀ j u,((List.range m).flatMap el)[j]?=some u->0<n->cs[off+j]?=some u:=by
  intro m;induction m with
  | zero=>intro _ j u hj;cases hj
  | succ m ih =>
    intro hm j u hj h0;rw[yys,yy9,yya] at hj;by_cases hjm:j<m*3
    .rw[yyl (by rw[hlen m qO];exact hjm)] at hj;exact ih qO j u hj h0
    .rw[yym (by rw[hlen m qO];omega),hlen m qO] at hj;have h2:=((hs h0).2.2 m qO).2;rw[<- h2,List.getElem?_take] at hj;split at hj
     .rw[yyr] at hj;rw[show off+j=off+m*3+(j - m*3) by omega];exact hj
     .cases hj
 have hsrc:∀ w,Mem w F->Src w (.slice a n cap) n ((List.range n).flatMap el):=by
  intro w hM;rcases yyn n with h0|h0
  .subst h0;cases a with
   | none=>cases h
   | some a=>exact .inl ⟨a,cap,rfl,fun j u hj=>by cases hj⟩
  .obtain⟨rfl,hm,_⟩:=hs h0;refine .inl ⟨_,_,rfl,fun j u hj=>?_⟩;rw[zAA,zB9 hM hm];exact hflat n (zzC _) j u hj h0
 clear hM;have hone:∀ u∈(List.range n).flatMap el,u.oneCell'=true:=by intro u hu;obtain⟨j,hj,hu⟩:=List.mem_flatMap.1 hu;exact h1 j (List.mem_range.1 hj) u hu
 (repeat' first|refine yX ?_|(refine zCG sg H rfl rfl rfl rfl rfl rfl ?_;intro b w H _)|(refine zY sg 3 32 (M:=[]) (G:=[]) H rfl rfl rfl rfl rfl rfl rfl rfl rfl rfl rfl (zWD _ _ _) (hsrc _ (H.memF hF)) (hlen n (zzC _)) hone (by unfold maxLen;omega) qO ?_;intro a' cap' M w hO H;simp only[yyv,List.nil_append] at hO;rw[List.append_nil] at H;rw[yyv])|fail);exact zL rfl H ⟨_,_,rfl,hO⟩}
theorem zJH {n cap:Nat}{a:OA}{el:Nat->List Value}{F:zA}(w0:World)(hF:Mem w0 F)(hs:SlA F 4 a n cap el)(h1:∀ j,j<n->∀ u∈el j,u.oneCell'=true)(hel:∀ j,j<n->(el j).length=4)(hn:n*32<=140737488355328) :
  Cf 83 [.slice a n cap] (fun M v=>∃ a' cap',v=.slice a' n cap'/\Go.Sk.Own M 104 4 a' n cap' ((List.range n).flatMap el)) w0:=by{
obtain⟨hnc,hcb,b,off,cs,T,fr,hs⟩:=hs;refine eS func83 ntmps83 fun H=>?_;(repeat' first|refine yX ?_|(refine za rfl rfl (Yq.nilS sg rfl rfl rfl rfl) ?_)|fail);refine zB rfl (fun h=>?_) (fun h=>?_)
.have hn0:n=0:=by
  rcases yyn n with h0|h0
  .exact h0
  .rw[(hs h0).1] at h;cases h
 subst hn0;(repeat' first|refine yX ?_|fail);exact zL rfl H ⟨_,_,rfl,zWD _ _ _⟩
.have hM:=H.memF hF;have hlen:∀ m,m<=n->((List.range m).flatMap el).length=m*4:=by
  intro m;induction m with
  | zero=>intro _;rfl
  | succ m ih=>intro hm;rw[yys,yy9,yy4,ih qO,yya,hel m qO];omega
 have hflat:∀ m,m<=n->∀ j u,((List.range m).flatMap el)[j]?=some u->0<n->cs[off+j]?=some u:=by
  intro m;induction m with
  | zero=>intro _ j u hj;cases hj
  | succ m ih =>
    intro hm j u hj h0;rw[yys,yy9,yya] at hj;by_cases hjm:j<m*4
    .rw[yyl (by rw[hlen m qO];exact hjm)] at hj;exact ih qO j u hj h0
    .rw[yym (by rw[hlen m qO];omega),hlen m qO] at hj;have h2:=((hs h0).2.2 m qO).2;rw[<- h2,List.getElem?_take] at hj;split at hj
     .rw[yyr] at hj;rw[show off+j=off+m*4+(j - m*4) by omega];exact hj
     .cases hj
 have hsrc:∀ w,Mem w F->Src w (.slice a n cap) n ((List.range n).flatMap el):=by
  intro w hM;rcases yyn n with h0|h0
  .subst h0;cases a with
   | none=>cases h
   | some a=>exact .inl ⟨a,cap,rfl,fun j u hj=>by cases hj⟩
  .obtain⟨rfl,hm,_⟩:=hs h0;refine .inl ⟨_,_,rfl,fun j u hj=>?_⟩;rw[zAA,zB9 hM hm];exact hflat n (zzC _) j u hj h0
 clear hM;have hone:∀ u∈(List.range n).flatMap el,u.oneCell'=true:=by intro u hu;obtain⟨j,hj,hu⟩:=List.mem_flatMap.1 hu;exact h1 j (List.mem_range.1 hj) u hu
 (repeat' first|refine yX ?_|(refine zCG sg H rfl rfl rfl rfl rfl rfl ?_;intro b w H _)|(refine zY sg 4 32 (M:=[]) (G:=[]) H rfl rfl rfl rfl rfl rfl rfl rfl rfl rfl rfl (zWD _ _ _) (hsrc _ (H.memF hF)) (hlen n (zzC _)) hone (by unfold maxLen;omega) qO ?_;intro a' cap' M w hO H;simp only[yyv,List.nil_append] at hO;rw[List.append_nil] at H;rw[yyv])|fail);exact zL rfl H ⟨_,_,rfl,hO⟩}
theorem zGb {n cap:Nat}{a:OA}{el:Nat->List Value}{F:zA}(w0:World)(hF:Mem w0 F)(hs:SlA F 6 a n cap el)(h1:∀ j,j<n->∀ u∈el j,u.oneCell'=true)(hel:∀ j,j<n->(el j).length=6)(hn:n*48<=140737488355328) :
  Cf 84 [.slice a n cap] (fun M v=>∃ a' cap',v=.slice a' n cap'/\Go.Sk.Own M 45 6 a' n cap' ((List.range n).flatMap el)) w0:=by{
obtain⟨hnc,hcb,b,off,cs,T,fr,hs⟩:=hs;refine eS func84 ntmps84 fun H=>?_;(repeat' first|refine yX ?_|(refine za rfl rfl (Yq.nilS sg rfl rfl rfl rfl) ?_)|fail);refine zB rfl (fun h=>?_) (fun h=>?_)
.have hn0:n=0:=by
  rcases yyn n with h0|h0
  .exact h0
  .rw[(hs h0).1] at h;cases h
 subst hn0;(repeat' first|refine yX ?_|fail);exact zL rfl H ⟨_,_,rfl,zWD _ _ _⟩
.have hM:=H.memF hF;have hlen:∀ m,m<=n->((List.range m).flatMap el).length=m*6:=by
  intro m;induction m with
  | zero=>intro _;rfl
  | succ m ih=>intro hm;rw[yys,yy9,yy4,ih qO,yya,hel m qO];omega
 have hflat:∀ m,m<=n->∀ j u,((List.range m).flatMap el)[j]?=some u->0<n->cs[off+j]?=some u:=by
  intro m;induction m with
  | zero=>intro _ j u hj;cases hj
  | succ m ih =>
    intro hm j u hj h0;rw[yys,yy9,yya] at hj;by_cases hjm:j<m*6
    .rw[yyl (by rw[hlen m qO];exact hjm)] at hj;exact ih qO j u hj h0
    .rw[yym (by rw[hlen m qO];omega),hlen m qO] at hj;have h2:=((hs h0).2.2 m qO).2;rw[<- h2,List.getElem?_take] at hj;split at hj
     .rw[yyr] at hj;rw[show off+j=off+m*6+(j - m*6) by omega];exact hj
     .cases hj
 have hsrc:∀ w,Mem w F->Src w (.slice a n cap) n ((List.range n).flatMap el):=by
  intro w hM;rcases yyn n with h0|h0
  .subst h0;cases a with
   | none=>cases h
   | some a=>exact .inl ⟨a,cap,rfl,fun j u hj=>by cases hj⟩
  .obtain⟨rfl,hm,_⟩:=hs h0;refine .inl ⟨_,_,rfl,fun j u hj=>?_⟩;rw[zAA,zB9 hM hm];exact hflat n (zzC _) j u hj h0
 clear hM;have hone:∀ u∈(List.range n).flatMap el,u.oneCell'=true:=by intro u hu;obtain⟨j,hj,hu⟩:=List.mem_flatMap.1 hu;exact h1 j (List.mem_range.1 hj) u hu
 (repeat' first|refine yX ?_|(refine zCG sg H rfl rfl rfl rfl rfl rfl ?_;intro b w H _)|(refine zY sg 6 48 (M:=[]) (G:=[]) H rfl rfl rfl rfl rfl rfl rfl rfl rfl rfl rfl (zWD _ _ _) (hsrc _ (H.memF hF)) (hlen n (zzC _)) hone (by unfold maxLen;omega) qO ?_;intro a' cap' M w hO H;simp only[yyv,List.nil_append] at hO;rw[List.append_nil] at H;rw[yyv])|fail);exact zL rfl H ⟨_,_,rfl,hO⟩}
def SPt.n0:SPt:=⟨none,0,none,0,none,0,none,0,none,0,fun _=>(none,0)⟩
theorem zUD (w0:World):Cr 35 [] (.agg (Sta.cells zB4 SPt.n0).toArray) w0:=by refine eS func35 ntmps35 fun H=>?_;(repeat' first|refine yW ?_|(refine yB ?_;intro b w H)|(refine y11 sg H ?_;intro w H)|fail);exact zAv (vs:=[_]) ⟨zg sg rfl H.mem (zz2 _) rfl rfl,trivial⟩ H.cl rfl
theorem zUE (x:Ac)(nm:ByteArray)(b1:Nat){T1:TypeId}{fr1:Nat × Nat}{F:zA}(w0:World)(hF:Mem w0 F)(h1:(b1,Obj.cells [Value.string nm].toArray T1 fr1)∈F) :
  Cr 254 [.agg x.cells.toArray,(pt b1)] (.bool (x.name.toList==nm.toList)) w0:=by refine eS func254 ntmps254 fun H=>?_;(repeat' first|refine yW ?_|(refine yB ?_;intro b w H)|refine z13 (zF sg rfl rfl (H.memF hF) h1 rfl rfl) ?_|fail);exact zG rfl H.cl rfl
theorem zQC {F:zA}(s:Sta)(p:SPt)(nm:ByteArray)(w0:World)(hF:Mem w0 F)(hs:StaM F s p) :
  Cr 210 [.agg (s.cells p).toArray,.string nm] (.int .i64 (zBE s.accts nm+1)) w0:=by
 have hb:-1<=idx (fun j=>(ac_ s.accts j).name.toList==nm.toList) s.accts.length/\idx (fun j=>(ac_ s.accts j).name.toList==nm.toList) s.accts.length<s.accts.length:=by rcases zX (fun j=>(ac_ s.accts j).name.toList==nm.toList) s.accts.length with ⟨k,h1,_,_,h2⟩|⟨_,h2⟩<;>(rw[h2];omega)
 have hl:=hs.ac.2.1;refine eS func210 ntmps210 fun H=>?_;(repeat' first|refine yW ?_|(refine yB ?_;intro b w H)|(refine c0 ent253 ?_;refine⟨_,zOl (caps:=[(pt _)]) (fun j=>(ac_ s.accts j).name.toList==nm.toList) _ (H.memF hF) hs.ac ent254 (fun j hj w hw=>zUE (ac_ s.accts j) nm _ _ (H.ext hw).mem (zz2 _)),?_⟩;clear H;intro w H)|fail);refine zG rfl H.cl ?_;rw[w64 qO qO,Int.add_comm];rfl
theorem zIf {α:Type}{lt:α->α->Prop}(hi:∀ a,¬ lt a a)(ha:∀ a b,lt a b->¬ lt b a):∀ {l m:List α},l.Pairwise lt->m.Pairwise lt->(∀ x,x∈l↔x∈m)->l=m
 | [],m,_,_,h=>by
   cases m with
   | nil=>rfl
   | cons b m=>exact absurd ((h b).2 (zz2 _)) (by simp)
 | a::l,[],_,_,h=>absurd ((h a).1 (zz2 _)) (by simp)
 | a::l,b::m,hl,hm,h=>by
   rw[List.pairwise_cons] at hl hm
   have hab:a=b:=by
    rcases List.mem_cons.1 ((h a).1 (zz2 _)) with e|e
    .exact e
    .rcases List.mem_cons.1 ((h b).2 (zz2 _)) with e'|e'
     .exact e'.symm
     .exact absurd (hl.1 b e') (ha _ _ (hm.1 a e))
   subst hab
   congr 1
   refine zIf hi ha hl.2 hm.2 fun x=>⟨fun hx=>?_,fun hx=>?_⟩
   .rcases List.mem_cons.1 ((h x).1 (zz5 _ hx)) with e|e
    .subst e;exact absurd (hl.1 _ hx) (hi _)
    .exact e
   .rcases List.mem_cons.1 ((h x).2 (zz5 _ hx)) with e|e
    .subst e;exact absurd (hm.1 _ hx) (hi _)
    .exact e
def ltPl (x y:Pl):Prop:=x.1<y.1\/x.1=y.1/\x.2<y.2
theorem zDU {x:Pl}:x∈zB5↔(0<=x.1/\x.1<=64)/\0<=x.2/\x.2<=16:=by{
unfold zB5;simp only[List.mem_flatMap,yyk,yy8];constructor
.rintro⟨a,ha,s,hs,rfl⟩;simp only;omega
.rintro⟨⟨h1,h2⟩,h3,h4⟩;exact⟨x.1.toNat,by omega,x.2.toNat,by omega,by ext<;>simp only<;>omega⟩}
theorem zMy (n:Nat):(List.range n).Pairwise (·<·):=List.pairwise_lt_range
theorem zUF:zB5.Pairwise ltPl:=by{
unfold zB5;rw[List.pairwise_flatMap];constructor
.intro a _;rw[List.pairwise_map];exact(zMy 17).imp fun h=>.inr ⟨rfl,by simpa using h⟩
.refine(zMy 65).imp fun{a b} h=>?_;intro x hx y hy;obtain⟨s,_,rfl⟩:=List.mem_map.1 hx;obtain⟨t,_,rfl⟩:=List.mem_map.1 hy;exact .inl (by simpa using h)}
theorem zF0 {E:Pl->Int × Int}{r:Row4}:r∈mkR E↔zAD r∈zB5/\E (zAD r)=(r.free,r.held)/\¬ (r.free=0/\r.held=0):=by{
unfold mkR;rw[List.mem_filterMap];constructor
.rintro⟨x,hx,he⟩;by_cases h0:E x=(0,0)
 .rw[if_pos h0] at he;cases he
 .rw[if_neg h0] at he;obtain rfl:=Option.some.inj he;exact⟨hx,rfl,fun h=>h0 (Prod.ext h.1 h.2)⟩
.rintro⟨hx,he,hn⟩;refine⟨zAD r,hx,?_⟩;rw[if_neg (by rw[he];exact fun h=>hn (Prod.mk.inj h)),he];rfl}
theorem zIg (E:Pl->Int × Int):(mkR E).Pairwise LtR:=by{
unfold mkR;rw[List.pairwise_filterMap];refine zUF.imp fun{x y} h=>?_;intro r hr t ht;by_cases h1:E x=(0,0)
.rw[if_pos h1] at hr;cases hr
.by_cases h2:E y=(0,0)
 .rw[if_pos h2] at ht;cases ht
 .rw[if_neg h1] at hr;rw[if_neg h2] at ht;obtain rfl:=Option.some.inj hr;obtain rfl:=Option.some.inj ht;exact h}
theorem LtR.tr {a b c:Row4}(h:LtR a b)(k:LtR b c):LtR a c:=by unfold LtR at *;omega
theorem LtR.irr (a:Row4):¬ LtR a a:=by unfold LtR;omega
theorem LtR.asy (a b:Row4)(h:LtR a b):¬ LtR b a:=by unfold LtR at *;omega
theorem zRa {l:List Row4}(h:RowsP l l.length):l.Pairwise LtR:=by rw[List.pairwise_iff_getElem];intro i j hi hj hij;simpa [rw_,yy2,yy1 hi,yy1 hj] using h.lt hij hj
theorem zWp {l:List Row4}(h:l.Pairwise LtR){r t:Row4}(hr:r∈l)(ht:t∈l)(he:zAD r=zAD t):r=t:=by{
obtain⟨i,hi,rfl⟩:=List.getElem_of_mem hr;obtain⟨j,hj,rfl⟩:=List.getElem_of_mem ht;rw[List.pairwise_iff_getElem] at h;rcases Nat.lt_trichotomy i j with hij|rfl|hij
.have:=h i j hi hj hij;unfold LtR at this;unfold zAD at he;have:=Prod.mk.inj he;omega
.rfl
.have:=h j i hj hi hij;unfold LtR at this;unfold zAD at he;have:=Prod.mk.inj he;omega}
theorem zG0 {l:List Row4}(h:l.Pairwise LtR){r:Row4}(hr:r∈l):atR l (zAD r)=(r.free,r.held):=by{
unfold atR;cases hf:l.find? (fun q=>q.acct==(zAD r).1&&q.asset==(zAD r).2) with
| none=>exact absurd (List.find?_eq_none.1 hf r hr) (by simp[zAD])
| some q =>
  have h1:=List.find?_some hf;have h2:=List.mem_of_find?_eq_some hf;have:q=r:=zWp h h2 hr (by simp only[zAD,yy3,beq_iff_eq] at h1 ⊢;rw[h1.1,h1.2]);rw[this]}
theorem zJI {l:List Row4}{x:Pl}(h:∀ r∈l,zAD r≠x):atR l x=(0,0):=by{
unfold atR
rw[List.find?_eq_none.2 (fun r hr=>by
 have:=h r hr;simp only[zAD] at this;simp only[yy3,beq_iff_eq,not_and]
 exact fun h1 h2=>this (by rw[h1,h2]))]}
theorem zWq (E:Pl->Int × Int){x:Pl}(hx:x∈zB5):atR (mkR E) x=E x:=by{
by_cases h0:E x=(0,0)
.rw[h0];refine zJI fun r hr he=>?_;have:=zF0.1 hr;rw[he,h0] at this;have h1:=Prod.mk.inj this.2.1;exact this.2.2 ⟨h1.1.symm,h1.2.symm⟩
.have hm:(⟨x.1,x.2,(E x).1,(E x).2⟩:Row4)∈mkR E:=zF0.2 ⟨hx,rfl,fun h=>h0 (Prod.ext h.1 h.2)⟩;exact zG0 (zIg E) hm}
theorem zWr {l:List Row4}(h:∀ r∈l,zAD r∈zB5){x:Pl}(hx:x ∉ zB5):atR l x=(0,0):=zJI fun r hr he=>hx (he ▸ h r hr)
theorem mkR_at {l:List Row4}(h:l.Pairwise LtR)(hg:∀ r∈l,zAD r∈zB5)(hn:∀ r∈l,¬ (r.free=0/\r.held=0)):mkR (atR l)=l:=by{
refine zIf LtR.irr LtR.asy (zIg _) h fun r=>?_;rw[zF0];constructor
.rintro⟨_,he,hz⟩;unfold atR at he;cases hf:l.find? (fun q=>q.acct==(zAD r).1&&q.asset==(zAD r).2) with
 | none=>rw[hf] at he;have h1:=Prod.mk.inj he;exact absurd ⟨h1.1.symm,h1.2.symm⟩ hz
 | some q =>
   rw[hf] at he;have h1:=List.find?_some hf;have h2:=List.mem_of_find?_eq_some hf;simp only[zAD,yy3,beq_iff_eq] at h1;have h3:=Prod.mk.inj he;obtain⟨a,b,c,d⟩:=q;obtain⟨a',b',c',d'⟩:=r;simp only at h1 h3;obtain⟨rfl,rfl⟩:=h1;obtain⟨rfl,rfl⟩:=h3;exact h2
.exact fun hr=>⟨hg r hr,zG0 h hr,hn r hr⟩}
theorem zEC {l:List Row4}(h:zAZ l=true):∀ r∈l,zFB r:=fun r hr=>by obtain⟨k,hk,rfl⟩:=List.getElem_of_mem hr;have:=((zBw.1 h).1 k hk).1;simpa [rw_,yy2,yy1 hk] using this
theorem zFa {l:List Row4}(h:zAZ l=true):l.Pairwise LtR:=zRa (zBw.1 h).1
theorem zHk {r:Row4}(h:zFB r):zAD r∈zB5:=zDU.2 ⟨⟨h.1.1,h.1.2.1⟩,h.1.2.2⟩
theorem zQD {l:List Row4}(h:zAZ l=true):mkR (atR l)=l :=
 mkR_at (zFa h) (fun r hr=>zHk (zEC h r hr)) (fun r hr=>(zEC h r hr).2.1)
theorem zUG {l:List Row4}(h:zAZ l=true){x:Pl}(hx:x ∉ zB5):atR l x=(0,0):=zWr (fun r hr=>zHk (zEC h r hr)) hx
theorem zED {l:List Row4}(h:zAZ l=true)(x:Pl):(x.1=0->(atR l x).2=0)/\(x.1≠0->0<=(atR l x).1/\0<=(atR l x).2/\(atR l x).1+(atR l x).2<=1125899906842624):=by{
by_cases hm:∃ r∈l,zAD r=x
.obtain⟨r,hr,rfl⟩:=hm;rw[zG0 (zFa h) hr];have:=zEC h r hr;exact⟨this.2.2.1,this.2.2.2⟩
.rw[zJI fun r hr he=>hm ⟨r,hr,he⟩];exact⟨fun _=>rfl,fun _=>⟨Int.le_refl _,Int.le_refl _,by decide⟩⟩}
theorem zUH {α:Type}(l:List α)(q:α->Bool)(d:α):l.find? q=if idx (fun j=>q (l.getD j d)) l.length<0 then none else some (l.getD (idx (fun j=>q (l.getD j d)) l.length).toNat d):=by{
rcases zX (fun j=>q (l.getD j d)) l.length with ⟨k,hk,hlo,hpk,hix⟩|⟨hall,hix⟩
.rw[hix,if_neg qO,Int.toNat_natCast];rw[List.find?_eq_some_iff_getElem];have e:l.getD k d=l[k]:=by simp[yy1 hk]
 refine⟨hpk,k,hk,e.symm,fun j hj=>?_⟩;have:=hlo j hj;rw[show l.getD j d=l[j] by simp[yy1 (show j<l.length by omega)]] at this;simpa using this
.rw[hix,if_pos (by decide),List.find?_eq_none];intro x hx;obtain⟨k,hk,rfl⟩:=zBd (d:=d) hx;simpa using hall k hk}
theorem zWs (r:Row4)(a s:Int)(b1 b2:Nat){T1 T2:TypeId}{fr1 fr2:Nat × Nat}{F:zA}(w0:World)(hF:Mem w0 F)(h1:(b1,Obj.cells [Value.int .i64 a].toArray T1 fr1)∈F)(h2:(b2,Obj.cells [Value.int .i64 s].toArray T2 fr2)∈F) :
  Cr 109 [.agg r.cells.toArray,(pt b1),(pt b2)] (.bool (r.acct==a&&r.asset==s)) w0:=by refine eS func109 ntmps109 fun H=>?_;(repeat' first|refine yW ?_|(refine yB ?_;intro b w H)|refine z13 (zF sg rfl rfl (H.memF hF) h1 rfl rfl) ?_|refine z13 (zF sg rfl rfl (H.memF hF) h2 rfl rfl) ?_|(refine y17 ?_ ?_;all_goals intro h)|fail);all_goals exact zG rfl H.cl (by simp[*])
def lgR (l:List Row4)(a s:Int):Row4:=⟨a,s,(atR l (a,s)).1,(atR l (a,s)).2⟩
theorem c_lGet {a0:OA}{cap:Nat}(l:List Row4)(a s:Int){F:zA}(w0:World)(hF:Mem w0 F)(hs0:SlA F 4 a0 l.length cap (rwl l)) :
  Cr 75 [.slice a0 l.length cap,.int .i64 a,.int .i64 s] (.agg (lgR l a s).cells.toArray) w0:=by{
have hs1:=hs0;obtain⟨hn,hc,b0,off,cs,T,fr,hs⟩:=hs1;have hfi:=zUH l (fun r=>r.acct==a&&r.asset==s) default;refine eS func75 ntmps75 fun H=>?_;(repeat' first|refine yX ?_|(refine yB ?_;intro b w H)|(refine c0 zLE ?_;refine⟨_,zEZ (caps:=[(pt _),(pt _)]) (fun j=>(rw_ l j).acct==a&&(rw_ l j).asset==s) _ (H.memF hF) hs0 ent109 (fun j hj w hw=>zWs (rw_ l j) a s _ _ _ (H.ext hw).mem (zz5 _ (zz5 _ (zz2 _))) (zz5 _ (zz2 _))),?_⟩;clear H;intro w H)|fail);have hix:-1<=idx (fun j=>(rw_ l j).acct==a&&(rw_ l j).asset==s) l.length/\idx (fun j=>(rw_ l j).acct==a&&(rw_ l j).asset==s) l.length<l.length:=by rcases zX (fun j=>(rw_ l j).acct==a&&(rw_ l j).asset==s) l.length with ⟨k,h1,_,_,h2⟩|⟨_,h2⟩<;>(rw[h2];omega)
have hfi:l.find? (fun r=>r.acct==a&&r.asset==s)=if idx (fun j=>(rw_ l j).acct==a&&(rw_ l j).asset==s) l.length<0 then none else some (rw_ l (idx (fun j=>(rw_ l j).acct==a&&(rw_ l j).asset==s) l.length).toNat):=hfi
generalize idx (fun j=>(rw_ l j).acct==a&&(rw_ l j).asset==s) l.length=i at hix hfi ⊢;refine zB rfl (fun h=>?_) (fun h=>?_)
·(repeat' first|refine yX ?_|(refine y11 sg H ?_;intro w H)|fail);rw[if_pos (of_decide_eq_true h)] at hfi;refine zAv (vs:=[_]) ⟨zg sg rfl H.mem (zz2 _) rfl rfl,trivial⟩ H.cl ?_;have e:lgR l a s=⟨a,s,0,0⟩:=by unfold lgR atR;rw[hfi]
 rw[e];rfl
.have hlt:=zzB h;rw[if_neg hlt] at hfi;(repeat' first|refine yX ?_|(refine y11 sg H ?_;intro w H)|refine x40 sg hs ?_|refine x42 sg hs (H.memF hF) ?_|fail);refine zAv (vs:=[_]) ⟨zg sg rfl H.mem (zz2 _) rfl rfl,trivial⟩ H.cl ?_;have hq:=List.find?_some hfi;simp only[yy3,beq_iff_eq] at hq;have e:lgR l a s=rw_ l i.toNat:=by unfold lgR atR;rw[hfi];rw[<- hq.1,<- hq.2]
 rw[e];rfl}
def R64 (l:List Row4):Prop:=∀ r∈l,(-9223372036854775808<=r.free/\r.free<=9223372036854775807)/\-9223372036854775808<=r.held/\r.held<=9223372036854775807
theorem atR_64 {l:List Row4}(h:R64 l)(x:Pl):(-9223372036854775808<=(atR l x).1/\(atR l x).1<=9223372036854775807)/\-9223372036854775808<=(atR l x).2/\(atR l x).2<=9223372036854775807:=by{
unfold atR;cases hf:l.find? fun r=>r.acct==x.1&&r.asset==x.2 with
| none=>exact⟨⟨by decide,by decide⟩,by decide,by decide⟩
| some r=>exact h r (List.mem_of_find?_eq_some hf)}
theorem zMz {a0:OA}{cap:Nat}(l:List Row4)(h64:R64 l)(a s:Int){F:zA}(w0:World)(hF:Mem w0 F)(hs0:SlA F 4 a0 l.length cap (rwl l)) :
  Cr 34 [.slice a0 l.length cap,.int .i64 a,.int .i64 s] (.int .i64 (zAf l a s)) w0:=by obtain⟨⟨h1,h2⟩,h3,h4⟩:=atR_64 h64 (a,s);refine eS func34 ntmps34 fun H=>?_;(repeat' first|refine yW ?_|(refine yB ?_;intro b w H)|(refine y11 sg H ?_;intro w H)|(refine c0 ent75 ?_;refine⟨_,c_lGet l a s _ (H.memF hF) hs0,?_⟩;clear H;intro w H)|(refine c0 ent76 ?_;refine⟨_,c_Add (atR l (a,s)).1 (atR l (a,s)).2 _ h1 h2 h3 h4,?_⟩;clear H;intro w H)|fail);exact zG rfl H.cl rfl
theorem c_Of1 (r:Row4)(a:Int)(b1:Nat){T1:TypeId}{fr1:Nat × Nat}{F:zA}(w0:World)(hF:Mem w0 F)(h1:(b1,Obj.cells [Value.int .i64 a].toArray T1 fr1)∈F) :
  Cr 256 [.agg r.cells.toArray,(pt b1)] (.bool (r.acct != a)) w0:=by refine eS func256 ntmps256 fun H=>?_;(repeat' first|refine yW ?_|(refine yB ?_;intro b w H)|refine z13 (zF sg rfl rfl (H.memF hF) h1 rfl rfl) ?_|fail);exact zG rfl H.cl rfl
theorem zUI (n:Int)(w0:World):Cr 284 [.int .i64 n] (.bool (zKB n)) w0:=by refine eS func284 ntmps284 fun H=>?_;(repeat' first|refine yW ?_|(refine y17 ?_ ?_;all_goals intro h)|fail);all_goals exact zG rfl H.cl (by simp[zKB, *])
abbrev AE:=Auc × OA × Nat
def AE.c (p:AE):List Value:=p.1.cells p.2.1 p.2.2
theorem AE.c_len (p:AE):p.c.length=9:=rfl
theorem AE.c_one (p:AE):∀ u∈p.c,u.oneCell'=true:=by intro u hu;simp only[AE.c,Auc.cells,List.mem_cons,List.not_mem_nil,or_false] at hu;rcases hu with rfl|rfl|rfl|rfl|rfl|rfl|rfl|rfl|rfl<;>rfl
def altb (x y:AE):Bool:=decide (x.1.fin<y.1.fin)
theorem zLn (x y:AE)(w:World):Cr 48 [.agg x.c.toArray,.agg y.c.toArray] (.int .i64 (zCO x.1.fin y.1.fin)) w:=by obtain⟨x,a,cap⟩:=x;obtain⟨y,a',cap'⟩:=y;refine eS func48 ntmps48 fun H=>?_;(repeat' first|refine yW ?_|(refine yB ?_;intro b w H)|(refine' y30 zMd ?_ ?_;rotate_left;exact zD9 _ _ _;intro w hcl;replace H:=H.ext hcl;clear hcl)|fail);exact zG rfl H.cl rfl
def sw (d:Nat->AE)(i j:Nat):Nat->AE:=fun k=>if k=i then d j else if k=j then d i else d k
def zBY (a:Nat):Nat->(Nat->AE)->(Nat->AE)
 | 0,d=>d
 | j+1,d=>if a<j+1/\altb (d (j+1)) (d j)=true then zBY a j (sw d (j+1) j) else d
def zBe (a:Nat):Nat->Nat->(Nat->AE)->(Nat->AE)
 | 0,_,d=>d
 | m+1,i,d=>zBe a m (i+1) (zBY a i d)
def zFD (a b:Nat)(d:Nat->AE):Nat->AE:=zBe a (b - (a+1)) (a+1) d
structure Arr (w0:World)(g:Nat)(len n:Nat)(G:zA)(d:Nat->AE)(cs:List Value)(w:World):Prop where
 st:St w0 (cb g cs 86::G) w
 len:cs.length=len
 els:Els cs 9 n (fun j=>(d j).c)
theorem Arr.slb {w0 w:World}{g len n:Nat}{G:zA}{d:Nat->AE}{cs:List Value}(h:Arr w0 g len n G d cs w):SlB (cb g cs 86::G) 9 (some ⟨g,0,none⟩) n g 0 cs 86 (0,0) (fun j=>(d j).c):=h.els.slb (zz2 _)
theorem Arr.ext {w0 w w':World}{g len n:Nat}{G:zA}{d:Nat->AE}{cs:List Value}(h:Arr w0 g len n G d cs w)(k:Cl w w'):Arr w0 g len n G d cs w':=⟨h.st.ext k,h.len,h.els⟩
def upd (d:Nat->AE)(k:Nat)(v:AE):Nat->AE:=fun t=>if t=k then v else d t
theorem Arr.fit {w0 w:World}{g len n k:Nat}{G:zA}{d:Nat->AE}{cs:List Value}(h:Arr w0 g len n G d cs w)(hk:k<n)(v:AE):0+k*9+v.c.length<=cs.length:=by have:=(h.els k hk).1;rw[AE.c_len];omega
theorem Arr.put {w0 w w':World}{g len n k:Nat}{G:zA}{d:Nat->AE}{cs:List Value}{v:AE}(h:Arr w0 g len n G d cs w)(hk:k<n)(hs:St w0 (cb g (wr cs (0+k*9) v.c) 86::G) w') :
  Arr w0 g len n G (upd d k v) (wr cs (0+k*9) v.c) w' :=
 ⟨hs,by rw[zCC (h.fit hk v)];exact h.len,by rw[yyv];exact(h.els.wr hk (AE.c_len v)).congr (fun j _=>by unfold upd;split<;>rfl)⟩
theorem zLo {d:Nat->AE}{i j:Nat}(h:i≠j):upd (upd d i (d j)) j (d i)=sw d i j:=by{
funext k;unfold upd sw;by_cases h1:k=j
.subst h1;rw[if_pos rfl,if_neg (Ne.symm h),if_pos rfl]
.rw[if_neg h1,if_neg h1]}
theorem zLp {w0 w:World}{g len n cap a e:Nat}{G:zA}{d:Nat->AE}{cs:List Value}(hA:Arr w0 g len n G d cs w)(hae:a<=e)(hen:e<=n)(hn:n<4611686018427387904) :
  Calls prog 131 [.slice (some ⟨g,0,none⟩) n cap,.int .i64 (a:Int),.int .i64 (e:Int),.func (.func 48) #[] #[]].toArray w
   (zZ (fun M v=>v=.tuple #[]/\∃ cs',M=cb g cs' 86::G/\cs'.length=len/\Els cs' 9 n (fun j=>(zFD a e d j).c)) w0):=by{
refine eN func131 ntmps131 ?_;have H:=hA;(repeat' first|refine yX ?_|fail);refine zD [(8,9),(12,52)] (fun x:Nat × (Nat->AE) × List Value=>[(8,.int .i64 (x.1:Int))]) (fun x w=>a+1<=x.1/\(x.1<=e\/x.1=a+1)/\zBe a (e - x.1) x.1 x.2.1=zFD a e d/\Arr w0 g len n G x.2.1 x.2.2 w) (fun x=>e - x.1) (a+1,d,cs) ⟨zU qO,trivial⟩ ⟨zzC _,.inr rfl,rfl,H⟩ ?_;clear H hA;rintro⟨i,d1,cs1⟩ gh w ⟨hi1,hi2,hi3,H⟩;simp only at hi1 hi2 hi3 H ⊢;(repeat' first|refine yX ?_|fail);refine zB rfl (fun h=>?_) (fun h=>?_)
.have hie:i<e:=by simpa using h
 (repeat' first|refine yX ?_|fail);refine zD [(9,9),(18,52)] (fun x:Nat × (Nat->AE) × List Value=>[(9,.int .i64 (x.1:Int))]) (fun x w=>x.1<=i/\a<=x.1/\zBY a x.1 x.2.1=zBY a i d1/\Arr w0 g len n G x.2.1 x.2.2 w) (fun x=>x.1) (i,d1,cs1) ⟨rfl,trivial⟩ ⟨zzC _,by omega,rfl,H⟩ ?_;clear H;rintro⟨j,d2,cs2⟩ gh2 w ⟨hj1,hj2,hj3,H⟩;simp only at hj1 hj2 hj3 H ⊢;rcases Nat.lt_or_ge a j with hja|hja
 ·(repeat' first|refine yX ?_|(refine y41 sg (H.slb) ?_ ?_ ?_;(first|omega|(rw[w64 qO qO];omega));(first|omega|(rw[w64 qO qO];omega)))|refine x43 sg H.slb H.st.mem ?_|(refine' y35 zPw ?_ ?_;rotate_left;exact(fun _ hcl=>zLn (d2 j) (d2 (j - 1)) _))|(refine y18 ?_ ?_;all_goals intro h)|(with_reducible apply zGR;intro w hcl;replace H:=H.ext hcl;clear hcl)|refine y20 mixed ?_|fail);all_goals first|(exfalso;simp at h;omega)|skip
  obtain⟨jj,rfl⟩:∃ jj,j=jj+1:=⟨j - 1,by omega⟩;simp only[Nat.add_sub_cancel] at *;refine zB rfl (fun h3=>?_) (fun h3=>?_)
  ·(repeat' first|refine yX ?_|(refine zBD mixed 18 ?_ ?_;exact rfl;intro w hcl;replace H:=H.ext hcl;clear hcl)|((with_reducible apply zFM);decide +kernel)|(refine' z8 0 ?_ ?_;rotate_left;first|exact z9 sg|exact(fun w=>zAO sg H.slb rfl rfl rfl rfl rfl rfl rfl (by first|with_reducible exact zz1 _|exact zo qO qO|with_reducible exact zAm|exact zn _) (by first|omega|(rw[w64 qO qO];omega)) (by first|omega|(rw[w64 qO qO];omega))))|(refine' z8 1 ?_ ?_;rotate_left;first|exact z9 sg|exact(fun w=>zAO sg H.slb rfl rfl rfl rfl rfl rfl rfl (by first|with_reducible exact zz1 _|exact zo qO qO|with_reducible exact zAm|exact zn _) (by first|omega|(rw[w64 qO qO];omega)) (by first|omega|(rw[w64 qO qO];omega))))|(refine' z8 2 ?_ ?_;rotate_left;first|exact z9 sg|exact(fun w=>zAO sg H.slb rfl rfl rfl rfl rfl rfl rfl (by first|with_reducible exact zz1 _|exact zo qO qO|with_reducible exact zAm|exact zn _) (by first|omega|(rw[w64 qO qO];omega)) (by first|omega|(rw[w64 qO qO];omega))))|(refine' z8 3 ?_ ?_;rotate_left;first|exact z9 sg|exact(fun w=>zAO sg H.slb rfl rfl rfl rfl rfl rfl rfl (by first|with_reducible exact zz1 _|exact zo qO qO|with_reducible exact zAm|exact zn _) (by first|omega|(rw[w64 qO qO];omega)) (by first|omega|(rw[w64 qO qO];omega))))|(refine' z8 4 ?_ ?_;rotate_left;first|exact z9 sg|exact(fun w=>zAO sg H.slb rfl rfl rfl rfl rfl rfl rfl (by first|with_reducible exact zz1 _|exact zo qO qO|with_reducible exact zAm|exact zn _) (by first|omega|(rw[w64 qO qO];omega)) (by first|omega|(rw[w64 qO qO];omega))))|(refine' z8 5 ?_ ?_;rotate_left;first|exact z9 sg|exact(fun w=>zAO sg H.slb rfl rfl rfl rfl rfl rfl rfl (by first|with_reducible exact zz1 _|exact zo qO qO|with_reducible exact zAm|exact zn _) (by first|omega|(rw[w64 qO qO];omega)) (by first|omega|(rw[w64 qO qO];omega))))|(refine' z8 6 ?_ ?_;rotate_left;first|exact z9 sg|exact(fun w=>zAO sg H.slb rfl rfl rfl rfl rfl rfl rfl (by first|with_reducible exact zz1 _|exact zo qO qO|with_reducible exact zAm|exact zn _) (by first|omega|(rw[w64 qO qO];omega)) (by first|omega|(rw[w64 qO qO];omega))))|(refine' z8 7 ?_ ?_;rotate_left;first|exact z9 sg|exact(fun w=>zAO sg H.slb rfl rfl rfl rfl rfl rfl rfl (by first|with_reducible exact zz1 _|exact zo qO qO|with_reducible exact zAm|exact zn _) (by first|omega|(rw[w64 qO qO];omega)) (by first|omega|(rw[w64 qO qO];omega))))|(refine' z8 8 ?_ ?_;rotate_left;first|exact z9 sg|exact(fun w=>zAO sg H.slb rfl rfl rfl rfl rfl rfl rfl (by first|with_reducible exact zz1 _|exact zo qO qO|with_reducible exact zAm|exact zn _) (by first|omega|(rw[w64 qO qO];omega)) (by first|omega|(rw[w64 qO qO];omega))))|(refine' z8 10 ?_ ?_;rotate_left;first|exact z9 sg|exact(fun w=>zAO sg H.slb rfl rfl rfl rfl rfl rfl rfl (by first|with_reducible exact zz1 _|exact zo qO qO|with_reducible exact zAm|exact zn _) (by first|omega|(rw[w64 qO qO];omega)) (by first|omega|(rw[w64 qO qO];omega))))|(refine' z8 11 ?_ ?_;rotate_left;first|exact z9 sg|exact(fun w=>zAO sg H.slb rfl rfl rfl rfl rfl rfl rfl (by first|with_reducible exact zz1 _|exact zo qO qO|with_reducible exact zAm|exact zn _) (by first|omega|(rw[w64 qO qO];omega)) (by first|omega|(rw[w64 qO qO];omega))))|(refine' z8 12 ?_ ?_;rotate_left;first|exact z9 sg|exact(fun w=>zAO sg H.slb rfl rfl rfl rfl rfl rfl rfl (by first|with_reducible exact zz1 _|exact zo qO qO|with_reducible exact zAm|exact zn _) (by first|omega|(rw[w64 qO qO];omega)) (by first|omega|(rw[w64 qO qO];omega))))|(refine' z8 14 ?_ ?_;rotate_left;first|exact z9 sg|exact(fun w=>zAO sg H.slb rfl rfl rfl rfl rfl rfl rfl (by first|with_reducible exact zz1 _|exact zo qO qO|with_reducible exact zAm|exact zn _) (by first|omega|(rw[w64 qO qO];omega)) (by first|omega|(rw[w64 qO qO];omega))))|(refine' z8 16 ?_ ?_;rotate_left;first|exact z9 sg|exact(fun w=>zAO sg H.slb rfl rfl rfl rfl rfl rfl rfl (by first|with_reducible exact zz1 _|exact zo qO qO|with_reducible exact zAm|exact zn _) (by first|omega|(rw[w64 qO qO];omega)) (by first|omega|(rw[w64 qO qO];omega))))|refine z10 9 ?_|refine z10 13 ?_|refine z10 15 ?_|refine z10 17 ?_|refine z11 9 13 ?_ ?_|refine x42 sg H.slb H.st.mem ?_|(refine OX.storeB sg H.st rfl rfl rfl rfl rfl (AE.c_len _) (H.fit qO _) (AE.c_one _) ?_;intro w HS;replace H:=H.put qO HS;clear HS)|fail)
   all_goals
    rw[show jj+1 - 1=jj from rfl,zLo qO] at H;have hlt:altb (d2 (jj+1)) (d2 jj)=true:=by unfold altb;rw[<- zGn];exact h3
    exact zC (jj,sw d2 (jj+1) jj,_) rfl ⟨vint qO qO qO,trivial⟩ ⟨by show jj<=i;omega,by show a<=jj;omega,by rw[<- hj3,zBY,if_pos ⟨hja,hlt⟩],H⟩ (by show jj<jj+1;omega)
  ·(repeat' first|refine yX ?_|fail);have hlt:altb (d2 (jj+1)) (d2 jj)=false:=by unfold altb;rw[<- zGn];exact h3
   have hd:zBY a i d1=d2:=by{rw[<- hj3,zBY,if_neg (fun hh=>by rw[hlt] at hh;exact absurd hh.2 (by simp))]};exact zD5 (i+1,d2,cs2) rfl ⟨zU qO,trivial⟩ ⟨by show a+1<=i+1;omega,.inl hie,by rw[<- hi3,show e - i=(e - (i+1))+1 by omega,zBe,hd],H⟩ (by show e - (i+1)<e - i;omega)
 ·(repeat' first|refine yX ?_|(refine y18 ?_ ?_;all_goals intro h)|(with_reducible apply zGR;intro w hcl;replace H:=H.ext hcl;clear hcl)|refine y20 mixed ?_|fail);all_goals first|(exfalso;simp at h;omega)|skip
  have hd:zBY a i d1=d2:=by
   rw[<- hj3];cases j with
   | zero=>rfl
   | succ j=>rw[zBY,if_neg (fun hh=>by omega)]
  exact zD5 (i+1,d2,cs2) rfl ⟨zU qO,trivial⟩ ⟨by show a+1<=i+1;omega,.inl hie,by rw[<- hi3,show e - i=(e - (i+1))+1 by omega,zBe,hd],H⟩ (by show e - (i+1)<e - i;omega)
·(repeat' first|refine yX ?_|fail);have h0:e - i=0:=by simp at h;omega
 rw[h0] at hi3;exact zB2 (vs:=[]) (M:=_) trivial H.st ⟨rfl,cs1,rfl,H.len,by rw[<- hi3];exact H.els⟩}
def Sorts (w0:World)(g len n:Nat)(G:zA)(d:Nat->AE):Ending->World->Prop:=zZ (fun M v=>v=.tuple #[]/\∃ cs',M=cb g cs' 86::G/\cs'.length=len/\Els cs' 9 n (fun j=>(d j).c)) w0
theorem zUJ {w0 w:World}{g len n cap:Nat}{G:zA}{d:Nat->AE}{cs:List Value}(hA:Arr w0 g len n G d cs w)(hn:n<20) :
  Calls prog 89 [.slice (some ⟨g,0,none⟩) n cap,.int .i64 (n:Int),.func (.func 48) #[] #[]].toArray w (Sorts w0 g len n G (zFD 0 n d)):=by{
refine eN func89 ntmps89 ?_;have H:=hA;clear hA;(repeat' first|refine yX ?_|fail);refine zD [(7,8),(11,22)] (fun _:Unit=>[(7,.int .i64 0),(8,.int .i64 20)]) (fun _ w=>Arr w0 g len n G d cs w) (fun _=>0) () ⟨rfl,rfl,trivial⟩ H ?_;clear H;rintro _ gh w H;(repeat' first|refine yX ?_|fail);refine zB rfl (fun h=>?_) (fun h=>?_)
.exact absurd (zzA h) qO
(repeat' first|refine yX ?_|(refine zW rfl rfl (En.fn zLF rfl rfl) (zLp (a:=0) (e:=n) H (zzD _) (zzC _) qO) ?_;rintro _ _ w ⟨rfl,cs',rfl,hl,he⟩ HS;have H':Arr w0 g len n G (zFD 0 n d) cs' w:=⟨HS,hl,he⟩;clear H HS hl he;have H:=H';clear H')|fail);refine zD [(6,9),(28,62)] (fun _:Unit=>[(6,.int .i64 20)]) (fun _ w=>Arr w0 g len n G (zFD 0 n d) cs' w) (fun _=>0) () ⟨rfl,trivial⟩ H ?_;clear H;rintro _ gh w H;(repeat' first|refine yX ?_|fail);refine zB rfl (fun h=>?_) (fun h=>?_)
.exact absurd (zzA h) qO
(repeat' first|refine yX ?_|fail);exact zB2 (vs:=[]) (M:=_) trivial H.st ⟨rfl,cs',rfl,H.len,H.els⟩}
def kp (p:Nat->Bool)(n:Nat):List Nat:=(List.range n).filter fun i=>!p i
theorem zBz (p:Nat->Bool)(n:Nat):kp p (n+1)=if p n then kp p n else kp p n++[n]:=by unfold kp;rw[yys,List.filter_append];cases h:p n<;>simp[h]
theorem zHl {p:Nat->Bool}{n:Nat}(h:∀ j,j<n->p j=false):kp p n=List.range n:=by unfold kp;rw[List.filter_eq_self];intro a ha;rw[h a (List.mem_range.1 ha)];rfl
theorem zLq (p:Nat->Bool)(n:Nat):(kp p n).length<=n:=by have:=List.length_filter_le (fun i=>!p i) (List.range n);simpa [kp] using this
def zIS (p:Nat->Bool)(n:Nat)(d:Nat->AE)(t:Nat):AE:=d ((kp p n).getD t 0)
theorem zM0 {w0 w:World}{g n cap:Nat}{G:zA}{d:Nat->AE}{cs:List Value}{f:FuncId}{caps:List Value}(p:Nat->Bool)(H:St w0 (cb g cs 86::G) w)(he:Els cs 9 n (fun j=>(d j).c))(hn:n<=8796093022208)(hnc:n<=cap)
  (hf:Ent prog f) (hp:∀ j,j<n->∀ L cs' w',St w0 (L++cb g cs' 86::G) w'->Calls prog f ([Value.agg (d j).c.toArray]++caps).toArray w' (Ret (.bool (p j)) w')) :
  Calls prog 43 [.slice (some ⟨g,0,none⟩) n cap,.func (.func f) #[] caps.toArray].toArray w
   (zZ (fun M v=>v=.slice (some ⟨g,0,none⟩) (kp p n).length cap/\∃ cs',M=cb g cs' 86::G/\cs'.length=cs.length/\Els cs' 9 (kp p n).length (fun t=>(zIS p n d t).c)) w0):=by{
refine eN func43 ntmps43 ?_;(repeat' first|refine yX ?_|(refine OX.call rfl rfl (En.fn zMg rfl rfl) (zEY p _ H.mem ⟨hnc,by omega,g,0,cs,_,(0,0),he.slb (zz2 _)⟩ hf (fun j hj w' hw=>hp j hj [] _ _ (H.ext hw))) ?_;refine wQ H ?_;clear H;intro w H)|fail);refine zB rfl (fun h=>?_) (fun h=>?_)
·(repeat' first|refine yX ?_|fail);rcases zX p n with ⟨k,hk,hlo,hpk,hix⟩|⟨hall,hix⟩
 .rw[hix] at h;have:=eqI h;omega
 .have hkp:=zHl hall;have hkl:(kp p n).length=n:=by{rw[hkp,List.length_range]};refine zc (vs:=[_]) (M:=_) ⟨zP rfl,trivial⟩ H ⟨by rw[hkl];rfl,cs,rfl,rfl,?_⟩
  rw[hkl];exact he.congr (fun j hj=>by show(d j).c=(d _).c;rw[hkp,yy2,List.getElem?_range hj];rfl)
.rcases zX p n with ⟨k,hk,hlo,hpk,hix⟩|⟨_,hix⟩
 .rw[hix];clear h;have hk1:kp p (k+1)=List.range k:=by rw[zBz,if_pos hpk];exact zHl hlo
  have hlt:∀ j,k+1<=j->(kp p j).length<j:=by
   intro j hj;induction j with
   | zero=>omega
   | succ j ih =>
     rw[zBz];rcases Nat.lt_or_ge k j with h1|h1
     .have:=ih qO;split
      .omega
      .rw[yy4,yyo];omega
     .obtain rfl:j=k:=by{omega};rw[if_pos hpk]
      have:=zLq p j;omega
  (repeat' first|refine yX ?_|fail)
  refine zD [(5,7),(16,35)] (fun x:Nat × (Nat->AE) × List Value=>[(5,.int .i64 ((kp p x.1).length:Int)),(6,.int .i64 (x.1:Int))])
   (fun x w=>k+1<=x.1/\x.1<=n/\(∀ t,t<(kp p x.1).length->x.2.1 t=zIS p x.1 d t)/\(∀ t,x.1<=t->x.2.1 t=d t)/\Els x.2.2 9 n (fun t=>(x.2.1 t).c)/\x.2.2.length=cs.length/\St w0 (cb g x.2.2 86::G) w)
   (fun x=>n - x.1) (k+1,d,cs) ⟨by show Value.int .i64 _=Value.int .i64 ((kp p (k+1)).length:Int);rw[hk1,List.length_range],zU qO,trivial⟩
   ⟨zzC _,hk,fun t ht=>by rw[hk1,List.length_range] at ht;unfold zIS;rw[hk1,yy2,List.getElem?_range ht];rfl,fun _ _=>rfl,he,rfl,H⟩ ?_
  clear H he;rintro⟨j,d2,cs2⟩ gh w ⟨hj1,hj2,hj3,hj4,he,hl,H⟩;simp only at hj1 hj2 hj3 hj4 he hl H ⊢;have hil:=hlt j hj1;(repeat' first|refine yX ?_|fail);refine zB rfl (fun h=>?_) (fun h=>?_)
  .have hjn:j<n:=by{simpa using h};have hdj:d2 j=d j:=hj4 j (zzC _)
   have hs:=he.slb (F:=cb g cs2 86::G) (T:=86) (g:=g) (zz2 _);(repeat' first|refine yX ?_|(refine yB ?_;intro b w H)|(refine y11 sg H ?_;intro w H)|refine x40 sg hs ?_|refine x42 sg hs H.mem ?_|(refine OX.call rfl rfl (zAq hf rfl rfl rfl) (by have:=hp j hjn [_] _ _ H;rw[<- hdj] at this;exact this) ?_;refine wQ H ?_;clear H;intro w H)|fail);refine zB rfl (fun h2=>?_) (fun h2=>?_)
   ·(repeat' first|refine yX ?_|refine x40 sg hs ?_|(refine OX.storeB sg (H.perm (List.Perm.swap _ _ _)) rfl rfl rfl (vs:=(d2 j).c) rfl rfl (AE.c_len _) (by have:=(he _ (Nat.lt_of_lt_of_le hil hj2)).1;rw[AE.c_len];omega) (AE.c_one _) ?_;intro w HS)|fail);have hin:(kp p j).length<n:=Nat.lt_of_lt_of_le hil hj2;have hkp:kp p (j+1)=kp p j++[j]:=by{rw[zBz,if_neg (by simpa using h2)]};have hkl:(kp p (j+1)).length=(kp p j).length+1:=by rw[hkp,yy4,yyo]
    refine zC (j+1,upd d2 (kp p j).length (d2 j),wr cs2 (0+(kp p j).length*9) (d2 j).c) rfl ⟨by show Value.int .i64 _=Value.int .i64 ((kp p (j+1)).length:Int);rw[hkl];exact zU qO,zU qO,trivial⟩
     ⟨by show k+1<=j+1;omega,hjn,fun t ht=>?_,fun t ht=>?_,?_,?_,HS.sub (yy5 _ (zz7 _ _))⟩ (by show n - (j+1)<n - j;omega)
    .replace ht:t<(kp p (j+1)).length:=ht;rw[hkl] at ht;show upd d2 (kp p j).length (d2 j) t=zIS p (j+1) d t;unfold upd zIS;rw[hkp,yy2];by_cases ht2:t=(kp p j).length
     .rw[if_pos ht2,ht2,yym (Nat.le_refl _),Nat.sub_self,hdj];rfl
     .rw[if_neg ht2,yyl qO,hj3 t qO];unfold zIS;rw[yy2]
    .replace ht:j+1<=t:=ht;show upd d2 (kp p j).length (d2 j) t=d t;unfold upd;rw[if_neg qO,hj4 t qO]
    .show Els (wr cs2 (0+(kp p j).length*9) (d2 j).c) 9 n _;rw[yyv];exact(he.wr hin (AE.c_len _)).congr (fun t _=>by show(if t=_ then _ else _)=(upd _ _ _ t).c;unfold upd;split<;>rfl)
    .show(wr _ _ _).length=_;rw[zCC (by have:=(he _ hin).1;rw[AE.c_len];omega)];exact hl
   ·(repeat' first|refine yX ?_|fail);have hkp:kp p (j+1)=kp p j:=by rw[zBz,if_pos (by simpa using h2)]
    refine zC (j+1,d2,cs2) rfl ⟨by show Value.int .i64 _=Value.int .i64 ((kp p (j+1)).length:Int);rw[hkp],zU qO,trivial⟩
     ⟨by show k+1<=j+1;omega,hjn,fun t ht=>?_,fun t ht=>hj4 t (by replace ht:j+1<=t:=ht;omega),he,hl,H.sub (zz7 _ _)⟩ (by show n - (j+1)<n - j;omega)
    replace ht:t<(kp p (j+1)).length:=ht;show d2 t=zIS p (j+1) d t;unfold zIS;rw[hkp];rw[hkp] at ht;exact hj3 t ht
  .have hjn:j=n:=by simp at h;omega
   subst hjn;(repeat' first|refine yX ?_|(refine za rfl rfl (Yq.sliceLoB sg rfl rfl rfl rfl rfl rfl (zz1 _) qO qO hnc) ?_)|(refine OX.clearP sg H qO rfl rfl rfl rfl rfl rfl rfl rfl rfl (by have:=(he (j - 1) qO).1;show 0+(kp p j).length*9+(j - (kp p j).length)*9<=cs2.length;omega) ?_;intro cs3 w hl3 hk3 H)|(refine za rfl rfl (Yq.sliceHi sg rfl rfl rfl rfl rfl rfl (zz1 _) qO qO) ?_)|fail);exact zc (vs:=[_]) (M:=_) ⟨zP rfl,trivial⟩ H ⟨rfl,cs3,rfl,hl3.trans hl,(he.keep (Nat.le_of_lt hil) hl3 (fun q hq=>hk3 q (by show q<0+(kp p j).length*9;omega))).congr (fun t ht=>by show(d2 t).c=_;rw[hj3 t ht])⟩
 .rw[hix] at h;exact absurd h (by decide)}
end Go.Proofs.YtejhijhnlogikaaGreatDoor
