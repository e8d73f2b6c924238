/- Steps of the proof. -/
import Derived.Test.YtejhijhnlogikaaGreatDoorMe25
set_option linter.all false
set_option maxHeartbeats 16000000
namespace Go.Proofs.YtejhijhnlogikaaGreatDoor
open Go Go.Sk Go.RowKit Go.Proofs.Tryz
attribute [local irreducible] Go.Calls
def numB (l m:List Int):Bool:=(List.range l.length).all fun i=>l.getD i 0==m.getD i 0
def txtB (l m:List ByteArray):Bool:=(List.range l.length).all fun i=>(l.getD i ByteArray.empty).toList==(m.getD i ByteArray.empty).toList
def evB (a b:Evt):Bool:=(a.v==b.v&&a.kind==b.kind&&a.nums.length==b.nums.length&&a.texts.length==b.texts.length)&&(numB a.nums b.nums&&txtB a.texts b.texts)
def evsB (l m:List Evt):Bool:=l.length==m.length&&(List.range l.length).all fun i=>evB (ev_ l i) (ev_ m i)
structure WS where
 ids:List Int
 s:Sta
 l:List Evt
def WS.go (x:WS)(e:Evt):WS:=⟨x.ids.tail,(zM x.s e).1,x.l++[e]⟩
def zKG (nx:WS->Option Evt)(cap:Bool):Nat->WS->List Evt × Int
 | 0,_=>([],40)
 | n+1,x =>
   match nx x with
   | none=>(x.l,0)
   | some e=>if cap=true/\31<x.l.length then([],40) else if (zM x.s e).2≠0 then([],(zM x.s e).2) else zKG nx cap n (x.go e)
def trN (id:Int)(x:WS):Option Evt:=zE0 x.s id
def saN (x:WS):Option Evt:=x.ids.head?.map (zCa x.s)
def zNl (x:Auc):List Auc->List Auc
 | []=>[x]
 | y::t=>if x.fin<y.fin\/(x.fin=y.fin/\x.id<y.id) then x::y::t else y::zNl x t
def zFH (l:List Auc)(clock:Int):List Auc:=if zAF l=true then(l.filter fun x=>zAW x clock).foldr zNl [] else[]
def zCb (s:Sta)(c:Cmd):List Evt × Int :=
 if (zj s c).2≠0 then([],(zj s c).2) else
 let f:=(zj s c).1
 if (zM s f).2≠0 then([],(zM s f).2) else
 let t:=(zM s f).1
 if f.kind=11 then zKG (trN (nF f.nums 0)) true 40 ⟨[],t,[f]⟩
 else if f.kind=20 then zKG saN false ((zFH t.aucs t.clock).length+1) ⟨(zFH t.aucs t.clock).map (·.id),t,[f]⟩
 else([f],0)
theorem zHx (x:Auc):∀ l:List Auc,(zNl x l).Perm (x::l)
 | []=>List.Perm.refl _
 | y::t=>by
   unfold zNl
   split
   .exact List.Perm.refl _
   .exact((zHx x t).cons y).trans (List.Perm.swap x y t)
theorem zQz {x:Auc}:∀ {l:List Auc},l.Pairwise ltA->(∀ y∈l,x.id≠y.id)->(zNl x l).Pairwise ltA
 | [],_,_=>List.pairwise_singleton _ _
 | y::t,h,hn=>by
   rw[List.pairwise_cons] at h
   unfold zNl
   split
   .rename_i c
    refine List.pairwise_cons.2 ⟨fun z hz=>?_,List.pairwise_cons.2 h⟩
    rcases List.mem_cons.1 hz with rfl|hz
    .exact c
    .have:=h.1 z hz
     unfold ltA at *
     omega
   .rename_i c
    refine List.pairwise_cons.2 ⟨fun z hz=>?_,zQz h.2 fun z hz=>hn z (zz4 _ hz)⟩
    rcases List.mem_cons.1 ((zHx x t).mem_iff.1 hz) with rfl|hz
    .have:=hn y (zz2 _)
     unfold ltA at *
     omega
    .exact h.1 z hz
theorem zGA (l:List Auc)(clock:Int):IsRow l clock (zFH l clock):=by{
unfold zFH;by_cases hm:zAF l=true
.rw[if_pos hm];have hid:(l.map (·.id)).Pairwise (·≠·):=by obtain⟨_,_,h3⟩:=zKs hm;rw[List.pairwise_map,List.pairwise_iff_getElem];intro i j hi hj hij e;have:=h3 i j hij hj;rw[yy2,yy2,yy1 hi,yy1 hj] at this;simp only[Option.getD_some] at this;omega
 have hid2:((l.filter fun x=>zAW x clock).map (·.id)).Pairwise (·≠·):=hid.sublist (List.filter_sublist.map _);have hmain:∀ m:List Auc,(m.map (·.id)).Pairwise (·≠·)->(m.foldr zNl []).Pairwise ltA/\(m.foldr zNl []).Perm m:=by
  intro m;induction m with
  | nil=>intro _;exact⟨List.Pairwise.nil,List.Perm.refl _⟩
  | cons x t ih =>
    intro h;rw[List.map_cons,List.pairwise_cons] at h;obtain⟨h1,h2⟩:=ih h.2;refine⟨zQz h1 fun y hy=>h.1 y.id (List.mem_map.2 ⟨y,h2.mem_iff.1 hy,rfl⟩),?_⟩;exact(zHx x _).trans (h2.cons x)
 obtain⟨h1,h2⟩:=hmain _ hid2;exact .inl ⟨hm,h1,h2⟩
.rw[if_neg hm];exact .inr ⟨by simpa using hm,rfl⟩}
def mDo (m:Mrk)(c:Cmd):Mrk × List Evt × Int :=
 if 1048576<=m.n then(m,[],40) else
 if (zCb m.s c).2≠0 then(m,[],(zCb m.s c).2) else
 (⟨(zCs m.s (zCb m.s c).1).1,m.n+1⟩,(zCb m.s c).1,0)
def zGH:Cmd:=cmN 1 ⟨#[97,110,110]⟩ []
def old6 (k:Int)(n:List Int):Evt:=⟨1,k,n,[]⟩
def maL:List Evt:=[old6 6 [1,5]]
def maM:List Evt:=[old6 6 [1,5],old6 7 [1,9],old6 7 [1,9]]
def maB:Bool :=
 let d:=mDo zNi zGH
 let f:=mDo d.1 zGH
 let g:=zBB d.1 maL
 let h:=zBB g.1 maM
 let z:=zBB g.1 []
 (d.2.2==0&&evsB d.2.1 [evN 1 ⟨#[97,110,110]⟩ [1]]&&d.1.n==1)&&(f.2.2==6)&&(g.2==0&&g.1.n==2&&zAf g.1.s.rows 1 0==500)&&h.2==47&&z.2==4
theorem ma_b:maB=true:=by decide +kernel
end Go.Proofs.YtejhijhnlogikaaGreatDoor
set_option linter.unusedSectionVars false
namespace Go.Sk
open Go Go.RowKit
attribute [local semireducible] CW OW OX QW QX RW
section
variable {P:Program}{n:Nw}{e:Env}{L:List (Nat × Value)}{b:Env}{w:World}{σ:Type}
def Yok1 (P:Program)(w0:World)(l:Nat)(Pre:σ->Value->zA->Prop)(nx:σ->σ)(K:σ->zA->Prop)(Kd:zA->Prop):Prop :=
 ∀ (s:σ) (v:Value) (M N G':zA) (w:World),K s M->Pre s v N->St w0 (M++(N++G')) w ->
   Yld P l [v] w (fun e w'=>∃ u,e=.returned u/\((u=.bool true/\∃ M',K (nx s) M'/\St w0 (M'++G') w')\/(u=.bool false/\∃ M',Kd M'/\St w0 (M'++G') w')))
def zNm (P:Program)(w0:World)(gf:FuncId)(lb:List Value)(Ex:σ->zA->Prop)(Pre:σ->Value->zA->Prop)(nx:σ->σ)(fin:σ->Prop)(s0:σ):Prop :=
 ∀ (l:Nat) (K:σ->zA->Prop) (Kd:zA->Prop),(∀ s M,K s M->Ex s M)->Yok1 P w0 l Pre nx K Kd->∀ (M G':zA) (w:World),K s0 M->St w0 (M++G') w ->
   Calls P gf (Value.func (.yield l) #[] #[]::lb).toArray w (zZ (fun N' _=>(∃ s M2,fin s/\K s M2/\N'=M2++G')\/∃ M2,Kd M2/\N'=M2++G') w0)
def rnd (A B:World->Prop):zAM
 | .normal,_,w=>A w
 | .ret,_,w=>B w
 | _,_,_=>False
theorem up_in {b:Nat}{o o':Obj}(G:zA):∀ M:zA,Up b o o' (M++((b,o)::G)) (M++((b,o')::G))
 | []=>Up.here
 | _::M=>Up.there (up_in G M)
theorem CM.rangeFunc1 {w0:World}{Q:List Deferred->zAM}{g:Operand}{p1:Tmp}{assign body:Code}{gf:FuncId}{lb:List Value}{M0 G:zA}{Ex:σ->zA->Prop}{Pre:σ->Value->zA->Prop}{nx:σ->σ}{fin:σ->Prop}{s0:σ}
  (J:σ->zA->Prop) (Jd:zA->Prop) (hro:n.ro=none) (hg:ev (ovl L b) g=.func (.func gf) #[] lb.toArray) (hent:Ent P gf) (h1:Nat.blt p1 n.n=true)
  (hit:zNm P w0 gf lb Ex Pre nx fin s0) (H:St w0 (M0++G) w) (h0:J s0 M0) (hEx:∀ s M,J s M->Ex s M) (hExm:∀ s x M,Ex s M->Ex s (x::M))
  (hround:∀ l s v,∀ (M N G':zA) (w:World),J s M->Pre s v N->St w0 (M++(N++G')) w->CW P ⟨n.n,[],some l⟩ assign
   (thn (fun e1 w1=>∃ M2,St w0 (M2++G') w1/\∀ (G2:zA) (w2:World),St w0 (M2++G2) w2->CW P ⟨n.n,[],some l⟩ body (rnd (fun w3=>∃ M3,J (nx s) M3/\St w0 (M3++G2) w3) (fun w3=>∃ M3,Jd M3/\St w0 (M3++G2) w3)) e1 w2) (fun _ _ _=>False))
   (ovl ((p1,v)::L) b) w)
  (hend:∀ (D:Nat) (lo:Nat × Obj) (s:σ) (M:zA) (w':World),fin s->J s M->St w0 (lo::(D,.deferred (some []))::(M++G)) w'->Q (zLc D::n.ds) .normal (ovl L b) w')
  (hendr:∀ (D:Nat) (lo:Nat × Obj) (M:zA) (w':World),Jd M->St w0 (lo::(D,.deferred (some []))::(M++G)) w'->Q (zLc D::n.ds) .ret (ovl L b) w') :
  CM P n (.rangeFunc g #[p1] assign body) Q (ovl L b) w:=by{
intro a ha;refine wpIn_rangeFunc ?_;intro fn hfn;rw[show(fen n.ro).round=none from hro];obtain⟨rec,hrec⟩:∃ rec:LoopState->Loop,rec=fun st=>{ state:=st,pending:=none,fn,tmps:=a.tmps,params:=#[p1],assign,body,defers:=w.heap.size }:=⟨_,rfl⟩;have HD:=H.alloc (.deferred (some []));have HL:=HD.alloc (.loop (rec .ready));rw[World.size_alloc] at HL
refine⟨w.heap.size+1,[zLc w.heap.size],(w.alloc (.deferred (some []))).alloc (.loop (rec .ready)),{ target:=.fn (.func gf) lb.toArray,args:=#[.func (.yield (w.heap.size+1)) #[] #[]] },(w.alloc (.deferred (some []))).alloc (.loop (rec .ready)),gf,
 (Value.func (.yield (w.heap.size+1)) #[] #[]::lb).toArray,(w.alloc (.deferred (some []))).alloc (.loop (rec .ready)),?_,?_,fun _ _=>trivial,?_,fun h=>(by cases h),?_⟩
.rw[hrec];exact run_enterLoop_outer _ _ _ _ _
.have hg':a.eval g=.func (.func gf) #[] lb.toArray:=by rw[ha.eval];exact hg
 simp only[resolve,hg'];simp[go_sem]
.have:=hent (#[.func (.yield (w.heap.size+1)) #[] #[]]++lb.toArray);simp[invoke,go_sem];simpa using this _
obtain⟨l,hl⟩:∃ l,w.heap.size+1=l:=⟨_,rfl⟩;obtain⟨D,hD⟩:∃ D,w.heap.size=D:=⟨_,rfl⟩;rw[hl,hD] at HL;rw[hD] at hrec;rw[hl,hD];have hrounds:Yok1 P w0 l Pre nx (fun s M=>∃ M1,M=(l,.loop (rec .ready))::(D,.deferred (some []))::M1/\J s M1) (fun M=>∃ M1,M=(l,.loop { rec .ready with state:=.done,pending:=some .ret })::(D,.deferred (some []))::M1/\Jd M1):=by
 rintro s v M N G' w1 ⟨M1,rfl,hJ⟩ hpre H1;have hget:w1.heap[l]?=some (.loop (rec .ready)):=H1.mem _ (zz2 _);have hy:=run_yield (P:=P) (args:=#[v]) hget (by rw[hrec];rfl);refine⟨_,_,_,_,hy,roundIn_of_wpIn (F:=Fence.wide) trivial ?_⟩;have hfit:Fits ⟨n.n,[],some l⟩ { tmps:=(((rec .ready).params.zip #[v]).foldl (fun tmps (t,a)=>tmps.setIfInBounds t a) (rec .ready).tmps),defers:=[] } (ovl ((p1,v)::L) b):=by
  have hf0:Fits ⟨n.n,[],some l⟩ { tmps:=a.tmps,defers:=[] } (ovl L b):=⟨ha.size,rfl,ha.get⟩;have:=hf0.put (d:=p1) h1 v;have hz:((rec .ready).params.zip #[v]).foldl (fun tmps (t,a)=>tmps.setIfInBounds t a) (rec .ready).tmps=a.tmps.setIfInBounds p1 v:=by rw[hrec];simp
  rw[hz];exact this
 have HA:St w0 (M1++(N++((l,.loop (rec .ready))::(D,.deferred (some []))::G'))) w1:=H1.perm (by
  have h1:=yyf [(l,Obj.loop (rec .ready)),(D,Obj.deferred (some []))] M1 (N++G');have h2:=(yyf [(l,Obj.loop (rec .ready)),(D,Obj.deferred (some []))] N G').append_left M1
  exact h1.trans h2)
 have hA:=hround l s v M1 N _ w1 hJ hpre HA _ hfit;have hra:(rec .ready).assign=assign:=by rw[hrec]
 have hrb:(rec .ready).body=body:=by rw[hrec]
 rw[hra,hrb];refine wpIn_mono hA fun x a1 w2 q=>?_;obtain⟨_,e1,hf1,q⟩:=q;cases x with
 | normal =>
   obtain⟨M2,H2,hbody⟩:=q;have hget2:w2.heap[l]?=some (.loop (rec .ready)):=H2.mem _ (zz3 _ (zz2 _));refine⟨_,run_beginRound hget2 (by rw[hrec]),?_⟩;have H3:St w0 (M2++((l,.loop { rec .ready with state:=.busy })::(D,.deferred (some []))::G')) (w2.putObj l (.loop { rec .ready with state:=.busy })):=H2.putObj (o:=.loop (rec .ready)) (up_in _ _);refine wpIn_mono (hbody _ _ H3 a1 hf1) fun x a2 w4 q=>?_;obtain⟨_,e2,_,q⟩:=q;cases x with
   | normal =>
     obtain⟨M3,hJ3,H4⟩:=q;have hget4:w4.heap[l]?=some (.loop { rec .ready with state:=.busy }):=H4.mem _ (zz3 _ (zz2 _));refine⟨_,_,run_endRound none hget4,_,rfl,.inl ⟨rfl,(l,.loop (rec .ready))::(D,.deferred (some []))::M3,⟨M3,rfl,hJ3⟩,?_⟩⟩;have e:({ ({ rec .ready with state:=.busy }:Loop) with state:=if (none:Option Code).isNone=true then LoopState.ready else LoopState.done,pending:=none }:Loop)=rec .ready:=by rw[hrec];rfl
     rw[e];have H5:=H4.perm (yyf M3 [(l,Obj.loop { rec .ready with state:=.busy }),(D,Obj.deferred (some []))] G');exact St.putObj H5 Up.here
   | ret =>
     obtain⟨M3,hJ3,H4⟩:=q;have hget4:w4.heap[l]?=some (.loop { rec .ready with state:=.busy }):=H4.mem _ (zz3 _ (zz2 _));refine⟨_,_,run_endRound (some .ret) hget4,_,rfl,.inr ⟨rfl,(l,.loop { rec .ready with state:=.done,pending:=some .ret })::(D,.deferred (some []))::M3,⟨M3,rfl,hJ3⟩,?_⟩⟩;have H5:=H4.perm (yyf M3 [(l,Obj.loop { rec .ready with state:=.busy }),(D,Obj.deferred (some []))] G');exact St.putObj H5 Up.here
   | _=>exact q.elim
 | _=>exact q.elim
have HL':St w0 (((l,.loop (rec .ready))::(D,.deferred (some []))::M0)++G) ((w.alloc (.deferred (some []))).alloc (.loop (rec .ready))):=HL;have hcall:=hit l _ _ (fun s M ⟨M1,hM,hJ⟩=>hM ▸ hExm _ _ _ (hExm _ _ _ (hEx _ _ hJ))) hrounds _ G _ ⟨M0,rfl,h0⟩ HL';refine zBl.2 (Calls.mono hcall fun e' w3 q=>?_);obtain⟨v,N',rfl,⟨s,_,hs,⟨M1,rfl,hJ⟩,rfl⟩|⟨_,⟨M1,rfl,hJ⟩,rfl⟩,H3⟩:=q
.have hget:w3.heap[l]?=some (.loop (rec .ready)):=H3.mem _ (zz2 _);have hel:(Instr.endLoop l).run P w3=.ok none (w3.putObj l (.loop { rec .ready with state:=.exhausted })):=by have:=run_endLoop (P:=P) hget (by rw[hrec];simp);exact this.trans (congrArg (fun z=>Result.ok z _) (show(rec .ready).pending=none by rw[hrec]))
 refine⟨none,_,hel,?_⟩;have H4:St w0 ((l,.loop { rec .ready with state:=.exhausted })::(D,.deferred (some []))::(M1++G)) (w3.putObj l (.loop { rec .ready with state:=.exhausted })):=St.putObj H3 Up.here;exact⟨nofun,zLc D::n.ds,ovl L b,⟨ha.size,by show _++a.defers=_;rw[ha.defs];rfl,ha.get⟩,hend D _ s M1 _ hs hJ H4⟩
.have hget:w3.heap[l]?=some (.loop { rec .ready with state:=.done,pending:=some .ret }):=H3.mem _ (zz2 _);have hel:(Instr.endLoop l).run P w3=.ok (some .ret) (w3.putObj l (.loop { rec .ready with state:=.exhausted,pending:=some .ret })):=run_endLoop (P:=P) hget (by simp);refine⟨some .ret,_,hel,?_⟩;have H4:St w0 ((l,.loop { rec .ready with state:=.exhausted,pending:=some .ret })::(D,.deferred (some []))::(M1++G)) (w3.putObj l (.loop { rec .ready with state:=.exhausted,pending:=some .ret })):=St.putObj H3 Up.here;exact wpIn_ret ⟨nofun,zLc D::n.ds,ovl L b,⟨ha.size,by show _++a.defers=_;rw[ha.defs];rfl,ha.get⟩,hendr D _ M1 _ hJ H4⟩}
end
section
variable {P:Program}{n:Nw}{ops:Array Oper}{Q:zAM}{e:Env}{w:World}{l:List Oper}
theorem zIn {ro:Option Nat}(hnd:zCq ops.toList=true)(r:List Nat):∀ (s:List Nat) (a:Act) (w:World),wpOps P ops (Exit.then (fun a' w'=>wpOpsIn (fen ro) 0 P ops (zAc n Q) r a' w') (zAc n Q)) s a w->wpOpsIn (fen ro) 0 P ops (zAc n Q) (s++r) a w
 | [],a,w,h=>h
 | i::s,a,w,h=>by
   unfold wpOps at h
   show wpOpsIn _ _ _ _ _ (i::(s++r)) a w
   unfold wpOpsIn
   cases ho:ops[i]? with
   | none=>rw[ho] at h;exact zIn hnd r s a w h
   | some o =>
     rw[ho] at h
     simp only at h ⊢
     split
     .rename_i hw
      rw[if_pos hw] at h
      have hm:o∈ops.toList:=Array.mem_toList_iff.2 (Array.mem_of_getElem? ho)
      refine⟨fun _ _=>trivial,?_⟩
      rw[Oper.semAt_eq _ _ _ (zIr hnd hm)]
      have h1:=h.resolve_right fun hh=>zDg (n:=n) (Q:=Q) (by obtain⟨a,w,hq⟩:=hh.2;exact⟨a,w,hq⟩)
      have h2:=zK5 (ro:=ro) (K':=wpOpsIn (fen ro) 0 P ops (zAc n Q) (s++r)) (fun a w hk=>zIn hnd r s a w hk) _ h1
      generalize (execOp a.eval o).run P w=z at h2 ⊢
      unfold Oper.uponIn at h2 ⊢
      split at h2
      .exact h2
      .exact h2
      .exact h2
      .refine⟨h2.1,?_⟩
       refine zBl.2 (Calls.mono (zBl.1 h2.2) fun e w' q=>?_)
       cases e with
       | returned v=>exact q
       | panicked c=>exact q
       | outgrown=>obtain⟨a,w,hq⟩:=q;exact⟨a,w,hq⟩
      .exact h2
      .refine⟨h2.1,RoundIn.mono h2.2 fun e w' q=>?_⟩
       cases e with
       | returned v=>exact q
       | panicked c=>exact q
       | outgrown=>obtain⟨a,w,hq⟩:=q;exact⟨a,w,hq⟩
      .exact h2
      .exact h2
     .rename_i hw
      rw[if_neg hw] at h
      exact⟨fun _ _=>trivial,zIn hnd r s _ w h⟩
theorem zCN {Q Q':Exit->Act->World->Prop}(hno:¬ LetsOut Q)(hq:∀ x a w,Q x a w->Q' x a w):∀ (s:List Nat) (a:Act) (w:World),wpOps P ops Q s a w->wpOps P ops Q' s a w
 | [],a,w,h=>hq _ _ _ h
 | i::s,a,w,h=>by
   unfold wpOps at h ⊢
   cases ho:ops[i]? with
   | none=>rw[ho] at h;exact zCN hno hq s a w h
   | some o =>
     rw[ho] at h
     simp only at h ⊢
     split
     .rename_i hw
      rw[if_pos hw] at h
      have h2:=h.resolve_right fun hh=>hno hh.2
      refine .inl ?_
      unfold Oper.wp at h2 ⊢
      generalize (execOp a.eval o).run P w=r at h2 ⊢
      unfold Oper.upon at h2 ⊢
      split at h2
      .exact zCN hno hq s _ _ h2
      .exact zCN hno hq s _ _ h2
      .exact zCN hno hq s _ _ h2
      .refine Calls.mono h2 fun e w' q=>?_
       cases e with
       | returned v=>exact zCN hno hq s _ _ q
       | panicked c=>exact hq _ _ _ q
       | outgrown=>exact absurd q hno
      .exact Rows.mono h2 fun v w' q=>zCN hno hq s _ _ q
      .exact hq _ _ _ h2
      .exact h2.elim
     .rename_i hw
      rw[if_neg hw] at h
      exact zCN hno hq s _ w h
theorem zQ0 {ops:Array Oper}:∀ (m k t:Nat),k+m=ops.size->((List.range ops.size).all fun j=>decide (j<k)||(zDw ops j j&&zDw ops j (j+1)))=true->Region.linearise.go .any ops m t (zBC ops.size k) []=List.range' k m
 | 0,_,_,_,_=>rfl
 | m+1,k,t,hk,hB=>by
   have hs:k<ops.size:=by omega
   have hBk:=List.all_eq_true.1 hB k (List.mem_range.2 hs)
   simp only[yyz,decide_false,Bool.false_or,yy3] at hBk
   have hr:(List.range ops.size).filter (rdy ops (zBC ops.size k))=[k]:=by
    obtain⟨o',ho',he'⟩:=zDC hBk.2 (show k<k+1 by omega)
    have hkr:rdy ops (zBC ops.size k) k=true:=by
     simp only[rdy,ho',Option.map_some,Option.getD_some,zAa _ _ _ hs,yyz,decide_false,Bool.not_false,Bool.true_and]
     rw[Array.all_eq_true']
     intro e he
     cases hb:Region.binds .any e with
     | false=>rfl
     | true =>
       have:=he' e he hb
       rw[zAa _ _ _ (by omega)];simp[this]
    have hno:∀ i,i<ops.size->i≠k->rdy ops (zBC ops.size k) i=false:=by
     intro i hi hik
     by_cases h1:i<k
     .simp only[rdy,zAa _ _ _ hi];simp[h1]
     .cases hr:rdy ops (zBC ops.size k) i with
      | false=>rfl
      | true =>
        exfalso
        have hc:=hBk.1
        simp only[zDw,yy3,decide_eq_true_eq,yye,yy8] at hc
        have h2:=hc.2.2 i hi
        simp only[Bool.or_eq_true,decide_eq_true_eq] at h2
        have h2:=h2.resolve_left (by omega)
        obtain⟨j,hj,hj2⟩:=List.any_eq_true.1 h2
        simp only[yy3,decide_eq_true_eq] at hj2
        obtain⟨o2,ho2,e,he,hb,hon⟩:=zES hj2.2
        have hji:=List.mem_range.1 hj
        simp only[rdy,ho2,Option.map_some,Option.getD_some,yy3] at hr
        have hr2:=hr.2
        rw[Array.all_eq_true'] at hr2
        have:=hr2 e he
        rw[hb,hon,zAa _ _ _ (by omega)] at this
        have hnk:¬ j<k:=by omega
        simp[hnk] at this
    have:∀ m,m<=ops.size->(List.range m).filter (rdy ops (zBC ops.size k))=if k<m then[k] else[]:=by
     intro m
     induction m with
     | zero=>intro _;simp
     | succ m ih =>
       intro hm
       rw[yys,List.filter_append,ih (by omega)]
       by_cases h1:k<m
       .have hx:=hno m (by omega) (by omega)
        rw[if_pos h1,if_pos (by omega)];simp only[List.filter_cons,hx,List.filter_nil,Bool.false_eq_true,if_false,List.append_nil]
       .rw[if_neg h1]
        by_cases h2:k=m
        .subst h2;rw[if_pos (by omega)];simp only[List.filter_cons,hkr,List.filter_nil,if_true,List.nil_append]
        .have hx:=hno m (by omega) (Ne.symm h2)
         rw[if_neg (by omega)];simp only[List.filter_cons,hx,List.filter_nil,Bool.false_eq_true,if_false,List.append_nil]
    rw[this _ (Nat.le_refl _),if_pos hs]
   have hput:(zBC ops.size k).setIfInBounds k true=zBC ops.size (k+1):=by
    refine zK9 (by simp[zCd]) (fun i hi=>?_) (fun i hi hi2=>?_)
    .rw[zBZ,zCd]
     split
     .rfl
     .rename_i hne
      rw[zAa _ _ _ (by omega)]
      have:i<k:=by
       rcases Nat.lt_or_ge i k with h|h
       .exact h
       .exact absurd ⟨by omega,by omega⟩ hne
      simp[this]
    .rw[zBZ,if_neg (fun h=>by omega),zAa _ _ _ hi2];simp;omega
   rw[zDi,hr]
   simp only[yyo,Nat.mod_one,List.getElem?_cons_zero,Nat.div_one,hput]
   rw[zQ0 m (k+1) t (by omega) (by
    rw[yye] at hB ⊢
    intro j hj
    have:=hB j hj
    simp only[Bool.or_eq_true,decide_eq_true_eq] at this ⊢
    rcases this with h|h
    .exact .inl (by omega)
    .exact .inr h)]
   rfl
end
section
open Go.ChangeMaps (setBlock)
variable {P:Program}(S:Sig P){kt:TypeId}{ι ν:Type}[DecidableEq ι]{n:Nw}{ops:Array Oper}{Q:zAM}{o:Oper}{rest:List Oper}{L:List (Nat × Value)}{b0:Env}{w:World}
theorem m3i {w0:World}{G G':zA}{b clock:Nat}(K:KeyT P kt ι)(val:ν->Value){es:List (ME ι ν)}{x:ι}{v:ν}{t et:TypeId}{X Y V:Operand}{ti:TI}(H:St w0 G w)
  (ho:o.op=.insert t X Y V) (hd:o.dst=none) (hx:ev (ovl L b0) X=.map (some b)) (ht:lk S.tab t=some ti) (htd:ti.d=.map kt et) (hy:ev (ovl L b0) Y=K.v x) (hv:ev (ovl L b0) V=val v)
  (hu:Up b (mo K val es clock) (mo K val (zFT es clock x v) (zFU es clock x)) G G') (k:∀ w',St w0 G' w'->OW P n ops Q rest (ovl L b0) w'):OX P n ops Q o rest (ovl L b0) w:=by intro a ha;unfold Oper.wp;rw[ha.eval];have hun:=S.und ht;rw[htd] at hun;simp only[execOp,ho,hx,hy,hv,Sem.run_bind,zGJ K val hun (H.mem _ hu.mem) x v,Result.andThen_ok,Sem.run_pure,Oper.upon_skip,hd];exact k _ (H.setO hu) _ ha
end
end Go.Sk
namespace Go.Proofs.YtejhijhnlogikaaGreatDoor
section
open Go Go.Sk Go.RowKit Go.Proofs.Tryz
attribute [local irreducible] Go.Calls
def KU:KeyT prog 5 Int where
 v:=.int .u8
 eq x y w:=by
  show(Op.equalIn 10000 5 (.int .u8 x) (.int .u8 y)).run prog w=_
  exact zOT sg (t:=5) rfl (by rfl) (by rfl) rfl 9999 w
 chk b x w:=by
  show(Instr.checkKey b (9999+1) 5 _).run prog w=_
  rw[Instr.checkKey]
  simp only[Sem.run_bind,run_underlying (show prog.underlying 5=some (.int .u8) from sg.und (t:=5) rfl),Result.andThen_ok]
  rfl
 same x:=by
  show Instr.sameBits (9999+1) _ _=true
  simp[Instr.sameBits]
 d:=_
 und:=sg.und (t:=5) rfl
 now x y:=.inr rfl
def frI (o:Option Nat):Int:=match o with|some i=>(i:Int)|none=>-1
def frL (k:Int):List Int:=(zA0 k).2.map frI
def TabR (M:zA)(v:Value):Prop:=∃ bm es clock,v=.map (some bm)/\(bm,mo KU (fun x:Value=>x) es clock)∈M/\∀ k:Int,1<=k->k<=20->∃ a,atM es k=some (.agg #[.int .u8 (zA0 k).1,.slice (some ⟨a,0,none⟩) (frL k).length (frL k).length])/\cb a ((frL k).map (Value.int .i64)) 3∈M
theorem zXS (w0:World):Cf 113 [] TabR w0:=by{
refine eS func113 ntmps113 fun H=>?_;(repeat' first|refine yX ?_|(refine yB ?_;intro b w H)|(refine m1 H ?_;intro bm w H;replace H:St w0 ((bm,mo KU (fun x:Value=>x) [] 0)::_) w:=H)|(refine' m3i sg KU (fun x:Value=>x) H rfl rfl rfl rfl rfl rfl rfl ?_ ?_;rotate_left 3;(repeat (first|exact Up.here|apply Up.there));clear H;intro w H)|fail);refine zc (vs:=[_]) ⟨zP rfl,trivial⟩ H ⟨bm,_,_,rfl,by repeat (first|exact zz2 _|refine zz5 _ ?_),fun k h1 h2=>?_⟩;rcases zEK ⟨h1,h2⟩ with rfl|rfl|rfl|rfl|rfl|rfl|rfl|rfl|rfl|rfl|rfl|rfl|rfl|rfl|rfl|rfl|rfl|rfl|rfl|rfl
all_goals
 apply Exists.intro;apply And.intro
 .simp only[zIY];rfl
 .repeat (first|exact zz2 _|refine zz5 _ ?_)}
theorem zVX {F:zA}(s:Sta)(p:SPt)(hW:StaW s)(k:Int)(w0:World)(hF:Mem w0 F)(hs:StaM F s p) :
  Cr 114 [.agg (s.cells p).toArray,.int .u8 k] (.tuple #[.int .i64 (zDs s k).1,.int .i64 (zDs s k).2]) w0:=by{
have ha:=hW.ac;have hi:=hW.ins;refine eS func114 ntmps114 fun H=>?_;(repeat' first|refine yW ?_|(refine yB ?_;intro b w H)|(refine y23 ?_ ?_;all_goals intro h)|fail)
all_goals first
 | (refine zAv (vs:=[_,_]) ⟨zP rfl,zP rfl,trivial⟩ H.cl ?_
    simp only[beq_iff_eq,yyq,ne_eq] at *;unfold zDs
    first
     | (rw[if_pos (by assumption),w64 qO qO];rfl)
     | (rw[if_neg qO,if_pos (by assumption),w64 qO qO];rfl)
     | (rw[if_neg qO,if_neg qO,if_pos (by assumption)];rfl)
     | (rw[if_neg qO,if_neg qO,if_neg qO];rfl))}
end
section
open Go Go.Sk Go.RowKit Go.Proofs.Tryz
attribute [local irreducible] Go.Calls
section
variable {F:zA}{s:Sta}{p:SPt}{c:Cmd}{na:OA}{nc:Nat}
def zEN:EPt:=⟨none,0,none,0⟩
def zJw (r:Evt × Int)(M:zA)(v:Value):Prop:=∃ q,v=.tuple #[.agg (r.1.cells q).toArray,.int .i64 r.2]/\EvtM M r.1 q
theorem zNn (e:Int):zJw (evZ,e) [] (.tuple #[.agg (evZ.cells zEN).toArray,.int .i64 e]):=⟨zEN,rfl,⟨zzD _,zzD _,0,0,[],0,(0,0),fun h=>absurd h (yyz 0)⟩,⟨zzD _,zzD _,0,0,[],0,(0,0),fun h=>absurd h (yyz 0)⟩⟩
theorem zVY {k:Int}(hk:1<=k/\k<=20){i:Nat}(hi:some i∈(zA0 k).2):i<(zNP k).1.length:=by
 have key:∀ j∈List.range 20,∀ o∈(zNQ.getD j (0,[])).2,∀ i,o=some i->i<(comT.getD j ([32],false)).1.length:=by decide
 exact key (k - 1).toNat (List.mem_range.2 qO) _ hi i rfl
theorem zXT {c:Cmd}(h:zGF c=true):c.nums.length=(zNP c.kind).1.length:=by unfold zGF zBU at h;simp only[yy3,beq_iff_eq] at h;exact h.1.2.1.symm
theorem zSO {k:Int}:(zNP k).1.length<=10/\(zA0 k).2.length<=10:=by{
have key:∀ j∈List.range 20,(comT.getD j ([32],false)).1.length<=10/\(zNQ.getD j (0,[])).2.length<=10:=by decide
by_cases h:(k - 1).toNat<20
.exact key _ (List.mem_range.2 h)
.have h1:comT.length=20:=by decide
 have h2:zNQ.length=20:=by decide
 unfold zNP zA0;rw[yy2,yy2,List.getElem?_eq_none qO,List.getElem?_eq_none qO];decide}
theorem fr_at {k:Int}{j:Nat}(hj:j<(zA0 k).2.length):((zA0 k).2[j]?=some none/\(frL k).getD j 0=-1)\/∃ i:Nat,(zA0 k).2[j]?=some (some i)/\(frL k).getD j 0=(i:Int):=by{
have e:(frL k).getD j 0=frI (zA0 k).2[j]:=by unfold frL;rw[yy2,List.getElem?_map,yy1 hj];rfl
rw[e,yy1 hj];cases h:(zA0 k).2[j] with
| none=>exact .inl ⟨rfl,rfl⟩
| some i=>exact .inr ⟨i,rfl,rfl⟩}
def fnL (s:Sta)(c:Cmd):List Int:=(zA0 c.kind).2.map fun o=>match o with|some i=>nF c.nums i|none=>(zDs s (zA0 c.kind).1).1
theorem zQ1 {j:Nat}(hj:j<(zA0 c.kind).2.length){v:Int}(hv:(∀ i:Nat,(zA0 c.kind).2[j]?=some (some i)->v=nF c.nums i)/\((zA0 c.kind).2[j]?=some none->v=(zDs s (zA0 c.kind).1).1)):((fnL s c).take j).map (Value.int .i64)++[Value.int .i64 v]=((fnL s c).take (j+1)).map (Value.int .i64):=by{
have hl:j<(fnL s c).length:=by unfold fnL;rw[yyp];exact hj
rw[yyj hl,List.map_append]
congr 1
have h0:(fnL s c)[j]?=some v:=by
 unfold fnL;rw[List.getElem?_map];cases h:(zA0 c.kind).2[j]? with
 | none=>rw[List.getElem?_eq_none_iff] at h;omega
 | some o =>
   cases o with
   | none=>rw[hv.2 h];rfl
   | some i=>rw[hv.1 i h];rfl
rw[yy1 hl] at h0;have this:=Option.some.inj h0;rw[this];rfl}
theorem zFm {M F:zA}{a:OA}{n cap:Nat}{T:TypeId}(l:List Int)(h:Go.Sk.Own M T 1 a n cap (l.map (Value.int .i64)))(hM:M⊆F)(hn:n=l.length)(hl:l.length<=1000):Ints F a cap l:=by{
subst hn;have e:l.map (Value.int .i64)=(List.range l.length).flatMap fun j=>iel l j:=by
 have:∀ k,k<=l.length->(l.take k).map (Value.int .i64)=(List.range k).flatMap fun j=>iel l j:=by
  intro k;induction k with
  | zero=>intro _;rfl
  | succ k ih =>
    intro hk;rw[yys,yy9,yya,<- ih qO,yyj qO,List.map_append];simp[iel,yy1 (show k<l.length by omega)]
 rw[<- this _ (Nat.le_refl _),List.take_length]
rw[e] at h;exact h.sl hM (fun _ _=>rfl) qO}
theorem zPX (h0:zCP s=true)(h1:zGF c=true)(hno:¬(c.kind=12/\¬((zO s.orders (nF c.nums 1)).2=true/\(zO s.orders (nF c.nums 1)).1.acct=nF c.nums 0))):zj s c=if none∈(zA0 c.kind).2/\(zDs s (zA0 c.kind).1).1>(zDs s (zA0 c.kind).1).2 then(evZ,40) else(⟨3,(zA0 c.kind).1,fnL s c,if c.text.size=0 then[] else[c.text]⟩,0):=by unfold zj;rw[h0,if_neg (by decide),h1,if_neg (by decide),if_neg (fun g=>hno ⟨g.1,fun e=>by rw[g.2] at e;exact absurd e.1 (by decide)⟩),if_neg (fun g=>hno ⟨g.1,fun e=>g.2 e.2⟩)];rfl
structure FI where
 j:Nat
 a:OA
 cap:Nat
 M:zA
theorem zVZ (hW:StaW s)(hc:zGG c)(w0:World)(hF:Mem w0 F)(hK:ComM F)(hs:StaM F s p)(hN:Ints F na nc c.nums) :
  Cf 77 [.agg (s.cells p).toArray,.agg (c.cells na nc).toArray] (zJw (zj s c)) w0:=by{
have hmay:=fun w h1=>zCm s p hW w (F:=F) h1 hs;have hmc:=fun w h1=>zL4 c hc w (F:=F) h1 hK hN;cases h0:zCP s with
| false =>
  have d0:(!zCP s)=true:=by rw[h0];rfl
  have eP:zj s c=(evZ,4):=by unfold zj;rw[if_pos h0]
  rw[eP];refine eS func77 ntmps77 fun H=>?_;(repeat' first|refine yW ?_|(refine yB ?_;intro b w H)|(refine y11 sg H ?_;intro w H)|(refine c0 zCz ?_;refine⟨_,hmay _ (H.memF hF),?_⟩;clear H;intro w H)|fail);exact zc (vs:=[_,_]) (M:=[]) ⟨zg sg rfl H.mem qB rfl rfl,zP rfl,trivial⟩ (H.sub (zz9 _)) (zNn 4)
| true =>
have d0:(!zCP s)=false:=by rw[h0];rfl
cases h1:zGF c with
| false =>
  have d1:(!zGF c)=true:=by rw[h1];rfl
  have eP:zj s c=(evZ,1):=by unfold zj;rw[h0,if_neg (by decide),if_pos h1]
  rw[eP];refine eS func77 ntmps77 fun H=>?_;(repeat' first|refine yW ?_|(refine yB ?_;intro b w H)|(refine y11 sg H ?_;intro w H)|(refine c0 zCz ?_;refine⟨_,hmay _ (H.memF hF),?_⟩;clear H;intro w H)|(refine c0 zTC ?_;refine⟨_,hmc _ (H.memF hF),?_⟩;clear H;intro w H)|fail);exact zc (vs:=[_,_]) (M:=[]) ⟨zg sg rfl H.mem qB rfl rfl,zP rfl,trivial⟩ (H.sub (zz9 _)) (zNn 1)
| true =>
have d1:(!zGF c)=false:=by rw[h1];rfl
have hk:=zFe h1;have hlen:=zXT h1;obtain⟨hsc,hsb⟩:=zSO (k:=c.kind);obtain⟨hn2,hc2,b2,off2,cs2,T2,fr2,hs2⟩:=id hN;obtain⟨o,is,hfo⟩:∃ o is,zO s.orders (nF c.nums 1)=(o,is):=⟨_,_,rfl⟩;have eM:=fun g=>zPX (s:=s) (c:=c) h0 h1 g;rw[hfo] at eM;have hfnd:=fun w (hG:Mem w F)=>zGc s.orders (nF c.nums 1) w hG hs.od;rw[hfo] at hfnd;refine eS func77 ntmps77 fun H=>?_;(repeat' first|refine yX ?_|(refine yB ?_;intro b w H)|(refine c0 zCz ?_;refine⟨_,hmay _ (H.memF hF),?_⟩;clear H;intro w H)|fail);refine CW.named (fun en1 w=>∃ bs bc br en',en1=ovl [(2,(pt bs)),(3,(pt bc)),(4,(pt br)),(5,.int .i64 0),(14,.bool (!zCP s))] en'/\St w0 [cb br (evZ.cells zEN) 61,cb bc (c.cells na nc) 29,cb bs (s.cells p) 40] w) ⟨_,_,_,_,zz rfl (zz rfl (zA2 rfl rfl rfl)),H⟩ ?_;clear H;rintro _ w ⟨bs,bc,br,en',rfl,H⟩;refine CW.condF (congrArg Value.bool d0) ?_;(repeat' first|refine yX ?_|(refine c0 zTC ?_;refine⟨_,hmc _ (H.memF hF),?_⟩;clear H;intro w H)|fail);refine CW.condF (congrArg Value.bool d1) ?_;(repeat' first|refine yX ?_|fail);have hs2F:=hs2.mono (show F⊆cb bs (s.cells p) 40::cb bc (c.cells na nc) 29::F from fun x hx=>zz4 _ (zz4 _ hx));by_cases hno:c.kind=12/\¬(is=true/\o.acct=nF c.nums 0)
.obtain⟨k12,hbad⟩:=hno;have dk:(c.kind==12)=true:=by rw[k12];rfl
 have hl2:c.nums.length=2:=by rw[hlen,k12];rfl
 refine CW.condT (congrArg Value.bool dk) ?_;(try with_reducible apply zCQ);refine CW.cutT (fun en1 w=>∃ b6 en',en1=ovl [(2,(pt bs)),(3,(pt bc)),(4,(pt br)),(6,(pt b6)),(7,.bool is)] en'/\St w0 [cb b6 o.cells 45,cb br (evZ.cells zEN) 61,cb bc (c.cells na nc) 29,cb bs (s.cells p) 40] w) ?_ ?_
 ·(repeat' first|refine yX ?_|(refine yB ?_;intro b w H)|(refine y11 sg H ?_;intro w H)|(refine CW.regionL mixed 13 (z6 (x:=cb bs (s.cells p) 40) (y:=cb bc (c.cells na nc) 29) H hF) [] ?_ ?_;exact rfl;refine wQ H ?_;clear H;intro w H;have qh:=z6 (x:=cb bs (s.cells p) 40) (y:=cb bc (c.cells na nc) 29) H hF;refine lT sg 0 qh ?_;refine' l1 1 qh ?_ ?_;rotate_left;(exact z3 sg);refine lT sg 2 qh ?_;refine' l1 3 qh ?_ ?_;rotate_left;(exact z3 sg);refine' l1 4 qh ?_ ?_;rotate_left;(exact(zQ sg hs2));refine' l1 5 qh ?_ ?_;rotate_left;(exact(zK sg hs2F (show 1<c.nums.length by omega))))|refine lN ?_|(refine lT sg 7 (z6 H hF) ?_)|(refine lT sg 8 (z6 H hF) ?_)|(refine lT sg 9 (z6 H hF) ?_)|(refine lT sg 12 (z6 H hF) ?_)|refine l2 6 ?_|refine l2 10 ?_|refine l2 11 ?_|refine l4 6 10 ?_ ?_|(refine l5 (z6 H hF) ?_)|(refine c0 zEV ?_;refine⟨_,hfnd _ (H.memF hF),?_⟩;clear H;intro w H)|fail);all_goals exact⟨b,_,zz rfl (zz rfl (zA2 rfl rfl rfl)),H⟩
 clear H;rintro _ w ⟨b6,en',rfl,H⟩;cases is with
 | false =>
   have eP:zj s c=(evZ,5):=by unfold zj;rw[h0,if_neg (by decide),h1,if_neg (by decide),if_pos ⟨k12,by rw[hfo]⟩]
   rw[eP];(repeat' first|refine yW ?_|(refine y11 sg H ?_;intro w H)|fail);exact zc (vs:=[_,_]) (M:=[]) ⟨zg sg rfl H.mem qB rfl rfl,zP rfl,trivial⟩ (H.sub (zz9 _)) (zNn 5)
 | true =>
   have hne:o.acct≠nF c.nums 0:=fun e=>hbad ⟨rfl,e⟩;have dn:(o.acct != nF c.nums 0)=true:=by{simpa using hne};have eP:zj s c=(evZ,49):=by unfold zj;rw[h0,if_neg (by decide),h1,if_neg (by decide),if_neg (by rw[hfo];rintro⟨_,g⟩;cases g),if_pos ⟨k12,by rw[hfo];exact hne⟩]
   rw[eP];(repeat' first|refine yW ?_|(refine y11 sg H ?_;intro w H)|refine x41 sg hs2 ?_|refine zq (zLB sg hs2 (H.memF hF) (show 0<c.nums.length by omega)) ?_|(refine qN H ?_;clear H;intro w H)|refine y20 mixed ?_|fail);exact zc (vs:=[_,_]) (M:=[]) ⟨zg sg rfl H.mem qB rfl rfl,zP rfl,trivial⟩ (H.sub (zz9 _)) (zNn 49)
replace eM:=eM hno;(try with_reducible apply zCQ);refine CW.cutT (fun en1 w=>∃ en',en1=ovl [(2,(pt bs)),(3,(pt bc)),(4,(pt br))] en'/\St w0 [cb br (evZ.cells zEN) 61,cb bc (c.cells na nc) 29,cb bs (s.cells p) 40] w) ?_ ?_
.by_cases k12:c.kind=12
 .have dk:(c.kind==12)=true:=by rw[k12];rfl
  have hl2:c.nums.length=2:=by rw[hlen,k12];rfl
  obtain⟨rfl,hac⟩:is=true/\o.acct=nF c.nums 0:=Decidable.of_not_not fun g=>hno ⟨k12,g⟩;have dn:(o.acct != nF c.nums 0)=false:=by{simpa using hac};refine CW.condT (congrArg Value.bool dk) ?_
  (try with_reducible apply zCQ);refine CW.cutT (fun en1 w=>∃ b6 en',en1=ovl [(2,(pt bs)),(3,(pt bc)),(4,(pt br)),(6,(pt b6)),(7,.bool true)] en'/\St w0 [cb b6 o.cells 45,cb br (evZ.cells zEN) 61,cb bc (c.cells na nc) 29,cb bs (s.cells p) 40] w) ?_ ?_
  ·(repeat' first|refine yX ?_|(refine yB ?_;intro b w H)|(refine y11 sg H ?_;intro w H)|(refine CW.regionL mixed 13 (z6 (x:=cb bs (s.cells p) 40) (y:=cb bc (c.cells na nc) 29) H hF) [] ?_ ?_;exact rfl;refine wQ H ?_;clear H;intro w H;have qh:=z6 (x:=cb bs (s.cells p) 40) (y:=cb bc (c.cells na nc) 29) H hF;refine lT sg 0 qh ?_;refine' l1 1 qh ?_ ?_;rotate_left;(exact z3 sg);refine lT sg 2 qh ?_;refine' l1 3 qh ?_ ?_;rotate_left;(exact z3 sg);refine' l1 4 qh ?_ ?_;rotate_left;(exact(zQ sg hs2));refine' l1 5 qh ?_ ?_;rotate_left;(exact(zK sg hs2F (show 1<c.nums.length by omega))))|refine lN ?_|(refine lT sg 7 (z6 H hF) ?_)|(refine lT sg 8 (z6 H hF) ?_)|(refine lT sg 9 (z6 H hF) ?_)|(refine lT sg 12 (z6 H hF) ?_)|refine l2 6 ?_|refine l2 10 ?_|refine l2 11 ?_|refine l4 6 10 ?_ ?_|(refine l5 (z6 H hF) ?_)|(refine c0 zEV ?_;refine⟨_,hfnd _ (H.memF hF),?_⟩;clear H;intro w H)|fail);all_goals exact⟨b,_,zz rfl (zz rfl (zA2 rfl rfl rfl)),H⟩
  clear H;rintro _ w ⟨b6,en',rfl,H⟩;(repeat' first|refine yW ?_|refine x41 sg hs2 ?_|refine zq (zLB sg hs2 (H.memF hF) (show 0<c.nums.length by omega)) ?_|(refine qN H ?_;clear H;intro w H)|refine y20 mixed ?_|fail);exact⟨_,zA2 rfl rfl rfl,H.sub (zz7 _ _)⟩
 .have dk:(c.kind==12)=false:=by{simpa using k12};refine CW.condF (congrArg Value.bool dk) ?_
  (repeat' first|refine yX ?_|fail);exact⟨_,zA2 rfl rfl rfl,H⟩
clear H;rintro _ w ⟨en',rfl,H⟩;(try with_reducible apply zCQ);refine CW.cutT (fun en1 w=>∃ b8 a en' N,en1=ovl [(2,(pt bs)),(3,(pt bc)),(4,(pt br)),(8,(pt b8))] en'/\St w0 (cb br (evZ.cells zEN) 61::cb b8 [.int .u8 (zA0 c.kind).1,.slice (some ⟨a,0,none⟩) (frL c.kind).length (frL c.kind).length] 172::cb bc (c.cells na nc) 29::cb bs (s.cells p) 40::N) w/\cb a ((frL c.kind).map (Value.int .i64)) 3∈N) ?_ ?_
.have hz:∀ w:World,(zeroValue 172).run prog w=.ok (Value.agg #[.int .u8 0,.slice none 0 0]) w:=fun w=>zeroValue172 w;(repeat' first|refine yX ?_|(refine yB ?_;intro b w H)|(refine y11 sg H ?_;intro w H)|(refine CW.regionL mixed 6 (z6 (x:=cb bs (s.cells p) 40) (y:=cb bc (c.cells na nc) 29) H hF) [] ?_ ?_;exact rfl;refine wQ H ?_;clear H;intro w H;refine lT sg 1 (z6 H hF) ?_;refine' l1 2 (z6 H hF) ?_ ?_;rotate_left;(exact z3 sg))|refine lN ?_|refine l2 0 ?_|refine l2 3 ?_|refine l2 4 ?_|refine l2 5 ?_|refine l4 0 4 ?_ ?_|refine l4 3 4 ?_ ?_|(refine l5 (z6 H hF) ?_)|(refine f0 ent113 ?_;refine⟨_,zXS _,?_⟩;clear H;intro v M w hR H;(try simp only[zca,zcb] at H);obtain⟨bm,es,clock,rfl,hbm,hat⟩:=hR;obtain⟨a,hat,hfr⟩:=hat c.kind hk.1 hk.2)|(refine za rfl rfl (lookS sg KU (fun x:Value=>x) es c.kind _ _ hat hz H.mem (by repeat (first|exact hbm|apply zz4)) rfl rfl rfl rfl rfl) ?_)|fail);all_goals exact⟨b,a,_,M,zz rfl (zA2 rfl rfl rfl),H.perm (List.Perm.swap _ _ _),hfr⟩
clear H;rintro _ w ⟨b8,a,en',N,rfl,H,hfr⟩;have hfl:(frL c.kind).length=(zA0 c.kind).2.length:=by unfold frL;rw[yyp]
obtain⟨hn5,hc5,b5,off5,cs5,T5,fr5,hs5⟩:=zHB (frL c.kind) qO hfr;obtain⟨kd,hkd⟩:∃ kd,(zA0 c.kind).1=kd:=⟨_,rfl⟩;rw[hkd] at H;obtain⟨nx,mo,hnx⟩:∃ nx mo,zDs s kd=(nx,mo):=⟨_,_,rfl⟩;have hnum:=fun w (hG:Mem w F)=>zVX s p hW kd w hG hs;rw[hnx] at hnum;(repeat' first|refine yX ?_|(refine yB ?_;intro b w H)|(refine y11 sg H ?_;intro w H)|fail);refine CW.named (fun en1 w=>∃ b9 en',en1=ovl [(2,(pt bs)),(3,(pt bc)),(4,(pt br)),(8,(pt b8)),(9,(pt b9)),(58,.slice (some ⟨a,0,none⟩) (frL c.kind).length (frL c.kind).length),(59,.int .i64 ((frL c.kind).length:Int)),(60,.int .i64 0)] en'/\St w0 (cb b9 [.int .u8 3,.int .u8 kd,.slice none 0 0,.slice none 0 0] 61::cb br (evZ.cells zEN) 61::cb b8 [.int .u8 kd,.slice (some ⟨a,0,none⟩) (frL c.kind).length (frL c.kind).length] 172::cb bc (c.cells na nc) 29::cb bs (s.cells p) 40::N) w) ⟨_,_,zz rfl (zz rfl (zz rfl (zz rfl (zz rfl (zA2 rfl rfl rfl))))),H⟩ ?_;clear H;rintro _ w ⟨b9,en',rfl,H⟩;refine zD [(5,5),(11,13),(60,93)] (fun x:FI=>[(60,.int .i64 (x.j:Int))]) (fun x w=>x.j<=(frL c.kind).length/\(∀ i,i<x.j->(zA0 c.kind).2[i]?=some none->nx<=mo)/\Go.Sk.Own x.M 2 1 x.a x.j x.cap (((fnL s c).take x.j).map (Value.int .i64))/\St w0 (cb b9 [.int .u8 3,.int .u8 kd,.slice x.a x.j x.cap,.slice none 0 0] 61::cb br (evZ.cells zEN) 61::cb b8 [.int .u8 kd,.slice (some ⟨a,0,none⟩) (frL c.kind).length (frL c.kind).length] 172::cb bc (c.cells na nc) 29::cb bs (s.cells p) 40::(x.M++N)) w) (fun x=>(frL c.kind).length - x.j) ⟨0,none,0,[]⟩ ⟨rfl,trivial⟩ ⟨zzD _,fun i hi=>absurd hi (zzE _),zWD _ _ _,H⟩ ?_;clear H;rintro⟨j,aj,cj,M⟩ gh w ⟨hj,hnn,hO,H⟩;simp only at hj hnn hO H ⊢;(repeat' first|refine yX ?_|fail);refine zB rfl (fun h=>?_) (fun h=>?_)
.have hlt:j<(frL c.kind).length:=by have:=zzA h;omega
 clear h;have hj2:j<(zA0 c.kind).2.length:=by omega
 (repeat' first|refine yX ?_|refine x40 sg hs5 ?_|refine z13 (zLB sg hs5 (H.mem.sub qS) hlt) ?_|fail);rcases fr_at hj2 with ⟨hnone,hv⟩|⟨i,hsome,hv⟩
 .have dv:((frL c.kind).getD j 0 != -1)=false:=by rw[hv];rfl
  refine CW.condF (congrArg Value.bool dv) ?_;(repeat' first|refine yX ?_|(refine c0 ent114 ?_;refine⟨_,hnum _ (H.memF hF),?_⟩;clear H;intro w H)|fail);refine zB rfl (fun h=>?_) (fun h=>?_)
  .have hgt:=zzA h;have hmem:none∈(zA0 c.kind).2:=List.mem_of_getElem? hnone;have eP:zj s c=(evZ,40):=by{rw[eM,if_pos ⟨hmem,by rw[hkd,hnx];exact hgt⟩]};rw[eP]
   (repeat' first|refine yX ?_|(refine y11 sg H ?_;intro w H)|fail);exact zc (vs:=[_,_]) (M:=[]) ⟨zg sg rfl H.mem qB rfl rfl,zP rfl,trivial⟩ (H.sub (zz9 _)) (zNn 40)
  .have hle:=zzB h;clear h;have hsn:=zQ1 (s:=s) (c:=c) hj2 (v:=nx) ⟨(fun i hi=>by rw[hnone] at hi;cases hi),(fun _=>by rw[hkd,hnx])⟩;(repeat' first|refine yX ?_|(refine y11 sg H ?_;intro w H)|(refine yB ?_;intro b w H)|(have hp:=H.perm (yyf [_,_,_,_,_,_] M N);refine zY sg 1 8 (M:=M) hp rfl rfl rfl rfl rfl rfl rfl rfl rfl rfl rfl hO (zh hp.mem (zz3 _ (zz2 _))) rfl (zx rfl) (by unfold maxLen;omega) qO ?_;clear hp hO H;intro a1 c1 M1 w O1 H;replace H:=(H.sub (List.Sublist.append_left (zz7 _ _) _)).perm (yyf M1 [_,_,_,_,_] N))|fail);rw[hsn] at O1;exact zC ⟨j+1,a1,c1,M1⟩ rfl ⟨zU qO,trivial⟩ ⟨hlt,(fun _ _ _=>by omega),O1,H⟩ (by show(frL c.kind).length - (j+1)<(frL c.kind).length - j;omega)
 .have dv:((frL c.kind).getD j 0 != -1)=true:=by rw[hv];simp
  have hi:i<c.nums.length:=by rw[hlen];exact zVY hk (List.mem_of_getElem? hsome)
  have hsn:=zQ1 (s:=s) (c:=c) hj2 (v:=nF c.nums i) ⟨(fun i' hi'=>by rw[hsome] at hi';cases hi';rfl),(fun g=>by rw[hsome] at g;cases g)⟩;have hs2G:=hs2.mono (show F⊆cb b9 [.int .u8 3,.int .u8 kd,.slice aj j cj,.slice none 0 0] 61::cb bc (c.cells na nc) 29::F from fun x hx=>zz4 _ (zz4 _ hx));refine CW.condT (congrArg Value.bool dv) ?_;rw[hv];(repeat' first|refine yX ?_|(refine y11 sg H ?_;intro w H)|(refine CW.regionL mixed 11 (z6 (x:=cb b9 [.int .u8 3,.int .u8 kd,.slice aj j cj,.slice none 0 0] 61) (y:=cb bc (c.cells na nc) 29) H hF) [9,10] ?_ ?_;exact rfl;refine wQ H ?_;clear H;intro w H;have qh:=z6 (x:=cb b9 [.int .u8 3,.int .u8 kd,.slice aj j cj,.slice none 0 0] 61) (y:=cb bc (c.cells na nc) 29) H hF;refine lT sg 0 qh ?_;refine' l1 1 qh ?_ ?_;rotate_left;(exact z3 sg);refine lT sg 2 qh ?_;refine' l1 3 qh ?_ ?_;rotate_left;(exact z3 sg);refine lT sg 4 qh ?_;refine' l1 5 qh ?_ ?_;rotate_left;(exact(fun w2 _=>zJ sg hs2));refine' l1 6 qh ?_ ?_;rotate_left;(exact(zK sg hs2G hi)))|refine lN ?_|(refine' l6 9 ?_ ?_;rotate_left;(exact z9 sg))|refine l3 10 ?_|refine l2 7 ?_|refine l2 8 ?_|(refine l5 (z6 H hF) ?_)|(refine yB ?_;intro b w H)|(have hp:=H.perm (yyf [_,_,_,_,_,_] M N);refine zY sg 1 8 (M:=M) hp rfl rfl rfl rfl rfl rfl rfl rfl rfl rfl rfl hO (zh hp.mem (zz3 _ (zz2 _))) rfl (zx rfl) (by unfold maxLen;omega) qO ?_;clear hp hO H;intro a1 c1 M1 w O1 H;replace H:=(H.sub (List.Sublist.append_left (zz7 _ _) _)).perm (yyf M1 [_,_,_,_,_] N))|fail);rw[hsn] at O1
  exact zC ⟨j+1,a1,c1,M1⟩ rfl ⟨zU qO,trivial⟩ ⟨hlt,(fun i' (hi':i'<j+1) g=>by
   rcases(show i'<j\/i'=j by omega) with g1|rfl
   .exact hnn i' g1 g
   .rw[hsome] at g;cases g),O1,H⟩ (by show(frL c.kind).length - (j+1)<(frL c.kind).length - j;omega)
.obtain rfl:j=(frL c.kind).length:=by have:=zzB h;omega
 clear h;have hneg:¬(none∈(zA0 c.kind).2/\(zDs s (zA0 c.kind).1).1>(zDs s (zA0 c.kind).1).2):=fun g=>by obtain⟨i,hi⟩:=List.getElem?_of_mem g.1;have hil:i<(zA0 c.kind).2.length:=(List.getElem?_eq_some_iff.1 hi).1;have:=hnn i qO hi;rw[hkd,hnx] at g;exact absurd g.2 (by simp only;omega)
 have eP:zj s c=(⟨3,kd,fnL s c,if c.text.size=0 then[] else[c.text]⟩,0):=by rw[eM,if_neg hneg,hkd]
 have hfn:(fnL s c).length=(frL c.kind).length:=by rw[hfl];unfold fnL;rw[yyp]
 rw[<- hfn,List.take_length] at hO;rw[eP];(repeat' first|refine yX ?_|fail);refine zB rfl (fun h=>?_) (fun h=>?_)
 .have ht:¬ c.text.size=0:=by rw[zL3] at h;simpa using h
  rw[if_neg ht];(repeat' first|refine yX ?_|(refine y11 sg H ?_;intro w H)|(refine yB ?_;intro b w H)|fail);exact zc (vs:=[_,_]) (M:=cb b [.string c.text] 9::M) ⟨zg sg rfl H.mem qB rfl rfl,zP rfl,trivial⟩ (H.sub (yy5 _ (yy6 _ (yy6 _ (yy6 _ (yy6 _ (yy6 _ (yyt M N)))))))) ⟨⟨aj,cj,some ⟨b,0,none⟩,1⟩,by rw[<- hfn];rfl,zFm (fnL s c) hO (yyu _ _) rfl qO,zQS c.text (zz2 _)⟩
 .have ht:c.text.size=0:=by rw[zL3] at h;simpa using h
  rw[if_pos ht];(repeat' first|refine yX ?_|(refine y11 sg H ?_;intro w H)|fail);exact zc (vs:=[_,_]) (M:=M) ⟨zg sg rfl H.mem qB rfl rfl,zP rfl,trivial⟩ (H.sub (yy6 _ (yy6 _ (yy6 _ (yy6 _ (yy6 _ (yyt M N))))))) ⟨⟨aj,cj,none,0⟩,by rw[<- hfn];rfl,zFm (fnL s c) hO (fun _ h=>h) rfl qO,⟨zzD _,zzD _,0,0,[],0,(0,0),fun h=>absurd h (yyz 0)⟩⟩}
end
end
section
open Go Go.Sk Go.RowKit Go.Proofs.Tryz
attribute [local irreducible] Go.Calls
structure AwF (s t:Sta):Prop where
 all:zCs zB4 awL=(s,7,0)
 held:(lgR s.rows 2 0).held=600
 trd:zM s (evF 13 [2,1,100,3,0])=(t,0)
 no1:(zM s (evF 13 [2,1,200,3,0])).2=46
 no2:(zM t (evF 2 [1])).2=47
 no3:(zM t (evF 23 [1,50])).2=46
 no4:(zM t (evF 20 [0])).2=4
 r1:lgR t.rows 1 0=⟨1,0,300,0⟩
 r2:lgR t.rows 1 1=⟨1,1,0,2⟩
 r3:lgR t.rows 2 0=⟨2,0,700,0⟩
 r4:lgR t.rows 2 1=⟨2,1,3,0⟩
 ol:t.orders.length=1
 oi:(od_ t.orders 0).id=1
 fee:t.fee=0
theorem AwF.good {s t:Sta}(h:AwF s t):Good s/\Good t:=zEJ h.trd
end
end Go.Proofs.YtejhijhnlogikaaGreatDoor
