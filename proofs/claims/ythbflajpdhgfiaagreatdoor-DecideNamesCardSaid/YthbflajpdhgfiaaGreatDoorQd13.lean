/- Texts of ours, joined: the steps of the proof, or the claim's theorem. -/
import Derived.OrdersHeld
import Derived.Test.YthbflajpdhgfiaaGreatDoorQd12
set_option linter.all false
set_option maxHeartbeats 16000000
namespace Go.Proofs.YthbflajpdhgfiaaGreatDoor
open Go Go.Sk Go.RowKit
attribute [local irreducible] Go.Calls
theorem chkL (b:Bool)(x y:Int)(w:World):(Instr.checkKey b 10000 272 (.agg #[.int .i64 x,.int .i64 y])).run Tryz.prog w=.ok () w:=by
 have h3:∀ (v:Value) (w:World),(Instr.checkKey b 9999 3 v).run Tryz.prog w=.ok () w:=by
  intro v w
  show(Instr.checkKey b (9998+1) 3 v).run Tryz.prog w=_
  rw[Instr.checkKey]
  simp only[Sem.run_bind,run_underlying (show Tryz.prog.underlying 3=some (.int .i64) from sg.und (t:=3) rfl),Result.andThen_ok]
  rfl
 have hp:∀ (o:Nat) (v:Value),(#[Value.int .i64 x,Value.int .i64 y]:Array Value).toList[o]?=some v→(part 3 #[Value.int .i64 x,Value.int .i64 y] o).run Tryz.prog w=.ok v w:=fun o v h=>zDx sg (t:=3) rfl _ o h w
 show(Instr.checkKey b (9999+1) 272 _).run Tryz.prog w=_
 rw[Instr.checkKey]
 simp only[Sem.run_bind,run_underlying (sg.und (t:=272) rfl),Result.andThen_ok]
 rw[← Array.forIn_toList]
 simp[Sem.run_bind,hp 0 (.int .i64 x) rfl,hp 1 (.int .i64 y) rfl,h3]
def KL:KeyT Tryz.prog 272 (Int × Int) where
 v:=pv2
 eq x y w:=by
  have:=zNl sg (t:=272) rfl rfl (by kernel_rfl) (by decide +kernel) (cs:=[.int .i64 x.1,.int .i64 x.2]) (ds:=[.int .i64 y.1,.int .i64 y.2]) (r:=x.1==y.1&&(x.2==y.2&&true)) rfl w
  refine this.trans (congrArg (fun b=>Result.ok b w) ?_)
  rw[Bool.eq_iff_iff,Bool.and_true,Bool.and_eq_true,beq_iff_eq,beq_iff_eq,decide_eq_true_eq]
  exact Prod.ext_iff.symm
 chk b x w:=chkL b x.1 x.2 w
 same x:=by
  show Instr.sameBits (9999+1) _ _=true
  simp[Instr.sameBits,pv2]
 d:=_
 und:=sg.und (t:=272) rfl
 now x y:=.inl rfl
def rv4 (r:Row4):Value:=.agg r.cells.toArray
abbrev MR:=List (ME (Int × Int) Row4)
def RowsR (r:List Row4 × Int)(M:zC)(v:Value):Prop:=∃ a1 c1,v=.tuple #[.slice a1 r.1.length c1,.int .i64 r.2]∧SlA M 4 a1 r.1.length c1 (rwl r.1)
theorem rowC (l:List Row4):(List.range l.length).flatMap (rwl l)=l.flatMap Row4.cells:=zA4 Row4.cells l default
def uOf (v:MR):List Row4:=(v.map (·.2.1)).filter nzR
theorem zLg (es:MR)(c:Nat)(x:Int × Int)(v:Row4):(zEk es c x v).length≤es.length+1:=by
 unfold zEk
 split
 ·rw[List.length_modify];omega
 ·rw[List.length_append];exact zzC _
structure Pr3 where
 seen:Array Nat
 todo:MR
 vis:MR
 a:Option Addr
 cap:Nat
 M:zC
theorem c_Post {a ap:Option Addr}{cap cp:Nat}(l:List Row4)(hl:l.length≤100000)(hw:∀ j,j<l.length→(rw_ l j).wf)(p:List Pst){F:zC}(w0:World)(hF:Mem w0 F)(hs0:zNq F a cap l)(hp0:SlA F 4 ap p.length cp (qsl p)) :
  Calls Tryz.prog 210 [.slice a l.length cap,.slice ap p.length cp].toArray w0 (zi (RowsR (zBF l p)) w0):=by
 obtain⟨hn,hc,b0,off,cs,T,fr,hs⟩:=id hs0
 obtain⟨hn2,hc2,b2,off2,cs2,T2,fr2,hs2⟩:=id hp0
 cases hm:zAY l with
 | false =>
   have e:zBF l p=([],4):=by unfold zBF;rw[hm];rfl
   refine enter [.tmp 4,.tmp 5] Tryz.func210 rfl Tryz.ntmps210 rfl rfl ?_
   have H:=zA w0
   repeat' (first|refine yT ?_|(refine' y30 zJd ?_ ?_;rotate_left;exact zJl l hw _ (H.memF hF) hs0;refine Go.Sk.w2 H ?_;clear H;intro w H)|refine yU ?_|(refine y23 ?_ ?_;all_goals(intro h;try (exfalso;first|((rw[hm] at h;cases h);done))))|fail)
   exact zCW (M:=[]) rfl rfl (H.sub (zz9 _)) ⟨none,0,by rw[e];rfl,by rw[e];exact SlA.nil⟩
 | true =>
 by_cases hq:zAv p=0
 ·obtain⟨q1,q2,q3⟩:=zHz hq
  have hbt:∀ q∈p,zCb q=false:=fun q hqm=>by
   rw[List.any_eq_false] at q2
   simpa using q2 q hqm
  have hd0:((zAv p != 0):Bool)=false:=by rw[hq];rfl
  have hpo:=zOG hm hq
  have hz:∀ w:World,(zeroValue 275).run Tryz.prog w=.ok (rv4 ⟨0,0,0,0⟩) w:=fun w=>Tryz.zeroValue275 w
  refine enter [.tmp 4,.tmp 5] Tryz.func210 rfl Tryz.ntmps210 rfl rfl ?_
  have H:=zA w0
  repeat' (first|refine yT ?_|(refine' y30 zJd ?_ ?_;rotate_left;exact zJl l hw _ (H.memF hF) hs0;refine Go.Sk.w2 H ?_;clear H;intro w H)|(refine' y30 zQz ?_ ?_;rotate_left;exact zOJ p _ (H.memF hF) hp0;refine Go.Sk.w2 H ?_;clear H;intro w H)|(refine m1 H ?_;intro bm w H)|refine yU ?_|(refine y23 ?_ ?_;all_goals(intro h;try (exfalso;first|((rw[hm] at h;cases h);done)|((rw[hd0] at h;cases h);done))))|fail)
  refine zB ?_
  refine zI [(9,10),(34,51)] (fun x:Nat × MR × Nat=>[(34,.int .i64 (x.1:Int))])
   (fun x w=>x.1≤l.length∧x.2.1.length≤x.1∧MI x.2.1 x.2.2∧(∀ s,atM x.2.1 s=(l.take x.1).find? fun r=>decide (zAH r=s))∧St w0 [(bm,mo KL rv4 x.2.1 x.2.2)] w) (fun x=>l.length - x.1) (0,[],0) ⟨rfl,trivial⟩ ⟨zzD _,zzC _,MI.nil,fun s=>rfl,H⟩ ?_
  clear H
  rintro⟨k,es,clock⟩ gh w ⟨hk,hle,hMI,hat,H⟩
  simp only at hk hle hMI hat H ⊢
  repeat' (first|refine yT ?_|refine yU ?_|fail)
  refine zD rfl (fun h=>?_) (fun h=>?_)
  ·have hlt:k<l.length:=by have:=zzA h;omega
   clear h
   repeat' (first|refine yT ?_|refine y7 sg H ?_|(refine y10 sg H ?_;intro b w H)|(refine y11 sg H ?_;intro w H)|refine x40 sg hs ?_|refine x42 sg hs (H.memF hF) ?_|(refine m3 sg KL rv4 es (zAH (rw_ l k)) (rw_ l k) H (Up.there (Up.there Up.here)) rfl rfl ?_;intro w H)|refine yU ?_|with_reducible apply zB|fail)
   exact zF (k+1,_,_) rfl ⟨zf qO,trivial⟩ ⟨hlt,Nat.le_trans (zLg _ _ _ _) (Nat.succ_le_succ hle),zHo hMI _ _,fun s=>by show atM (zEk _ _ _ _) s=_;rw[zHJ,zPn hm hlt,hat],(H.sub (zz7 _ _)).sub (zz7 _ _)⟩ (by show l.length - (k+1)<l.length - k;omega)
  obtain rfl:k=l.length:=by have:=zzB h;omega
  clear h hk
  rw[List.take_length] at hat
  have hat2:∀ s,atM es s=zEz l (p.take 0) s:=fun s=>by rw[hat];exact zUM hm s
  repeat' (first|refine yT ?_|refine yU ?_|fail)
  refine zB ?_
  refine zI [(12,14),(54,80)] (fun x:Nat × MR × Nat=>[(54,.int .i64 (x.1:Int))])
   (fun x w=>x.1≤p.length∧x.2.1.length≤l.length+x.1∧MI x.2.1 x.2.2∧(∀ s,atM x.2.1 s=zEz l (p.take x.1) s)∧St w0 [(bm,mo KL rv4 x.2.1 x.2.2)] w) (fun x=>p.length - x.1) (0,es,clock) ⟨rfl,trivial⟩ ⟨zzD _,hle,hMI,hat2,H⟩ ?_
  clear H hat hat2 hMI hle
  rintro⟨k,es,clock⟩ gh w ⟨hk,hle,hMI,hat,H⟩
  simp only at hk hle hMI hat H ⊢
  repeat' (first|refine yT ?_|refine yU ?_|fail)
  refine zD rfl (fun h=>?_) (fun h=>?_)
  ·have hlt:k<p.length:=by have:=zzA h;omega
   clear h
   have hok:∀ q∈p.take k,PstOk q:=fun q hqm=>zEM.1 (hbt q (List.mem_of_mem_take hqm))
   have hqk:=zEM.1 (hbt (qs_ p k) (zz _ hlt))
   obtain⟨⟨d1,d2⟩,d3,d4⟩:=dl_bd hok ((qs_ p k).acct,(qs_ p k).asset)
   obtain⟨⟨r1,r2⟩,r3,r4⟩:=zIH hm ((qs_ p k).acct,(qs_ p k).asset)
   have hlen:(p.take k).length≤64:=by rw[List.length_take];omega
   obtain⟨g1,g2⟩:=zSI l (p.take k) ((qs_ p k).acct,(qs_ p k).asset)
   rw[← hat] at g1 g2
   have f1:=hqk.f
   have f2:=hqk.h
   have w1:IntKind.i64.wrap (((atM es ((qs_ p k).acct,(qs_ p k).asset)).getD ⟨0,0,0,0⟩).free+(qs_ p k).free)=(zAK l (p.take k) ((qs_ p k).acct,(qs_ p k).asset)).1+(qs_ p k).free:=by
    rw[g1];unfold zAK;exact w64 (by simp only;omega) (by simp only;omega)
   have w2:IntKind.i64.wrap (((atM es ((qs_ p k).acct,(qs_ p k).asset)).getD ⟨0,0,0,0⟩).held+(qs_ p k).held)=(zAK l (p.take k) ((qs_ p k).acct,(qs_ p k).asset)).2+(qs_ p k).held:=by
    rw[g2];unfold zAK;exact w64 (by simp only;omega) (by simp only;omega)
   repeat' (first|refine yT ?_|refine y7 sg H ?_|(refine y10 sg H ?_;intro b w H)|(refine y11 sg H ?_;intro w H)|refine x40 sg hs2 ?_|refine x42 sg hs2 (H.memF hF) ?_|(refine zd rfl rfl (Yq.lookM sg KL rv4 es ((qs_ p k).acct,(qs_ p k).asset) ⟨0,0,0,0⟩ hz H.mem qC rfl rfl rfl rfl rfl) ?_)|(refine m3 sg KL rv4 es ((qs_ p k).acct,(qs_ p k).asset) ⟨(qs_ p k).acct,(qs_ p k).asset,IntKind.i64.wrap (((atM es ((qs_ p k).acct,(qs_ p k).asset)).getD ⟨0,0,0,0⟩).free+(qs_ p k).free),IntKind.i64.wrap (((atM es ((qs_ p k).acct,(qs_ p k).asset)).getD ⟨0,0,0,0⟩).held+(qs_ p k).held)⟩ H (Up.there (Up.there (Up.there Up.here))) rfl rfl ?_;intro w H)|refine yU ?_|with_reducible apply zB|fail)
   exact zF (k+1,_,_) rfl ⟨zf qO,trivial⟩ ⟨hlt,Nat.le_trans (zLg _ _ _ _) (Nat.succ_le_succ hle),zHo hMI _ _,fun s=>by show atM (zEk _ _ _ _) s=_;rw[zHJ,w1,w2,zKI hlt,zSJ,hat],((H.sub (zz7 _ _)).sub (zz7 _ _)).sub (zz7 _ _)⟩ (by show p.length - (k+1)<p.length - k;omega)
  obtain rfl:k=p.length:=by have:=zzB h;omega
  clear h hk
  rw[List.take_length] at hat
  repeat' (first|refine yT ?_|(refine m8 sg KL rv4 es H (zz2 _) ?_;intro r w H)|refine yU ?_|fail)
  refine zB ?_
  have hgood:∀ e∈es,e.2.1=zFU l p e.1:=fun e he=>by
   have h:=zKJ hMI he
   rw[hat] at h
   unfold zEz at h
   split at h
   ·exact(Option.some.inj h).symm
   ·cases h
  have hok:∀ q∈p,PstOk q:=fun q hqm=>zEM.1 (hbt q hqm)
  have hbd:∀ e∈es,(-9223372036854775808≤e.2.1.free∧e.2.1.free≤9223372036854775807)∧-9223372036854775808≤e.2.1.held∧e.2.1.held≤9223372036854775807:=fun e he=>by
   rw[hgood e he]
   obtain⟨⟨d1,d2⟩,d3,d4⟩:=dl_bd hok e.1
   obtain⟨⟨r1,r2⟩,r3,r4⟩:=zIH hm e.1
   unfold zFU zAK
   simp only
   omega
  refine zI [(15,16),(18,19),(83,107)] (fun x:Pr3=>[(15,.int .i64 (wOf (x.vis.map (·.2.1)))),(16,.slice x.a (uOf x.vis).length x.cap)])
   (fun x w=>(x.vis++x.todo).Perm es∧Todo es x.seen x.todo∧Go.Sk.Own x.M 275 4 x.a (uOf x.vis).length x.cap ((uOf x.vis).flatMap Row4.cells)∧St w0 ((r,Obj.mapIter (some bm) clock x.seen clock)::(bm,mo KL rv4 es clock)::x.M) w) (fun x=>x.todo.length) ⟨#[],es,[],none,0,[]⟩ ⟨rfl,rfl,trivial⟩ ⟨List.Perm.refl _,Todo.start es,zTP _ _ _,H⟩ ?_
  clear H
  rintro⟨seen,todo,vis,ao,co,M⟩ gh w ⟨hP,hT,hO,H⟩
  simp only at hP hT hO H ⊢
  have hvl:(uOf vis).length≤es.length:=by
   have h1:=hP.length_eq
   rw[List.length_append] at h1
   have h2:(uOf vis).length≤vis.length:=by unfold uOf;exact Nat.le_trans (List.length_filter_le _ _) (by rw[List.length_map];exact zzC _)
   omega
  repeat' (first|refine yT ?_|(refine m9 KL rv4 es H (zz5 _ (zz2 _)) (zz2 _) hMI (zzC _) hT ?_ ?_)|refine yU ?_|fail)
  ·intro h0
   subst h0
   rw[List.append_nil] at hP
   have hv:∀ x,x∈vis.map (·.2.1)↔zEz l p (zAH x)=some x:=fun x=>by
    rw[List.mem_map]
    constructor
    ·rintro⟨e,he,rfl⟩
     have he:=hP.mem_iff.1 he
     have h:=zKJ hMI he
     rw[hat] at h
     have hk:zAH e.2.1=e.1:=by rw[hgood e he];rfl
     rw[hk];exact h
    ·intro h
     rw[← hat] at h
     obtain⟨e,he,_,h2⟩:=zLc h
     exact⟨e,hP.mem_iff.2 he,h2⟩
   obtain⟨hwo,hmem⟩:=zUN hm hbt hv
   rw[hwo]
   by_cases hw0:zBH (zAK l p)=0
   ·have d0:(zBH (zAK l p) != 0)=false:=by rw[hw0];rfl
    rw[if_pos hw0] at hpo
    have hkeys:((uOf vis).map zAH).Nodup:=by
     have h1:(vis.map (·.1)).Nodup:=(hP.map _).nodup_iff.2 hMI.keys
     have h2:(vis.map (·.2.1)).map zAH=vis.map (·.1):=by
      rw[List.map_map]
      exact List.map_congr_left fun e he=>by show zAH e.2.1=e.1;rw[hgood e (hP.mem_iff.1 he)];rfl
     unfold uOf
     exact((List.filter_sublist (l:=vis.map (·.2.1)) (p:=nzR)).map zAH).nodup (h2 ▸ h1)
    have huniq:∀ m:List Row4,m.Perm (uOf vis)→m.Pairwise (fun a b=>ltOf cfE b a=false)→m=mkR (zAK l p):=fun m h1 h2=>zM6 h1 h2 hkeys (zHP _) fun x=>hmem x
    have hO1:=hO
    obtain⟨u,hu⟩:∃ u,uOf vis=u:=⟨_,rfl⟩
    rw[hu] at hO huniq hkeys hvl ⊢
    rcases Nat.eq_zero_or_pos u.length with hz0|hz0
    ·obtain rfl:=List.length_eq_zero_iff.1 hz0
     have hmk:=huniq [] (List.Perm.refl _) List.Pairwise.nil
     have e:zBF l p=([],0):=by rw[hpo,← hmk]
     repeat' (first|refine yT ?_|refine yU ?_|fail)
     refine CW.condF (congrArg Value.bool d0) ?_
     repeat' (first|refine yT ?_|(refine' y30 zQ0 ?_ ?_;rotate_left;exact zM5 (a:=ao) (cap:=co);refine Go.Sk.w2 H ?_;clear H;intro w H)|refine yU ?_|fail)
     refine zB ?_
     refine zI [(20,20),(22,22),(115,133)] (fun _:Unit=>[(115,.int .i64 0),(20,.slice none 0 0)]) (fun _ w=>St w0 [] w) (fun _=>0) () ⟨rfl,rfl,trivial⟩ (H.sub (zz9 _)) ?_
     clear H
     rintro _ gh w H
     have d1:decide ((0:Int)<((([]:List Row4).length:Nat):Int))=false:=rfl
     repeat' (first|refine yT ?_|refine yU ?_|fail)
     exact zCW (M:=[]) rfl rfl H ⟨none,0,by rw[e];rfl,by rw[e];exact SlA.nil⟩
    ·have hel:u.flatMap Row4.cells=(List.range u.length).flatMap (rwl u):=(rowC u).symm
     rw[hel] at hO
     obtain⟨g,cs3,rfl,rfl,hcap3,hE3⟩:=hO.els hz0 (fun j _=>rfl)
     clear hO
     replace H:=H.perm (List.perm_append_comm (l₁:=[_,_]) (l₂:=[_]))
     simp only[List.cons_append,List.nil_append] at H
     have hcl3:u.length*4≤cs3.length:=by have:=(hE3 (u.length - 1) qO).1;omega
     repeat' (first|refine yT ?_|refine yU ?_|fail)
     refine CW.condF (congrArg Value.bool d0) ?_
     repeat' (first|refine yT ?_|(refine za rfl rfl (En.fn zQ0 rfl rfl) (zPq u qO H hE3 hcl3) ?_;rintro _ _ w ⟨rfl,cs4,m,rfl,hl4,hp4,hs4,he4⟩ H2;clear H;have H:=H2;clear H2)|refine yU ?_|fail)
     have hmk:=huniq m hp4 hs4
     have hml:=hp4.length_eq
     have e:zBF l p=(m,0):=by rw[hpo,← hmk]
     replace he4:Els cs4 4 m.length (rwl m):=he4
     have hs5:=he4.slb (F:=[cb g cs4 275]) (T:=275) (zz2 _)
     replace H:St w0 [cb g cs4 275] w:=H.sub (List.Sublist.cons_cons _ (zz9 _))
     rw[← hml]
     refine zB ?_
     refine zI [(20,20),(22,22),(115,133)] (fun x:Gr=>[(115,.int .i64 (x.k:Int)),(20,.slice x.a x.k x.cap)]) (fun x w=>x.k≤m.length∧Go.Sk.Own x.M 137 4 x.a x.k x.cap ((m.take x.k).flatMap Row4.cells)∧St w0 (cb g cs4 275::x.M) w) (fun x=>m.length - x.k) ⟨0,none,0,[]⟩ ⟨rfl,rfl,trivial⟩ ⟨zzD _,zTP _ _ _,H⟩ ?_
     clear H
     rintro⟨k,ao,co,M⟩ gh w ⟨hk,hO,H⟩
     simp only at hk hO H ⊢
     repeat' (first|refine yT ?_|refine yU ?_|fail)
     refine zD rfl (fun h=>?_) (fun h=>?_)
     ·have hlt:k<m.length:=by have:=zzA h;omega
      clear h
      have htk:m.take (k+1)=m.take k++[rw_ m k]:=by rw[List.take_succ_eq_append_getElem hlt];simp[rw_,List.getElem?_eq_getElem hlt]
      repeat' (first|refine yT ?_|refine y7 sg H ?_|(refine y10 sg H ?_;intro b w H)|(refine y11 sg H ?_;intro w H)|refine x40 sg hs5 ?_|(refine y42 sg (hs5) ((H.mem.sub (by intro p hp;simp only[List.mem_singleton] at hp;subst hp;exact qC))) ?_ ?_;(omega))|((with_reducible apply OX.buildA sg H);(iterate 12 exact rfl);intro b w H _)|(have hp:=H.perm (List.perm_append_comm (l₁:=[_,_,_]) (l₂:=M));refine zj sg 4 32 (M:=M) hp rfl rfl rfl rfl rfl rfl rfl rfl rfl rfl rfl hO (zAL hp.mem (zz3 _ (zz2 _))) rfl (zAU rfl) (by unfold maxLen;omega) qO ?_;clear hp hO;intro ao co M w hO H;replace H:=H.perm (List.perm_append_comm (l₁:=M) (l₂:=[_,_,_])))|refine yU ?_|with_reducible apply zB|fail)
      exact zF ⟨k+1,ao,co,M⟩ rfl ⟨zf qO,rfl,trivial⟩ ⟨hlt,by show Go.Sk.Own M _ 4 ao (k+1) co _;rw[htk,List.flatMap_append,List.flatMap_singleton];exact hO,(H.sub (zz7 _ _)).sub (zz7 _ _)⟩ (by show m.length - (k+1)<m.length - k;omega)
     ·obtain rfl:k=m.length:=by have:=zzB h;omega
      clear h
      rw[List.take_length,← rowC m] at hO
      repeat' (first|refine yT ?_|refine yU ?_|fail)
      refine zCW (M:=M) rfl rfl (H.sub (zz7 _ _)) ⟨ao,co,by rw[e],?_⟩
      rw[e]
      exact hO.sl (fun _ h=>h) (fun _ _=>rfl) qO
   ·have d0:(zBH (zAK l p) != 0)=true:=by simpa using hw0
    rw[if_neg hw0] at hpo
    repeat' (first|refine yT ?_|refine yU ?_|fail)
    refine CW.condT (congrArg Value.bool d0) ?_
    repeat' (first|refine yT ?_|refine yU ?_|fail)
    exact zCW (M:=[]) rfl rfl (H.sub (zz9 _)) ⟨none,0,by rw[hpo];rfl,by rw[hpo];exact SlA.nil⟩
  ·intro e todo2 w hperm he hT2 hH
   have H2:=hH _ Up.here
   clear H hH
   have H:=H2
   clear H2
   obtain⟨⟨b1,b2⟩,b3,b4⟩:=hbd e he
   have hws:=zSL (vis.map (·.2.1)) e.2.1
   have hms:(vis++[e]).map (·.2.1)=vis.map (·.2.1)++[e.2.1]:=by rw[List.map_append];rfl
   have hP2:((vis++[e])++todo2).Perm es:=by
    refine List.Perm.trans ?_ hP
    rw[List.append_assoc]
    exact List.Perm.append_left _ hperm.symm
   have hlt2:todo2.length<todo.length:=by have:=hperm.length_eq;simp only[List.length_cons] at this;omega
   have k1:(zAS e.2.1.acct e.2.1.free e.2.1.held==47)=true→wOf ((vis++[e]).map (·.2.1))=zAS e.2.1.acct e.2.1.free e.2.1.held:=fun h=>by
    rw[hms,hws,if_pos (.inl (eq_of_beq h))];rfl
   have k2:(zAS e.2.1.acct e.2.1.free e.2.1.held==47)=false→(wOf (vis.map (·.2.1))==0)=true→wOf ((vis++[e]).map (·.2.1))=zAS e.2.1.acct e.2.1.free e.2.1.held:=fun _ h=>by
    rw[hms,hws,if_pos (.inr (eq_of_beq h))];rfl
   have k3:(zAS e.2.1.acct e.2.1.free e.2.1.held==47)=false→(wOf (vis.map (·.2.1))==0)=false→wOf ((vis++[e]).map (·.2.1))=wOf (vis.map (·.2.1)):=fun h h'=>by
    rw[hms,hws,if_neg];rintro(g|g)
    ·rw[beq_eq_false_iff_ne] at h;exact h g
    ·rw[beq_eq_false_iff_ne] at h';exact h' g
   have n1:(e.2.1.free != 0)=true→uOf (vis++[e])=uOf vis++[e.2.1]:=fun h=>by
    unfold uOf;rw[hms,List.filter_append,List.filter_cons_of_pos (by unfold nzR;rw[h];rfl),List.filter_nil]
   have n2:(e.2.1.free != 0)=false→(e.2.1.held != 0)=true→uOf (vis++[e])=uOf vis++[e.2.1]:=fun h h'=>by
    unfold uOf;rw[hms,List.filter_append,List.filter_cons_of_pos (by unfold nzR;rw[h,h'];rfl),List.filter_nil]
   have n3:(e.2.1.free != 0)=false→(e.2.1.held != 0)=false→uOf (vis++[e])=uOf vis:=fun h h'=>by
    unfold uOf;rw[hms,List.filter_append,List.filter_cons_of_neg (by unfold nzR;rw[h,h'];decide),List.filter_nil,List.append_nil]
   repeat' (first|refine yT ?_|refine y7 sg H ?_|(refine y10 sg H ?_;intro b w H)|(refine y11 sg H ?_;intro w H)|refine z13 (Yq.entryM KL rv4 es H.mem (zz2 _) (zz5 _ (zz2 _)) he hMI.stamps rfl rfl) ?_|(refine' y30 zQw ?_ ?_;rotate_left;exact zNn _ _ _ _ _ b1 b2 b3 b4;refine Go.Sk.w2 H ?_;clear H;intro w H)|((with_reducible apply OX.buildA sg H);(iterate 12 exact rfl);intro b w H _)|(have hp:=H.perm (List.perm_append_comm (l₁:=[_,_,_,_]) (l₂:=M));refine zj sg 4 32 (M:=M) hp rfl rfl rfl rfl rfl rfl rfl rfl rfl rfl rfl hO (zAL hp.mem (zz3 _ (zz2 _))) rfl (zAU rfl) (by unfold maxLen;omega) qO ?_;clear hp hO;intro ao co M w hO H;replace H:=H.perm (List.perm_append_comm (l₁:=M) (l₂:=[_,_,_,_])))|refine yU ?_|(refine y17 ?_ ?_;all_goals intro h)|with_reducible apply zB|(refine y23 ?_ ?_;all_goals intro h)|fail)
   ·have hU:=n1 (by assumption)
    refine zF ⟨seen.push e.2.2,todo2,vis++[e],ao,co,M⟩ rfl ⟨congrArg (Value.int .i64) (k1 (by assumption)).symm,?_,trivial⟩ ⟨hP2,hT2,?_,?_⟩ hlt2
    ·show Value.slice ao _ co=Value.slice ao (uOf (vis++[e])).length co
     rw[hU,List.length_append];rfl
    ·show Go.Sk.Own M _ 4 ao (uOf (vis++[e])).length co ((uOf (vis++[e])).flatMap Row4.cells)
     rw[hU,List.length_append,List.flatMap_append,List.flatMap_singleton];exact hO
    ·exact(H.sub (zz7 _ _)).sub (zz7 _ _)
   ·have hU:=n2 (by assumption) (by assumption)
    refine zF ⟨seen.push e.2.2,todo2,vis++[e],ao,co,M⟩ rfl ⟨congrArg (Value.int .i64) (k1 (by assumption)).symm,?_,trivial⟩ ⟨hP2,hT2,?_,?_⟩ hlt2
    ·show Value.slice ao _ co=Value.slice ao (uOf (vis++[e])).length co
     rw[hU,List.length_append];rfl
    ·show Go.Sk.Own M _ 4 ao (uOf (vis++[e])).length co ((uOf (vis++[e])).flatMap Row4.cells)
     rw[hU,List.length_append,List.flatMap_append,List.flatMap_singleton];exact hO
    ·exact(H.sub (zz7 _ _)).sub (zz7 _ _)
   ·have hU:=n3 (by assumption) (by assumption)
    refine zF ⟨seen.push e.2.2,todo2,vis++[e],ao,co,M⟩ rfl ⟨congrArg (Value.int .i64) (k1 (by assumption)).symm,?_,trivial⟩ ⟨hP2,hT2,?_,?_⟩ hlt2
    ·show Value.slice ao _ co=Value.slice ao (uOf (vis++[e])).length co
     rw[hU]
    ·show Go.Sk.Own M _ 4 ao (uOf (vis++[e])).length co ((uOf (vis++[e])).flatMap Row4.cells)
     rw[hU];exact hO
    ·exact H.sub (zz7 _ _)
   ·have hU:=n1 (by assumption)
    refine zF ⟨seen.push e.2.2,todo2,vis++[e],ao,co,M⟩ rfl ⟨congrArg (Value.int .i64) (k2 (by assumption) (by assumption)).symm,?_,trivial⟩ ⟨hP2,hT2,?_,?_⟩ hlt2
    ·show Value.slice ao _ co=Value.slice ao (uOf (vis++[e])).length co
     rw[hU,List.length_append];rfl
    ·show Go.Sk.Own M _ 4 ao (uOf (vis++[e])).length co ((uOf (vis++[e])).flatMap Row4.cells)
     rw[hU,List.length_append,List.flatMap_append,List.flatMap_singleton];exact hO
    ·exact(H.sub (zz7 _ _)).sub (zz7 _ _)
   ·have hU:=n2 (by assumption) (by assumption)
    refine zF ⟨seen.push e.2.2,todo2,vis++[e],ao,co,M⟩ rfl ⟨congrArg (Value.int .i64) (k2 (by assumption) (by assumption)).symm,?_,trivial⟩ ⟨hP2,hT2,?_,?_⟩ hlt2
    ·show Value.slice ao _ co=Value.slice ao (uOf (vis++[e])).length co
     rw[hU,List.length_append];rfl
    ·show Go.Sk.Own M _ 4 ao (uOf (vis++[e])).length co ((uOf (vis++[e])).flatMap Row4.cells)
     rw[hU,List.length_append,List.flatMap_append,List.flatMap_singleton];exact hO
    ·exact(H.sub (zz7 _ _)).sub (zz7 _ _)
   ·have hU:=n3 (by assumption) (by assumption)
    refine zF ⟨seen.push e.2.2,todo2,vis++[e],ao,co,M⟩ rfl ⟨congrArg (Value.int .i64) (k2 (by assumption) (by assumption)).symm,?_,trivial⟩ ⟨hP2,hT2,?_,?_⟩ hlt2
    ·show Value.slice ao _ co=Value.slice ao (uOf (vis++[e])).length co
     rw[hU]
    ·show Go.Sk.Own M _ 4 ao (uOf (vis++[e])).length co ((uOf (vis++[e])).flatMap Row4.cells)
     rw[hU];exact hO
    ·exact H.sub (zz7 _ _)
   ·have hU:=n1 (by assumption)
    refine zF ⟨seen.push e.2.2,todo2,vis++[e],ao,co,M⟩ rfl ⟨congrArg (Value.int .i64) (k3 (by assumption) (by assumption)).symm,?_,trivial⟩ ⟨hP2,hT2,?_,?_⟩ hlt2
    ·show Value.slice ao _ co=Value.slice ao (uOf (vis++[e])).length co
     rw[hU,List.length_append];rfl
    ·show Go.Sk.Own M _ 4 ao (uOf (vis++[e])).length co ((uOf (vis++[e])).flatMap Row4.cells)
     rw[hU,List.length_append,List.flatMap_append,List.flatMap_singleton];exact hO
    ·exact(H.sub (zz7 _ _)).sub (zz7 _ _)
   ·have hU:=n2 (by assumption) (by assumption)
    refine zF ⟨seen.push e.2.2,todo2,vis++[e],ao,co,M⟩ rfl ⟨congrArg (Value.int .i64) (k3 (by assumption) (by assumption)).symm,?_,trivial⟩ ⟨hP2,hT2,?_,?_⟩ hlt2
    ·show Value.slice ao _ co=Value.slice ao (uOf (vis++[e])).length co
     rw[hU,List.length_append];rfl
    ·show Go.Sk.Own M _ 4 ao (uOf (vis++[e])).length co ((uOf (vis++[e])).flatMap Row4.cells)
     rw[hU,List.length_append,List.flatMap_append,List.flatMap_singleton];exact hO
    ·exact(H.sub (zz7 _ _)).sub (zz7 _ _)
   ·have hU:=n3 (by assumption) (by assumption)
    refine zF ⟨seen.push e.2.2,todo2,vis++[e],ao,co,M⟩ rfl ⟨congrArg (Value.int .i64) (k3 (by assumption) (by assumption)).symm,?_,trivial⟩ ⟨hP2,hT2,?_,?_⟩ hlt2
    ·show Value.slice ao _ co=Value.slice ao (uOf (vis++[e])).length co
     rw[hU]
    ·show Go.Sk.Own M _ 4 ao (uOf (vis++[e])).length co ((uOf (vis++[e])).flatMap Row4.cells)
     rw[hU];exact hO
    ·exact H.sub (zz7 _ _)
 ·have e:zBF l p=([],zAv p):=by unfold zBF;rw[if_pos hm,if_neg hq]
  have hd0:((zAv p != 0):Bool)=true:=by simpa using hq
  refine enter [.tmp 4,.tmp 5] Tryz.func210 rfl Tryz.ntmps210 rfl rfl ?_
  have H:=zA w0
  repeat' (first|refine yT ?_|(refine' y30 zJd ?_ ?_;rotate_left;exact zJl l hw _ (H.memF hF) hs0;refine Go.Sk.w2 H ?_;clear H;intro w H)|(refine' y30 zQz ?_ ?_;rotate_left;exact zOJ p _ (H.memF hF) hp0;refine Go.Sk.w2 H ?_;clear H;intro w H)|refine yU ?_|(refine y23 ?_ ?_;all_goals(intro h;try (exfalso;first|((rw[hm] at h;cases h);done)|((rw[hd0] at h;cases h);done))))|fail)
  exact zCW (M:=[]) rfl rfl (H.sub (zz9 _)) ⟨none,0,by rw[e];rfl,by rw[e];exact SlA.nil⟩
end Go.Proofs.YthbflajpdhgfiaaGreatDoor
namespace Go.Sk
section
open Go Go.RowKit
attribute [local semireducible] CW OW OX QW QX Yq RA
def RH (P:Program)(n:Nw)(l:List Oper)(F0:zC)(s:Array Bool)(m:Nat)(Q:zAQ)(e:Env)(w:World):Prop :=
 Mem w F0∧∀ a,Fits n a e→wpAnyH P .any l.toArray (nrm n Q) (fun w=>Mem w F0) m s a w
section
variable {P:Program}{n:Nw}{id:Nat}{Q:zAQ}{e:Env}{w:World}{l:List Oper}{s:Array Bool}{m:Nat}{F0:zC}
theorem zM7 (hm:P.follows .mixedOrders=true)(N:Nat)(_hM0:Mem w F0)(hN:Nat.beq l.length N=true)(h:∀ w',Cl w w'→RH P n l F0 (Array.replicate N false) N Q e w')(hnd:zCV l=true:=by exact rfl):CW P n (.region id l.toArray true) Q e w :=
 zA2 hm N hN (fun w' hw a ha=>wpAny_of_held _ _ _ _ ((h w' hw).2 a ha)) hnd
theorem RH.nil (hM:Mem w F0)(hr:(Region.ready .any l.toArray s).isEmpty=true)(h:Q .normal e w):RH P n l F0 s m Q e w :=
 ⟨hM,fun a ha=>wpAnyH_done (by simpa using hr) ⟨rfl,nofun,e,ha,h⟩ m⟩
theorem RH.take {L:List (Nat × Value)}{b0:Env}(i:Nat){o:Oper}{d:Nat}{v:Value}(hM:Mem w F0)(hB:((Region.noSelect l.toArray&&Region.free .any l.toArray s i)&&(Region.ready .any l.toArray s).contains i)=true)
  (ho:l[i]?=some o) (hg:o.guard=none) (hd:o.dst=some d) (hlt:Nat.blt d n.n=true) (hy:∀ w,Mem w F0→Yq P o (ovl L b0) w v)
  {m':Nat} (hm:m'=m+1) (h:RH P n l F0 (s.setIfInBounds i true) m Q (ovl ((d,v)::L) b0) w):RH P n l F0 s m' Q (ovl L b0) w:=by
 subst hm
 refine⟨hM,fun a ha=>?_⟩
 simp only[Bool.and_eq_true] at hB
 obtain⟨⟨h1,h2⟩,h3⟩:=hB
 refine wpAnyH_take (oi:=o) (v:=v) (by simpa using ho) h1 h2 h3 (fun c a w hq=>absurd hq.1 (by simp)) (.inl ⟨by simp[Region.wanted,hg],fun w' hw'=>?_⟩) hM ?_
 ·rw[ha.eval];exact hy w' hw' w' (Cl.refl w')
 ·rw[hd];exact h.2 _ (ha.put hlt v)
theorem RH.c1 (i:Nat){o:Oper}{m':Nat}(hM:Mem w F0)(hm:m'=m+1)(hB:(Region.ready .any l.toArray s==[i])=true)(ho:l[i]?=some o)
  (h:OW P n l.toArray (thn (fun e' w'=>RH P n l F0 (s.setIfInBounds i true) m Q e' w') (fun _ _ _=>False)) [o] e w):RH P n l F0 s m' Q e w:=by
 subst hm
 refine⟨hM,fun a ha=>wpAnyH_all (rs:=[i]) (by simpa using hB) (by simp) (fun j hj=>?_)⟩
 simp only[List.mem_singleton] at hj
 subst hj
 exact zA6 ho (fun a e w hf hk=>⟨hk.1,hk.2 a hf⟩) h a ha
theorem RH.c2 (i j:Nat){o o':Oper}{m':Nat}(hM:Mem w F0)(hm:m'=m+1)(hB:(Region.ready .any l.toArray s==[i,j])=true)(ho:l[i]?=some o)(ho':l[j]?=some o')
  (h:OW P n l.toArray (thn (fun e' w'=>RH P n l F0 (s.setIfInBounds i true) m Q e' w') (fun _ _ _=>False)) [o] e w)
  (h':OW P n l.toArray (thn (fun e' w'=>RH P n l F0 (s.setIfInBounds j true) m Q e' w') (fun _ _ _=>False)) [o'] e w):RH P n l F0 s m' Q e w:=by
 subst hm
 refine⟨hM,fun a ha=>wpAnyH_all (rs:=[i,j]) (by simpa using hB) (by simp) (fun k hk=>?_)⟩
 simp only[List.mem_cons,List.not_mem_nil,or_false] at hk
 rcases hk with rfl|rfl
 ·exact zA6 ho (fun a e w hf hk=>⟨hk.1,hk.2 a hf⟩) h a ha
 ·exact zA6 ho' (fun a e w hf hk=>⟨hk.1,hk.2 a hf⟩) h' a ha
theorem RH.c3 (i j r:Nat){o o' o'':Oper}{m':Nat}(hM:Mem w F0)(hm:m'=m+1)(hB:(Region.ready .any l.toArray s==[i,j,r])=true)(ho:l[i]?=some o)(ho':l[j]?=some o')(ho'':l[r]?=some o'')
  (h:OW P n l.toArray (thn (fun e' w'=>RH P n l F0 (s.setIfInBounds i true) m Q e' w') (fun _ _ _=>False)) [o] e w)
  (h':OW P n l.toArray (thn (fun e' w'=>RH P n l F0 (s.setIfInBounds j true) m Q e' w') (fun _ _ _=>False)) [o'] e w)
  (h'':OW P n l.toArray (thn (fun e' w'=>RH P n l F0 (s.setIfInBounds r true) m Q e' w') (fun _ _ _=>False)) [o''] e w):RH P n l F0 s m' Q e w:=by
 subst hm
 refine⟨hM,fun a ha=>wpAnyH_all (rs:=[i,j,r]) (by simpa using hB) (by simp) (fun k hk=>?_)⟩
 simp only[List.mem_cons,List.not_mem_nil,or_false] at hk
 rcases hk with rfl|rfl|rfl
 ·exact zA6 ho (fun a e w hf hk=>⟨hk.1,hk.2 a hf⟩) h a ha
 ·exact zA6 ho' (fun a e w hf hk=>⟨hk.1,hk.2 a hf⟩) h' a ha
 ·exact zA6 ho'' (fun a e w hf hk=>⟨hk.1,hk.2 a hf⟩) h'' a ha
end
theorem z3 {P:Program}(S:Sig P){o:Oper}{e:Env}{F0:zC}{v:Value}{t:TypeId}{x:Operand}{b' off:Nat}{cs:List Value}{T:TypeId}{fr:Nat × Nat}{ti:TI}(ho:o.op=.load t x:=by exact rfl)(hx:ev e x=.pointer (some ⟨b',off,none⟩):=by exact rfl)
  (hm:(b',Obj.cells cs.toArray T fr)∈F0:=by repeat (first|exact zz2 _|refine zz5 _ ?_)) (ht:lk S.tab t=some ti:=by exact rfl) (hl:ldS ti cs off=some v:=by exact rfl):∀ w,Mem w F0→Yq P o e w v:=fun _ hM=>zH S ho hx hM hm ht hl
theorem z4 {P:Program}(S:Sig P){o:Oper}{e:Env}{F0:zC}{v:Value}(h:pvn S.tab e o.op=some v:=by exact rfl):∀ w,Mem w F0→Yq P o e w v:=fun w _=>zB9 S h w
theorem z6 {w0 w:World}{L F:zC}{x y:Nat × Obj}(H:St w0 L w)(hF:Mem w0 F)(hx:x∈L:=by repeat (first|exact zz2 _|refine zz5 _ ?_))(hy:y∈L:=by repeat (first|exact zz2 _|refine zz5 _ ?_)):Mem w (x::y::F):=fun p hp=>by
 rcases List.mem_cons.1 hp with rfl|hp
 ·exact H.mem _ hx
 ·rcases List.mem_cons.1 hp with rfl|hp
  ·exact H.mem _ hy
  ·exact H.memF hF _ hp
theorem z7 {w0 w:World}{L:zC}{x:Nat × Obj}(H:St w0 L w)(hx:x∈L:=by repeat (first|exact zz2 _|refine zz5 _ ?_)):Mem w [x]:=H.mem.sub (by intro p hp;rw[List.mem_singleton] at hp;exact hp ▸ hx)
section
variable {P:Program}{n:Nw}{Q:zAQ}{e:Env}{w:World}{l:List Oper}{s:Array Bool}{m:Nat}{F0:zC}{o:Oper}
theorem z1 {L:List (Nat × Value)}{b0:Env}(i:Nat){d:Nat}{v:Value}(hM:Mem w F0)(hy:∀ w,Mem w F0→Yq P o (ovl L b0) w v)(h:RH P n l F0 (s.setIfInBounds i true) m Q (ovl ((d,v)::L) b0) w){m':Nat}(hB:((Region.noSelect l.toArray&&Region.free .any l.toArray s i)&&(Region.ready .any l.toArray s).contains i)=true:=by decide +kernel)
  (ho:l[i]?=some o:=by exact rfl) (hg:o.guard=none:=by exact rfl) (hd:o.dst=some d:=by exact rfl) (hlt:Nat.blt d n.n=true:=by exact rfl) (hm:m'=m+1:=by exact rfl):RH P n l F0 s m' Q (ovl L b0) w:=RH.take i hM hB ho hg hd hlt hy hm h
theorem z12 (i:Nat)(hM:Mem w F0)(h:OW P n l.toArray (thn (fun e' w'=>RH P n l F0 (s.setIfInBounds i true) m Q e' w') (fun _ _ _=>False)) [o] e w){m':Nat}(hB:(Region.ready .any l.toArray s==[i])=true:=by decide +kernel)(ho:l[i]?=some o:=by exact rfl)(hm:m'=m+1:=by exact rfl):RH P n l F0 s m' Q e w:=RH.c1 i hM hm hB ho h
end
attribute [irreducible] RH
end
section
open Go Go.RowKit
inductive KQ where
 | val (V:Value)
 | box (n:Nat) (cs:List Value) (T:TypeId)
 | rel (R:zC→Value→Prop) (z:Nat)
 | nul
 | mem (R:zC→Value→Prop)
theorem St.join {w0 w w1:World}{L M:zC}(H:St w0 L w)(hcl:Cl w0 w1)(hM:Mem w M)(hg:∀ p∈M,w1.heap.size≤p.1)(hn:(M.map (·.1)).Nodup):∃ N,St w0 (L++N) w∧M⊆L++N:=by
 refine⟨M.filter fun p=>!(L.any fun q=>Nat.beq q.1 p.1),⟨H.below,H.mem.app fun p hp=>hM p (List.mem_filter.1 hp).1,fun p hp=>?_,?_⟩,fun p hp=>?_⟩
 ·rcases List.mem_append.1 hp with h|h
  ·exact H.ge p h
  ·exact Nat.le_trans hcl.size (hg p (List.mem_filter.1 h).1)
 ·rw[List.map_append,List.nodup_append]
  refine⟨H.nodup,(List.filter_sublist.map _).nodup hn,fun a ha b hb he=>?_⟩
  obtain⟨p,hp,rfl⟩:=List.mem_map.1 ha
  obtain⟨q,hq,rfl⟩:=List.mem_map.1 hb
  have:=(List.mem_filter.1 hq).2
  simp only[Bool.not_eq_true',List.any_eq_false] at this
  exact this p hp (by rw[he];exact Nat.beq_refl _)
 ·cases h:L.any fun q=>Nat.beq q.1 p.1 with
  | false=>exact zz3 _ (List.mem_filter.2 ⟨hp,by rw[h];rfl⟩)
  | true =>
    obtain⟨q,hq,hqp⟩:=List.any_eq_true.1 h
    have he:q.1=p.1:=Nat.eq_of_beq_eq_true hqp
    have h1:=H.mem q hq
    have h2:=hM p hp
    rw[he,h2] at h1
    have:p=q:=Prod.ext he.symm (Option.some.inj h1)
    exact zz6 _ (this ▸ hq)
structure KF where
 i:Nat
 d:Nat
 deps:List Nat
 k:KQ
def Know (p:Nat→Value→World→Prop):List Nat→World→(List (Nat × Value)→Prop)→Prop
 | [],_,k=>k []
 | d::t,w,k=>∀ v,p d v w→Know p t w (fun l=>k ((d,v)::l))
theorem Know.at {p:Nat→Value→World→Prop}{e:Env}{w:World}:∀ {ds:List Nat} {k:List (Nat × Value)→Prop},Know p ds w k→(∀ d,d∈ds→p d (e d) w)→∃ L,k L∧zKi e L
 | [],k,h,_=>⟨[],h,trivial⟩
 | d::t,k,h,hp=>by
   obtain⟨L,h1,h2⟩:=Know.at (h (e d) (hp d (List.mem_cons_self ..))) (fun d hd=>hp d (zz4 _ hd))
   exact⟨(d,e d)::L,h1,rfl,h2⟩
inductive KSu (l:List Oper) (C:KF→Oper→Prop):List KF→Prop
 | nil:KSu l C []
 | cons {x:KF} {o:Oper} {t:List KF} (ho:l[x.i]?=some o) (h:C x o) (ht:KSu l C t):KSu l C (x::t)
theorem KSu.get {l:List Oper}{C:KF→Oper→Prop}{T:List KF}(h:KSu l C T){x:KF}(hx:x∈T){o:Oper}(ho:l[x.i]?=some o):C x o:=by
 induction h with
 | nil=>cases hx
 | cons ho' hc _ ih =>
   rcases List.mem_cons.1 hx with rfl|hx
   ·obtain rfl:=Option.some.inj (ho'.symm.trans ho);exact hc
   ·exact ih hx
attribute [local semireducible] CW OW OX QW QX Yq RA RH
section
variable {P:Program}{n:Nw}{Q:zAQ}{w:World}{l:List Oper}{s:Array Bool}{m:Nat}{F0:zC}
end
end
section
open Go Go.RowKit
attribute [local semireducible] CW OW OX QW QX Yq RA RH
section
variable {P:Program}{n:Nw}{Q:zAQ}{w:World}{l:List Oper}{s:Array Bool}{m:Nat}{F0:zC}
end
theorem memS {w:World}{L F:zC}{x y:Nat × Obj}(h:Mem w L)(hx:x∈L)(hy:y∈L)(hF:Mem w F):Mem w (x::y::F):=fun p hp=>by
 rcases List.mem_cons.1 hp with rfl|hp
 ·exact h _ hx
 ·rcases List.mem_cons.1 hp with rfl|hp
  ·exact h _ hy
  ·exact hF _ hp
end
end Go.Sk
namespace Go.Proofs.YthbflajpdhgfiaaGreatDoor
open Go Go.Sk Go.RowKit
attribute [local irreducible] Go.Calls
def zIM:List Value:=zCz.cells SPt.n0
structure Cps (s:Sta)(p:SPt)(Ma Mi Mu R:zC):Prop where
 ac:Go.Sk.Own Ma 92 2 p.acA s.accts.length p.acC ((List.range s.accts.length).flatMap (acl s.accts))
 ins:Go.Sk.Own Mi 94 3 p.inA s.insts.length p.inC ((List.range s.insts.length).flatMap (ing s.insts))
 rw:zNq R p.rwA p.rwC s.rows
 od:Ords R p.odA p.odC s.orders
 au:Go.Sk.Own Mu 67 9 p.auA s.aucs.length p.auC ((List.range s.aucs.length).flatMap (ael s.aucs p.ad))
 bd:∀ j,j<s.aucs.length→Bids R (p.ad j).1 (p.ad j).2 (s.aucs.getD j default).bids
structure LtS (s:Sta):Prop where
 ac:s.accts.length≤100000
 ins:s.insts.length≤100000
 rw:s.rows.length≤100000
 od:s.orders.length≤100000
 au:s.aucs.length≤100000
 bd:∀ k,k<s.aucs.length→(s.aucs.getD k default).bids.length≤100000
theorem Cps.sta {s:Sta}{p:SPt}{Ma Mi Mu R:zC}(h:Cps s p Ma Mi Mu R)(hL:LtS s):StaM (Ma++(Mi++(Mu++R))) s p :=
 ⟨h.ac.sl qS (fun _ _=>rfl) (by have:=hL.ac;omega),h.ins.sl qS (fun _ _=>rfl) (by have:=hL.ins;omega),SlA.mono h.rw qS,SlA.mono h.od qS,h.au.sl qS (fun _ _=>rfl) (by have:=hL.au;omega),fun j hj=>SlA.mono (h.bd j hj) qS⟩
structure I2 where
 a1:Option Addr
 c1:Nat
 M1:zC
 a2:Option Addr
 c2:Nat
 M2:zC
def CopyR (s:Sta)(M:zC)(v:Value):Prop:=∃ p Ma Mi Mu R,v=.agg (s.cells p).toArray∧M=Ma++(Mi++(Mu++R))∧Cps s p Ma Mi Mu R
theorem sub2 {A B:Nat × Obj}{M:zC}:M.Sublist (A::B::M):=(zz7 _ _).trans (zz7 _ _)
theorem zST {A B:Nat × Obj}(M:zC)(x:Nat × Obj):(A::B::(M++[x])).Perm (x::A::B::M):=by
 have:=List.perm_append_comm (l₁:=A::B::M) (l₂:=[x])
 simpa only[List.cons_append,List.nil_append] using this
theorem zPu {A B:Nat × Obj}(x:Nat × Obj)(M1 M2 M3 M4 N:zC):(x::A::B::(M1++M2++M3++M4++N)).Perm (A::B::(M1++(M2++([x]++(M3++M4++N))))):=by
 refine List.Perm.trans (List.Perm.swap A x _) (List.Perm.cons A (List.Perm.trans (List.Perm.swap B x _) (List.Perm.cons B ?_)))
 have h1:(x::(M1++M2++M3++M4++N)).Perm ((M1++M2)++x::(M3++M4++N)):=by
  have:=(List.perm_middle (a:=x) (l₁:=M1++M2) (l₂:=M3++M4++N)).symm
  simpa only[List.append_assoc] using this
 simpa only[List.append_assoc,List.cons_append,List.nil_append] using h1
theorem zPv (M1 M2 M3 M4 M5:zC):(M1++M2++M3++M4++M5).Perm (M1++(M2++(M5++(M3++M4)))):=by
 have:=(List.perm_append_comm (l₁:=M3++M4) (l₂:=M5)).append_left (M1++M2)
 simpa only[List.append_assoc] using this
theorem Els.flat {cs:List Value}{size:Nat}{el:Nat→List Value}:∀ {n:Nat},Els cs size n el→cs.take (n*size)=(List.range n).flatMap el
 | 0,_=>by simp
 | n+1,h=>by
   have ih:=Els.flat (n:=n) fun j hj=>h j qO
   rw[Nat.add_mul,Nat.one_mul,List.take_add,ih,List.range_succ,List.flatMap_append,List.flatMap_singleton,(h n qO).2]
theorem Els.own {cs:List Value}{size n cap g:Nat}{T:TypeId}{el:Nat→List Value}(h:Els cs size n el)(hel:∀ j,j<n→(el j).length=size)(h1:n≤cap)(h2:cap≤maxLen)(h3:cs.length=cap*size):Go.Sk.Own [cb g cs T] T size (some ⟨g,0,none⟩) n cap ((List.range n).flatMap el) :=
 ⟨Go.Sk.flat_len _ hel,.inr ⟨g,cs,rfl,rfl,h1,h2,h3,Els.flat h⟩⟩
theorem zUU {l:List Auc}{ad:Nat→Option Addr × Nat}{k:Nat}{a:Option Addr}{c:Nat}:(fun j=>if j=k then wr (ael l ad k) 8 [.slice a (l.getD k default).bids.length c] else ael l ad j)=ael l (fun j=>if j=k then(a,c) else ad j):=by
 funext j
 by_cases h:j=k
 ·subst h;simp only[if_true];simp only[ael,if_true];rfl
 ·simp only[ael,if_neg h]
theorem Ac.cone (r:Ac):∀ u∈r.cells,u.oneCell'=true:=zAU rfl
theorem Ins.cone (r:Ins):∀ u∈r.cells,u.oneCell'=true:=zAU rfl
theorem zSU (l:List Auc)(ad:Nat→Option Addr × Nat)(j:Nat):∀ u∈ael l ad j,u.oneCell'=true:=zAU rfl
set_option maxRecDepth 20000 in
theorem zSV {F:zC}(s:Sta)(p:SPt)(hL:LtS s)(w0:World)(hF:Mem w0 F)(hs:StaM F s p) :
  Calls Tryz.prog 42 [.agg (s.cells p).toArray].toArray w0 (zi (CopyR s) w0):=by
 obtain⟨l1,l2,l3,l4,l5,l6⟩:=hL
 refine enter [.cell 2 48] Tryz.func42 rfl Tryz.ntmps42 rfl rfl ?_
 have H:=zA w0
 repeat' (first|refine yT ?_|(refine y9 H ?_;intro b w H)|(refine y10 sg H ?_;intro b w H)|refine yU ?_|fail)
 rename_i b1 wx Hx
 refine CW.mid [(5,12)] (fun _:I2=>[]) (fun y w=>Go.Sk.Own y.M1 92 2 y.a1 s.accts.length y.c1 ((List.range s.accts.length).flatMap (acl s.accts))∧Go.Sk.Own y.M2 94 3 y.a2 s.insts.length y.c2 ((List.range s.insts.length).flatMap (ing s.insts)) ∧
  St w0 (cb b zIM 48::cb b1 (s.cells { p with acA:=y.a1,acC:=y.c1,inA:=y.a2,inC:=y.c2 }) 48::(y.M1++y.M2)) w) (fun g=>?_) ?_
 ·repeat' (first|refine yT ?_|refine y7 sg H ?_|(refine y11 sg H ?_;intro w H)|(refine zA2 mixed 10 ?_ ?_;exact rfl;refine Go.Sk.w2 H ?_;clear H;intro w H)|((with_reducible apply zEg);decide +kernel)|(refine' z8 0 ?_ ?_;rotate_left;first|exact z9 sg)|(refine' z8 3 ?_ ?_;rotate_left;first|exact z9 sg)|(refine' z8 6 ?_ ?_;rotate_left;first|exact z9 sg)|(refine' z8 8 ?_ ?_;rotate_left;first|exact z9 sg)|refine z10 1 ?_|refine z10 2 ?_|refine z10 4 ?_|refine z10 5 ?_|refine z10 7 ?_|refine z10 9 ?_|refine z11 1 4 ?_ ?_|refine z11 2 4 ?_ ?_|(refine' y32 ent76 ?_ ?_;rotate_left;exact zMi _ (H.memF hF) hs.ac (fun j _=>Ac.cone _) (fun j _=>rfl) qO;intro v M1 w hR hS;replace H:=H.addR hS;clear hS;(try simp only[List.cons_append,List.nil_append] at H);obtain⟨a1,c1,rfl,O1⟩:=hR)|(refine' y32 ent77 ?_ ?_;rotate_left;exact zMj _ (H.memF hF) hs.ins (fun j _=>Ins.cone _) (fun j _=>rfl) qO;intro v M2 w hR hS;replace H:=H.addR hS;clear hS;(try simp only[List.cons_append,List.nil_append] at H);obtain⟨a2,c2,rfl,O2⟩:=hR)|refine yU ?_|fail)
  all_goals exact zF ⟨a1,c1,M1,a2,c2,M2⟩ rfl trivial ⟨O1,O2,H⟩ (Nat.lt_succ_self 0)
 clear H
 rintro⟨a1,c1,M1,a2,c2,M2⟩ g w ⟨O1,O2,H⟩
 simp only at O1 O2 H ⊢
 refine zDu ?_
 refine CW.mid [(13,20)] (fun _:I2=>[]) (fun y w=>Go.Sk.Own y.M1 137 4 y.a1 s.rows.length y.c1 ((List.range s.rows.length).flatMap (rwl s.rows))∧Go.Sk.Own y.M2 55 6 y.a2 s.orders.length y.c2 ((List.range s.orders.length).flatMap (odl s.orders)) ∧
  St w0 (cb b zIM 48::cb b1 (s.cells { p with acA:=a1,acC:=c1,inA:=a2,inC:=c2,rwA:=y.a1,rwC:=y.c1,odA:=y.a2,odC:=y.c2 }) 48::(M1++M2++y.M1++y.M2)) w) (fun g=>?_) ?_
 ·repeat' (first|refine yT ?_|refine y7 sg H ?_|(refine y11 sg H ?_;intro w H)|(refine zA2 mixed 10 ?_ ?_;exact rfl;refine Go.Sk.w2 H ?_;clear H;intro w H)|((with_reducible apply zEg);decide +kernel)|(refine' z8 0 ?_ ?_;rotate_left;first|exact z9 sg)|(refine' z8 3 ?_ ?_;rotate_left;first|exact z9 sg)|(refine' z8 6 ?_ ?_;rotate_left;first|exact z9 sg)|(refine' z8 8 ?_ ?_;rotate_left;first|exact z9 sg)|refine z10 1 ?_|refine z10 2 ?_|refine z10 4 ?_|refine z10 5 ?_|refine z10 7 ?_|refine z10 9 ?_|refine z11 1 4 ?_ ?_|refine z11 2 4 ?_ ?_|(refine' y32 ent78 ?_ ?_;rotate_left;exact zHx _ (H.memF hF) hs.rw (fun j _=>Row4.cone _) (fun j _=>rfl) qO;intro v M3 w hR hS;replace H:=H.addR hS;clear hS;(try simp only[List.cons_append,List.nil_append] at H);obtain⟨a3,c3,rfl,O3⟩:=hR)|(refine' y32 zQY ?_ ?_;rotate_left;exact zFi _ (H.memF hF) hs.od (fun j _=>Odr.cone _) (fun j _=>rfl) qO;intro v M4 w hR hS;replace H:=H.addR hS;clear hS;(try simp only[List.cons_append,List.nil_append] at H);obtain⟨a4,c4,rfl,O4⟩:=hR)|refine yU ?_|fail)
  all_goals exact zF ⟨a3,c3,M3,a4,c4,M4⟩ rfl trivial ⟨O3,O4,H⟩ (Nat.lt_succ_self 0)
 clear H
 rintro⟨a3,c3,M3,a4,c4,M4⟩ g w ⟨O3,O4,H⟩
 simp only at O3 O4 H ⊢
 repeat' (first|refine yT ?_|refine y7 sg H ?_|(refine y11 sg H ?_;intro w H)|(refine' y32 zQa ?_ ?_;rotate_left;exact zFc _ (H.memF hF) hs.au.1 (fun j _=>zSU _ _ _) (fun j _=>rfl) qO;intro v M5 w hR hS;replace H:=H.addR hS;clear hS;(try simp only[List.cons_append,List.nil_append] at H);obtain⟨a5,c5,rfl,O5⟩:=hR)|refine yU ?_|fail)
 refine zB ?_
 rcases Nat.eq_zero_or_pos s.aucs.length with h0|h0
 ·refine zI [(3,4),(28,41)] (fun _:Unit=>[(28,.int .i64 0)]) (fun _ w=>St w0 (cb b zIM 48::cb b1 (s.cells ⟨a1,c1,a2,c2,a3,c3,a4,c4,a5,c5,p.ad⟩) 48::(M1++M2++M3++M4++M5)) w) (fun _=>0) () ⟨rfl,trivial⟩ H ?_
  clear H
  rintro _ gh w H
  have d1:decide ((0:Int)<(s.aucs.length:Int))=false:=decide_eq_false qO
  repeat' (first|refine yT ?_|refine y7 sg H ?_|(refine y11 sg H ?_;intro w H)|refine yU ?_|(refine y23 ?_ ?_;all_goals(intro h;try (exfalso;first|((rw[d1] at h;cases h);done))))|fail)
  refine zq (vs:=[_]) ⟨zy sg rfl H.mem qB rfl rfl,trivial⟩ ((H.sub sub2).perm (zPv M1 M2 M3 M4 M5)) ⟨⟨a1,c1,a2,c2,a3,c3,a4,c4,a5,c5,p.ad⟩,M1,M2,M5,M3++M4,rfl,rfl,?_⟩
  ·exact⟨O1,O2,O3.sl (List.subset_append_left _ _) (fun _ _=>rfl) qO,O4.sl (zz8 _ _) (fun _ _=>rfl) qO,O5,fun j hj=>absurd hj qO⟩
 ·have O5b:=O5
  obtain⟨g0,cs0,rfl,rfl,hcap,hE⟩:=O5.els h0 (fun j _=>rfl)
  obtain⟨hcm,hcl0⟩:c5≤maxLen∧cs0.length=c5*9:=by
   rcases O5b.2 with ⟨h,_⟩|⟨g',cs',h1,h2,h3,h4,h5,h6⟩
   ·omega
   ·cases h2;exact⟨h4,h5⟩
  replace H:=H.perm (zST (A:=cb b zIM 48) (B:=cb b1 (s.cells ⟨a1,c1,a2,c2,a3,c3,a4,c4,some ⟨g0,0,none⟩,c5,p.ad⟩) 48) (M1++M2++M3++M4) (cb g0 cs0 67))
  have hFs:Mem w0 F:=hF
  refine zI [(3,4),(28,41)] (fun y:Nat × (Nat→Option Addr × Nat) × List Value × zC=>[(28,.int .i64 (y.1:Int))]) (fun y w=>St w0 (cb g0 y.2.2.1 67::cb b zIM 48::cb b1 (s.cells ⟨a1,c1,a2,c2,a3,c3,a4,c4,some ⟨g0,0,none⟩,c5,p.ad⟩) 48::(M1++M2++M3++M4++y.2.2.2)) w∧y.1≤s.aucs.length∧Els y.2.2.1 9 s.aucs.length (ael s.aucs y.2.1)∧(∀ j,y.1≤j→y.2.1 j=p.ad j)∧y.2.2.1.length=c5*9∧∀ j,j<y.1→Bids y.2.2.2 (y.2.1 j).1 (y.2.1 j).2 (s.aucs.getD j default).bids) (fun y=>s.aucs.length - y.1) (0,p.ad,cs0,[]) ⟨rfl,trivial⟩ ⟨by rw[List.append_nil];exact H,zzD _,hE,fun _ _=>rfl,hcl0,fun j hj=>absurd hj (zzE j)⟩ ?_
  clear H hE
  rintro⟨k,ad,cs1,N⟩ gh w ⟨H,hk,hE1,hsm,hcl1,hB⟩
  simp only at H hk hE1 hsm hcl1 hB ⊢
  by_cases hlt:k<s.aucs.length
  ·have d1:decide ((k:Int)<(s.aucs.length:Int))=true:=decide_eq_true qO
   have hbn:=l6 k hlt
   have hbk:=hs.au.2 k hlt
   rw[← hsm k (Nat.le_refl _)] at hbk
   have hek:=(hE1 k hlt).1
   have hsg:=hE1.slb (F:=[cb g0 cs1 67]) (T:=67) (zz2 _)
   repeat' (first|refine yT ?_|refine yU ?_|fail)
   refine zD rfl (fun h=>?_) (fun h=>absurd d1 (by rw[h];decide))
   clear h
   repeat' (first|refine yT ?_|(refine y10 sg H ?_;intro b w H)|(refine y11 sg H ?_;intro w H)|refine x40 sg hsg ?_|refine x42 sg hsg (z7 H) ?_|refine yU ?_|with_reducible apply zB|fail)
   repeat' (first|refine yT ?_|(refine' y32 zQe ?_ ?_;rotate_left;exact zFb _ (H.memF hF) hbk (fun j _=>zJx _ _) (fun j _=>zFB _ _) qO;intro v M6 w hR hS;replace H:=H.addR hS;clear hS;(try simp only[List.cons_append,List.nil_append] at H);obtain⟨a6,c6,rfl,O6⟩:=hR)|(refine OX.storeX sg (v:=.slice a6 (s.aucs.getD k default).bids.length c6) (vs:=[.slice a6 (s.aucs.getD k default).bids.length c6]) H rfl rfl rfl rfl rfl rfl rfl (Up.there Up.here) (by simp only[List.length_singleton];omega) (zAU rfl) ?_;intro w H)|(refine zM7 mixed 9 (memS (x:=cb b1 (s.cells ⟨a1,c1,a2,c2,a3,c3,a4,c4,some ⟨g0,0,none⟩,c5,p.ad⟩) 48) (y:=cb b (ael s.aucs ad k) 67) H.mem qC qC (H.memF hF)) ?_ ?_;exact rfl;refine Go.Sk.w2 H ?_;clear H;intro w H)|((with_reducible apply RH.nil);exact((memS (x:=cb b1 (s.cells ⟨a1,c1,a2,c2,a3,c3,a4,c4,some ⟨g0,0,none⟩,c5,p.ad⟩) 48) (y:=cb b (ael s.aucs ad k) 67) H.mem qC qC (H.memF hF)).sub qT);decide +kernel)|(refine' z1 0 (z6 H hF) ?_ ?_;rotate_left;first|exact z4 sg|exact(fun w hM=>zH sg rfl rfl hM qC rfl rfl)|exact(fun w hM=>zJ sg hsg))|(refine' z1 1 (z6 H hF) ?_ ?_;rotate_left;first|exact z4 sg|exact(fun w hM=>zH sg rfl rfl hM qC rfl rfl)|exact(fun w hM=>zJ sg hsg))|(refine' z1 2 (z6 H hF) ?_ ?_;rotate_left;first|exact z4 sg|exact(fun w hM=>zH sg rfl rfl hM qC rfl rfl)|exact(fun w hM=>zJ sg hsg))|(refine' z1 3 (z6 H hF) ?_ ?_;rotate_left;first|exact z4 sg|exact(fun w hM=>zH sg rfl rfl hM qC rfl rfl)|exact(fun w hM=>zJ sg hsg))|(refine' z1 4 (z6 H hF) ?_ ?_;rotate_left;first|exact z4 sg|exact(fun w hM=>zH sg rfl rfl hM qC rfl rfl)|exact(fun w hM=>zJ sg hsg))|(refine' z1 6 (z6 H hF) ?_ ?_;rotate_left;first|exact z4 sg|exact(fun w hM=>zH sg rfl rfl hM qC rfl rfl)|exact(fun w hM=>zJ sg hsg))|(refine' z1 7 (z6 H hF) ?_ ?_;rotate_left;first|exact z4 sg|exact(fun w hM=>zH sg rfl rfl hM qC rfl rfl)|exact(fun w hM=>zJ sg hsg))|refine z12 5 (z6 H hF) ?_|refine z12 8 (z6 H hF) ?_|refine yU ?_|fail)
   have hE2:=zFt (vs:=[.slice a6 (s.aucs.getD k default).bids.length c6]) (f:=8) hE1 hlt (Nat.le_refl 9)
   rw[zUU] at hE2
   refine zF (k+1,(fun j=>if j=k then(a6,c6) else ad j),wr cs1 (k*9+8) [.slice a6 (s.aucs.getD k default).bids.length c6],N++M6) rfl ⟨zf qO,trivial⟩ ⟨by simpa only[Nat.zero_add,List.append_assoc] using H.sub (zz7 _ _),hlt,hE2,fun j hj=>?_,?_,fun j hj=>?_⟩ (by simp only;omega)
   ·simp only
    rw[if_neg (by have:k+1≤j:=hj;omega)]
    exact hsm j (by have:k+1≤j:=hj;omega)
   ·simp only
    rw[zBt (by simp only[List.length_singleton];omega)];exact hcl1
   by_cases hjk:j=k
   ·subst hjk
    simp only[if_true]
    exact O6.sl (zz8 _ _) (fun _ _=>rfl) qO
   ·simp only[if_neg hjk]
    exact SlA.mono (hB j (by have:j<k+1:=hj;omega)) (List.subset_append_left _ _)
  ·obtain rfl:k=s.aucs.length:=by omega
   have d1:decide ((s.aucs.length:Int)<(s.aucs.length:Int))=false:=decide_eq_false qO
   repeat' (first|refine yT ?_|refine y7 sg H ?_|(refine y11 sg H ?_;intro w H)|refine yU ?_|(refine y23 ?_ ?_;all_goals(intro h;try (exfalso;first|((rw[d1] at h;cases h);done))))|fail)
   refine zq (vs:=[_]) ⟨zy sg rfl H.mem qB rfl rfl,trivial⟩ (H.perm (zPu _ M1 M2 M3 M4 N) |>.sub sub2) ⟨⟨a1,c1,a2,c2,a3,c3,a4,c4,some ⟨g0,0,none⟩,c5,ad⟩,M1,M2,[cb g0 cs1 67],M3++M4++N,rfl,rfl,?_⟩
   refine⟨O1,O2,O3.sl qS (fun _ _=>rfl) qO,O4.sl qS (fun _ _=>rfl) qO,Els.own hE1 (fun _ _=>rfl) hcap hcm hcl1,fun j hj=>SlA.mono (hB j hj) qS⟩
end Go.Proofs.YthbflajpdhgfiaaGreatDoor
namespace Go
section
variable {P:Program}{ops:Array Oper}{Q:Exit→Act→World→Prop}{md:Region.Mode}{S:World→Prop}{late:List Nat}
def zCc (P:Program)(md:Region.Mode)(ops:Array Oper)(Q:Exit→Act→World→Prop)(S:World→Prop)(late:List Nat):Nat→Array Bool→Act→World→Prop
 | 0,listed,a,w=>Region.ready md ops listed=[]∧Q .normal a w
 | fuel+1,listed,a,w =>
   (Region.ready md ops listed=[]→Q .normal a w) ∧
   ∀ i∈Region.ready md ops listed,wpOp P ops Q i (fun a' w'=>(late.contains i=false→S w')∧zCc P md ops Q S late fuel (listed.setIfInBounds i true) a' w') a w
theorem zDZ:∀ (fuel:Nat) (listed:Array Bool) (a:Act) (w:World),zCc P md ops Q S late fuel listed a w→wpAny P md ops Q fuel listed a w
 | 0,_,_,_,h=>h
 | fuel+1,_,_,_,h=>⟨h.1,fun i hi=>wpOp_mono (fun a' w' h'=>zDZ fuel _ a' w' h'.2) (h.2 i hi)⟩
def zEV (md:Region.Mode)(ops:Array Oper)(listed:Array Bool)(i:Nat):Nat→Nat→Bool
 | 0,_=>false
 | f+1,j=>match ops[j]? with
   | some o=>o.after.any fun e=>Region.binds md e&&(e.on==i||(!listed.getD e.on true&&zEV md ops listed i f e.on))
   | none=>false
theorem zJE {listed:Array Bool}{i k:Nat}{ok:Oper}(hk:k∈Region.ready md ops listed)(hok:ops[k]?=some ok)(hnot:∀ e∈ok.after,Region.binds md e=true→e.on≠i)(f:Nat):zEV md ops listed i f k=false:=by
 cases f with
 | zero=>rfl
 | succ f =>
   rw[← Bool.not_eq_true]
   intro h
   unfold zEV at h
   rw[hok] at h
   simp only[Array.any_eq_true,Bool.and_eq_true,Bool.or_eq_true,beq_iff_eq,Bool.not_eq_true'] at h
   obtain⟨q,hq,hb,he⟩:=h
   obtain⟨_,oj,hoj,hall⟩:=mem_ready.1 hk
   rw[hok] at hoj
   cases hoj
   rcases he with he|⟨he,_⟩
   ·exact hnot _ (Array.getElem_mem hq) hb he
   ·have h1:=hall _ (Array.getElem_mem hq) hb
    rcases Nat.lt_or_ge (ok.after[q]).on listed.size with h'|h'
    ·simp[h'] at he h1;rw[he] at h1;cases h1
    ·simp[Array.getElem?_eq_none h'] at h1
theorem zIN {listed:Array Bool}{i k:Nat}{ok:Oper}(hk:k∈Region.ready md ops listed)(hok:ops[k]?=some ok)(hnot:∀ e∈ok.after,Region.binds md e=true→e.on≠i):∀ (f j:Nat),zEV md ops listed i f j=true→zEV md ops (listed.setIfInBounds k true) i f j=true
 | 0,_,h=>h
 | f+1,j,h=>by
   unfold zEV at h ⊢
   cases ho:ops[j]? with
   | none=>rw[ho] at h;cases h
   | some o =>
     rw[ho] at h
     simp only[Array.any_eq_true,Bool.and_eq_true,Bool.or_eq_true,beq_iff_eq,Bool.not_eq_true'] at h ⊢
     obtain⟨q,hq,hb,he⟩:=h
     refine⟨q,hq,hb,he.imp id fun⟨h1,h2⟩=>?_⟩
     by_cases hkq:k=(o.after[q]).on
     ·rw[← hkq,zJE hk hok hnot] at h2;cases h2
     ·exact⟨by rw[getD_set_ne true hkq];exact h1,zIN hk hok hnot f _ h2⟩
def zEa (md:Region.Mode)(ops:Array Oper)(late:List Nat)(listed:Array Bool)(i:Nat):Bool :=
 late.all fun j=>listed.getD j true||zEV md ops listed i 14 j
theorem zM8 {listed:Array Bool}{i j:Nat}{oj:Oper}(hj:j∈Region.ready md ops listed)(hoj:ops[j]?=some oj)(hnot:∀ e∈oj.after,Region.binds md e=true→e.on≠i)(h:zEa md ops late listed i=true):zEa md ops late (listed.setIfInBounds j true) i=true:=by
 unfold zEa at *
 rw[List.all_eq_true] at *
 intro k hk
 have h1:=h k hk
 rw[Bool.or_eq_true] at *
 refine h1.imp (fun h2=>?_) fun h2=>zIN hj hoj hnot _ _ h2
 by_cases hjk:j=k
 ·subst hjk
  simp only[Array.getD_eq_getD_getElem?,Array.getElem?_setIfInBounds]
  split
  ·split<;>rfl
  ·contradiction
 ·rw[getD_set_ne true hjk];exact h2
theorem zGK {T:World→Prop}{i:Nat}{oi:Oper}{v:Value}(hi:ops[i]?=some oi)(hsel:∀ (j:Nat) (o:Oper) cs b,ops[j]?=some o→o.op≠.select cs b)
  (hQ:∀ c a w,Q (.panic c) (a.put oi.dst v) w→Q (.panic c) a w) (lb:Array Bool→Bool) (hmono:∀ listed j oj,j∈Region.ready md ops listed→ops[j]?=some oj→(∀ e∈oj.after,Region.binds md e=true→e.on≠i)→lb listed=true→lb (listed.setIfInBounds j true)=true)
  (hl:∀ listed j oj,lb listed=true→j∈Region.ready md ops listed→listed.getD j true=false→ops[j]?=some oj→(∀ e∈oj.after,Region.binds md e=true→e.on≠i)→∀ w,(late.contains j=false→S w)→T w) (hTS:∀ w,T w→late.contains i=false→S w) :
  ∀ (fuel:Nat) (listed:Array Bool) (a:Act) (w:World),lb listed=true →
    (∀ j oj,ops[j]?=some oj→j≠i→listed.getD j true=false→(∀ e∈oj.after,Region.binds md e=true→e.on≠i)→oi.apart ops oj=true) →
    i∈Region.ready md ops listed→YieldsIf P ops T oi v a→T w →
    zCc P md ops Q S late fuel (listed.setIfInBounds i true) (a.put oi.dst v) w→zCc P md ops Q S late (fuel+1) listed a w:=by
 intro fuel
 induction fuel with
 | zero =>
   intro listed a w _ _ hr hy hT H
   refine⟨fun h=>(by rw[h] at hr;cases hr),fun j hj=>?_⟩
   by_cases hji:j=i
   ·subst hji;exact hy.wpOp hi hT ⟨hTS _ hT,H⟩
   ·have:=ready_mono hj hji
    rw[H.1] at this
    cases this
 | succ fuel ih =>
   intro listed a w hlb hfree hr hy hT H
   refine⟨fun h=>(by rw[h] at hr;cases hr),fun j hj=>?_⟩
   by_cases hji:j=i
   ·subst hji;exact hy.wpOp hi hT ⟨hTS _ hT,H⟩
   ·have h1:=H.2 j (ready_mono hj hji)
    obtain⟨hjun,oj,hoj,hall⟩:=mem_ready.1 hj
    have hnot:∀ e∈oj.after,Region.binds md e=true→e.on≠i:=fun e he hb heq=>by
     have h1:=hall e he hb
     have h0:=(mem_ready.1 hr).1
     rw[heq] at h1
     rcases Nat.lt_or_ge i listed.size with h'|h'
     ·simp[h'] at h0 h1;rw[h0] at h1;cases h1
     ·simp[Array.getElem?_eq_none h'] at h1
    have h2:=wpOp_putIf hoj (hfree j oj hoj hji hjun hnot) (fun cs b=>hsel i oi cs b hi) (fun cs b=>hsel j oj cs b hoj) hQ hy h1
    have hfree':∀ k ok,ops[k]?=some ok→k≠i→(listed.setIfInBounds j true).getD k true=false →
      (∀ e∈ok.after,Region.binds md e=true→e.on≠i)→oi.apart ops ok=true:=fun k ok hk hki hun hno=>by
     refine hfree k ok hk hki ?_ hno
     by_cases hjk:j=k
     ·subst hjk;exact hjun
     ·rw[getD_set_ne true hjk] at hun;exact hun
    refine wpOp_mono (fun a' w' h3=>⟨h3.2.1,ih (listed.setIfInBounds j true) a' w' (hmono _ _ _ hj hoj hnot hlb) hfree' (ready_mono hr (Ne.symm hji)) h3.1 (hl listed j oj hlb hj hjun hoj hnot w' h3.2.1) ?_⟩) h2
    rw[Array.setIfInBounds_comm _ _ hji]
    exact h3.2.2
theorem zE2 {i:Nat}{oi:Oper}{v:Value}{fuel:Nat}{listed:Array Bool}{a:Act}{w:World}(hi:ops[i]?=some oi)
  (hs:Region.noSelect ops=true) (hf:Region.free md ops listed i=true) (hr:(Region.ready md ops listed).contains i=true) (hl:zEa md ops late listed i=true)
  (hQ:∀ c a w,Q (.panic c) (a.put oi.dst v) w→Q (.panic c) a w) (hy:YieldsIf P ops S oi v a) (hS:S w)
  (h:zCc P md ops Q S late fuel (listed.setIfInBounds i true) (a.put oi.dst v) w):zCc P md ops Q S late (fuel+1) listed a w:=by
 refine zGK (T:=S) hi (Region.noSelect_spec hs) hQ (fun listed=>zEa md ops late listed i) (fun _ _ _ hj ho hn h=>zM8 hj ho hn h) ?_ (fun _ h _=>h) fuel listed a w hl (Region.free_spec hi hf) (by simpa using hr) hy hS h
 intro listed j oj hlb hj hjun hoj hnot w hw
 refine hw ?_
 rw[← Bool.not_eq_true]
 intro hc
 have h2:=List.all_eq_true.1 hlb j (by simpa using hc)
 rw[hjun,Bool.false_or,zJE hj hoj hnot] at h2
 cases h2
theorem zKN {i:Nat}{oi:Oper}{v:Value}{fuel:Nat}{listed:Array Bool}{a:Act}{w:World}(hi:ops[i]?=some oi)
  (hs:Region.noSelect ops=true) (hf:Region.free md ops listed i=true) (hr:(Region.ready md ops listed).contains i=true)
  (hQ:∀ c a w,Q (.panic c) (a.put oi.dst v) w→Q (.panic c) a w) (hy:YieldsIf P ops (fun _=>True) oi v a) (hc:late.contains i=true)
  (h:zCc P md ops Q S late fuel (listed.setIfInBounds i true) (a.put oi.dst v) w):zCc P md ops Q S late (fuel+1) listed a w :=
 zGK (T:=fun _=>True) hi (Region.noSelect_spec hs) hQ (fun _=>true) (fun _ _ _ _ _ _ h=>h) (fun _ _ _ _ _ _ _ _ _ _=>trivial) (fun w _ hl=>by rw[hc] at hl;cases hl) fuel listed a w rfl (Region.free_spec hi hf) (by simpa using hr) hy trivial h
theorem zFl {rs:List Nat}{fuel:Nat}{listed:Array Bool}{a:Act}{w:World}(hr:Region.ready md ops listed=rs)(hne:rs≠[])
  (h:∀ i∈rs,wpOp P ops Q i (fun a' w'=>(late.contains i=false→S w')∧zCc P md ops Q S late fuel (listed.setIfInBounds i true) a' w') a w):zCc P md ops Q S late (fuel+1) listed a w :=
 ⟨fun h0=>absurd (hr ▸ h0) hne,hr ▸ h⟩
theorem zLh {listed:Array Bool}{a:Act}{w:World}(hr:Region.ready md ops listed=[])(h:Q .normal a w) :
  ∀ fuel,zCc P md ops Q S late fuel listed a w
 | 0=>⟨hr,h⟩
 | _+1=>⟨fun _=>h,by rw[hr];simp⟩
end
end Go
namespace Go.Sk
open Go Go.RowKit
attribute [local semireducible] CW OW OX QW QX Yq RA
def RL (P:Program)(n:Nw)(l:List Oper)(F0:zC)(late:List Nat)(s:Array Bool)(m:Nat)(Q:zAQ)(e:Env)(w:World):Prop :=
 ∀ a,Fits n a e→zCc P .any l.toArray (nrm n Q) (fun w=>Mem w F0) late m s a w
section
variable {P:Program}{n:Nw}{id:Nat}{Q:zAQ}{e:Env}{w:World}{l:List Oper}{s:Array Bool}{m:Nat}{F0:zC}{late:List Nat}
theorem CW.regionL (hm:P.follows .mixedOrders=true)(N:Nat)(_hM0:Mem w F0)(late:List Nat)(hN:Nat.beq l.length N=true)(h:∀ w',Cl w w'→RL P n l F0 late (Array.replicate N false) N Q e w')(hnd:zCV l=true:=by exact rfl):CW P n (.region id l.toArray true) Q e w :=
 zA2 hm N hN (fun w' hw a ha=>zDZ _ _ _ _ (h w' hw a ha)) hnd
theorem RL.nil (hr:(Region.ready .any l.toArray s).isEmpty=true)(h:Q .normal e w):RL P n l F0 late s m Q e w :=
 fun a ha=>zLh (by simpa using hr) ⟨rfl,nofun,e,ha,h⟩ m
theorem RL.take {L:List (Nat × Value)}{b0:Env}(i:Nat){o:Oper}{d:Nat}{v:Value}(hM:Mem w F0)(hB:(((Region.noSelect l.toArray&&Region.free .any l.toArray s i)&&(Region.ready .any l.toArray s).contains i)&&zEa .any l.toArray late s i)=true)
  (ho:l[i]?=some o) (hg:o.guard=none) (hd:o.dst=some d) (hlt:Nat.blt d n.n=true) (hy:∀ w,Mem w F0→Yq P o (ovl L b0) w v)
  {m':Nat} (hm:m'=m+1) (h:RL P n l F0 late (s.setIfInBounds i true) m Q (ovl ((d,v)::L) b0) w):RL P n l F0 late s m' Q (ovl L b0) w:=by
 subst hm
 intro a ha
 simp only[Bool.and_eq_true] at hB
 obtain⟨⟨⟨h1,h2⟩,h3⟩,h4⟩:=hB
 refine zE2 (oi:=o) (v:=v) (by simpa using ho) h1 h2 h3 h4 (fun c a w hq=>absurd hq.1 (by simp)) (.inl ⟨by simp[Region.wanted,hg],fun w' hw'=>?_⟩) hM ?_
 ·rw[ha.eval];exact hy w' hw' w' (Cl.refl w')
 ·rw[hd];exact h _ (ha.put hlt v)
theorem RL.takeG {L:List (Nat × Value)}{b0:Env}(i:Nat){o:Oper}{d:Nat}{v:Value}{j d2:Nat}{want:Bool}(hM:Mem w F0)(hB:(((Region.noSelect l.toArray&&Region.free .any l.toArray s i)&&(Region.ready .any l.toArray s).contains i)&&zEa .any l.toArray late s i)=true)
  (ho:l[i]?=some o) (hg:o.guard=some (j,want)) (hj:(l.toArray[j]?).bind (·.dst)=some d2) (hv:gd (ovl L b0 d2) want=some true) (hd:o.dst=some d) (hlt:Nat.blt d n.n=true) (hy:∀ w,Mem w F0→Yq P o (ovl L b0) w v)
  {m':Nat} (hm:m'=m+1) (h:RL P n l F0 late (s.setIfInBounds i true) m Q (ovl ((d,v)::L) b0) w):RL P n l F0 late s m' Q (ovl L b0) w:=by
 subst hm
 intro a ha
 simp only[Bool.and_eq_true] at hB
 obtain⟨⟨⟨h1,h2⟩,h3⟩,h4⟩:=hB
 refine zE2 (oi:=o) (v:=v) (by simpa using ho) h1 h2 h3 h4 (fun c a w hq=>absurd hq.1 (by simp)) (.inl ⟨zBs ha hg hj hv,fun w' hw'=>?_⟩) hM ?_
 ·rw[ha.eval];exact hy w' hw' w' (Cl.refl w')
 ·rw[hd];exact h _ (ha.put hlt v)
theorem RL.takeN {L:List (Nat × Value)}{b0:Env}(i:Nat){o:Oper}{d:Nat}{j d2:Nat}{want:Bool}(hM:Mem w F0)(hB:(((Region.noSelect l.toArray&&Region.free .any l.toArray s i)&&(Region.ready .any l.toArray s).contains i)&&zEa .any l.toArray late s i)=true)
  (ho:l[i]?=some o) (hg:o.guard=some (j,want)) (hj:(l.toArray[j]?).bind (·.dst)=some d2) (hv:gd (ovl L b0 d2) want=some false) (hd:o.dst=some d) (hlt:Nat.blt d n.n=true)
  {m':Nat} (hm:m'=m+1) (h:RL P n l F0 late (s.setIfInBounds i true) m Q (ovl ((d,undef)::L) b0) w):RL P n l F0 late s m' Q (ovl L b0) w:=by
 subst hm
 intro a ha
 simp only[Bool.and_eq_true] at hB
 obtain⟨⟨⟨h1,h2⟩,h3⟩,h4⟩:=hB
 refine zE2 (oi:=o) (v:=undef) (by simpa using ho) h1 h2 h3 h4 (fun c a w hq=>absurd hq.1 (by simp)) (.inr ⟨zBs ha hg hj hv,rfl⟩) hM ?_
 rw[hd];exact h _ (ha.put hlt undef)
theorem RL.takeP {L:List (Nat × Value)}{b0:Env}(i:Nat){o:Oper}{d:Nat}{v:Value}(hB:(((Region.noSelect l.toArray&&Region.free .any l.toArray s i)&&(Region.ready .any l.toArray s).contains i)&&late.contains i)=true)
  (ho:l[i]?=some o) (hg:o.guard=none) (hd:o.dst=some d) (hlt:Nat.blt d n.n=true) (hy:∀ w,Yq P o (ovl L b0) w v)
  {m':Nat} (hm:m'=m+1) (h:RL P n l F0 late (s.setIfInBounds i true) m Q (ovl ((d,v)::L) b0) w):RL P n l F0 late s m' Q (ovl L b0) w:=by
 subst hm
 intro a ha
 simp only[Bool.and_eq_true] at hB
 obtain⟨⟨⟨h1,h2⟩,h3⟩,h4⟩:=hB
 refine zKN (oi:=o) (v:=v) (by simpa using ho) h1 h2 h3 (fun c a w hq=>absurd hq.1 (by simp)) (.inl ⟨by simp[Region.wanted,hg],fun w' _=>?_⟩) h4 ?_
 ·rw[ha.eval];exact hy w' w' (Cl.refl w')
 ·rw[hd];exact h _ (ha.put hlt v)
theorem RL.c1 (i:Nat){o:Oper}{m':Nat}(hm:m'=m+1)(hB:(Region.ready .any l.toArray s==[i])=true)(ho:l[i]?=some o)
  (h:OW P n l.toArray (thn (fun e' w'=>Mem w' F0∧RL P n l F0 late (s.setIfInBounds i true) m Q e' w') (fun _ _ _=>False)) [o] e w):RL P n l F0 late s m' Q e w:=by
 subst hm
 refine fun a ha=>zFl (rs:=[i]) (by simpa using hB) (by simp) (fun j hj=>?_)
 simp only[List.mem_singleton] at hj
 subst hj
 exact zA6 ho (fun a e w hf hk=>⟨fun _=>hk.1,hk.2 a hf⟩) h a ha
theorem RL.cl (i:Nat){o:Oper}{m':Nat}(hm:m'=m+1)(hB:((Region.ready .any l.toArray s==[i])&&late.contains i)=true)(ho:l[i]?=some o)
  (h:OW P n l.toArray (thn (fun e' w'=>RL P n l F0 late (s.setIfInBounds i true) m Q e' w') (fun _ _ _=>False)) [o] e w):RL P n l F0 late s m' Q e w:=by
 subst hm
 rw[Bool.and_eq_true] at hB
 refine fun a ha=>zFl (rs:=[i]) (by simpa using hB.1) (by simp) (fun j hj=>?_)
 simp only[List.mem_singleton] at hj
 subst hj
 exact zA6 ho (fun a e w hf hk=>⟨fun hl=>(by rw[hB.2] at hl;cases hl),hk a hf⟩) h a ha
theorem RL.c2 (i j:Nat){o o':Oper}{m':Nat}(hm:m'=m+1)(hB:(Region.ready .any l.toArray s==[i,j])=true)(ho:l[i]?=some o)(ho':l[j]?=some o')
  (h:OW P n l.toArray (thn (fun e' w'=>Mem w' F0∧RL P n l F0 late (s.setIfInBounds i true) m Q e' w') (fun _ _ _=>False)) [o] e w)
  (h':OW P n l.toArray (thn (fun e' w'=>Mem w' F0∧RL P n l F0 late (s.setIfInBounds j true) m Q e' w') (fun _ _ _=>False)) [o'] e w):RL P n l F0 late s m' Q e w:=by
 subst hm
 refine fun a ha=>zFl (rs:=[i,j]) (by simpa using hB) (by simp) (fun k hk=>?_)
 simp only[List.mem_cons,List.not_mem_nil,or_false] at hk
 rcases hk with rfl|rfl
 ·exact zA6 ho (fun a e w hf hk=>⟨fun _=>hk.1,hk.2 a hf⟩) h a ha
 ·exact zA6 ho' (fun a e w hf hk=>⟨fun _=>hk.1,hk.2 a hf⟩) h' a ha
theorem l1 {L:List (Nat × Value)}{b0:Env}{o:Oper}(i:Nat){d:Nat}{v:Value}(hM:Mem w F0)(hy:∀ w,Mem w F0→Yq P o (ovl L b0) w v)(h:RL P n l F0 late (s.setIfInBounds i true) m Q (ovl ((d,v)::L) b0) w){m':Nat}(hB:(((Region.noSelect l.toArray&&Region.free .any l.toArray s i)&&(Region.ready .any l.toArray s).contains i)&&zEa .any l.toArray late s i)=true:=by decide +kernel)
  (ho:l[i]?=some o:=by exact rfl) (hg:o.guard=none:=by exact rfl) (hd:o.dst=some d:=by exact rfl) (hlt:Nat.blt d n.n=true:=by exact rfl) (hm:m'=m+1:=by exact rfl):RL P n l F0 late s m' Q (ovl L b0) w:=RL.take i hM hB ho hg hd hlt hy hm h
theorem lT (S:Sig P){L:List (Nat × Value)}{b0:Env}{o:Oper}(i:Nat){d:Nat}{v:Value}(hM:Mem w F0)(h:RL P n l F0 late (s.setIfInBounds i true) m Q (ovl ((d,v)::L) b0) w){m':Nat}(hB:(((Region.noSelect l.toArray&&Region.free .any l.toArray s i)&&(Region.ready .any l.toArray s).contains i)&&zEa .any l.toArray late s i)=true:=by decide +kernel)
  (ho:l[i]?=some o:=by exact rfl) (hg:o.guard=none:=by exact rfl) (hd:o.dst=some d:=by exact rfl) (hlt:Nat.blt d n.n=true:=by exact rfl) (hm:m'=m+1:=by exact rfl) (hv:pvn S.tab (ovl L b0) o.op=some v:=by exact rfl):RL P n l F0 late s m' Q (ovl L b0) w:=RL.take i hM hB ho hg hd hlt (fun w _=>zB9 S hv w) hm h
theorem l6 {L:List (Nat × Value)}{b0:Env}{o:Oper}(i:Nat){d:Nat}{v:Value}(hy:∀ w,Yq P o (ovl L b0) w v)(h:RL P n l F0 late (s.setIfInBounds i true) m Q (ovl ((d,v)::L) b0) w){m':Nat}(hB:(((Region.noSelect l.toArray&&Region.free .any l.toArray s i)&&(Region.ready .any l.toArray s).contains i)&&late.contains i)=true:=by decide +kernel)
  (ho:l[i]?=some o:=by exact rfl) (hg:o.guard=none:=by exact rfl) (hd:o.dst=some d:=by exact rfl) (hlt:Nat.blt d n.n=true:=by exact rfl) (hm:m'=m+1:=by exact rfl):RL P n l F0 late s m' Q (ovl L b0) w:=RL.takeP i hB ho hg hd hlt hy hm h
theorem l7 {L:List (Nat × Value)}{b0:Env}{o:Oper}(i:Nat){d:Nat}{v:Value}{j d2:Nat}{want:Bool}(hM:Mem w F0)(hy:∀ w,Mem w F0→Yq P o (ovl L b0) w v)(h:RL P n l F0 late (s.setIfInBounds i true) m Q (ovl ((d,v)::L) b0) w){m':Nat}(hB:(((Region.noSelect l.toArray&&Region.free .any l.toArray s i)&&(Region.ready .any l.toArray s).contains i)&&zEa .any l.toArray late s i)=true:=by decide +kernel)
  (ho:l[i]?=some o:=by exact rfl) (hg:o.guard=some (j,want):=by exact rfl) (hj:(l.toArray[j]?).bind (·.dst)=some d2:=by exact rfl) (hv:gd (ovl L b0 d2) want=some true:=by exact rfl) (hd:o.dst=some d:=by exact rfl) (hlt:Nat.blt d n.n=true:=by exact rfl) (hm:m'=m+1:=by exact rfl):RL P n l F0 late s m' Q (ovl L b0) w:=RL.takeG i hM hB ho hg hj hv hd hlt hy hm h
theorem l8 {L:List (Nat × Value)}{b0:Env}{o:Oper}(i:Nat){d:Nat}{j d2:Nat}{want:Bool}(hM:Mem w F0)(h:RL P n l F0 late (s.setIfInBounds i true) m Q (ovl ((d,undef)::L) b0) w){m':Nat}(hB:(((Region.noSelect l.toArray&&Region.free .any l.toArray s i)&&(Region.ready .any l.toArray s).contains i)&&zEa .any l.toArray late s i)=true:=by decide +kernel)
  (ho:l[i]?=some o:=by exact rfl) (hg:o.guard=some (j,want):=by exact rfl) (hj:(l.toArray[j]?).bind (·.dst)=some d2:=by exact rfl) (hv:gd (ovl L b0 d2) want=some false:=by exact rfl) (hd:o.dst=some d:=by exact rfl) (hlt:Nat.blt d n.n=true:=by exact rfl) (hm:m'=m+1:=by exact rfl):RL P n l F0 late s m' Q (ovl L b0) w:=RL.takeN i hM hB ho hg hj hv hd hlt hm h
theorem l2 {o:Oper}(i:Nat)(h:OW P n l.toArray (thn (fun e' w'=>Mem w' F0∧RL P n l F0 late (s.setIfInBounds i true) m Q e' w') (fun _ _ _=>False)) [o] e w){m':Nat}(hB:(Region.ready .any l.toArray s==[i])=true:=by decide +kernel)(ho:l[i]?=some o:=by exact rfl)(hm:m'=m+1:=by exact rfl):RL P n l F0 late s m' Q e w:=RL.c1 i hm hB ho h
theorem l3 {o:Oper}(i:Nat)(h:OW P n l.toArray (thn (fun e' w'=>RL P n l F0 late (s.setIfInBounds i true) m Q e' w') (fun _ _ _=>False)) [o] e w){m':Nat}(hB:((Region.ready .any l.toArray s==[i])&&late.contains i)=true:=by decide +kernel)(ho:l[i]?=some o:=by exact rfl)(hm:m'=m+1:=by exact rfl):RL P n l F0 late s m' Q e w:=RL.cl i hm hB ho h
theorem l4 {o o':Oper}(i j:Nat)(h:OW P n l.toArray (thn (fun e' w'=>Mem w' F0∧RL P n l F0 late (s.setIfInBounds i true) m Q e' w') (fun _ _ _=>False)) [o] e w)
  (h':OW P n l.toArray (thn (fun e' w'=>Mem w' F0∧RL P n l F0 late (s.setIfInBounds j true) m Q e' w') (fun _ _ _=>False)) [o'] e w) {m':Nat} (hB:(Region.ready .any l.toArray s==[i,j])=true:=by decide +kernel) (ho:l[i]?=some o:=by exact rfl) (ho':l[j]?=some o':=by exact rfl) (hm:m'=m+1:=by exact rfl):RL P n l F0 late s m' Q e w:=RL.c2 i j hm hB ho ho' h h'
theorem l5 (hM:Mem w F0)(h:RL P n l F0 late s m Q e w):Mem w F0∧RL P n l F0 late s m Q e w:=⟨hM,h⟩
end
attribute [irreducible] RL
end Go.Sk
