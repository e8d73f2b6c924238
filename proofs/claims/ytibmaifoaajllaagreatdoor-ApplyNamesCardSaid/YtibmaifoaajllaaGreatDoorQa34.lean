/- Texts of ours, joined: the steps of the proof, or the claim's theorem. -/
import Derived.OrdersHeld
import Derived.Test.YtibmaifoaajllaaGreatDoorQa33
set_option linter.unusedSimpArgs false
set_option linter.unusedVariables false
set_option maxHeartbeats 16000000
namespace Go.Proofs.YtibmaifoaajllaaGreatDoor
open Go Go.Sk Go.RowKit
attribute [local irreducible] Go.Calls
theorem chkL (b:Bool)(x y:Int)(w:World):(Instr.checkKey b 10000 251 (.agg #[.int .i64 x,.int .i64 y])).run Tryz.prog w=.ok () w:=by
 have h3:∀ (v:Value) (w:World),(Instr.checkKey b 9999 3 v).run Tryz.prog w=.ok () w:=by
  intro v w
  show(Instr.checkKey b (9998+1) 3 v).run Tryz.prog w=_
  rw[Instr.checkKey]
  simp only[Sem.run_bind,run_underlying (show Tryz.prog.underlying 3=some (.int .i64) from sg.und (t:=3) rfl),Result.andThen_ok]
  rfl
 have hp:∀ (o:Nat) (v:Value),(#[Value.int .i64 x,Value.int .i64 y]:Array Value).toList[o]?=some v→(part 3 #[Value.int .i64 x,Value.int .i64 y] o).run Tryz.prog w=.ok v w:=fun o v h=>zC0 sg (t:=3) rfl _ o h w
 show(Instr.checkKey b (9999+1) 251 _).run Tryz.prog w=_
 rw[Instr.checkKey]
 simp only[Sem.run_bind,run_underlying (sg.und (t:=251) rfl),Result.andThen_ok]
 rw[← Array.forIn_toList]
 simp[Sem.run_bind,hp 0 (.int .i64 x) rfl,hp 1 (.int .i64 y) rfl,h3]
def KL:KeyT Tryz.prog 251 (Int × Int) where
 v:=pv2
 eq x y w:=by
  have:=zHQ sg (t:=251) rfl rfl (by kernel_rfl) (by decide +kernel) (cs:=[.int .i64 x.1,.int .i64 x.2]) (ds:=[.int .i64 y.1,.int .i64 y.2]) (r:=x.1==y.1&&(x.2==y.2&&true)) rfl w
  refine this.trans (congrArg (fun b=>Result.ok b w) ?_)
  rw[Bool.eq_iff_iff,Bool.and_true,Bool.and_eq_true,beq_iff_eq,beq_iff_eq,decide_eq_true_eq]
  exact Prod.ext_iff.symm
 chk b x w:=chkL b x.1 x.2 w
 same x:=by
  show Instr.sameBits (9999+1) _ _=true
  simp[Instr.sameBits,pv2]
 d:=_
 und:=sg.und (t:=251) rfl
 now x y:=.inl rfl
def rv4 (r:Row4):Value:=.agg r.cells.toArray
abbrev MR:=List (ME (Int × Int) Row4)
def RowsR (r:List Row4 × Int)(M:zH)(v:Value):Prop:=∃ a1 c1,v=.tuple #[.slice a1 r.1.length c1,.int .i64 r.2]∧SlA M 4 a1 r.1.length c1 (rwl r.1)
theorem rowC (l:List Row4):(List.range l.length).flatMap (rwl l)=l.flatMap Row4.cells:=zA8 Row4.cells l default
def uOf (v:MR):List Row4:=(v.map (·.2.1)).filter nzR
theorem zLX (es:MR)(c:Nat)(x:Int × Int)(v:Row4):(zFQ es c x v).length≤es.length+1:=by
 unfold zFQ
 split
 ·rw[List.length_modify];omega
 ·rw[List.length_append];exact zzC _
structure Pr3 where
 seen:Array Nat
 todo:MR
 vis:MR
 a:Option Addr
 cap:Nat
 M:zH
theorem c_Post {a ap:Option Addr}{cap cp:Nat}(l:List Row4)(hl:l.length≤100000)(hw:∀ j,j<l.length→(rw_ l j).wf)(p:List Pst){F:zH}(w0:World)(hF:Mem w0 F)(hs0:zNf F a cap l)(hp0:SlA F 4 ap p.length cp (qsl p)) :
  Calls Tryz.prog 193 [.slice a l.length cap,.slice ap p.length cp].toArray w0 (zn (RowsR (zAn l p)) w0):=by
 obtain⟨hn,hc,b0,off,cs,T,fr,hs⟩:=id hs0
 obtain⟨hn2,hc2,b2,off2,cs2,T2,fr2,hs2⟩:=id hp0
 cases hm:zAJ l with
 | false =>
   have e:zAn l p=([],4):=by unfold zAn;rw[hm];rfl
   refine enter [.tmp 4,.tmp 5] Tryz.func193 rfl Tryz.ntmps193 rfl rfl ?_
   have H:=zB w0
   repeat' (first|refine yT ?_|(refine' y30 zJg ?_ ?_;rotate_left;exact zJq l hw _ (H.memF hF) hs0;intro w hcl;replace H:=H.ext hcl;clear hcl)|refine yU ?_|(refine y23 ?_ ?_;all_goals(intro h;try (exfalso;first|((rw[hm] at h;cases h);done))))|fail)
   exact zCj (M:=[]) rfl rfl (H.sub (zz9 _)) ⟨none,0,by rw[e];rfl,by rw[e];exact SlA.nil⟩
 | true =>
 by_cases hq:zAd p=0
 ·obtain⟨q1,q2,q3⟩:=zIB hq
  have hbt:∀ q∈p,zCs q=false:=fun q hqm=>by
   rw[List.any_eq_false] at q2
   simpa using q2 q hqm
  have hd0:((zAd p != 0):Bool)=false:=by rw[hq];rfl
  have hpo:=zHb hm hq
  have hz:∀ w:World,(zeroValue 254).run Tryz.prog w=.ok (rv4 ⟨0,0,0,0⟩) w:=fun w=>Tryz.zeroValue254 w
  refine enter [.tmp 4,.tmp 5] Tryz.func193 rfl Tryz.ntmps193 rfl rfl ?_
  have H:=zB w0
  repeat' (first|refine yT ?_|(refine' y30 zJg ?_ ?_;rotate_left;exact zJq l hw _ (H.memF hF) hs0;intro w hcl;replace H:=H.ext hcl;clear hcl)|(refine' y30 zQl ?_ ?_;rotate_left;exact zN6 p _ (H.memF hF) hp0;intro w hcl;replace H:=H.ext hcl;clear hcl)|(refine m1 H ?_;intro bm w H)|refine yU ?_|(refine y23 ?_ ?_;all_goals(intro h;try (exfalso;first|((rw[hm] at h;cases h);done)|((rw[hd0] at h;cases h);done))))|fail)
  refine zA ?_
  refine zM [(9,10),(34,51)] (fun x:Nat × MR × Nat=>[(34,.int .i64 (x.1:Int))])
   (fun x w=>x.1≤l.length∧x.2.1.length≤x.1∧MI x.2.1 x.2.2∧(∀ s,atM x.2.1 s=(l.take x.1).find? fun r=>decide (zAD r=s))∧St w0 [(bm,mo KL rv4 x.2.1 x.2.2)] w) (fun x=>l.length - x.1) (0,[],0) ⟨rfl,trivial⟩ ⟨zzD _,zzC _,MI.nil,fun s=>rfl,H⟩ ?_
  clear H
  rintro⟨k,es,clock⟩ gh w ⟨hk,hle,hMI,hat,H⟩
  simp only at hk hle hMI hat H ⊢
  repeat' (first|refine yT ?_|refine yU ?_|fail)
  refine zJ rfl (fun h=>?_) (fun h=>?_)
  ·have hlt:k<l.length:=by have:=zzA h;omega
   clear h
   repeat' (first|refine yT ?_|refine y7 sg H ?_|(refine y10 sg H ?_;intro b w H)|(refine y11 sg H ?_;intro w H)|(refine y40 sg (hs) ?_ ?_ ?_;(omega);(omega))|(refine y42 sg (hs) ((H.memF hF)) ?_ ?_;(omega))|(refine m3 sg KL rv4 es (zAD (rw_ l k)) (rw_ l k) H (Up.there (Up.there Up.here)) rfl rfl ?_;intro w H)|refine yU ?_|with_reducible apply zA|fail)
   exact zK (k+1,_,_) rfl ⟨zZ (by omega),trivial⟩ ⟨hlt,Nat.le_trans (zLX _ _ _ _) (Nat.succ_le_succ hle),zHx hMI _ _,fun s=>by show atM (zFQ _ _ _ _) s=_;rw[zJw,zPP hm hlt,hat],(H.sub (zz7 _ _)).sub (zz7 _ _)⟩ (by show l.length - (k+1)<l.length - k;omega)
  obtain rfl:k=l.length:=by have:=zzB h;omega
  clear h hk
  rw[List.take_length] at hat
  have hat2:∀ s,atM es s=zE0 l (p.take 0) s:=fun s=>by rw[hat];exact zT5 hm s
  repeat' (first|refine yT ?_|refine yU ?_|fail)
  refine zA ?_
  refine zM [(12,14),(54,80)] (fun x:Nat × MR × Nat=>[(54,.int .i64 (x.1:Int))])
   (fun x w=>x.1≤p.length∧x.2.1.length≤l.length+x.1∧MI x.2.1 x.2.2∧(∀ s,atM x.2.1 s=zE0 l (p.take x.1) s)∧St w0 [(bm,mo KL rv4 x.2.1 x.2.2)] w) (fun x=>p.length - x.1) (0,es,clock) ⟨rfl,trivial⟩ ⟨zzD _,hle,hMI,hat2,H⟩ ?_
  clear H hat hat2 hMI hle
  rintro⟨k,es,clock⟩ gh w ⟨hk,hle,hMI,hat,H⟩
  simp only at hk hle hMI hat H ⊢
  repeat' (first|refine yT ?_|refine yU ?_|fail)
  refine zJ rfl (fun h=>?_) (fun h=>?_)
  ·have hlt:k<p.length:=by have:=zzA h;omega
   clear h
   have hok:∀ q∈p.take k,PstOk q:=fun q hqm=>zEW.1 (hbt q (List.mem_of_mem_take hqm))
   have hqk:=zEW.1 (hbt (qs_ p k) (zAK _ hlt))
   obtain⟨⟨d1,d2⟩,d3,d4⟩:=dl_bd hok ((qs_ p k).acct,(qs_ p k).asset)
   obtain⟨⟨r1,r2⟩,r3,r4⟩:=zIQ hm ((qs_ p k).acct,(qs_ p k).asset)
   have hlen:(p.take k).length≤64:=by rw[List.length_take];omega
   obtain⟨g1,g2⟩:=zRy l (p.take k) ((qs_ p k).acct,(qs_ p k).asset)
   rw[← hat] at g1 g2
   have f1:=hqk.f
   have f2:=hqk.h
   have w1:IntKind.i64.wrap (((atM es ((qs_ p k).acct,(qs_ p k).asset)).getD ⟨0,0,0,0⟩).free+(qs_ p k).free)=(zm l (p.take k) ((qs_ p k).acct,(qs_ p k).asset)).1+(qs_ p k).free:=by
    rw[g1];unfold zm;exact w64 (by simp only;omega) (by simp only;omega)
   have w2:IntKind.i64.wrap (((atM es ((qs_ p k).acct,(qs_ p k).asset)).getD ⟨0,0,0,0⟩).held+(qs_ p k).held)=(zm l (p.take k) ((qs_ p k).acct,(qs_ p k).asset)).2+(qs_ p k).held:=by
    rw[g2];unfold zm;exact w64 (by simp only;omega) (by simp only;omega)
   repeat' (first|refine yT ?_|refine y7 sg H ?_|(refine y10 sg H ?_;intro b w H)|(refine y11 sg H ?_;intro w H)|(refine y40 sg (hs2) ?_ ?_ ?_;(omega);(omega))|(refine y42 sg (hs2) ((H.memF hF)) ?_ ?_;(omega))|(refine zf rfl rfl (Yq.lookM sg KL rv4 es ((qs_ p k).acct,(qs_ p k).asset) ⟨0,0,0,0⟩ hz H.mem qC rfl rfl rfl rfl rfl) ?_)|(refine m3 sg KL rv4 es ((qs_ p k).acct,(qs_ p k).asset) ⟨(qs_ p k).acct,(qs_ p k).asset,IntKind.i64.wrap (((atM es ((qs_ p k).acct,(qs_ p k).asset)).getD ⟨0,0,0,0⟩).free+(qs_ p k).free),IntKind.i64.wrap (((atM es ((qs_ p k).acct,(qs_ p k).asset)).getD ⟨0,0,0,0⟩).held+(qs_ p k).held)⟩ H (Up.there (Up.there (Up.there Up.here))) rfl rfl ?_;intro w H)|refine yU ?_|with_reducible apply zA|fail)
   exact zK (k+1,_,_) rfl ⟨zZ (by omega),trivial⟩ ⟨hlt,Nat.le_trans (zLX _ _ _ _) (Nat.succ_le_succ hle),zHx hMI _ _,fun s=>by show atM (zFQ _ _ _ _) s=_;rw[zJw,w1,w2,zKJ hlt,zRz,hat],((H.sub (zz7 _ _)).sub (zz7 _ _)).sub (zz7 _ _)⟩ (by show p.length - (k+1)<p.length - k;omega)
  obtain rfl:k=p.length:=by have:=zzB h;omega
  clear h hk
  rw[List.take_length] at hat
  repeat' (first|refine yT ?_|(refine m8 sg KL rv4 es H (zz2 _) ?_;intro r w H)|refine yU ?_|fail)
  refine zA ?_
  have hgood:∀ e∈es,e.2.1=zFY l p e.1:=fun e he=>by
   have h:=zKK hMI he
   rw[hat] at h
   unfold zE0 at h
   split at h
   ·exact(Option.some.inj h).symm
   ·cases h
  have hok:∀ q∈p,PstOk q:=fun q hqm=>zEW.1 (hbt q hqm)
  have hbd:∀ e∈es,(-9223372036854775808≤e.2.1.free∧e.2.1.free≤9223372036854775807)∧-9223372036854775808≤e.2.1.held∧e.2.1.held≤9223372036854775807:=fun e he=>by
   rw[hgood e he]
   obtain⟨⟨d1,d2⟩,d3,d4⟩:=dl_bd hok e.1
   obtain⟨⟨r1,r2⟩,r3,r4⟩:=zIQ hm e.1
   unfold zFY zm
   simp only
   omega
  refine zM [(15,16),(18,19),(83,107)] (fun x:Pr3=>[(15,.int .i64 (wOf (x.vis.map (·.2.1)))),(16,.slice x.a (uOf x.vis).length x.cap)])
   (fun x w=>(x.vis++x.todo).Perm es∧Todo es x.seen x.todo∧Go.Sk.Own x.M 254 4 x.a (uOf x.vis).length x.cap ((uOf x.vis).flatMap Row4.cells)∧St w0 ((r,Obj.mapIter (some bm) clock x.seen clock)::(bm,mo KL rv4 es clock)::x.M) w) (fun x=>x.todo.length) ⟨#[],es,[],none,0,[]⟩ ⟨rfl,rfl,trivial⟩ ⟨List.Perm.refl _,Todo.start es,zTC _ _ _,H⟩ ?_
  clear H
  rintro⟨seen,todo,vis,ao,co,M⟩ gh w ⟨hP,hT,hO,H⟩
  simp only at hP hT hO H ⊢
  have hvl:(uOf vis).length≤es.length:=by
   have h1:=hP.length_eq
   rw[List.length_append] at h1
   have h2:(uOf vis).length≤vis.length:=by unfold uOf;exact Nat.le_trans (List.length_filter_le _ _) (by rw[List.length_map];exact zzC _)
   omega
  repeat' (first|refine yT ?_|(refine m9 KL rv4 es H (zz5 _ (zz2 _)) (zz2 _) hMI (zzC _) hT ?_ ?_)|refine yU ?_|fail)
  ·intro h0
   subst h0
   rw[List.append_nil] at hP
   have hv:∀ x,x∈vis.map (·.2.1)↔zE0 l p (zAD x)=some x:=fun x=>by
    rw[List.mem_map]
    constructor
    ·rintro⟨e,he,rfl⟩
     have he:=hP.mem_iff.1 he
     have h:=zKK hMI he
     rw[hat] at h
     have hk:zAD e.2.1=e.1:=by rw[hgood e he];rfl
     rw[hk];exact h
    ·intro h
     rw[← hat] at h
     obtain⟨e,he,_,h2⟩:=zLT h
     exact⟨e,hP.mem_iff.2 he,h2⟩
   obtain⟨hwo,hmem⟩:=zT6 hm hbt hv
   rw[hwo]
   by_cases hw0:zAt (zm l p)=0
   ·have d0:(zAt (zm l p) != 0)=false:=by rw[hw0];rfl
    rw[if_pos hw0] at hpo
    have hkeys:((uOf vis).map zAD).Nodup:=by
     have h1:(vis.map (·.1)).Nodup:=(hP.map _).nodup_iff.2 hMI.keys
     have h2:(vis.map (·.2.1)).map zAD=vis.map (·.1):=by
      rw[List.map_map]
      exact List.map_congr_left fun e he=>by show zAD e.2.1=e.1;rw[hgood e (hP.mem_iff.1 he)];rfl
     unfold uOf
     exact((List.filter_sublist (l:=vis.map (·.2.1)) (p:=nzR)).map zAD).nodup (h2 ▸ h1)
    have huniq:∀ m:List Row4,m.Perm (uOf vis)→m.Pairwise (fun a b=>ltOf cfE b a=false)→m=mkR (zm l p):=fun m h1 h2=>zMv h1 h2 hkeys (zHW _) fun x=>hmem x
    have hO1:=hO
    obtain⟨u,hu⟩:∃ u,uOf vis=u:=⟨_,rfl⟩
    rw[hu] at hO huniq hkeys hvl ⊢
    rcases Nat.eq_zero_or_pos u.length with hz0|hz0
    ·obtain rfl:=List.length_eq_zero_iff.1 hz0
     have hmk:=huniq [] (List.Perm.refl _) List.Pairwise.nil
     have e:zAn l p=([],0):=by rw[hpo,← hmk]
     repeat' (first|refine yT ?_|refine yU ?_|fail)
     refine CW.condF (congrArg Value.bool d0) ?_
     repeat' (first|refine yT ?_|(refine' y30 zQm ?_ ?_;rotate_left;exact zMu (a:=ao) (cap:=co);intro w hcl;replace H:=H.ext hcl;clear hcl)|refine yU ?_|fail)
     refine zA ?_
     refine zM [(20,20),(22,22),(115,133)] (fun _:Unit=>[(115,.int .i64 0),(20,.slice none 0 0)]) (fun _ w=>St w0 [] w) (fun _=>0) () ⟨rfl,rfl,trivial⟩ (H.sub (zz9 _)) ?_
     clear H
     rintro _ gh w H
     have d1:decide ((0:Int)<((([]:List Row4).length:Nat):Int))=false:=rfl
     repeat' (first|refine yT ?_|refine yU ?_|fail)
     exact zCj (M:=[]) rfl rfl H ⟨none,0,by rw[e];rfl,by rw[e];exact SlA.nil⟩
    ·have hel:u.flatMap Row4.cells=(List.range u.length).flatMap (rwl u):=(rowC u).symm
     rw[hel] at hO
     obtain⟨g,cs3,rfl,rfl,hcap3,hE3⟩:=hO.els hz0 (fun j _=>rfl)
     clear hO
     replace H:=H.perm (List.perm_append_comm (l₁:=[_,_]) (l₂:=[_]))
     simp only[List.cons_append,List.nil_append] at H
     have hcl3:u.length*4≤cs3.length:=by have:=(hE3 (u.length - 1) (by omega)).1;omega
     repeat' (first|refine yT ?_|refine yU ?_|fail)
     refine CW.condF (congrArg Value.bool d0) ?_
     repeat' (first|refine yT ?_|(refine zc rfl rfl (En.fn zQm rfl rfl) (zPa u (by omega) H hE3 hcl3) ?_;rintro _ _ w ⟨rfl,cs4,m,rfl,hl4,hp4,hs4,he4⟩ H2;clear H;have H:=H2;clear H2)|refine yU ?_|fail)
     have hmk:=huniq m hp4 hs4
     have hml:=hp4.length_eq
     have e:zAn l p=(m,0):=by rw[hpo,← hmk]
     replace he4:Els cs4 4 m.length (rwl m):=he4
     have hs5:=he4.slb (F:=[cb g cs4 254]) (T:=254) (zz2 _)
     replace H:St w0 [cb g cs4 254] w:=H.sub (List.Sublist.cons_cons _ (zz9 _))
     rw[← hml]
     refine zA ?_
     refine zM [(20,20),(22,22),(115,133)] (fun x:Gr=>[(115,.int .i64 (x.k:Int)),(20,.slice x.a x.k x.cap)]) (fun x w=>x.k≤m.length∧Go.Sk.Own x.M 70 4 x.a x.k x.cap ((m.take x.k).flatMap Row4.cells)∧St w0 (cb g cs4 254::x.M) w) (fun x=>m.length - x.k) ⟨0,none,0,[]⟩ ⟨rfl,rfl,trivial⟩ ⟨zzD _,zTC _ _ _,H⟩ ?_
     clear H
     rintro⟨k,ao,co,M⟩ gh w ⟨hk,hO,H⟩
     simp only at hk hO H ⊢
     repeat' (first|refine yT ?_|refine yU ?_|fail)
     refine zJ rfl (fun h=>?_) (fun h=>?_)
     ·have hlt:k<m.length:=by have:=zzA h;omega
      clear h
      have htk:m.take (k+1)=m.take k++[rw_ m k]:=by rw[List.take_succ_eq_append_getElem hlt];simp[rw_,List.getElem?_eq_getElem hlt]
      repeat' (first|refine yT ?_|refine y7 sg H ?_|(refine y10 sg H ?_;intro b w H)|(refine y11 sg H ?_;intro w H)|(refine y40 sg (hs5) ?_ ?_ ?_;(omega);(omega))|(refine y42 sg (hs5) ((H.mem.sub (by intro p hp;simp only[List.mem_singleton] at hp;subst hp;exact qC))) ?_ ?_;(omega))|((with_reducible apply OX.buildA sg H);exact rfl;exact rfl;exact rfl;exact rfl;exact rfl;exact rfl;exact rfl;exact rfl;exact rfl;exact rfl;exact rfl;exact rfl;intro b w H _)|(have hp:=H.perm (List.perm_append_comm (l₁:=[_,_,_]) (l₂:=M));refine zo sg 4 32 (M:=M) hp rfl rfl rfl rfl rfl rfl rfl rfl rfl rfl rfl hO (zAM hp.mem (zz3 _ (zz2 _))) rfl (zAh rfl) (by unfold maxLen;omega) (by omega) ?_;clear hp hO;intro ao co M w hO H;replace H:=H.perm (List.perm_append_comm (l₁:=M) (l₂:=[_,_,_])))|refine yU ?_|with_reducible apply zA|fail)
      exact zK ⟨k+1,ao,co,M⟩ rfl ⟨zZ (by omega),rfl,trivial⟩ ⟨hlt,by show Go.Sk.Own M _ 4 ao (k+1) co _;rw[htk,List.flatMap_append,List.flatMap_singleton];exact hO,(H.sub (zz7 _ _)).sub (zz7 _ _)⟩ (by show m.length - (k+1)<m.length - k;omega)
     ·obtain rfl:k=m.length:=by have:=zzB h;omega
      clear h
      rw[List.take_length,← rowC m] at hO
      repeat' (first|refine yT ?_|refine yU ?_|fail)
      refine zCj (M:=M) rfl rfl (H.sub (zz7 _ _)) ⟨ao,co,by rw[e],?_⟩
      rw[e]
      exact hO.sl (fun _ h=>h) (fun _ _=>rfl) (by omega)
   ·have d0:(zAt (zm l p) != 0)=true:=by simpa using hw0
    rw[if_neg hw0] at hpo
    repeat' (first|refine yT ?_|refine yU ?_|fail)
    refine CW.condT (congrArg Value.bool d0) ?_
    repeat' (first|refine yT ?_|refine yU ?_|fail)
    exact zCj (M:=[]) rfl rfl (H.sub (zz9 _)) ⟨none,0,by rw[hpo];rfl,by rw[hpo];exact SlA.nil⟩
  ·intro e todo2 w hperm he hT2 hH
   have H2:=hH _ Up.here
   clear H hH
   have H:=H2
   clear H2
   obtain⟨⟨b1,b2⟩,b3,b4⟩:=hbd e he
   have hws:=zR1 (vis.map (·.2.1)) e.2.1
   have hms:(vis++[e]).map (·.2.1)=vis.map (·.2.1)++[e.2.1]:=by rw[List.map_append];rfl
   have hP2:((vis++[e])++todo2).Perm es:=by
    refine List.Perm.trans ?_ hP
    rw[List.append_assoc]
    exact List.Perm.append_left _ hperm.symm
   have hlt2:todo2.length<todo.length:=by have:=hperm.length_eq;simp only[List.length_cons] at this;omega
   have k1:(zAN e.2.1.acct e.2.1.free e.2.1.held==47)=true→wOf ((vis++[e]).map (·.2.1))=zAN e.2.1.acct e.2.1.free e.2.1.held:=fun h=>by
    rw[hms,hws,if_pos (.inl (eq_of_beq h))];rfl
   have k2:(zAN e.2.1.acct e.2.1.free e.2.1.held==47)=false→(wOf (vis.map (·.2.1))==0)=true→wOf ((vis++[e]).map (·.2.1))=zAN e.2.1.acct e.2.1.free e.2.1.held:=fun _ h=>by
    rw[hms,hws,if_pos (.inr (eq_of_beq h))];rfl
   have k3:(zAN e.2.1.acct e.2.1.free e.2.1.held==47)=false→(wOf (vis.map (·.2.1))==0)=false→wOf ((vis++[e]).map (·.2.1))=wOf (vis.map (·.2.1)):=fun h h'=>by
    rw[hms,hws,if_neg];rintro(g|g)
    ·rw[beq_eq_false_iff_ne] at h;exact h g
    ·rw[beq_eq_false_iff_ne] at h';exact h' g
   have n1:(e.2.1.free != 0)=true→uOf (vis++[e])=uOf vis++[e.2.1]:=fun h=>by
    unfold uOf;rw[hms,List.filter_append,List.filter_cons_of_pos (by unfold nzR;rw[h];rfl),List.filter_nil]
   have n2:(e.2.1.free != 0)=false→(e.2.1.held != 0)=true→uOf (vis++[e])=uOf vis++[e.2.1]:=fun h h'=>by
    unfold uOf;rw[hms,List.filter_append,List.filter_cons_of_pos (by unfold nzR;rw[h,h'];rfl),List.filter_nil]
   have n3:(e.2.1.free != 0)=false→(e.2.1.held != 0)=false→uOf (vis++[e])=uOf vis:=fun h h'=>by
    unfold uOf;rw[hms,List.filter_append,List.filter_cons_of_neg (by unfold nzR;rw[h,h'];decide),List.filter_nil,List.append_nil]
   repeat' (first|refine yT ?_|refine y7 sg H ?_|(refine y10 sg H ?_;intro b w H)|(refine y11 sg H ?_;intro w H)|refine z13 (Yq.entryM KL rv4 es H.mem (zz2 _) (zz5 _ (zz2 _)) he hMI.stamps rfl rfl) ?_|(refine' y30 zQk ?_ ?_;rotate_left;exact zNc _ _ _ _ _ b1 b2 b3 b4;intro w hcl;replace H:=H.ext hcl;clear hcl)|((with_reducible apply OX.buildA sg H);exact rfl;exact rfl;exact rfl;exact rfl;exact rfl;exact rfl;exact rfl;exact rfl;exact rfl;exact rfl;exact rfl;exact rfl;intro b w H _)|(have hp:=H.perm (List.perm_append_comm (l₁:=[_,_,_,_]) (l₂:=M));refine zo sg 4 32 (M:=M) hp rfl rfl rfl rfl rfl rfl rfl rfl rfl rfl rfl hO (zAM hp.mem (zz3 _ (zz2 _))) rfl (zAh rfl) (by unfold maxLen;omega) (by omega) ?_;clear hp hO;intro ao co M w hO H;replace H:=H.perm (List.perm_append_comm (l₁:=M) (l₂:=[_,_,_,_])))|refine yU ?_|(refine y17 ?_ ?_;all_goals intro h)|with_reducible apply zA|(refine y23 ?_ ?_;all_goals intro h)|fail)
   ·have hU:=n1 (by assumption)
    refine zK ⟨seen.push e.2.2,todo2,vis++[e],ao,co,M⟩ rfl ⟨congrArg (Value.int .i64) (k1 (by assumption)).symm,?_,trivial⟩ ⟨hP2,hT2,?_,?_⟩ hlt2
    ·show Value.slice ao _ co=Value.slice ao (uOf (vis++[e])).length co
     rw[hU,List.length_append];rfl
    ·show Go.Sk.Own M _ 4 ao (uOf (vis++[e])).length co ((uOf (vis++[e])).flatMap Row4.cells)
     rw[hU,List.length_append,List.flatMap_append,List.flatMap_singleton];exact hO
    ·exact(H.sub (zz7 _ _)).sub (zz7 _ _)
   ·have hU:=n2 (by assumption) (by assumption)
    refine zK ⟨seen.push e.2.2,todo2,vis++[e],ao,co,M⟩ rfl ⟨congrArg (Value.int .i64) (k1 (by assumption)).symm,?_,trivial⟩ ⟨hP2,hT2,?_,?_⟩ hlt2
    ·show Value.slice ao _ co=Value.slice ao (uOf (vis++[e])).length co
     rw[hU,List.length_append];rfl
    ·show Go.Sk.Own M _ 4 ao (uOf (vis++[e])).length co ((uOf (vis++[e])).flatMap Row4.cells)
     rw[hU,List.length_append,List.flatMap_append,List.flatMap_singleton];exact hO
    ·exact(H.sub (zz7 _ _)).sub (zz7 _ _)
   ·have hU:=n3 (by assumption) (by assumption)
    refine zK ⟨seen.push e.2.2,todo2,vis++[e],ao,co,M⟩ rfl ⟨congrArg (Value.int .i64) (k1 (by assumption)).symm,?_,trivial⟩ ⟨hP2,hT2,?_,?_⟩ hlt2
    ·show Value.slice ao _ co=Value.slice ao (uOf (vis++[e])).length co
     rw[hU]
    ·show Go.Sk.Own M _ 4 ao (uOf (vis++[e])).length co ((uOf (vis++[e])).flatMap Row4.cells)
     rw[hU];exact hO
    ·exact H.sub (zz7 _ _)
   ·have hU:=n1 (by assumption)
    refine zK ⟨seen.push e.2.2,todo2,vis++[e],ao,co,M⟩ rfl ⟨congrArg (Value.int .i64) (k2 (by assumption) (by assumption)).symm,?_,trivial⟩ ⟨hP2,hT2,?_,?_⟩ hlt2
    ·show Value.slice ao _ co=Value.slice ao (uOf (vis++[e])).length co
     rw[hU,List.length_append];rfl
    ·show Go.Sk.Own M _ 4 ao (uOf (vis++[e])).length co ((uOf (vis++[e])).flatMap Row4.cells)
     rw[hU,List.length_append,List.flatMap_append,List.flatMap_singleton];exact hO
    ·exact(H.sub (zz7 _ _)).sub (zz7 _ _)
   ·have hU:=n2 (by assumption) (by assumption)
    refine zK ⟨seen.push e.2.2,todo2,vis++[e],ao,co,M⟩ rfl ⟨congrArg (Value.int .i64) (k2 (by assumption) (by assumption)).symm,?_,trivial⟩ ⟨hP2,hT2,?_,?_⟩ hlt2
    ·show Value.slice ao _ co=Value.slice ao (uOf (vis++[e])).length co
     rw[hU,List.length_append];rfl
    ·show Go.Sk.Own M _ 4 ao (uOf (vis++[e])).length co ((uOf (vis++[e])).flatMap Row4.cells)
     rw[hU,List.length_append,List.flatMap_append,List.flatMap_singleton];exact hO
    ·exact(H.sub (zz7 _ _)).sub (zz7 _ _)
   ·have hU:=n3 (by assumption) (by assumption)
    refine zK ⟨seen.push e.2.2,todo2,vis++[e],ao,co,M⟩ rfl ⟨congrArg (Value.int .i64) (k2 (by assumption) (by assumption)).symm,?_,trivial⟩ ⟨hP2,hT2,?_,?_⟩ hlt2
    ·show Value.slice ao _ co=Value.slice ao (uOf (vis++[e])).length co
     rw[hU]
    ·show Go.Sk.Own M _ 4 ao (uOf (vis++[e])).length co ((uOf (vis++[e])).flatMap Row4.cells)
     rw[hU];exact hO
    ·exact H.sub (zz7 _ _)
   ·have hU:=n1 (by assumption)
    refine zK ⟨seen.push e.2.2,todo2,vis++[e],ao,co,M⟩ rfl ⟨congrArg (Value.int .i64) (k3 (by assumption) (by assumption)).symm,?_,trivial⟩ ⟨hP2,hT2,?_,?_⟩ hlt2
    ·show Value.slice ao _ co=Value.slice ao (uOf (vis++[e])).length co
     rw[hU,List.length_append];rfl
    ·show Go.Sk.Own M _ 4 ao (uOf (vis++[e])).length co ((uOf (vis++[e])).flatMap Row4.cells)
     rw[hU,List.length_append,List.flatMap_append,List.flatMap_singleton];exact hO
    ·exact(H.sub (zz7 _ _)).sub (zz7 _ _)
   ·have hU:=n2 (by assumption) (by assumption)
    refine zK ⟨seen.push e.2.2,todo2,vis++[e],ao,co,M⟩ rfl ⟨congrArg (Value.int .i64) (k3 (by assumption) (by assumption)).symm,?_,trivial⟩ ⟨hP2,hT2,?_,?_⟩ hlt2
    ·show Value.slice ao _ co=Value.slice ao (uOf (vis++[e])).length co
     rw[hU,List.length_append];rfl
    ·show Go.Sk.Own M _ 4 ao (uOf (vis++[e])).length co ((uOf (vis++[e])).flatMap Row4.cells)
     rw[hU,List.length_append,List.flatMap_append,List.flatMap_singleton];exact hO
    ·exact(H.sub (zz7 _ _)).sub (zz7 _ _)
   ·have hU:=n3 (by assumption) (by assumption)
    refine zK ⟨seen.push e.2.2,todo2,vis++[e],ao,co,M⟩ rfl ⟨congrArg (Value.int .i64) (k3 (by assumption) (by assumption)).symm,?_,trivial⟩ ⟨hP2,hT2,?_,?_⟩ hlt2
    ·show Value.slice ao _ co=Value.slice ao (uOf (vis++[e])).length co
     rw[hU]
    ·show Go.Sk.Own M _ 4 ao (uOf (vis++[e])).length co ((uOf (vis++[e])).flatMap Row4.cells)
     rw[hU];exact hO
    ·exact H.sub (zz7 _ _)
 ·have e:zAn l p=([],zAd p):=by unfold zAn;rw[if_pos hm,if_neg hq]
  have hd0:((zAd p != 0):Bool)=true:=by simpa using hq
  refine enter [.tmp 4,.tmp 5] Tryz.func193 rfl Tryz.ntmps193 rfl rfl ?_
  have H:=zB w0
  repeat' (first|refine yT ?_|(refine' y30 zJg ?_ ?_;rotate_left;exact zJq l hw _ (H.memF hF) hs0;intro w hcl;replace H:=H.ext hcl;clear hcl)|(refine' y30 zQl ?_ ?_;rotate_left;exact zN6 p _ (H.memF hF) hp0;intro w hcl;replace H:=H.ext hcl;clear hcl)|refine yU ?_|(refine y23 ?_ ?_;all_goals(intro h;try (exfalso;first|((rw[hm] at h;cases h);done)|((rw[hd0] at h;cases h);done))))|fail)
  exact zCj (M:=[]) rfl rfl (H.sub (zz9 _)) ⟨none,0,by rw[e];rfl,by rw[e];exact SlA.nil⟩
end Go.Proofs.YtibmaifoaajllaaGreatDoor
namespace Go.Sk
section
open Go Go.RowKit
attribute [local semireducible] CW OW OX QW QX Yq RA
def RH (P:Program)(n:Nw)(l:List Oper)(F0:zH)(s:Array Bool)(m:Nat)(Q:zAX)(e:Env)(w:World):Prop :=
 Mem w F0∧∀ a,Fits n a e→wpAnyH P .any l.toArray (nrm n Q) (fun w=>Mem w F0) m s a w
section
variable {P:Program}{n:Nw}{id:Nat}{Q:zAX}{e:Env}{w:World}{l:List Oper}{s:Array Bool}{m:Nat}{F0:zH}
theorem zMw (hm:P.follows .mixedOrders=true)(N:Nat)(_hM0:Mem w F0)(hN:Nat.beq l.length N=true)(h:∀ w',Cl w w'→RH P n l F0 (Array.replicate N false) N Q e w')(hnd:zC7 l=true:=by exact rfl):CW P n (.region id l.toArray true) Q e w :=
 zA5 hm N hN (fun w' hw a ha=>wpAny_of_held _ _ _ _ ((h w' hw).2 a ha)) hnd
theorem RH.nil (hM:Mem w F0)(hr:(Region.ready .any l.toArray s).isEmpty=true)(h:Q .normal e w):RH P n l F0 s m Q e w :=
 ⟨hM,fun a ha=>wpAnyH_done (by simpa using hr) ⟨rfl,nofun,e,ha,h⟩ m⟩
theorem RH.take {L:List (Nat × Value)}{b0:Env}(i:Nat){o:Oper}{d:Nat}{v:Value}(hM:Mem w F0)(hB:((Region.noSelect l.toArray&&Region.free .any l.toArray s i)&&(Region.ready .any l.toArray s).contains i)=true)
  (ho:l[i]?=some o) (hg:o.guard=none) (hd:o.dst=some d) (hlt:Nat.blt d n.n=true) (hy:∀ w,Mem w F0→Yq P o (ovl L b0) w v)
  {m':Nat} (hm:m'=m+1) (h:RH P n l F0 (s.setIfInBounds i true) m Q (ovl ((d,v)::L) b0) w):RH P n l F0 s m' Q (ovl L b0) w:=by
 subst hm
 refine⟨hM,fun a ha=>?_⟩
 simp only[Bool.and_eq_true] at hB
 obtain⟨⟨h1,h2⟩,h3⟩:=hB
 refine wpAnyH_take (oi:=o) (v:=v) (by simpa using ho) h1 h2 h3 (fun c a w hq=>absurd hq.1 (by simp)) (.inl ⟨by simp[Region.wanted,hg],fun w' hw'=>?_⟩) hM ?_
 ·rw[ha.eval];exact hy w' hw' w' (Cl.refl w')
 ·rw[hd];exact h.2 _ (ha.put hlt v)
theorem RH.c1 (i:Nat){o:Oper}{m':Nat}(hM:Mem w F0)(hm:m'=m+1)(hB:(Region.ready .any l.toArray s==[i])=true)(ho:l[i]?=some o)
  (h:OW P n l.toArray (thn (fun e' w'=>RH P n l F0 (s.setIfInBounds i true) m Q e' w') (fun _ _ _=>False)) [o] e w):RH P n l F0 s m' Q e w:=by
 subst hm
 refine⟨hM,fun a ha=>wpAnyH_all (rs:=[i]) (by simpa using hB) (by simp) (fun j hj=>?_)⟩
 simp only[List.mem_singleton] at hj
 subst hj
 exact zA9 ho (fun a e w hf hk=>⟨hk.1,hk.2 a hf⟩) h a ha
theorem RH.c2 (i j:Nat){o o':Oper}{m':Nat}(hM:Mem w F0)(hm:m'=m+1)(hB:(Region.ready .any l.toArray s==[i,j])=true)(ho:l[i]?=some o)(ho':l[j]?=some o')
  (h:OW P n l.toArray (thn (fun e' w'=>RH P n l F0 (s.setIfInBounds i true) m Q e' w') (fun _ _ _=>False)) [o] e w)
  (h':OW P n l.toArray (thn (fun e' w'=>RH P n l F0 (s.setIfInBounds j true) m Q e' w') (fun _ _ _=>False)) [o'] e w):RH P n l F0 s m' Q e w:=by
 subst hm
 refine⟨hM,fun a ha=>wpAnyH_all (rs:=[i,j]) (by simpa using hB) (by simp) (fun k hk=>?_)⟩
 simp only[List.mem_cons,List.not_mem_nil,or_false] at hk
 rcases hk with rfl|rfl
 ·exact zA9 ho (fun a e w hf hk=>⟨hk.1,hk.2 a hf⟩) h a ha
 ·exact zA9 ho' (fun a e w hf hk=>⟨hk.1,hk.2 a hf⟩) h' a ha
theorem RH.c3 (i j r:Nat){o o' o'':Oper}{m':Nat}(hM:Mem w F0)(hm:m'=m+1)(hB:(Region.ready .any l.toArray s==[i,j,r])=true)(ho:l[i]?=some o)(ho':l[j]?=some o')(ho'':l[r]?=some o'')
  (h:OW P n l.toArray (thn (fun e' w'=>RH P n l F0 (s.setIfInBounds i true) m Q e' w') (fun _ _ _=>False)) [o] e w)
  (h':OW P n l.toArray (thn (fun e' w'=>RH P n l F0 (s.setIfInBounds j true) m Q e' w') (fun _ _ _=>False)) [o'] e w)
  (h'':OW P n l.toArray (thn (fun e' w'=>RH P n l F0 (s.setIfInBounds r true) m Q e' w') (fun _ _ _=>False)) [o''] e w):RH P n l F0 s m' Q e w:=by
 subst hm
 refine⟨hM,fun a ha=>wpAnyH_all (rs:=[i,j,r]) (by simpa using hB) (by simp) (fun k hk=>?_)⟩
 simp only[List.mem_cons,List.not_mem_nil,or_false] at hk
 rcases hk with rfl|rfl|rfl
 ·exact zA9 ho (fun a e w hf hk=>⟨hk.1,hk.2 a hf⟩) h a ha
 ·exact zA9 ho' (fun a e w hf hk=>⟨hk.1,hk.2 a hf⟩) h' a ha
 ·exact zA9 ho'' (fun a e w hf hk=>⟨hk.1,hk.2 a hf⟩) h'' a ha
end
theorem z3 {P:Program}(S:Sig P){o:Oper}{e:Env}{F0:zH}{v:Value}{t:TypeId}{x:Operand}{b' off:Nat}{cs:List Value}{T:TypeId}{fr:Nat × Nat}{ti:TI}(ho:o.op=.load t x:=by exact rfl)(hx:ev e x=.pointer (some ⟨b',off,none⟩):=by exact rfl)
  (hm:(b',Obj.cells cs.toArray T fr)∈F0:=by repeat (first|exact zz2 _|refine zz5 _ ?_)) (ht:lk S.tab t=some ti:=by exact rfl) (hl:ldS ti cs off=some v:=by exact rfl):∀ w,Mem w F0→Yq P o e w v:=fun _ hM=>zG S ho hx hM hm ht hl
theorem z4 {P:Program}(S:Sig P){o:Oper}{e:Env}{F0:zH}{v:Value}(h:pvn S.tab e o.op=some v:=by exact rfl):∀ w,Mem w F0→Yq P o e w v:=fun w _=>zCU S h w
theorem z6 {w0 w:World}{L F:zH}{x y:Nat × Obj}(H:St w0 L w)(hF:Mem w0 F)(hx:x∈L:=by repeat (first|exact zz2 _|refine zz5 _ ?_))(hy:y∈L:=by repeat (first|exact zz2 _|refine zz5 _ ?_)):Mem w (x::y::F):=fun p hp=>by
 rcases List.mem_cons.1 hp with rfl|hp
 ·exact H.mem _ hx
 ·rcases List.mem_cons.1 hp with rfl|hp
  ·exact H.mem _ hy
  ·exact H.memF hF _ hp
theorem z7 {w0 w:World}{L:zH}{x:Nat × Obj}(H:St w0 L w)(hx:x∈L:=by repeat (first|exact zz2 _|refine zz5 _ ?_)):Mem w [x]:=H.mem.sub (by intro p hp;rw[List.mem_singleton] at hp;exact hp ▸ hx)
section
variable {P:Program}{n:Nw}{Q:zAX}{e:Env}{w:World}{l:List Oper}{s:Array Bool}{m:Nat}{F0:zH}{o:Oper}
theorem z1 {L:List (Nat × Value)}{b0:Env}(i:Nat){d:Nat}{v:Value}(hM:Mem w F0)(hy:∀ w,Mem w F0→Yq P o (ovl L b0) w v)(h:RH P n l F0 (s.setIfInBounds i true) m Q (ovl ((d,v)::L) b0) w){m':Nat}(hB:((Region.noSelect l.toArray&&Region.free .any l.toArray s i)&&(Region.ready .any l.toArray s).contains i)=true:=by decide +kernel)
  (ho:l[i]?=some o:=by exact rfl) (hg:o.guard=none:=by exact rfl) (hd:o.dst=some d:=by exact rfl) (hlt:Nat.blt d n.n=true:=by exact rfl) (hm:m'=m+1:=by exact rfl):RH P n l F0 s m' Q (ovl L b0) w:=RH.take i hM hB ho hg hd hlt hy hm h
theorem z12 (i:Nat)(hM:Mem w F0)(h:OW P n l.toArray (thn (fun e' w'=>RH P n l F0 (s.setIfInBounds i true) m Q e' w') (fun _ _ _=>False)) [o] e w){m':Nat}(hB:(Region.ready .any l.toArray s==[i])=true:=by decide +kernel)(ho:l[i]?=some o:=by exact rfl)(hm:m'=m+1:=by exact rfl):RH P n l F0 s m' Q e w:=RH.c1 i hM hm hB ho h
end
attribute [irreducible] RH
end
section
open Go Go.RowKit
inductive KP where
 | val (V:Value)
 | box (n:Nat) (cs:List Value) (T:TypeId)
 | rel (R:zH→Value→Prop) (z:Nat)
 | nul
theorem St.join {w0 w w1:World}{L M:zH}(H:St w0 L w)(hcl:Cl w0 w1)(hM:Mem w M)(hg:∀ p∈M,w1.heap.size≤p.1)(hn:(M.map (·.1)).Nodup):∃ N,St w0 (L++N) w∧M⊆L++N:=by
 refine⟨M.filter fun p=>!(L.any fun q=>Nat.beq q.1 p.1),⟨H.below,H.mem.app fun p hp=>hM p (List.mem_filter.1 hp).1,fun p hp=>?_,?_⟩,fun p hp=>?_⟩
 ·rcases List.mem_append.1 hp with h|h
  ·exact H.ge p h
  ·exact Nat.le_trans hcl.size (hg p (List.mem_filter.1 h).1)
 ·rw[List.map_append,List.nodup_append]
  refine⟨H.nodup,(List.filter_sublist.map _).nodup hn,fun a ha b hb he=>?_⟩
  obtain⟨p,hp,rfl⟩:=List.mem_map.1 ha
  obtain⟨q,hq,rfl⟩:=List.mem_map.1 hb
  have:=(List.mem_filter.1 hq).2
  simp only[Bool.not_eq_true',List.any_eq_false] at this
  exact this p hp (by rw[he];exact Nat.beq_refl _)
 ·cases h:L.any fun q=>Nat.beq q.1 p.1 with
  | false=>exact zz3 _ (List.mem_filter.2 ⟨hp,by rw[h];rfl⟩)
  | true =>
    obtain⟨q,hq,hqp⟩:=List.any_eq_true.1 h
    have he:q.1=p.1:=Nat.eq_of_beq_eq_true hqp
    have h1:=H.mem q hq
    have h2:=hM p hp
    rw[he,h2] at h1
    have:p=q:=Prod.ext he.symm (Option.some.inj h1)
    exact zz6 _ (this ▸ hq)
structure KE where
 i:Nat
 d:Nat
 deps:List Nat
 k:KP
def Know (p:Nat→Value→World→Prop):List Nat→World→(List (Nat × Value)→Prop)→Prop
 | [],_,k=>k []
 | d::t,w,k=>∀ v,p d v w→Know p t w (fun l=>k ((d,v)::l))
theorem Know.at {p:Nat→Value→World→Prop}{e:Env}{w:World}:∀ {ds:List Nat} {k:List (Nat × Value)→Prop},Know p ds w k→(∀ d,d∈ds→p d (e d) w)→∃ L,k L∧zKf e L
 | [],k,h,_=>⟨[],h,trivial⟩
 | d::t,k,h,hp=>by
   obtain⟨L,h1,h2⟩:=Know.at (h (e d) (hp d (List.mem_cons_self ..))) (fun d hd=>hp d (zz4 _ hd))
   exact⟨(d,e d)::L,h1,rfl,h2⟩
inductive KSt (l:List Oper) (C:KE→Oper→Prop):List KE→Prop
 | nil:KSt l C []
 | cons {x:KE} {o:Oper} {t:List KE} (ho:l[x.i]?=some o) (h:C x o) (ht:KSt l C t):KSt l C (x::t)
theorem KSt.get {l:List Oper}{C:KE→Oper→Prop}{T:List KE}(h:KSt l C T){x:KE}(hx:x∈T){o:Oper}(ho:l[x.i]?=some o):C x o:=by
 induction h with
 | nil=>cases hx
 | cons ho' hc _ ih =>
   rcases List.mem_cons.1 hx with rfl|hx
   ·obtain rfl:=Option.some.inj (ho'.symm.trans ho);exact hc
   ·exact ih hx
attribute [local semireducible] CW OW OX QW QX Yq RA RH
section
variable {P:Program}{n:Nw}{Q:zAX}{w:World}{l:List Oper}{s:Array Bool}{m:Nat}{F0:zH}
end
end
section
open Go Go.RowKit
attribute [local semireducible] CW OW OX QW QX Yq RA RH
section
variable {P:Program}{n:Nw}{Q:zAX}{w:World}{l:List Oper}{s:Array Bool}{m:Nat}{F0:zH}
end
theorem memS {w:World}{L F:zH}{x y:Nat × Obj}(h:Mem w L)(hx:x∈L)(hy:y∈L)(hF:Mem w F):Mem w (x::y::F):=fun p hp=>by
 rcases List.mem_cons.1 hp with rfl|hp
 ·exact h _ hx
 ·rcases List.mem_cons.1 hp with rfl|hp
  ·exact h _ hy
  ·exact hF _ hp
end
end Go.Sk
