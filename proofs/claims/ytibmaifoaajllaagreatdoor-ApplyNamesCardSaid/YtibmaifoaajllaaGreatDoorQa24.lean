/- Texts of ours, joined: the steps of the proof, or the claim's theorem. -/
import Derived.Test.YtibmaifoaajllaaGreatDoorQa23
set_option linter.unusedSimpArgs false
set_option linter.unusedVariables false
set_option maxHeartbeats 16000000
namespace Go.Proofs.YtibmaifoaajllaaGreatDoor
section
open Go Go.Sk Go.RowKit
theorem zHV {α:Type}{lt:α→α→Prop}(hi:∀ a,¬ lt a a)(ha:∀ a b,lt a b→¬ lt b a):∀ {l m:List α},l.Pairwise lt→m.Pairwise lt→(∀ x,x∈l↔x∈m)→l=m
 | [],m,_,_,h=>by
   cases m with
   | nil=>rfl
   | cons b m=>exact absurd ((h b).2 (zz2 _)) (by simp)
 | a::l,[],_,_,h=>absurd ((h a).1 (zz2 _)) (by simp)
 | a::l,b::m,hl,hm,h=>by
   rw[List.pairwise_cons] at hl hm
   have hab:a=b:=by
    rcases List.mem_cons.1 ((h a).1 (zz2 _)) with e|e
    ·exact e
    ·rcases List.mem_cons.1 ((h b).2 (zz2 _)) with e'|e'
     ·exact e'.symm
     ·exact absurd (hl.1 b e') (ha _ _ (hm.1 a e))
   subst hab
   congr 1
   refine zHV hi ha hl.2 hm.2 fun x=>⟨fun hx=>?_,fun hx=>?_⟩
   ·rcases List.mem_cons.1 ((h x).1 (zz5 _ hx)) with e|e
    ·subst e;exact absurd (hl.1 _ hx) (hi _)
    ·exact e
   ·rcases List.mem_cons.1 ((h x).2 (zz5 _ hx)) with e|e
    ·subst e;exact absurd (hm.1 _ hx) (hi _)
    ·exact e
def ltPl (x y:Pl):Prop:=x.1<y.1∨x.1=y.1∧x.2<y.2
theorem zCL {x:Pl}:x∈zBb↔(0≤x.1∧x.1≤64)∧0≤x.2∧x.2≤16:=by
 unfold zBb
 simp only[List.mem_flatMap,List.mem_map,List.mem_range]
 constructor
 ·rintro⟨a,ha,s,hs,rfl⟩;simp only;omega
 ·rintro⟨⟨h1,h2⟩,h3,h4⟩
  exact⟨x.1.toNat,by omega,x.2.toNat,by omega,by ext<;>simp only<;>omega⟩
theorem zK6 (n:Nat):(List.range n).Pairwise (·<·):=List.pairwise_lt_range
theorem zRW:zBb.Pairwise ltPl:=by
 unfold zBb
 rw[List.pairwise_flatMap]
 constructor
 ·intro a _
  rw[List.pairwise_map]
  exact(zK6 17).imp fun h=>.inr ⟨rfl,by simpa using h⟩
 ·refine(zK6 65).imp fun{a b} h=>?_
  intro x hx y hy
  obtain⟨s,_,rfl⟩:=List.mem_map.1 hx
  obtain⟨t,_,rfl⟩:=List.mem_map.1 hy
  exact .inl (by simpa using h)
theorem zFF {E:Pl→Int × Int}{r:Row4}:r∈mkR E↔zAD r∈zBb∧E (zAD r)=(r.free,r.held)∧¬ (r.free=0∧r.held=0):=by
 unfold mkR
 rw[List.mem_filterMap]
 constructor
 ·rintro⟨x,hx,he⟩
  by_cases h0:E x=(0,0)
  ·rw[if_pos h0] at he;cases he
  ·rw[if_neg h0] at he
   obtain rfl:=Option.some.inj he
   exact⟨hx,rfl,fun h=>h0 (Prod.ext h.1 h.2)⟩
 ·rintro⟨hx,he,hn⟩
  refine⟨zAD r,hx,?_⟩
  rw[if_neg (by rw[he];exact fun h=>hn (Prod.mk.inj h)),he]
  rfl
theorem zHW (E:Pl→Int × Int):(mkR E).Pairwise LtR:=by
 unfold mkR
 rw[List.pairwise_filterMap]
 refine zRW.imp fun{x y} h=>?_
 intro r hr t ht
 by_cases h1:E x=(0,0)
 ·rw[if_pos h1] at hr;cases hr
 ·by_cases h2:E y=(0,0)
  ·rw[if_pos h2] at ht;cases ht
  ·rw[if_neg h1] at hr;rw[if_neg h2] at ht
   obtain rfl:=Option.some.inj hr
   obtain rfl:=Option.some.inj ht
   exact h
theorem LtR.tr {a b c:Row4}(h:LtR a b)(k:LtR b c):LtR a c:=by
 unfold LtR at *;omega
theorem LtR.irr (a:Row4):¬ LtR a a:=by unfold LtR;omega
theorem LtR.asy (a b:Row4)(h:LtR a b):¬ LtR b a:=by unfold LtR at *;omega
theorem zO8 {l:List Row4}(h:RowsP l l.length):l.Pairwise LtR:=by
 rw[List.pairwise_iff_getElem]
 intro i j hi hj hij
 simpa [rw_,List.getD_eq_getElem?_getD,List.getElem?_eq_getElem hi,List.getElem?_eq_getElem hj] using h.lt hij hj
theorem zTp {l:List Row4}(h:l.Pairwise LtR){r t:Row4}(hr:r∈l)(ht:t∈l)(he:zAD r=zAD t):r=t:=by
 obtain⟨i,hi,rfl⟩:=List.getElem_of_mem hr
 obtain⟨j,hj,rfl⟩:=List.getElem_of_mem ht
 rw[List.pairwise_iff_getElem] at h
 rcases Nat.lt_trichotomy i j with hij|rfl|hij
 ·have:=h i j hi hj hij;unfold LtR at this;unfold zAD at he;have:=Prod.mk.inj he;omega
 ·rfl
 ·have:=h j i hj hi hij;unfold LtR at this;unfold zAD at he;have:=Prod.mk.inj he;omega
theorem zGH {l:List Row4}(h:l.Pairwise LtR){r:Row4}(hr:r∈l):atR l (zAD r)=(r.free,r.held):=by
 unfold atR
 cases hf:l.find? (fun q=>q.acct==(zAD r).1&&q.asset==(zAD r).2) with
 | none=>exact absurd (List.find?_eq_none.1 hf r hr) (by simp[zAD])
 | some q =>
   have h1:=List.find?_some hf
   have h2:=List.mem_of_find?_eq_some hf
   have:q=r:=zTp h h2 hr (by simp only[zAD,Bool.and_eq_true,beq_iff_eq] at h1 ⊢;rw[h1.1,h1.2])
   rw[this]
theorem zGo {l:List Row4}{x:Pl}(h:∀ r∈l,zAD r≠x):atR l x=(0,0):=by
 unfold atR
 rw[List.find?_eq_none.2 (fun r hr=>by
  have:=h r hr
  simp only[zAD] at this
  simp only[Bool.and_eq_true,beq_iff_eq,not_and]
  exact fun h1 h2=>this (by rw[h1,h2]))]
theorem zTq (E:Pl→Int × Int){x:Pl}(hx:x∈zBb):atR (mkR E) x=E x:=by
 by_cases h0:E x=(0,0)
 ·rw[h0]
  refine zGo fun r hr he=>?_
  have:=zFF.1 hr
  rw[he,h0] at this
  have h1:=Prod.mk.inj this.2.1
  exact this.2.2 ⟨h1.1.symm,h1.2.symm⟩
 ·have hm:(⟨x.1,x.2,(E x).1,(E x).2⟩:Row4)∈mkR E:=zFF.2 ⟨hx,rfl,fun h=>h0 (Prod.ext h.1 h.2)⟩
  exact zGH (zHW E) hm
theorem zTr {l:List Row4}(h:∀ r∈l,zAD r∈zBb){x:Pl}(hx:x ∉ zBb):atR l x=(0,0):=zGo fun r hr he=>hx (he ▸ h r hr)
theorem mkR_at {l:List Row4}(h:l.Pairwise LtR)(hg:∀ r∈l,zAD r∈zBb)(hn:∀ r∈l,¬ (r.free=0∧r.held=0)):mkR (atR l)=l:=by
 refine zHV LtR.irr LtR.asy (zHW _) h fun r=>?_
 rw[zFF]
 constructor
 ·rintro⟨_,he,hz⟩
  unfold atR at he
  cases hf:l.find? (fun q=>q.acct==(zAD r).1&&q.asset==(zAD r).2) with
  | none=>rw[hf] at he;have h1:=Prod.mk.inj he;exact absurd ⟨h1.1.symm,h1.2.symm⟩ hz
  | some q =>
    rw[hf] at he
    have h1:=List.find?_some hf
    have h2:=List.mem_of_find?_eq_some hf
    simp only[zAD,Bool.and_eq_true,beq_iff_eq] at h1
    have h3:=Prod.mk.inj he
    obtain⟨a,b,c,d⟩:=q
    obtain⟨a',b',c',d'⟩:=r
    simp only at h1 h3
    obtain⟨rfl,rfl⟩:=h1
    obtain⟨rfl,rfl⟩:=h3
    exact h2
 ·exact fun hr=>⟨hg r hr,zGH h hr,hn r hr⟩
theorem zDw {l:List Row4}(h:zAJ l=true):∀ r∈l,zEb r:=fun r hr=>by
 obtain⟨k,hk,rfl⟩:=List.getElem_of_mem hr
 have:=((zBN.1 h).1 k hk).1
 simpa [rw_,List.getD_eq_getElem?_getD,List.getElem?_eq_getElem hk] using this
theorem zEu {l:List Row4}(h:zAJ l=true):l.Pairwise LtR:=zO8 (zBN.1 h).1
theorem zGp {r:Row4}(h:zEb r):zAD r∈zBb:=zCL.2 ⟨⟨h.1.1,h.1.2.1⟩,h.1.2.2⟩
theorem zHX {l:List Row4}(h:zAJ l=true):mkR (atR l)=l :=
 mkR_at (zEu h) (fun r hr=>zGp (zDw h r hr)) (fun r hr=>(zDw h r hr).2.1)
theorem zH9 {l:List Row4}(h:zAJ l=true){x:Pl}(hx:x ∉ zBb):atR l x=(0,0):=zTr (fun r hr=>zGp (zDw h r hr)) hx
theorem zBc {l:List Row4}(h:zAJ l=true)(x:Pl):(x.1=0→(atR l x).2=0)∧(x.1≠0→0≤(atR l x).1∧0≤(atR l x).2∧(atR l x).1+(atR l x).2≤1125899906842624):=by
 by_cases hm:∃ r∈l,zAD r=x
 ·obtain⟨r,hr,rfl⟩:=hm
  rw[zGH (zEu h) hr]
  have:=zDw h r hr
  exact⟨this.2.2.1,this.2.2.2⟩
 ·rw[zGo fun r hr he=>hm ⟨r,hr,he⟩]
  exact⟨fun _=>rfl,fun _=>⟨Int.le_refl _,Int.le_refl _,by decide⟩⟩
end
section
open Go Go.Sk Go.RowKit
attribute [local irreducible] Go.Calls
theorem zRX {α:Type}(l:List α)(q:α→Bool)(d:α):l.find? q=if idx (fun j=>q (l.getD j d)) l.length<0 then none else some (l.getD (idx (fun j=>q (l.getD j d)) l.length).toNat d):=by
 rcases zY (fun j=>q (l.getD j d)) l.length with ⟨k,hk,hlo,hpk,hix⟩|⟨hall,hix⟩
 ·rw[hix,if_neg (by omega),Int.toNat_natCast]
  rw[List.find?_eq_some_iff_getElem]
  have e:l.getD k d=l[k]:=by simp[List.getElem?_eq_getElem hk]
  refine⟨hpk,k,hk,e.symm,fun j hj=>?_⟩
  have:=hlo j hj
  rw[show l.getD j d=l[j] by simp[List.getElem?_eq_getElem (show j<l.length by omega)]] at this
  simpa using this
 ·rw[hix,if_pos (by decide),List.find?_eq_none]
  intro x hx
  obtain⟨k,hk,rfl⟩:=zBO (d:=d) hx
  simpa using hall k hk
theorem zTs (r:Row4)(a s:Int)(b1 b2:Nat){T1 T2:TypeId}{fr1 fr2:Nat × Nat}{F:zH}(w0:World)(hF:Mem w0 F)(h1:(b1,Obj.cells [Value.int .i64 a].toArray T1 fr1)∈F)(h2:(b2,Obj.cells [Value.int .i64 s].toArray T2 fr2)∈F) :
  Calls Tryz.prog 57 [.agg r.cells.toArray,.pointer (some ⟨b1,0,none⟩),.pointer (some ⟨b2,0,none⟩)].toArray w0 (Ret (.bool (r.acct==a&&r.asset==s)) w0):=by
 refine enter [.tmp 4] Tryz.func57 rfl Tryz.ntmps57 rfl rfl ?_
 have H:=zB w0
 repeat' (first|refine yT ?_|refine y7 sg H ?_|(refine y9 H ?_;intro b w H)|refine z13 (zG sg rfl rfl (H.memF hF) h1 rfl rfl) ?_|refine z13 (zG sg rfl rfl (H.memF hF) h2 rfl rfl) ?_|refine yU ?_|(refine y17 ?_ ?_;all_goals intro h)|fail)
 all_goals exact zQ rfl H.cl (by simp[*])
def lgR (l:List Row4)(a s:Int):Row4:=⟨a,s,(atR l (a,s)).1,(atR l (a,s)).2⟩
theorem zEv {a0:Option Addr}{cap:Nat}(l:List Row4)(a s:Int){F:zH}(w0:World)(hF:Mem w0 F)(hs0:SlA F 4 a0 l.length cap (rwl l)) :
  Calls Tryz.prog 32 [.slice a0 l.length cap,.int .i64 a,.int .i64 s].toArray w0 (Ret (.agg (lgR l a s).cells.toArray) w0):=by
 have hs1:=hs0
 obtain⟨hn,hc,b0,off,cs,T,fr,hs⟩:=hs1
 have hfi:=zRX l (fun r=>r.acct==a&&r.asset==s) default
 refine enter [.cell 6 70] Tryz.func32 rfl Tryz.ntmps32 rfl rfl ?_
 have H:=zB w0
 repeat' (first|refine yT ?_|(refine y9 H ?_;intro b w H)|(refine y10 sg H ?_;intro b w H)|(refine' y30 zNY ?_ ?_;rotate_left;exact zEE (caps:=[.pointer (some ⟨_,0,none⟩),.pointer (some ⟨_,0,none⟩)]) (fun j=>(rw_ l j).acct==a&&(rw_ l j).asset==s) _ (H.memF hF) hs0 ent57 (fun j hj w hw=>zTs (rw_ l j) a s _ _ _ (H.ext hw).mem (zz5 _ (zz5 _ (zz2 _))) (zz5 _ (zz2 _)));intro w hcl;replace H:=H.ext hcl;clear hcl)|refine yU ?_|fail)
 have hix:-1≤idx (fun j=>(rw_ l j).acct==a&&(rw_ l j).asset==s) l.length∧idx (fun j=>(rw_ l j).acct==a&&(rw_ l j).asset==s) l.length<l.length:=by
  rcases zY (fun j=>(rw_ l j).acct==a&&(rw_ l j).asset==s) l.length with ⟨k,h1,_,_,h2⟩|⟨_,h2⟩<;>(rw[h2];omega)
 have hfi:l.find? (fun r=>r.acct==a&&r.asset==s)=if idx (fun j=>(rw_ l j).acct==a&&(rw_ l j).asset==s) l.length<0 then none else some (rw_ l (idx (fun j=>(rw_ l j).acct==a&&(rw_ l j).asset==s) l.length).toNat):=hfi
 generalize idx (fun j=>(rw_ l j).acct==a&&(rw_ l j).asset==s) l.length=i at hix hfi ⊢
 refine zJ rfl (fun h=>?_) (fun h=>?_)
 ·repeat' (first|refine yT ?_|refine y7 sg H ?_|(refine y11 sg H ?_;intro w H)|refine yU ?_|fail)
  rw[if_pos (of_decide_eq_true h)] at hfi
  refine zBT (vs:=[_]) ⟨zAf sg rfl H.mem (zz2 _) rfl rfl,trivial⟩ H.cl ?_
  have e:lgR l a s=⟨a,s,0,0⟩:=by unfold lgR atR;rw[hfi]
  rw[e];rfl
 ·have hlt:=zzB h
  rw[if_neg hlt] at hfi
  repeat' (first|refine yT ?_|(refine y11 sg H ?_;intro w H)|(refine y40 sg (hs) ?_ ?_ ?_;(omega);(omega))|(refine y42 sg (hs) ((H.memF hF)) ?_ ?_;(omega))|refine yU ?_|fail)
  refine zBT (vs:=[_]) ⟨zAf sg rfl H.mem (zz2 _) rfl rfl,trivial⟩ H.cl ?_
  have hq:=List.find?_some hfi
  simp only[Bool.and_eq_true,beq_iff_eq] at hq
  have e:lgR l a s=rw_ l i.toNat:=by
   unfold lgR atR;rw[hfi]
   rw[← hq.1,← hq.2]
  rw[e];rfl
def R64 (l:List Row4):Prop:=∀ r∈l,(-9223372036854775808≤r.free∧r.free≤9223372036854775807)∧-9223372036854775808≤r.held∧r.held≤9223372036854775807
theorem atR_64 {l:List Row4}(h:R64 l)(x:Pl):(-9223372036854775808≤(atR l x).1∧(atR l x).1≤9223372036854775807)∧-9223372036854775808≤(atR l x).2∧(atR l x).2≤9223372036854775807:=by
 unfold atR
 cases hf:l.find? fun r=>r.acct==x.1&&r.asset==x.2 with
 | none=>exact⟨⟨by decide,by decide⟩,by decide,by decide⟩
 | some r=>exact h r (List.mem_of_find?_eq_some hf)
theorem zGI {a0:Option Addr}{cap:Nat}(l:List Row4)(h64:R64 l)(a s:Int){F:zH}(w0:World)(hF:Mem w0 F)(hs0:SlA F 4 a0 l.length cap (rwl l)) :
  Calls Tryz.prog 15 [.slice a0 l.length cap,.int .i64 a,.int .i64 s].toArray w0 (Ret (.int .i64 (zs l a s)) w0):=by
 obtain⟨⟨h1,h2⟩,h3,h4⟩:=atR_64 h64 (a,s)
 refine enter [.tmp 6] Tryz.func15 rfl Tryz.ntmps15 rfl rfl ?_
 have H:=zB w0
 repeat' (first|refine yT ?_|refine y7 sg H ?_|(refine y10 sg H ?_;intro b w H)|(refine y11 sg H ?_;intro w H)|(refine' y30 zDs ?_ ?_;rotate_left;exact zEv l a s _ (H.memF hF) hs0;intro w hcl;replace H:=H.ext hcl;clear hcl)|(refine' y30 ent36 ?_ ?_;rotate_left;exact c_Add (atR l (a,s)).1 (atR l (a,s)).2 _ h1 h2 h3 h4;intro w hcl;replace H:=H.ext hcl;clear hcl)|refine yU ?_|fail)
 exact zQ rfl H.cl rfl
theorem c_Of1 (r:Row4)(a:Int)(b1:Nat){T1:TypeId}{fr1:Nat × Nat}{F:zH}(w0:World)(hF:Mem w0 F)(h1:(b1,Obj.cells [Value.int .i64 a].toArray T1 fr1)∈F) :
  Calls Tryz.prog 190 [.agg r.cells.toArray,.pointer (some ⟨b1,0,none⟩)].toArray w0 (Ret (.bool (r.acct != a)) w0):=by
 refine enter [.tmp 3] Tryz.func190 rfl Tryz.ntmps190 rfl rfl ?_
 have H:=zB w0
 repeat' (first|refine yT ?_|refine y7 sg H ?_|(refine y9 H ?_;intro b w H)|refine z13 (zG sg rfl rfl (H.memF hF) h1 rfl rfl) ?_|refine yU ?_|fail)
 exact zQ rfl H.cl rfl
theorem zRY (n:Int)(w0:World):Calls Tryz.prog 226 [.int .i64 n].toArray w0 (Ret (.bool (zIn n)) w0):=by
 refine enter [.tmp 2] Tryz.func226 rfl Tryz.ntmps226 rfl rfl ?_
 have H:=zB w0
 repeat' (first|refine yT ?_|refine yU ?_|(refine y17 ?_ ?_;all_goals intro h)|fail)
 all_goals exact zQ rfl H.cl (by simp[zIn, *])
end
end Go.Proofs.YtibmaifoaajllaaGreatDoor
