/- Texts of ours, joined: the steps of the proof, or the claim's theorem. -/
import Derived.Test.YthbflajpdhgfiaaGreatDoorQd05
set_option linter.all false
set_option maxHeartbeats 16000000
namespace Go.Proofs.YthbflajpdhgfiaaGreatDoor
section
open Go Go.Sk Go.RowKit
attribute [local irreducible] Go.Calls
theorem zTq {b:Nat}{T:TypeId}{fr:Nat × Nat}{F:zC}(s:Sta)(p:SPt)(r:Row4)(w0:World)(hF:Mem w0 F)(hs0:StaM F s p)(hm:(b,Obj.cells (s.cells p).toArray T fr)∈F) :
  Calls Tryz.prog 186 [.agg r.cells.toArray,.pointer (some ⟨b,0,none⟩)].toArray w0 (Ret (.bool ((!(r.acct==0)&&!(zBE s.accts r.acct).2)||decide (r.asset>s.insts.length))) w0):=by
 obtain⟨ac,ok,hac⟩:∃ ac ok,zBE s.accts r.acct=(ac,ok):=⟨_,_,rfl⟩
 have opn:∀ {w:World},Mem w F→Calls Tryz.prog 187 [.agg (s.cells p).toArray,.int .i64 r.acct].toArray w (Ret (.bool ok) w):=fun hF=>by
  have:=zJm s p r.acct _ hF hs0
  rw[hac] at this
  exact this
 rw[hac]
 refine enter [.tmp 3] Tryz.func186 rfl Tryz.ntmps186 rfl rfl ?_
 have H:=zA w0
 repeat' (first|refine yT ?_|refine y7 sg H ?_|(refine y9 H ?_;intro b w H)|refine z13 (zH sg rfl rfl (H.memF hF) hm rfl rfl) ?_|(refine' y30 zJc ?_ ?_;rotate_left;exact opn (H.memF hF);refine w2 H ?_;clear H;intro w H)|refine yU ?_|(refine y17 ?_ ?_;all_goals intro h)|fail)
 all_goals first
  | (have h1:(r.acct != 0)=true:=by assumption
     have h1:(!(r.acct==0))=true:=h1
     exact zP rfl H.cl (congrArg Value.bool (by simp only[*,Bool.true_and,Bool.or_true,Bool.true_or,Bool.false_or,Bool.not_true,Bool.not_false])))
  | (have h1:(r.acct != 0)=false:=by assumption
     have h1:(!(r.acct==0))=false:=h1
     exact zP rfl H.cl (congrArg Value.bool (by simp only[*,Bool.false_and,Bool.or_true,Bool.false_or])))
theorem zIz {s:Sta}(hR:zAY s.rows=true){k:Nat}(hk:k<s.rows.length) :
  ((!((rw_ s.rows k).acct==0)&&!(zBE s.accts (rw_ s.rows k).acct).2)||decide ((rw_ s.rows k).asset>s.insts.length))=!zD8 s k:=by
 have hg:=((zBi.1 hR).1 k hk).1.1
 unfold zD8
 generalize (zBE s.accts (rw_ s.rows k).acct).2=ok
 by_cases h1:(rw_ s.rows k).acct=0
 ·by_cases h2:(rw_ s.rows k).asset≤s.insts.length
  ·have h3:¬ (rw_ s.rows k).asset>s.insts.length:=by omega
   simp[h1,h2]
  ·have h3:(rw_ s.rows k).asset>s.insts.length:=by omega
   simp[h1,h2,h3]
 ·have h4:¬ (rw_ s.rows k).acct≤0:=by omega
  by_cases h2:(rw_ s.rows k).asset≤s.insts.length
  ·have h3:¬ (rw_ s.rows k).asset>s.insts.length:=by omega
   cases ok<;>simp[h1,h2,h4]
  ·have h3:(rw_ s.rows k).asset>s.insts.length:=by omega
   cases ok<;>simp[h1,h2,h3,h4]
theorem c_rows {F:zC}(s:Sta)(p:SPt)(hw:∀ j,j<s.rows.length→(rw_ s.rows j).wf)(w0:World)(hF:Mem w0 F)(hs0:StaM F s p) :
  Calls Tryz.prog 145 [.agg (s.cells p).toArray].toArray w0 (Ret (.bool (zCv s)) w0):=by
 let wr:=fun j=>(!((rw_ s.rows j).acct==0)&&!(zBE s.accts (rw_ s.rows j).acct).2)||decide ((rw_ s.rows j).asset>s.insts.length)
 have cont:∀ {b:Nat} {w:World},Mem w (cb b (s.cells p) 48::F)→Calls Tryz.prog 189 [.slice p.rwA s.rows.length p.rwC,.func (.func 186) #[] #[.pointer (some ⟨b,0,none⟩)]].toArray w (Ret (.bool (decide (idx wr s.rows.length ≥ 0))) w):=fun hM =>
  zIc (caps:=[.pointer (some ⟨_,0,none⟩)]) wr _ hM (SlA.mono hs0.rw (List.subset_cons_self _ _)) ent186 (fun j _ w hw=>zTq s p (rw_ s.rows j) w (hM.ext hw) (hs0.mono (List.subset_cons_self _ _)) (zz2 _))
 have fin:zAY s.rows=true→(!decide (idx wr s.rows.length ≥ 0))=zCv s:=fun hR=>by
  have e:zCv s=(List.range s.rows.length).all fun k=>zD8 s k:=by unfold zCv;rw[hR,Bool.true_and]
  rw[e]
  rcases zZ wr s.rows.length with ⟨k,hk,_,hb,hx⟩|⟨ha,hx⟩
  ·rw[hx,decide_eq_true qO]
   symm
   rw[Bool.not_true,List.all_eq_false]
   refine⟨k,List.mem_range.2 hk,?_⟩
   have:=(zIz hR hk).symm.trans hb
   simpa using this
  ·rw[hx,decide_eq_false qO]
   symm
   rw[Bool.not_false,List.all_eq_true]
   intro k hk
   have hk:=List.mem_range.1 hk
   have:=(zIz hR hk).symm.trans (ha k hk)
   simpa using this
 refine enter [.tmp 2] Tryz.func145 rfl Tryz.ntmps145 rfl rfl ?_
 have H:=zA w0
 repeat' (first|refine yT ?_|refine y7 sg H ?_|(refine y9 H ?_;intro b w H)|(refine' y30 zJd ?_ ?_;rotate_left;exact zJl s.rows hw _ (H.memF hF) hs0.rw;refine w2 H ?_;clear H;intro w H)|(refine' y30 ent189 ?_ ?_;rotate_left;exact cont (H.all hF);refine w2 H ?_;clear H;intro w H)|refine yU ?_|(refine y17 ?_ ?_;all_goals intro h)|fail)
 all_goals first
  | (have h:zAY s.rows=true:=by assumption
     exact zP rfl H.cl (congrArg Value.bool (fin h)))
  | (have h:zAY s.rows=false:=by assumption
     refine zP rfl H.cl (congrArg Value.bool ?_)
     unfold zCv
     rw[h,Bool.false_and])
  | fail
def zEB (s:Sta)(o:Odr):Bool:=decide (o.id ≥ s.nextO)||!(zBE s.accts o.acct).2||!(zB0 s.insts o.inst).2||(o.price.tmod (zB0 s.insts o.inst).1.tick != 0)
theorem zI0 (s:Sta)(o:Odr):zEB s o=!zCS s o:=by
 unfold zEB zCS
 have h:decide (o.id ≥ s.nextO)=!decide (o.id<s.nextO):=by
  by_cases h:o.id<s.nextO
  ·rw[decide_eq_true h,decide_eq_false qO];rfl
  ·rw[decide_eq_false h,decide_eq_true qO];rfl
 rw[h,bne]
 simp only[Bool.not_and]
theorem zPH {b:Nat}{T:TypeId}{fr:Nat × Nat}{F:zC}(s:Sta)(p:SPt)(hi:zCu s.insts=true)(o:Odr)(w0:World)(hF:Mem w0 F)(hs0:StaM F s p)(hm:(b,Obj.cells (s.cells p).toArray T fr)∈F) :
  Calls Tryz.prog 190 [.agg o.cells.toArray,.pointer (some ⟨b,0,none⟩)].toArray w0 (Ret (.bool (zEB s o)) w0):=by
 have htk:=zRS hi (a:=o.inst)
 obtain⟨ac,ok,hac⟩:∃ ac ok,zBE s.accts o.acct=(ac,ok):=⟨_,_,rfl⟩
 obtain⟨ins,is,his⟩:∃ ac ok,zB0 s.insts o.inst=(ac,ok):=⟨_,_,rfl⟩
 have opn:∀ {w:World},Mem w F→Calls Tryz.prog 187 [.agg (s.cells p).toArray,.int .i64 o.acct].toArray w (Ret (.bool ok) w):=fun hF=>by
  have:=zJm s p o.acct _ hF hs0
  rw[hac] at this
  exact this
 have inst:∀ {w:World},Mem w F→Calls Tryz.prog 191 [.agg (s.cells p).toArray,.int .i64 o.inst].toArray w (Ret (.tuple #[.agg ins.cells.toArray,.bool is]) w):=fun hF=>by
  have:=zRH s p o.inst _ hF hs0
  rw[his] at this
  exact this
 have hso:zEB s o=(decide (o.id ≥ s.nextO)||!ok||!is||(o.price.tmod ins.tick != 0)):=by unfold zEB;rw[hac,his]
 rw[his] at htk
 rw[hso]
 refine enter [.tmp 3] Tryz.func190 rfl Tryz.ntmps190 rfl rfl ?_
 have H:=zA w0
 repeat' (first|refine yT ?_|refine y7 sg H ?_|(refine y9 H ?_;intro b w H)|(refine y10 sg H ?_;intro b w H)|(refine y11 sg H ?_;intro w H)|refine z13 (zH sg rfl rfl (H.memF hF) hm rfl rfl) ?_|(refine' y30 zJc ?_ ?_;rotate_left;exact opn (H.memF hF);refine w2 H ?_;clear H;intro w H)|(refine' y30 zQp ?_ ?_;rotate_left;exact inst (H.memF hF);refine w2 H ?_;clear H;intro w H)|(refine zd rfl rfl (Yq.rem rfl rfl rfl ?_) ?_;(have h9:=htk (by simpa using h);have h9:1≤ins.tick:=h9;omega))|refine yU ?_|(refine y17 ?_ ?_;all_goals intro h)|fail)
 all_goals simp only[Bool.not_eq_true',Bool.not_eq_false',decide_eq_true_eq,decide_eq_false_iff_not] at *
 all_goals exact zP rfl H.cl (congrArg Value.bool (by simp only[*,decide_true,decide_false,Bool.true_or,Bool.or_true,Bool.false_or,Bool.or_false,Bool.not_true,Bool.not_false]))
theorem zRT {F:zC}(s:Sta)(p:SPt)(hi:zCu s.insts=true)(w0:World)(hF:Mem w0 F)(hs0:StaM F s p) :
  Calls Tryz.prog 146 [.agg (s.cells p).toArray].toArray w0 (Ret (.bool (zA8 s)) w0):=by
 have cont:∀ {b:Nat} {w:World},Mem w (cb b (s.cells p) 48::F)→Calls Tryz.prog 68 [.slice p.odA s.orders.length p.odC,.func (.func 190) #[] #[.pointer (some ⟨b,0,none⟩)]].toArray w (Ret (.bool (decide (idx (fun j=>zEB s (od_ s.orders j)) s.orders.length ≥ 0))) w):=fun hM =>
  zDV (caps:=[.pointer (some ⟨_,0,none⟩)]) (fun j=>zEB s (od_ s.orders j)) _ hM (SlA.mono hs0.od (List.subset_cons_self _ _)) ent190 (fun j _ w hw=>zPH s p hi (od_ s.orders j) w (hM.ext hw) (hs0.mono (List.subset_cons_self _ _)) (zz2 _))
 have fin:ze s.orders=true→(!decide (idx (fun j=>zEB s (od_ s.orders j)) s.orders.length ≥ 0))=zA8 s:=fun hR=>by
  have e:zA8 s=(List.range s.orders.length).all fun k=>zCS s (od_ s.orders k):=by unfold zA8;rw[hR,Bool.true_and]
  rw[e]
  rcases zZ (fun j=>zEB s (od_ s.orders j)) s.orders.length with ⟨k,hk,_,hb,hx⟩|⟨ha,hx⟩
  ·rw[hx,decide_eq_true qO]
   symm
   rw[Bool.not_true,List.all_eq_false]
   refine⟨k,List.mem_range.2 hk,?_⟩
   have:=(zI0 s _).symm.trans hb
   simpa using this
  ·rw[hx,decide_eq_false qO]
   symm
   rw[Bool.not_false,List.all_eq_true]
   intro k hk
   have hk:=List.mem_range.1 hk
   have:=(zI0 s _).symm.trans (ha k hk)
   simpa using this
 refine enter [.tmp 2] Tryz.func146 rfl Tryz.ntmps146 rfl rfl ?_
 have H:=zA w0
 repeat' (first|refine yT ?_|refine y7 sg H ?_|(refine y9 H ?_;intro b w H)|(refine' y30 zCd ?_ ?_;rotate_left;exact zAk s.orders _ (H.memF hF) hs0.od;refine w2 H ?_;clear H;intro w H)|(refine' y30 zNk ?_ ?_;rotate_left;exact cont (H.all hF);refine w2 H ?_;clear H;intro w H)|refine yU ?_|(refine y17 ?_ ?_;all_goals intro h)|fail)
 all_goals first
  | (have h:ze s.orders=true:=by assumption
     exact zP rfl H.cl (congrArg Value.bool (fin h)))
  | (have h:ze s.orders=false:=by assumption
     refine zP rfl H.cl (congrArg Value.bool ?_)
     unfold zA8
     rw[h,Bool.false_and])
  | fail
abbrev au_ (l:List Auc)(k:Nat):Auc:=l.getD k default
def zGW (s:Sta)(l:List Bid)(k:Nat):Bool:=!(zBE s.accts (l.getD k default).acct).2
def zHM (s:Sta)(l:List Bid):Bool:=decide (idx (zGW s l) l.length ≥ 0)
def zCD (s:Sta)(x:Auc):Bool:=decide (x.id ≥ s.nextA)||!(zBE s.accts x.seller).2||!(zB0 s.insts x.inst).2||zHM s x.bids
def zCw (s:Sta):Bool:=zAJ s.aucs&&!decide (idx (fun j=>zCD s (au_ s.aucs j)) s.aucs.length ≥ 0)
theorem zJv {b:Nat}{T:TypeId}{fr:Nat × Nat}{F:zC}(s:Sta)(p:SPt)(d:Bid)(w0:World)(hF:Mem w0 F)(hs0:StaM F s p)(hm:(b,Obj.cells (s.cells p).toArray T fr)∈F) :
  Calls Tryz.prog 193 [.agg d.cells.toArray,.pointer (some ⟨b,0,none⟩)].toArray w0 (Ret (.bool (!(zBE s.accts d.acct).2)) w0):=by
 obtain⟨ac,ok,hac⟩:∃ ac ok,zBE s.accts d.acct=(ac,ok):=⟨_,_,rfl⟩
 have opn:∀ {w:World},Mem w F→Calls Tryz.prog 187 [.agg (s.cells p).toArray,.int .i64 d.acct].toArray w (Ret (.bool ok) w):=fun hF=>by
  have:=zJm s p d.acct _ hF hs0
  rw[hac] at this
  exact this
 rw[hac]
 refine enter [.tmp 3] Tryz.func193 rfl Tryz.ntmps193 rfl rfl ?_
 have H:=zA w0
 repeat' (first|refine yT ?_|refine y7 sg H ?_|(refine y9 H ?_;intro b w H)|refine z13 (zH sg rfl rfl (H.memF hF) hm rfl rfl) ?_|(refine' y30 zJc ?_ ?_;rotate_left;exact opn (H.memF hF);refine w2 H ?_;clear H;intro w H)|refine yU ?_|fail)
 all_goals exact zP rfl H.cl rfl
theorem zK7 {b:Nat}{T:TypeId}{fr:Nat × Nat}{F:zC}{ba:Option Addr}{bc:Nat}(s:Sta)(p:SPt)(x:Auc)(w0:World)(hF:Mem w0 F)(hb:Bids F ba bc x.bids)(hs0:StaM F s p)(hm:(b,Obj.cells (s.cells p).toArray T fr)∈F) :
  Calls Tryz.prog 192 [.agg (x.cells ba bc).toArray,.pointer (some ⟨b,0,none⟩)].toArray w0 (Ret (.bool (zCD s x)) w0):=by
 obtain⟨ac,ok,hac⟩:∃ ac ok,zBE s.accts x.seller=(ac,ok):=⟨_,_,rfl⟩
 obtain⟨ins,is,his⟩:∃ ac ok,zB0 s.insts x.inst=(ac,ok):=⟨_,_,rfl⟩
 obtain⟨bb,hbb⟩:∃ bb,zHM s x.bids=bb:=⟨_,rfl⟩
 have opn:∀ {w:World},Mem w F→Calls Tryz.prog 187 [.agg (s.cells p).toArray,.int .i64 x.seller].toArray w (Ret (.bool ok) w):=fun hF=>by
  have:=zJm s p x.seller _ hF hs0
  rw[hac] at this
  exact this
 have inst:∀ {w:World},Mem w F→Calls Tryz.prog 194 [.agg (s.cells p).toArray,.int .i64 x.inst].toArray w (Ret (.bool is) w):=fun hF=>by
  have:=zTh s p x.inst _ hF hs0
  rw[his] at this
  exact this
 have cont:∀ {w:World},Mem w F→Calls Tryz.prog 137 [.slice ba x.bids.length bc,.func (.func 193) #[] #[.pointer (some ⟨b,0,none⟩)]].toArray w (Ret (.bool bb) w):=fun hM =>
  hbb ▸ zDU (caps:=[.pointer (some ⟨_,0,none⟩)]) (zGW s x.bids) _ hM hb ent193 (fun j _ w hw=>zJv s p (x.bids.getD j default) w (hM.ext hw) hs0 hm)
 have hso:zCD s x=(decide (x.id ≥ s.nextA)||!ok||!is||bb):=by unfold zCD;rw[hac,his,hbb]
 rw[hso]
 refine enter [.tmp 3] Tryz.func192 rfl Tryz.ntmps192 rfl rfl ?_
 have H:=zA w0
 repeat' (first|refine yT ?_|refine y7 sg H ?_|(refine y9 H ?_;intro b w H)|refine z13 (zH sg rfl rfl (H.memF hF) hm rfl rfl) ?_|(refine' y30 zJc ?_ ?_;rotate_left;exact opn (H.memF hF);refine w2 H ?_;clear H;intro w H)|(refine' y30 ent194 ?_ ?_;rotate_left;exact inst (H.memF hF);refine w2 H ?_;clear H;intro w H)|(refine' y30 zMG ?_ ?_;rotate_left;exact cont (H.memF hF);refine w2 H ?_;clear H;intro w H)|refine yU ?_|(refine y17 ?_ ?_;all_goals intro h)|fail)
 all_goals simp only[Bool.not_eq_true',Bool.not_eq_false',decide_eq_true_eq,decide_eq_false_iff_not] at *
 all_goals exact zP rfl H.cl (congrArg Value.bool (by simp only[*,decide_true,decide_false,Bool.true_or,Bool.or_true,Bool.false_or,Bool.or_false,Bool.not_true,Bool.not_false]))
theorem zMf {F:zC}(s:Sta)(p:SPt)(w0:World)(hF:Mem w0 F)(hs0:StaM F s p) :
  Calls Tryz.prog 147 [.agg (s.cells p).toArray].toArray w0 (Ret (.bool (zCw s)) w0):=by
 have cont:∀ {b:Nat} {w:World},Mem w (cb b (s.cells p) 48::F)→Calls Tryz.prog 195 [.slice p.auA s.aucs.length p.auC,.func (.func 192) #[] #[.pointer (some ⟨b,0,none⟩)]].toArray w (Ret (.bool (decide (idx (fun j=>zCD s (au_ s.aucs j)) s.aucs.length ≥ 0))) w):=fun hM =>
  zId (caps:=[.pointer (some ⟨_,0,none⟩)]) (fun j=>zCD s (au_ s.aucs j)) _ hM (SlA.mono hs0.au.1 (List.subset_cons_self _ _)) ent192 (fun j hj w hw=>zK7 s p (au_ s.aucs j) w (hM.ext hw) (SlA.mono (hs0.au.2 j hj) (List.subset_cons_self _ _)) (hs0.mono (List.subset_cons_self _ _)) (zz2 _))
 have fin:zAJ s.aucs=true→(!decide (idx (fun j=>zCD s (au_ s.aucs j)) s.aucs.length ≥ 0))=zCw s:=fun hR=>by
  unfold zCw;rw[hR,Bool.true_and]
 refine enter [.tmp 2] Tryz.func147 rfl Tryz.ntmps147 rfl rfl ?_
 have H:=zA w0
 repeat' (first|refine yT ?_|refine y7 sg H ?_|(refine y9 H ?_;intro b w H)|(refine' y30 zNi ?_ ?_;rotate_left;exact zF2 s.aucs p.ad _ (H.memF hF) hs0.au;refine w2 H ?_;clear H;intro w H)|(refine' y30 ent195 ?_ ?_;rotate_left;exact cont (H.all hF);refine w2 H ?_;clear H;intro w H)|refine yU ?_|(refine y17 ?_ ?_;all_goals intro h)|fail)
 all_goals first
  | (have h:zAJ s.aucs=true:=by assumption
     exact zP rfl H.cl (congrArg Value.bool (fin h)))
  | (have h:zAJ s.aucs=false:=by assumption
     refine zP rfl H.cl (congrArg Value.bool ?_)
     unfold zCw
     rw[h,Bool.false_and])
  | fail
def zHu:List Value:=[.string ⟨#[110,117,109,98,101,114,115]⟩,.func (.func 142) #[] #[],.string ⟨#[97,99,99,111,117,110,116,115]⟩,.func (.func 143) #[] #[],.string ⟨#[105,110,115,116,114,117,109,101,110,116,115]⟩,.func (.func 144) #[] #[],.string ⟨#[114,111,119,115]⟩,.func (.func 145) #[] #[],.string ⟨#[111,114,100,101,114,115]⟩,.func (.func 146) #[] #[],.string ⟨#[97,117,99,116,105,111,110,115]⟩,.func (.func 147) #[] #[],.string ⟨#[104,101,108,100]⟩,.func (.func 148) #[] #[]]
theorem zTr (w0:World) :
  Calls Tryz.prog 92 [].toArray w0 (zi (fun M v=>∃ b T fr,v=.slice (some ⟨b,0,none⟩) 7 7∧M=[(b,Obj.cells zHu.toArray T fr)]) w0):=by
 refine enter [.tmp 0] Tryz.func92 rfl Tryz.ntmps92 rfl rfl ?_
 have H:=zA w0
 repeat' (first|refine yT ?_|(refine z14 sg H ?_;intro b w H)|refine yU ?_|fail)
 exact zS rfl H ⟨_,_,_,rfl,rfl⟩
def rulN (k:Nat):ByteArray:=[⟨#[110,117,109,98,101,114,115]⟩,⟨#[97,99,99,111,117,110,116,115]⟩,⟨#[105,110,115,116,114,117,109,101,110,116,115]⟩,⟨#[114,111,119,115]⟩,⟨#[111,114,100,101,114,115]⟩,⟨#[97,117,99,116,105,111,110,115]⟩,⟨#[104,101,108,100]⟩].getD k ⟨#[]⟩
def rulG (k:Nat):FuncId:=[142,143,144,145,146,147,148].getD k 0
def rulE (k:Nat):List Value:=[.string (rulN k),.func (.func (rulG k)) #[] #[]]
theorem rul_sl {b:Nat}{T:TypeId}{fr:Nat × Nat}{F:zC}(hm:(b,Obj.cells zHu.toArray T fr)∈F):SlB F 2 (some ⟨b,0,none⟩) 7 b 0 zHu T fr rulE:=fun _=>⟨rfl,hm,fun j hj=>by
 match j,hj with
 | 0,_=>exact⟨by decide,rfl⟩
 | 1,_=>exact⟨by decide,rfl⟩
 | 2,_=>exact⟨by decide,rfl⟩
 | 3,_=>exact⟨by decide,rfl⟩
 | 4,_=>exact⟨by decide,rfl⟩
 | 5,_=>exact⟨by decide,rfl⟩
 | 6,_=>exact⟨by decide,rfl⟩⟩
theorem zTs {k:Nat}(hk:k<7):Ent Tryz.prog (rulG k):=by
 match k,hk with
 | 0,_=>exact ent142
 | 1,_=>exact ent143
 | 2,_=>exact ent144
 | 3,_=>exact ent145
 | 4,_=>exact ent146
 | 5,_=>exact ent147
 | 6,_=>exact ent148
def zEo (ok:Nat→Bool):ByteArray:=if idx (fun k=>!ok k) 7<0 then⟨#[]⟩ else rulN (idx (fun k=>!ok k) 7).toNat
theorem zPI {F:zC}(s:Sta)(p:SPt)(ok:Nat→Bool)(hr:∀ k,k<7→(∀ j,j<k→ok j=true)→∀ w,Mem w F→Calls Tryz.prog (rulG k) [.agg (s.cells p).toArray].toArray w (Ret (.bool (ok k)) w))(w0:World)(hF:Mem w0 F) :
  Calls Tryz.prog 56 [.agg (s.cells p).toArray].toArray w0 (Ret (.string (zEo ok)) w0):=by
 refine enter [.tmp 2] Tryz.func56 rfl Tryz.ntmps56 rfl rfl ?_
 have H:=zA w0
 repeat' (first|refine yT ?_|(refine y9 H ?_;intro b w H)|(refine' y32 ent92 ?_ ?_;rotate_left;exact zTr _;intro v M w hR hS;replace H:=H.addR hS;clear hS;(try simp only[List.cons_append,List.nil_append] at H);obtain⟨br,TR,fr,rfl,rfl⟩:=hR)|refine yU ?_|with_reducible apply zB|fail)
 refine zI [(2,2),(4,4),(7,18)] (fun k:Nat=>[(7,.int .i64 (k:Int))]) (fun k w=>k≤7∧(∀ j,j<k→(!ok j)=false)∧St w0 [cb _ (s.cells p) 48,(br,Obj.cells zHu.toArray TR fr)] w) (fun k=>7 - k) 0 ⟨rfl,trivial⟩ ⟨zzD _,fun j hj=>absurd hj (zzE _),H⟩ ?_
 clear H
 rintro k gh w ⟨hk,hn,H⟩
 have hs1:=fun{F:zC} (hm:(br,Obj.cells zHu.toArray TR fr)∈F)=>rul_sl hm
 repeat' (first|refine yT ?_|refine yU ?_|fail)
 refine zD rfl (fun h=>?_) (fun h=>?_)
 ·have hlt:k<7:=by have:=zzA h;omega
  clear h
  obtain⟨okk,hok⟩:∃ b,ok k=b:=⟨_,rfl⟩
  have hrk:=hr k hlt fun j hj=>by have:=hn j hj;simpa using this
  rw[hok] at hrk
  repeat' (first|refine yT ?_|refine y7 sg H ?_|(refine y10 sg H ?_;intro b w H)|(refine y11 sg H ?_;intro w H)|(refine y40 sg (hs1 (List.Mem.head [])) ?_ ?_ ?_;(omega);(omega))|(refine zd rfl rfl (zAn sg (hs1 (by first|exact zz2 _|exact zz5 _ (zz2 _))) H.mem rfl rfl rfl rfl rfl hlt) ?_)|(refine OX.call rfl rfl (zBT (zTs hlt) rfl rfl rfl) (hrk _ (H.memF hF)) ?_;refine w2 H ?_;clear H;intro w H)|refine yU ?_|with_reducible apply zB|(refine y23 ?_ ?_;all_goals intro h)|fail)
  all_goals rw[← hok] at h
  all_goals first
   | exact zP rfl H.cl (congrArg Value.string (by unfold zEo;rw[zBh hlt hn h,if_neg qO,Int.toNat_natCast]))
   | (refine zF (k+1) rfl ⟨zf qO,trivial⟩ ⟨hlt,fun j hj=>?_,H.sub (zz7 _ _)⟩ qO
      rcases(show j<k∨j=k by omega) with g|rfl
      ·exact hn j g
      ·exact h)
   | fail
 ·obtain rfl:k=7:=by have:=zzB h;omega
  repeat' (first|refine yT ?_|refine yU ?_|fail)
  exact zP rfl H.cl (congrArg Value.string (by unfold zEo;rw[zAo hn];rfl))
def stOk (s:Sta)(k:Nat):Bool:=[zG1 s,zEn s.accts,zCu s.insts,zCv s,zA8 s,zCw s,zFg s].getD k true
structure StaW (s:Sta):Prop where
 ac:s.accts.length≤10000
 acN:∀ k,k<s.accts.length→(ac_ s.accts k).name.size≤140737488355328
 ins:s.insts.length≤10000
 insN:∀ k,k<s.insts.length→(in_ s.insts k).name.size≤140737488355328
 rw:∀ j,j<s.rows.length→(rw_ s.rows j).wf
theorem zTt {F:zC}(s:Sta)(p:SPt)(hW:StaW s)(w0:World)(hF:Mem w0 F)(hs:StaM F s p) :
  Calls Tryz.prog 56 [.agg (s.cells p).toArray].toArray w0 (Ret (.string (zEo (stOk s))) w0):=by
 refine zPI s p (stOk s) (fun k hk hj w hM=>?_) w0 hF
 match k,hk with
 | 0,_=>exact zPG s p w
 | 1,_=>exact zMd s p hW.ac hW.acN w hM hs
 | 2,_=>exact zIe s p hW.ins hW.insN w hM hs
 | 3,_=>exact c_rows s p hW.rw w hM hs
 | 4,_=>exact zRT s p (hj 2 qO) w hM hs
 | 5,_=>exact zMf s p w hM hs
 | 6,_=>exact c_held s p w hM hs
def zCY (s:Sta):Bool:=(List.range 7).all (stOk s)
theorem zJw (ok:Nat→Bool):((zEo ok).toList==(ByteArray.mk #[]).toList)=(List.range 7).all ok:=by
 rcases zZ (fun k=>!ok k) 7 with ⟨k,hk,_,hp,h2⟩|⟨h1,h2⟩
 ·unfold zEo
  rw[h2,if_neg qO,Int.toNat_natCast]
  have hf:(List.range 7).all ok=false:=List.all_eq_false.2 ⟨k,List.mem_range.2 hk,by simpa using hp⟩
  rw[hf]
  match k,hk with
  | 0,_=>rw[ByteArray.toList_eq,ByteArray.toList_eq];decide
  | 1,_=>rw[ByteArray.toList_eq,ByteArray.toList_eq];decide
  | 2,_=>rw[ByteArray.toList_eq,ByteArray.toList_eq];decide
  | 3,_=>rw[ByteArray.toList_eq,ByteArray.toList_eq];decide
  | 4,_=>rw[ByteArray.toList_eq,ByteArray.toList_eq];decide
  | 5,_=>rw[ByteArray.toList_eq,ByteArray.toList_eq];decide
  | 6,_=>rw[ByteArray.toList_eq,ByteArray.toList_eq];decide
 ·unfold zEo
  rw[h2,if_pos qO]
  have hf:(List.range 7).all ok=true:=List.all_eq_true.2 fun k hk=>by have:=h1 k (List.mem_range.1 hk);simpa using this
  rw[hf,ByteArray.toList_eq];decide
theorem zDG {F:zC}(s:Sta)(p:SPt)(hW:StaW s)(w0:World)(hF:Mem w0 F)(hs:StaM F s p) :
  Calls Tryz.prog 30 [.agg (s.cells p).toArray].toArray w0 (Ret (.bool (zCY s)) w0):=by
 have hc:=fun w hM=>zTt s p hW w hM hs
 have he:=zJw (stOk s)
 obtain⟨c,hcc⟩:∃ c,zEo (stOk s)=c:=⟨_,rfl⟩
 rw[hcc] at hc he
 refine enter [.tmp 2] Tryz.func30 rfl Tryz.ntmps30 rfl rfl ?_
 have H:=zA w0
 repeat' (first|refine yT ?_|refine y7 sg H ?_|(refine y9 H ?_;intro b w H)|(refine' y30 ent56 ?_ ?_;rotate_left;exact hc _ (H.memF hF);refine w2 H ?_;clear H;intro w H)|refine yU ?_|fail)
 all_goals exact zP rfl H.cl (congrArg Value.bool he)
end
section
open Go Go.Sk Go.RowKit
def OwnB (M:zC)(a:Option Addr)(cap:Nat)(l:List Bid):Prop:=Go.Sk.Own M 72 2 a l.length cap ((List.range l.length).flatMap (bel l))
theorem zFB (l:List Bid)(j:Nat):(bel l j).length=2:=rfl
theorem zJx (l:List Bid)(j:Nat):∀ u∈bel l j,u.oneCell'=true:=by
 intro u hu
 simp only[bel,Bid.cells,List.mem_cons,List.not_mem_nil,or_false] at hu
 rcases hu with rfl|rfl<;>rfl
theorem OwnB.bids {M F:zC}{a:Option Addr}{cap:Nat}{l:List Bid}(h:OwnB M a cap l)(hM:M⊆F)(hn:l.length≤140737488355328):Bids F a cap l:=Go.Sk.Own.sl h hM (fun j _=>zFB l j) hn
def OwnA (x:Auc)(M:zC)(v:Value):Prop:=∃ a cap,v=.agg (x.cells a cap).toArray∧OwnB M a cap x.bids
theorem c_own {a:Option Addr}{cap:Nat}(x:Auc){F:zC}(w0:World)(hF:Mem w0 F)(hs:Bids F a cap x.bids)(hb:x.bids.length≤8796093022208) :
  Calls Tryz.prog 47 [.agg (x.cells a cap).toArray].toArray w0 (zi (OwnA x) w0):=by
 refine enter [.cell 2 67] Tryz.func47 rfl Tryz.ntmps47 rfl rfl ?_
 have H:=zA w0
 repeat' (first|refine yT ?_|refine y7 sg H ?_|(refine y9 H ?_;intro b w H)|(refine y10 sg H ?_;intro b w H)|(refine y11 sg H ?_;intro w H)|(refine' y32 zQe ?_ ?_;rotate_left;exact zFb _ (H.memF hF) hs (fun j _=>zJx _ j) (fun j _=>zFB _ j) qO;intro v M w hR hS;replace H:=H.addR hS;clear hS;(try simp only[List.cons_append,List.nil_append] at H);obtain⟨a',cap',rfl,hO⟩:=hR)|refine yU ?_|fail)
 refine zBn (vs:=[_]) (M:=M) ⟨zy sg rfl H.mem (zz2 _) rfl rfl,trivial⟩ (H.sub zKq) ⟨a',cap',rfl,hO⟩
def Auc.zero:Auc:=⟨0,0,0,false,0,0,0,0,[]⟩
theorem c_Get1 {a:Option Addr}{cap:Nat}(x:Auc)(id:Int)(b:Nat)(T:TypeId){F:zC}(w0:World)(hF:Mem w0 F)(hm:(b,Obj.cells [Value.int .i64 id].toArray T (0,0))∈F) :
  Calls Tryz.prog 46 [.agg (x.cells a cap).toArray,.pointer (some ⟨b,0,none⟩)].toArray w0 (Ret (.bool (x.id==id)) w0):=by
 refine enter [.tmp 3] Tryz.func46 rfl Tryz.ntmps46 rfl rfl ?_
 have H:=zA w0
 repeat' (first|refine yT ?_|refine y7 sg H ?_|(refine y9 H ?_;intro b w H)|refine z13 (zH sg rfl rfl (H.memF hF) hm rfl rfl) ?_|refine yU ?_|fail)
 exact zP rfl H.cl rfl
def zHC (l:List Auc)(id:Int):Int:=idx (fun j=>(l.getD j default).id==id) l.length
def zAy (l:List Auc)(id:Int):Auc × Bool:=if zHC l id<0 then(Auc.zero,false) else(l.getD (zHC l id).toNat default,true)
theorem zHN (l:List Auc)(id:Int):-1≤zHC l id∧zHC l id<l.length:=by
 rcases zZ (fun j=>(l.getD j default).id==id) l.length with ⟨k,h1,_,_,h2⟩|⟨_,h2⟩<;>(unfold zHC;rw[h2];omega)
theorem c_Get {a:Option Addr}{cap:Nat}(l:List Auc)(ad:Nat→Option Addr × Nat)(id:Int){F:zC}(w0:World)(hF:Mem w0 F)(hs0:Aucs F a cap l ad)(hb:∀ j,j<l.length→(l.getD j default).bids.length≤8796093022208) :
  Calls Tryz.prog 23 [.slice a l.length cap,.int .i64 id].toArray w0 (zi (fun M v=>∃ u,OwnA (zAy l id).1 M u∧v=.tuple #[u,.bool (zAy l id).2]) w0):=by
 have hs1:=hs0
 obtain⟨⟨hn,hc,b0,off,cs,T,fr,hs⟩,hbs⟩:=hs1
 have hg:=zHN l id
 unfold zHC at hg
 refine enter [.cell 4 67,.tmp 5] Tryz.func23 rfl Tryz.ntmps23 rfl rfl ?_
 have H:=zA w0
 repeat' (first|refine yT ?_|(refine y9 H ?_;intro b w H)|(refine y10 sg H ?_;intro b w H)|(refine' y30 zKt ?_ ?_;rotate_left;exact zD2 (caps:=[.pointer (some ⟨_,0,none⟩)]) (fun j=>(l.getD j default).id==id) _ (H.memF hF) hs0.1 ent46 (fun j hj w hw=>c_Get1 (l.getD j default) id _ _ _ (H.ext hw).mem (zz5 _ (zz2 _)));refine w2 H ?_;clear H;intro w H)|refine yU ?_|fail)
 refine zD rfl (fun h=>?_) (fun h=>?_)
 ·repeat' (first|refine yT ?_|(refine y11 sg H ?_;intro w H)|refine yU ?_|fail)
  have e:zAy l id=(Auc.zero,false):=by unfold zAy zHC;rw[if_pos (of_decide_eq_true h)]
  refine zq (vs:=[_,_]) (M:=[]) ⟨zy sg rfl H.mem (zz2 _) rfl rfl,zb rfl,trivial⟩ (H.sub (zz9 _)) ?_
  rw[e]
  exact⟨_,⟨none,0,rfl,zTP _ _ _⟩,rfl⟩
 ·have hlt:=zzB h
  have e:zAy l id=(l.getD (idx (fun j=>(l.getD j default).id==id) l.length).toNat default,true):=by unfold zAy zHC;rw[if_neg hlt]
  repeat' (first|refine yT ?_|(refine y11 sg H ?_;intro w H)|refine x40 sg hs ?_|refine x42 sg hs (H.memF hF) ?_|(refine' y32 ent47 ?_ ?_;rotate_left;exact c_own (l.getD (idx (fun j=>(l.getD j default).id==id) l.length).toNat default) _ (H.memF hF) (hbs _ qO) (hb _ qO);intro v M w hR hS;replace H:=H.addR hS;clear hS;(try simp only[List.cons_append,List.nil_append] at H);obtain⟨a',cap',rfl,hO⟩:=hR)|refine yU ?_|fail)
  refine zq (vs:=[_,_]) (M:=M) ⟨zy sg rfl H.mem (zz2 _) rfl rfl,zb rfl,trivial⟩ (H.sub zKq) ?_
  rw[e];exact⟨_,⟨a',cap',rfl,hO⟩,rfl⟩
def Bid.zero:Bid:=⟨0,0⟩
def zAD (x:Auc):Bid × Bool:=if hi x.bids<0||!zAT x then(Bid.zero,false) else(x.bids.getD (hi x.bids).toNat default,true)
theorem zNw {a:Option Addr}{cap:Nat}(x:Auc){F:zC}(w0:World)(hF:Mem w0 F)(hs0:Bids F a cap x.bids) :
  Calls Tryz.prog 25 [.agg (x.cells a cap).toArray].toArray w0 (Ret (.tuple #[.agg (zAD x).1.cells.toArray,.bool (zAD x).2]) w0):=by
 have hs1:=hs0
 obtain⟨hn,hc,b0,off,cs,T,fr,hs⟩:=hs1
 have hh:-1≤hi x.bids∧hi x.bids<x.bids.length:=zD4 _ _
 refine enter [.cell 2 72,.tmp 3] Tryz.func25 rfl Tryz.ntmps25 rfl rfl ?_
 have H:=zA w0
 repeat' (first|refine yT ?_|refine y7 sg H ?_|(refine y9 H ?_;intro b w H)|(refine y10 sg H ?_;intro b w H)|(refine y11 sg H ?_;intro w H)|(refine y40 sg (hs) ?_ ?_ ?_;((have:=of_decide_eq_false ‹decide (hi x.bids<0)=false›;omega));(omega))|(refine y42 sg (hs) ((H.memF hF)) ?_ ?_;((have:=of_decide_eq_false ‹decide (hi x.bids<0)=false›;omega)))|(refine' y30 ent49 ?_ ?_;rotate_left;exact zIv x.bids _ (H.memF hF) hs0;refine w2 H ?_;clear H;intro w H)|(refine' y30 zHd ?_ ?_;rotate_left;exact zHi x _ (H.memF hF) hs0;refine w2 H ?_;clear H;intro w H)|refine yU ?_|(refine y17 ?_ ?_;all_goals intro h)|(refine y23 ?_ ?_;all_goals intro h)|fail)
 all_goals first
  | (refine zA5 (vs:=[_,_]) ⟨zy sg rfl H.mem (zz2 _) rfl rfl,zb rfl,trivial⟩ H.cl ?_
     simp only[zAD, *]
     rfl)
def mx (a b:Int):Int:=if b>a then b else a
def zFh (l:List Bid)(res:Int)(i:Int):Nat→Int
 | 0=>res
 | k+1=>if ((k:Int) != i)=true then mx (zFh l res i k) (l.getD k default).amount else zFh l res i k
def zDH (x:Auc):Bid × Bool :=
 if hi x.bids<0||decide ((x.bids.getD (hi x.bids).toNat default).amount<x.reserve) then(Bid.zero,false)
 else(⟨(x.bids.getD (hi x.bids).toNat default).acct,zFh x.bids x.reserve (hi x.bids) x.bids.length⟩,true)
def zG2 (x:Auc):Bid × Bool:=if (x.bids.length:Int)==0 then(Bid.zero,false) else(x.bids.getD 0 default,true)
theorem zTu {a:Option Addr}{cap:Nat}(x:Auc){F:zC}(w0:World)(hF:Mem w0 F)(hs:Bids F a cap x.bids) :
  Calls Tryz.prog 293 [.agg #[],.agg (x.cells a cap).toArray].toArray w0 (Ret (.tuple #[.agg (zG2 x).1.cells.toArray,.bool (zG2 x).2]) w0):=by
 obtain⟨hn,hc,b0,off,cs,T,fr,hs⟩:=hs
 refine enter [.cell 4 72,.tmp 5] Tryz.func293 rfl Tryz.ntmps293 rfl rfl ?_
 have H:=zA w0
 repeat' (first|refine yT ?_|refine y7 sg H ?_|(refine y9 H ?_;intro b w H)|(refine y10 sg H ?_;intro b w H)|(refine y11 sg H ?_;intro w H)|(refine y40 sg (hs) ?_ ?_ ?_;(omega);((have:=neI h;omega)))|(refine y42 sg (hs) ((H.memF hF)) ?_ ?_;((have:=neI h;omega)))|refine yU ?_|(refine y23 ?_ ?_;all_goals intro h)|fail)
 all_goals first
  | (refine zA5 (vs:=[_,_]) ⟨zy sg rfl H.mem (zz2 _) rfl rfl,zb rfl,trivial⟩ H.cl ?_
     simp only[zG2, *]
     rfl)
theorem zTv {a:Option Addr}{cap:Nat}(x:Auc){F:zC}(w0:World)(hF:Mem w0 F)(hs0:Bids F a cap x.bids) :
  Calls Tryz.prog 288 [.agg #[],.agg (x.cells a cap).toArray].toArray w0 (Ret (.tuple #[.agg (zDH x).1.cells.toArray,.bool (zDH x).2]) w0):=by
 have hs1:=hs0
 obtain⟨hn,hc,b0,off,cs,T,fr,hs⟩:=hs1
 have hh:-1≤hi x.bids∧hi x.bids<x.bids.length:=zD4 _ _
 refine enter [.cell 4 72,.tmp 5] Tryz.func288 rfl Tryz.ntmps288 rfl rfl ?_
 have H:=zA w0
 repeat' (first|refine yT ?_|refine y7 sg H ?_|refine y8 sg H ?_|(refine y9 H ?_;intro b w H)|(refine y10 sg H ?_;intro b w H)|(refine y11 sg H ?_;intro w H)|(refine y41 sg (hs) ?_ ?_ ?_;((have:=of_decide_eq_false ‹decide (hi x.bids<0)=false›;omega));(omega))|(refine y45 sg (hs) ((H.memF hF)) ?_ ?_;((have:=of_decide_eq_false ‹decide (hi x.bids<0)=false›;omega)))|(refine' y30 ent49 ?_ ?_;rotate_left;exact zIv x.bids _ (H.memF hF) hs0;refine w2 H ?_;clear H;intro w H)|refine yU ?_|(refine y18 ?_ ?_;all_goals intro h)|(with_reducible apply zO;refine w2 H ?_;clear H;intro w H)|refine y20 mixed ?_|fail)
 ·refine zA5 (vs:=[_,_]) ⟨zy sg rfl H.mem (zz2 _) rfl rfl,zb rfl,trivial⟩ H.cl ?_
  simp only[zDH, *]
  rfl
 ·refine zD rfl (fun h2=>?_) (fun h2=>?_)
  ·repeat' (first|refine yT ?_|(refine y11 sg H ?_;intro w H)|refine yU ?_|fail)
   refine zA5 (vs:=[_,_]) ⟨zy sg rfl H.mem (zz2 _) rfl rfl,zb rfl,trivial⟩ H.cl ?_
   simp only[zDH, *]
   rfl
  ·have hge:=zzB h
   repeat' (first|refine yT ?_|refine y7 sg H ?_|refine yU ?_|with_reducible apply zB|fail)
   refine zI [(7,9),(32,44)] (fun k:Nat=>[(32,.int .i64 (k:Int)),(7,.int .i64 (zFh x.bids x.reserve (hi x.bids) k))])
    (fun k w=>k≤x.bids.length∧St w0 [cb _ Bid.zero.cells 72,cb _ (x.cells a cap) 67,cb _ [] 182] w) (fun k=>x.bids.length - k) 0 ⟨rfl,rfl,trivial⟩ ⟨zzD _,H⟩ ?_
   clear H
   rintro k g w ⟨hk,H⟩
   repeat' (first|refine yT ?_|refine yU ?_|fail)
   refine zD rfl (fun h3=>?_) (fun h3=>?_)
   ·have hlt:k<x.bids.length:=by simpa using h3
    repeat' (first|refine yT ?_|refine y7 sg H ?_|(refine y10 sg H ?_;intro b w H)|(refine y11 sg H ?_;intro w H)|refine x40 sg hs ?_|refine x42 sg hs (H.memF hF) ?_|refine yU ?_|with_reducible apply zB|(refine y23 ?_ ?_;all_goals intro h)|fail)
    all_goals refine zF (k+1) rfl ⟨zf qO,?_,trivial⟩ ⟨hlt,H.sub zKq⟩ qO
    ·show Value.int .i64 (mx _ _)=_
     rw[zFh,if_pos ‹_›]
    ·show Value.int .i64 (zFh x.bids x.reserve (hi x.bids) k)=_
     rw[zFh,if_neg (by simp only[*];simp)]
   ·have hkn:k=x.bids.length:=by simp at h3;omega
    subst hkn
    repeat' (first|refine yT ?_|refine y7 sg H ?_|(refine y11 sg H ?_;intro w H)|refine x40 sg hs ?_|refine x44 sg hs (H.memF hF) ?_|refine yU ?_|fail)
    refine zA5 (vs:=[_,_]) ⟨zy sg rfl H.mem (zz2 _) rfl rfl,zb rfl,trivial⟩ H.cl ?_
    simp only[zDH, *]
    rfl
def zL (x:Auc):Bid × Bool:=if zAT x then(if x.sealed then zDH x else zG2 x) else(Bid.zero,false)
theorem zF6 {a:Option Addr}{cap:Nat}(x:Auc){F:zC}(w0:World)(hF:Mem w0 F)(hs:Bids F a cap x.bids) :
  Calls Tryz.prog 200 [.agg (x.cells a cap).toArray].toArray w0 (Ret (.tuple #[.agg (zL x).1.cells.toArray,.bool (zL x).2]) w0):=by
 refine enter [.cell 2 72,.tmp 3] Tryz.func200 rfl Tryz.ntmps200 rfl rfl ?_
 have H:=zA w0
 rcases Bool.eq_false_or_eq_true x.sealed with hse|hse
 ·have e:zAT x=true→zL x=zDH x:=fun h=>by simp[zL,h,hse]
  repeat' (first|refine yT ?_|refine y7 sg H ?_|refine y8 sg H ?_|(refine y9 H ?_;intro b w H)|(refine y10 sg H ?_;intro b w H)|(refine y11 sg H ?_;intro w H)|refine y12 ?_|(refine CW.regionR mixed ?_;refine w2 H ?_;clear H;intro w H;(with_reducible apply RW.quiet 6);exact rfl;decide +kernel;simp only[List.append_eq,List.cons_append,List.nil_append,List.take_succ_cons,List.take_zero,List.drop_zero])|(refine' y30 zHd ?_ ?_;rotate_left;exact zHi x _ (H.memF hF) hs;refine w2 H ?_;clear H;intro w H)|(refine' y31 zIq ?_ ?_;rotate_left;exact(fun _ hcl=>zRF x a cap _ hse))|((with_reducible apply QX.call);exact rfl;exact rfl;exact En.inv ent288 rfl rfl (zTd) rfl;exact(fun _ hcl=>zTv x _ ((H.ext hcl).memF hF) hs))|refine yU ?_|(with_reducible apply zO;refine w2 H ?_;clear H;intro w H)|(refine y23 ?_ ?_;all_goals intro h)|fail)
  ·refine zA5 (vs:=[_,_]) ⟨zy sg rfl H.mem (zz2 _) rfl rfl,zb rfl,trivial⟩ H.cl ?_
   have e:zL x=(Bid.zero,false):=by simp only[Bool.not_eq_true'] at h;simp[zL,h]
   rw[e];rfl
  ·rw[e (by simpa using h)]
   exact zKj (vs:=[_,_]) ⟨zy sg rfl H.mem (zz2 _) rfl rfl,zb rfl,trivial⟩ H.cl rfl
 ·have e:zAT x=true→zL x=zG2 x:=fun h=>by simp[zL,h,hse]
  repeat' (first|refine yT ?_|refine y7 sg H ?_|refine y8 sg H ?_|(refine y9 H ?_;intro b w H)|(refine y10 sg H ?_;intro b w H)|(refine y11 sg H ?_;intro w H)|refine y12 ?_|(refine CW.regionR mixed ?_;refine w2 H ?_;clear H;intro w H;(with_reducible apply RW.quiet 6);exact rfl;decide +kernel;simp only[List.append_eq,List.cons_append,List.nil_append,List.take_succ_cons,List.take_zero,List.drop_zero])|(refine' y30 zHd ?_ ?_;rotate_left;exact zHi x _ (H.memF hF) hs;refine w2 H ?_;clear H;intro w H)|(refine' y31 zIq ?_ ?_;rotate_left;exact(fun _ hcl=>zRG x a cap _ hse))|((with_reducible apply QX.call);exact rfl;exact rfl;exact En.inv ent293 rfl rfl (zTe) rfl;exact(fun _ hcl=>zTu x _ ((H.ext hcl).memF hF) hs))|refine yU ?_|(with_reducible apply zO;refine w2 H ?_;clear H;intro w H)|(refine y23 ?_ ?_;all_goals intro h)|fail)
  ·refine zA5 (vs:=[_,_]) ⟨zy sg rfl H.mem (zz2 _) rfl rfl,zb rfl,trivial⟩ H.cl ?_
   have e:zL x=(Bid.zero,false):=by simp only[Bool.not_eq_true'] at h;simp[zL,h]
   rw[e];rfl
  ·rw[e (by simpa using h)]
   exact zKj (vs:=[_,_]) ⟨zy sg rfl H.mem (zz2 _) rfl rfl,zb rfl,trivial⟩ H.cl rfl
theorem zI1 {n m:Int}(h:zu n m=true):1≤n∧n≤m:=by
 simp only[zu,Bool.and_eq_true,decide_eq_true_eq] at h;omega
theorem zNx {x:Auc}(h:zCA x=true)(j:Nat)(hj:j<x.bids.length):zBR x j=false:=by
 unfold zCA at h
 rcases zZ (zBR x) x.bids.length with ⟨k,h1,_,_,h2⟩|⟨h1,_⟩
 ·rw[h2] at h;simp at h;omega
 ·exact h1 j hj
theorem zI2 {x:Auc}(h:zAT x=true)(j:Nat)(hj:j<x.bids.length):1≤(x.bids.getD j default).amount∧(x.bids.getD j default).amount≤1125899906842624:=by
 simp only[zAT,Bool.and_eq_true] at h
 have:=zNx h.2 j hj
 simp only[zBR,Bool.or_eq_false_iff,Bool.not_eq_false'] at this
 exact zI1 this.1.2
theorem zNy {x:Auc}(h:zAT x=true)(he:x.sealed=false):1≤x.step∧x.step≤1125899906842624:=by
 simp only[zAT,Bool.and_eq_true,zAa,he,zEj,Bool.false_eq_true,if_false] at h
 exact zI1 h.1.2.1
def zEC (x:Auc):Int:=if (x.bids.length:Int)==0 then x.reserve else(zMU (x.bids.getD 0 default).amount x.step).1
theorem zRU {a:Option Addr}{cap:Nat}(x:Auc){F:zC}(w0:World)(hF:Mem w0 F)(hs:Bids F a cap x.bids)(hm:zAT x=true)(he:x.sealed=false) :
  Calls Tryz.prog 290 [.agg #[],.agg (x.cells a cap).toArray].toArray w0 (Ret (.int .i64 (zEC x)) w0):=by
 obtain⟨hn,hc,b0,off,cs,T,fr,hs⟩:=hs
 have hst:=zNy hm he
 refine enter [.tmp 4] Tryz.func290 rfl Tryz.ntmps290 rfl rfl ?_
 have H:=zA w0
 repeat' (first|refine yT ?_|refine y7 sg H ?_|(refine y9 H ?_;intro b w H)|refine yU ?_|fail)
 refine zD rfl (fun h=>?_) (fun h=>?_)
 ·repeat' (first|refine yT ?_|refine y7 sg H ?_|refine yU ?_|fail)
  exact zP rfl H.cl (by simp only[zEC,h,if_true])
 ·have hpos:0<x.bids.length:=by have:=neI h;omega
  have hb:=zI2 hm 0 hpos
  repeat' (first|refine yT ?_|refine y8 sg H ?_|refine x41 sg hs ?_|refine x45 sg hs (H.memF hF) ?_|(refine' y31 zQy ?_ ?_;rotate_left;exact(fun _ hcl=>c_Add _ _ _ qO qO qO qO))|refine yU ?_|(with_reducible apply zO;refine w2 H ?_;clear H;intro w H)|refine y20 mixed ?_|fail)
  exact zP rfl H.cl (by simp only[zEC,h];rfl)
theorem zRV (c d:Bid)(T:TypeId)(b:Nat)(w:World)(F:zC)(hF:Mem w F)(hm:(b,Obj.cells d.cells.toArray T (0,0))∈F) :
  Calls Tryz.prog 289 [.agg c.cells.toArray,.pointer (some ⟨b,0,none⟩)].toArray w (Ret (.bool (c.acct==d.acct)) w):=by
 refine enter [.tmp 3] Tryz.func289 rfl Tryz.ntmps289 rfl rfl ?_
 have H:=zA w
 repeat' (first|refine yT ?_|refine y7 sg H ?_|(refine y9 H ?_;intro b w H)|refine z13 (zH sg rfl rfl (H.memF hF) hm rfl rfl) ?_|refine yU ?_|fail)
 all_goals exact zP rfl H.cl rfl
theorem zPJ (l:List Bid)(b:Bid):(List.range l.length).flatMap (bel l)++b.cells=(List.range (l++[b]).length).flatMap (bel (l++[b])):=by
 rw[List.length_append,List.length_singleton,List.range_succ,List.flatMap_append,List.flatMap_singleton]
 congr 1
 ·have:∀ m,m≤l.length→(List.range m).flatMap (bel l)=(List.range m).flatMap (bel (l++[b])):=by
   intro m
   induction m with
   | zero=>intro _;rfl
   | succ m ih =>
     intro hm
     rw[List.range_succ,List.flatMap_append,List.flatMap_append,ih qO,List.flatMap_singleton,List.flatMap_singleton]
     have hlt:m<l.length:=by omega
     simp[bel,List.getD,List.getElem?_append_left hlt]
  exact this _ (zzC _)
 ·simp[bel,List.getD]
def zCP (x:Auc)(b:Bid):List Bid × Int :=
 if idx (fun i=>(x.bids.getD i default).acct==b.acct) x.bids.length ≥ 0 then([],6) else if (x.bids.length:Int) ≥ 16 then([],40) else(x.bids++[b],0)
def TakeR (r:List Bid × Int)(M:zC)(v:Value):Prop:=∃ a cap,OwnB M a cap r.1∧v=.tuple #[.slice a r.1.length cap,.int .i64 r.2]
theorem zTw {a:Option Addr}{cap:Nat}(x:Auc)(y:Bid){F:zC}(w0:World)(hF:Mem w0 F)(hs:Bids F a cap x.bids) :
  Calls Tryz.prog 287 [.agg #[],.agg (x.cells a cap).toArray,.agg y.cells.toArray].toArray w0 (zi (TakeR (zCP x y)) w0):=by
 refine enter [.tmp 6,.tmp 7] Tryz.func287 rfl Tryz.ntmps287 rfl rfl ?_
 have H:=zA w0
 repeat' (first|refine yT ?_|refine y7 sg H ?_|(refine y9 H ?_;intro b w H)|(refine' y30 zMG ?_ ?_;rotate_left;exact zDU (caps:=[.pointer (some ⟨_,0,none⟩)]) (fun i=>(x.bids.getD i default).acct==y.acct) _ (H.memF hF) hs ent289 (fun j hj w hw=>zRV (x.bids.getD j default) y 72 _ _ _ (H.ext hw).mem (zz2 _));refine w2 H ?_;clear H;intro w H)|refine yU ?_|with_reducible apply zB|fail)
 refine zD rfl (fun h=>?_) (fun h=>?_)
 ·repeat' (first|refine yT ?_|refine yU ?_|fail)
  have e:zCP x y=([],6):=by simp only[zCP,if_pos (of_decide_eq_true h)]
  exact zq (vs:=[_,_]) (M:=[]) ⟨zb rfl,zb rfl,trivial⟩ (H.sub zKq) ⟨none,0,by rw[e];exact zTP _ _ _,by rw[e];rfl⟩
 ·repeat' (first|refine yT ?_|refine y7 sg H ?_|refine yU ?_|fail)
  refine zD rfl (fun h2=>?_) (fun h2=>?_)
  ·repeat' (first|refine yT ?_|refine yU ?_|fail)
   have e:zCP x y=([],40):=by simp only[zCP,if_neg (of_decide_eq_false h),if_pos (of_decide_eq_true h2)]
   exact zq (vs:=[_,_]) (M:=[]) ⟨zb rfl,zb rfl,trivial⟩ (H.sub zKq) ⟨none,0,by rw[e];exact zTP _ _ _,by rw[e];rfl⟩
  ·have hlen:=zzB h2
   have e:zCP x y=(x.bids++[y],0):=by simp only[zCP,if_neg (of_decide_eq_false h),if_neg hlen]
   repeat' (first|refine yT ?_|refine y7 sg H ?_|(refine CW.regionR mixed ?_;refine w2 H ?_;clear H;intro w H;(with_reducible apply RW.all))|((with_reducible apply RS.bar (k:=5));decide +kernel;decide +kernel)|((with_reducible apply RS.c1 0);exact rfl;decide +kernel;exact rfl)|((with_reducible apply RS.c1 1);exact rfl;decide +kernel;exact rfl)|((with_reducible apply RS.c1 2);exact rfl;decide +kernel;exact rfl)|((with_reducible apply RS.c1 3);exact rfl;decide +kernel;exact rfl)|((with_reducible apply RS.c1 4);exact rfl;decide +kernel;exact rfl)|((with_reducible apply RS.c2 0 3);exact rfl;decide +kernel;exact rfl;exact rfl)|((with_reducible apply RS.c2 0 4);exact rfl;decide +kernel;exact rfl;exact rfl)|((with_reducible apply RS.c2 1 3);exact rfl;decide +kernel;exact rfl;exact rfl)|((with_reducible apply RS.c2 1 4);exact rfl;decide +kernel;exact rfl;exact rfl)|((with_reducible apply RS.c2 2 3);exact rfl;decide +kernel;exact rfl;exact rfl)|((with_reducible apply RS.c2 2 4);exact rfl;decide +kernel;exact rfl;exact rfl)|(refine z14 sg H ?_;intro b w H)|(refine' y32 zQe ?_ ?_;rotate_left;exact zFb _ (H.memF hF) hs (fun j _=>zJx _ j) (fun j _=>zFB _ j) qO;intro v M w hR hS;replace H:=H.addR hS;clear hS;(try simp only[List.cons_append,List.nil_append] at H);obtain⟨a',cap',rfl,hO⟩:=hR)|refine yU ?_|fail)
   all_goals(have hp:=H.perm (List.perm_append_comm (l₁:=[_,_,_,_]) (l₂:=M)))
   all_goals repeat' (first|refine yT ?_|refine y12 ?_|(refine zj sg 2 16 (M:=M) hp rfl rfl rfl rfl rfl rfl rfl rfl rfl rfl rfl hO (zAL hp.mem (zz3 _ (zz2 _))) rfl (by intro u hu;simp only[List.mem_cons,List.not_mem_nil,or_false] at hu;rcases hu with rfl|rfl<;>rfl) (by unfold maxLen;omega) qO ?_;intro a'' cap'' M'' w hO2 H;clear hp)|refine yU ?_|fail)
   all_goals exact zq (vs:=[_,_]) (M:=M'') ⟨zb rfl,zb rfl,trivial⟩ (H.sub (List.sublist_append_left _ _)) ⟨a'',cap'',by rw[e];show Go.Sk.Own _ _ 2 _ (x.bids++[y]).length _ _;rw[← zPJ,List.length_append];exact hO2,by rw[e];show _=Value.tuple #[.slice _ (x.bids++[y]).length _,_];rw[List.length_append];rfl⟩
def zCx (x:Auc)(y:Bid):List Bid × Int:=if y.amount<zEC x then([],51) else([y],0)
theorem zTx {a:Option Addr}{cap:Nat}(x:Auc)(y:Bid){F:zC}(w0:World)(hF:Mem w0 F)(hs:Bids F a cap x.bids)(hm:zAT x=true)(he:x.sealed=false) :
  Calls Tryz.prog 292 [.agg #[],.agg (x.cells a cap).toArray,.agg y.cells.toArray].toArray w0 (zi (TakeR (zCx x y)) w0):=by
 refine enter [.tmp 6,.tmp 7] Tryz.func292 rfl Tryz.ntmps292 rfl rfl ?_
 have H:=zA w0
 repeat' (first|refine yT ?_|refine y8 sg H ?_|(refine y9 H ?_;intro b w H)|(refine' y31 ent290 ?_ ?_;rotate_left;exact(fun _ hcl=>zRU x _ ((H.ext hcl).memF hF) hs hm he))|refine yU ?_|(with_reducible apply zO;refine w2 H ?_;clear H;intro w H)|refine y20 mixed ?_|fail)
 refine zD rfl (fun h=>?_) (fun h=>?_)
 ·repeat' (first|refine yT ?_|refine yU ?_|fail)
  have e:zCx x y=([],51):=by simp only[zCx,if_pos (of_decide_eq_true h)]
  exact zq (vs:=[_,_]) (M:=[]) ⟨zb rfl,zb rfl,trivial⟩ (H.sub zKq) ⟨none,0,by rw[e];exact zTP _ _ _,by rw[e];rfl⟩
 ·repeat' (first|refine yT ?_|refine y7 sg H ?_|(refine z14 sg H ?_;intro b w H)|refine yU ?_|fail)
  have e:zCx x y=([y],0):=by simp only[zCx,if_neg (of_decide_eq_false h)]
  exact zq (vs:=[_,_]) (M:=[_]) ⟨zb rfl,zb rfl,trivial⟩ (H.sub (List.Sublist.cons_cons _ (zz9 _))) ⟨_,1,by rw[e];exact Go.Sk.Own.mk (n:=1) (cap:=1) (size:=2) (zzC _) (by decide) rfl,by rw[e];rfl⟩
def Auc.put (x:Auc)(l:List Bid):Auc:=⟨x.id,x.seller,x.inst,x.sealed,x.qty,x.reserve,x.step,x.fin,l⟩
def zGX (x:Auc)(y:Bid):List Bid × Int:=if x.sealed then zCP x y else zCx x y
def zU (x:Auc)(y:Bid):Auc × Int :=
 if zAT x=false then(Auc.zero,4) else if (zu y.acct 64&&zu y.amount 1125899906842624)=false then(Auc.zero,1) else if y.acct==x.seller then(Auc.zero,49)
 else if (zGX x y).2 != 0 then(Auc.zero,(zGX x y).2) else(x.put (zGX x y).1,0)
theorem zCQ {x:Auc}{y:Bid}{M:zC}{e:Env}{w0 w:World}(hr:rds Tryz.prog e w [ResultVar.cell 4 67,ResultVar.tmp 5] [.agg (Auc.zero.cells none 0).toArray,.int .i64 (zU x y).2])(hS:St w0 M w)(hz:(zU x y).1=Auc.zero) :
  post Tryz.prog [ResultVar.cell 4 67,ResultVar.tmp 5] (zi (fun M v=>∃ u,OwnA (zU x y).1 M u∧v=.tuple #[u,.int .i64 (zU x y).2]) w0) .ret e w :=
 zq (M:=[]) hr (hS.sub (zz9 _)) ⟨_,⟨none,0,rfl,by rw[hz];exact zTP _ _ _⟩,by rw[hz];rfl⟩
theorem zRW {a:Option Addr}{cap:Nat}(x:Auc)(y:Bid){F:zC}(w0:World)(hF:Mem w0 F)(hs:Bids F a cap x.bids) :
  Calls Tryz.prog 212 [.agg (x.cells a cap).toArray,.agg y.cells.toArray].toArray w0 (zi (fun M v=>∃ u,OwnA (zU x y).1 M u∧v=.tuple #[u,.int .i64 (zU x y).2]) w0):=by
 refine enter [.cell 4 67,.tmp 5] Tryz.func212 rfl Tryz.ntmps212 rfl rfl ?_
 have H:=zA w0
 repeat' (first|refine yT ?_|refine y7 sg H ?_|(refine y9 H ?_;intro b w H)|(refine y10 sg H ?_;intro b w H)|(refine' y30 zHd ?_ ?_;rotate_left;exact zHi x _ (H.memF hF) hs;refine w2 H ?_;clear H;intro w H)|refine yU ?_|with_reducible apply zB|fail)
 refine zD rfl (fun h=>?_) (fun h=>?_)
 ·repeat' (first|refine yT ?_|(refine y11 sg H ?_;intro w H)|refine yU ?_|fail)
  have e:zU x y=(Auc.zero,4):=by simp only[Bool.not_eq_true'] at h;simp only[zU,if_pos h]
  exact zCQ (x:=x) (y:=y) ⟨zy sg rfl H.mem (zz2 _) rfl rfl,zb (by rw[e];rfl),trivial⟩ H (by rw[e])
 have hm:zAT x=true:=by simpa using h
 have n1:¬ zAT x=false:=by rw[hm];decide
 clear h
 rcases Bool.eq_false_or_eq_true x.sealed with hse|hse
 ·have em:zGX x y=zCP x y:=by simp[zGX,hse]
  repeat' (first|refine yT ?_|refine y7 sg H ?_|refine y8 sg H ?_|(refine y11 sg H ?_;intro w H)|refine y12 ?_|(refine' y30 zKv ?_ ?_;rotate_left;exact zDe _ _ _;refine w2 H ?_;clear H;intro w H)|(refine' y30 zIp ?_ ?_;rotate_left;exact zCN _ _ _;refine w2 H ?_;clear H;intro w H)|(refine' y31 zIq ?_ ?_;rotate_left;exact(fun _ hcl=>zRF x a cap _ hse))|(refine CW.regionR mixed ?_;refine w2 H ?_;clear H;intro w H;(with_reducible apply RW.quiet 4);exact rfl;decide +kernel;simp only[List.append_eq,List.cons_append,List.nil_append,List.take_succ_cons,List.take_zero,List.drop_zero])|((with_reducible apply OX.callF);exact rfl;exact rfl;exact En.inv ent287 rfl rfl (zTf) rfl;exact zTw x y _ (H.memF hF) hs;intro v M w hR hS;replace H:=H.addR hS;clear hS;(try simp only[List.cons_append,List.nil_append] at H);obtain⟨a',cap',hO,rfl⟩:=hR)|((with_reducible apply RW.one);exact rfl;decide +kernel)|((with_reducible apply RW.quiet 10);exact rfl;decide +kernel;simp only[List.append_eq,List.cons_append,List.nil_append,List.take_succ_cons,List.take_zero,List.drop_succ_cons,List.drop_zero])|refine yU ?_|(refine y17 ?_ ?_;all_goals intro h)|(with_reducible apply zO;refine w2 H ?_;clear H;intro w H)|(refine y23 ?_ ?_;all_goals intro h)|fail)
  all_goals simp only[Bool.not_eq_true',Bool.not_eq_false'] at *
  all_goals first
   | (have e:zU x y=(Auc.zero,1):=by simp[zU, *]
      exact zCQ (x:=x) (y:=y) ⟨zy sg rfl H.mem (zz2 _) rfl rfl,zb (by rw[e];rfl),trivial⟩ H (by rw[e]))
   | (have e:zU x y=(Auc.zero,49):=by simp[zU, *]
      exact zCQ (x:=x) (y:=y) ⟨zy sg rfl H.mem (zz2 _) rfl rfl,zb (by rw[e];rfl),trivial⟩ H (by rw[e]))
   | (have e:zU x y=(Auc.zero,(zCP x y).2):=by simp only[zU,em, *];simp
      exact zCQ (x:=x) (y:=y) ⟨zy sg rfl H.mem (zz2 _) rfl rfl,zb (by rw[e];rfl),trivial⟩ H (by rw[e]))
   | (have e:zU x y=(x.put (zCP x y).1,0):=by simp only[zU,em, *];simp
      exact zq (vs:=[_,_]) (M:=M) ⟨zy sg rfl H.mem (zz2 _) rfl rfl,zb rfl,trivial⟩ (H.sub zKq) (by rw[e];exact⟨_,⟨a',cap',rfl,hO⟩,rfl⟩))
 ·have em:zGX x y=zCx x y:=by simp[zGX,hse]
  repeat' (first|refine yT ?_|refine y7 sg H ?_|refine y8 sg H ?_|(refine y11 sg H ?_;intro w H)|refine y12 ?_|(refine' y30 zKv ?_ ?_;rotate_left;exact zDe _ _ _;refine w2 H ?_;clear H;intro w H)|(refine' y30 zIp ?_ ?_;rotate_left;exact zCN _ _ _;refine w2 H ?_;clear H;intro w H)|(refine' y31 zIq ?_ ?_;rotate_left;exact(fun _ hcl=>zRG x a cap _ hse))|(refine CW.regionR mixed ?_;refine w2 H ?_;clear H;intro w H;(with_reducible apply RW.quiet 4);exact rfl;decide +kernel;simp only[List.append_eq,List.cons_append,List.nil_append,List.take_succ_cons,List.take_zero,List.drop_zero])|((with_reducible apply OX.callF);exact rfl;exact rfl;exact En.inv ent292 rfl rfl (zTg) rfl;exact zTx x y _ (H.memF hF) hs hm hse;intro v M w hR hS;replace H:=H.addR hS;clear hS;(try simp only[List.cons_append,List.nil_append] at H);obtain⟨a',cap',hO,rfl⟩:=hR)|((with_reducible apply RW.one);exact rfl;decide +kernel)|((with_reducible apply RW.quiet 10);exact rfl;decide +kernel;simp only[List.append_eq,List.cons_append,List.nil_append,List.take_succ_cons,List.take_zero,List.drop_succ_cons,List.drop_zero])|refine yU ?_|(refine y17 ?_ ?_;all_goals intro h)|(with_reducible apply zO;refine w2 H ?_;clear H;intro w H)|(refine y23 ?_ ?_;all_goals intro h)|fail)
  all_goals simp only[Bool.not_eq_true',Bool.not_eq_false'] at *
  all_goals first
   | (have e:zU x y=(Auc.zero,1):=by simp[zU, *]
      exact zCQ (x:=x) (y:=y) ⟨zy sg rfl H.mem (zz2 _) rfl rfl,zb (by rw[e];rfl),trivial⟩ H (by rw[e]))
   | (have e:zU x y=(Auc.zero,49):=by simp[zU, *]
      exact zCQ (x:=x) (y:=y) ⟨zy sg rfl H.mem (zz2 _) rfl rfl,zb (by rw[e];rfl),trivial⟩ H (by rw[e]))
   | (have e:zU x y=(Auc.zero,(zCx x y).2):=by simp only[zU,em, *];simp
      exact zCQ (x:=x) (y:=y) ⟨zy sg rfl H.mem (zz2 _) rfl rfl,zb (by rw[e];rfl),trivial⟩ H (by rw[e]))
   | (have e:zU x y=(x.put (zCx x y).1,0):=by simp only[zU,em, *];simp
      exact zq (vs:=[_,_]) (M:=M) ⟨zy sg rfl H.mem (zz2 _) rfl rfl,zb rfl,trivial⟩ (H.sub zKq) (by rw[e];exact⟨_,⟨a',cap',rfl,hO⟩,rfl⟩))
end
end Go.Proofs.YthbflajpdhgfiaaGreatDoor
