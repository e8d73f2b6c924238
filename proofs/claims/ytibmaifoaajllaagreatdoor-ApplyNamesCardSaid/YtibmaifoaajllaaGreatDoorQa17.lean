/- Texts of ours, joined: the steps of the proof, or the claim's theorem. -/
import Derived.Test.YtibmaifoaajllaaGreatDoorQa16
set_option linter.unusedSimpArgs false
set_option linter.unusedVariables false
set_option maxHeartbeats 16000000
namespace Go.Proofs.YtibmaifoaajllaaGreatDoor
open Go Go.Sk Go.RowKit
attribute [local irreducible] Go.Calls
def zEN (s:Sta)(o:Odr):Bool:=decide (o.id ≥ s.nextO)||!(zBG s.accts o.acct).2||!(zB7 s.insts o.inst).2||(o.price.tmod (zB7 s.insts o.inst).1.tick != 0)
theorem zI6 (s:Sta)(o:Odr):zEN s o=!zCf s o:=by
 unfold zEN zCf
 have h:decide (o.id ≥ s.nextO)=!decide (o.id<s.nextO):=by
  by_cases h:o.id<s.nextO
  ·rw[decide_eq_true h,decide_eq_false (by omega)];rfl
  ·rw[decide_eq_false h,decide_eq_true (by omega)];rfl
 rw[h,bne]
 simp only[Bool.not_and]
theorem zO4 {b:Nat}{T:TypeId}{fr:Nat × Nat}{F:zH}(s:Sta)(p:SPt)(hi:zDC s.insts=true)(o:Odr)(w0:World)(hF:Mem w0 F)(hs0:StaM F s p)(hm:(b,Obj.cells (s.cells p).toArray T fr)∈F) :
  Calls Tryz.prog 177 [.agg o.cells.toArray,.pointer (some ⟨b,0,none⟩)].toArray w0 (Ret (.bool (zEN s o)) w0):=by
 have htk:=zRH hi (a:=o.inst)
 obtain⟨ac,ok,hac⟩:∃ ac ok,zBG s.accts o.acct=(ac,ok):=⟨_,_,rfl⟩
 obtain⟨ins,is,his⟩:∃ ac ok,zB7 s.insts o.inst=(ac,ok):=⟨_,_,rfl⟩
 have opn:∀ {w:World},Mem w F→Calls Tryz.prog 174 [.agg (s.cells p).toArray,.int .i64 o.acct].toArray w (Ret (.bool ok) w):=fun hF=>by
  have:=zJr s p o.acct _ hF hs0
  rw[hac] at this
  exact this
 have inst:∀ {w:World},Mem w F→Calls Tryz.prog 178 [.agg (s.cells p).toArray,.int .i64 o.inst].toArray w (Ret (.tuple #[.agg ins.cells.toArray,.bool is]) w):=fun hF=>by
  have:=zQ7 s p o.inst _ hF hs0
  rw[his] at this
  exact this
 have hso:zEN s o=(decide (o.id ≥ s.nextO)||!ok||!is||(o.price.tmod ins.tick != 0)):=by unfold zEN;rw[hac,his]
 rw[his] at htk
 rw[hso]
 refine enter [.tmp 3] Tryz.func177 rfl Tryz.ntmps177 rfl rfl ?_
 have H:=zB w0
 repeat' (first|refine yT ?_|refine y7 sg H ?_|(refine y9 H ?_;intro b w H)|(refine y10 sg H ?_;intro b w H)|(refine y11 sg H ?_;intro w H)|refine z13 (zG sg rfl rfl (H.memF hF) hm rfl rfl) ?_|(refine' y30 zJf ?_ ?_;rotate_left;exact opn (H.memF hF);intro w hcl;replace H:=H.ext hcl;clear hcl)|(refine' y30 zQc ?_ ?_;rotate_left;exact inst (H.memF hF);intro w hcl;replace H:=H.ext hcl;clear hcl)|(refine zf rfl rfl (Yq.rem rfl rfl rfl ?_) ?_;(have h9:=htk (by simpa using h);have h9:1≤ins.tick:=h9;omega))|refine yU ?_|(refine y17 ?_ ?_;all_goals intro h)|fail)
 all_goals simp only[Bool.not_eq_true',Bool.not_eq_false',decide_eq_true_eq,decide_eq_false_iff_not] at *
 all_goals exact zQ rfl H.cl (congrArg Value.bool (by simp only[*,decide_true,decide_false,Bool.true_or,Bool.or_true,Bool.false_or,Bool.or_false,Bool.not_true,Bool.not_false]))
theorem zRI {F:zH}(s:Sta)(p:SPt)(hi:zDC s.insts=true)(w0:World)(hF:Mem w0 F)(hs0:StaM F s p) :
  Calls Tryz.prog 127 [.agg (s.cells p).toArray].toArray w0 (Ret (.bool (zBD s)) w0):=by
 have cont:∀ {b:Nat} {w:World},Mem w (cb b (s.cells p) 28::F)→Calls Tryz.prog 60 [.slice p.odA s.orders.length p.odC,.func (.func 177) #[] #[.pointer (some ⟨b,0,none⟩)]].toArray w (Ret (.bool (decide (idx (fun j=>zEN s (od_ s.orders j)) s.orders.length ≥ 0))) w):=fun hM =>
  zDk (caps:=[.pointer (some ⟨_,0,none⟩)]) (fun j=>zEN s (od_ s.orders j)) _ hM (SlA.mono hs0.od (List.subset_cons_self _ _)) ent177 (fun j _ w hw=>zO4 s p hi (od_ s.orders j) w (hM.ext hw) (hs0.mono (List.subset_cons_self _ _)) (zz2 _))
 have fin:zd s.orders=true→(!decide (idx (fun j=>zEN s (od_ s.orders j)) s.orders.length ≥ 0))=zBD s:=fun hR=>by
  have e:zBD s=(List.range s.orders.length).all fun k=>zCf s (od_ s.orders k):=by unfold zBD;rw[hR,Bool.true_and]
  rw[e]
  rcases zY (fun j=>zEN s (od_ s.orders j)) s.orders.length with ⟨k,hk,_,hb,hx⟩|⟨ha,hx⟩
  ·rw[hx,decide_eq_true (by omega)]
   symm
   rw[Bool.not_true,List.all_eq_false]
   refine⟨k,List.mem_range.2 hk,?_⟩
   have:=(zI6 s _).symm.trans hb
   simpa using this
  ·rw[hx,decide_eq_false (by omega)]
   symm
   rw[Bool.not_false,List.all_eq_true]
   intro k hk
   have hk:=List.mem_range.1 hk
   have:=(zI6 s _).symm.trans (ha k hk)
   simpa using this
 refine enter [.tmp 2] Tryz.func127 rfl Tryz.ntmps127 rfl rfl ?_
 have H:=zB w0
 repeat' (first|refine yT ?_|refine y7 sg H ?_|(refine y9 H ?_;intro b w H)|(refine' y30 zCx ?_ ?_;rotate_left;exact zAo s.orders _ (H.memF hF) hs0.od;intro w hcl;replace H:=H.ext hcl;clear hcl)|(refine' y30 zNZ ?_ ?_;rotate_left;exact cont (H.all hF);intro w hcl;replace H:=H.ext hcl;clear hcl)|refine yU ?_|(refine y17 ?_ ?_;all_goals intro h)|fail)
 all_goals first
  | (have h:zd s.orders=true:=by assumption
     exact zQ rfl H.cl (congrArg Value.bool (fin h)))
  | (have h:zd s.orders=false:=by assumption
     refine zQ rfl H.cl (congrArg Value.bool ?_)
     unfold zBD
     rw[h,Bool.false_and])
  | fail
abbrev au_ (l:List Auc)(k:Nat):Auc:=l.getD k default
def zGl (s:Sta)(l:List Bid)(k:Nat):Bool:=!(zBG s.accts (l.getD k default).acct).2
def zHT (s:Sta)(l:List Bid):Bool:=decide (idx (zGl s l) l.length ≥ 0)
def zCH (s:Sta)(x:Auc):Bool:=decide (x.id ≥ s.nextA)||!(zBG s.accts x.seller).2||!(zB7 s.insts x.inst).2||zHT s x.bids
def zDE (s:Sta):Bool:=zAS s.aucs&&!decide (idx (fun j=>zCH s (au_ s.aucs j)) s.aucs.length ≥ 0)
theorem zJz {b:Nat}{T:TypeId}{fr:Nat × Nat}{F:zH}(s:Sta)(p:SPt)(d:Bid)(w0:World)(hF:Mem w0 F)(hs0:StaM F s p)(hm:(b,Obj.cells (s.cells p).toArray T fr)∈F) :
  Calls Tryz.prog 180 [.agg d.cells.toArray,.pointer (some ⟨b,0,none⟩)].toArray w0 (Ret (.bool (!(zBG s.accts d.acct).2)) w0):=by
 obtain⟨ac,ok,hac⟩:∃ ac ok,zBG s.accts d.acct=(ac,ok):=⟨_,_,rfl⟩
 have opn:∀ {w:World},Mem w F→Calls Tryz.prog 174 [.agg (s.cells p).toArray,.int .i64 d.acct].toArray w (Ret (.bool ok) w):=fun hF=>by
  have:=zJr s p d.acct _ hF hs0
  rw[hac] at this
  exact this
 rw[hac]
 refine enter [.tmp 3] Tryz.func180 rfl Tryz.ntmps180 rfl rfl ?_
 have H:=zB w0
 repeat' (first|refine yT ?_|refine y7 sg H ?_|(refine y9 H ?_;intro b w H)|refine z13 (zG sg rfl rfl (H.memF hF) hm rfl rfl) ?_|(refine' y30 zJf ?_ ?_;rotate_left;exact opn (H.memF hF);intro w hcl;replace H:=H.ext hcl;clear hcl)|refine yU ?_|fail)
 all_goals exact zQ rfl H.cl rfl
theorem zK0 {b:Nat}{T:TypeId}{fr:Nat × Nat}{F:zH}{ba:Option Addr}{bc:Nat}(s:Sta)(p:SPt)(x:Auc)(w0:World)(hF:Mem w0 F)(hb:Bids F ba bc x.bids)(hs0:StaM F s p)(hm:(b,Obj.cells (s.cells p).toArray T fr)∈F) :
  Calls Tryz.prog 179 [.agg (x.cells ba bc).toArray,.pointer (some ⟨b,0,none⟩)].toArray w0 (Ret (.bool (zCH s x)) w0):=by
 obtain⟨ac,ok,hac⟩:∃ ac ok,zBG s.accts x.seller=(ac,ok):=⟨_,_,rfl⟩
 obtain⟨ins,is,his⟩:∃ ac ok,zB7 s.insts x.inst=(ac,ok):=⟨_,_,rfl⟩
 obtain⟨bb,hbb⟩:∃ bb,zHT s x.bids=bb:=⟨_,rfl⟩
 have opn:∀ {w:World},Mem w F→Calls Tryz.prog 174 [.agg (s.cells p).toArray,.int .i64 x.seller].toArray w (Ret (.bool ok) w):=fun hF=>by
  have:=zJr s p x.seller _ hF hs0
  rw[hac] at this
  exact this
 have inst:∀ {w:World},Mem w F→Calls Tryz.prog 181 [.agg (s.cells p).toArray,.int .i64 x.inst].toArray w (Ret (.bool is) w):=fun hF=>by
  have:=zTU s p x.inst _ hF hs0
  rw[his] at this
  exact this
 have cont:∀ {w:World},Mem w F→Calls Tryz.prog 182 [.slice ba x.bids.length bc,.func (.func 180) #[] #[.pointer (some ⟨b,0,none⟩)]].toArray w (Ret (.bool bb) w):=fun hM =>
  hbb ▸ zDj (caps:=[.pointer (some ⟨_,0,none⟩)]) (zGl s x.bids) _ hM hb ent180 (fun j _ w hw=>zJz s p (x.bids.getD j default) w (hM.ext hw) hs0 hm)
 have hso:zCH s x=(decide (x.id ≥ s.nextA)||!ok||!is||bb):=by unfold zCH;rw[hac,his,hbb]
 rw[hso]
 refine enter [.tmp 3] Tryz.func179 rfl Tryz.ntmps179 rfl rfl ?_
 have H:=zB w0
 repeat' (first|refine yT ?_|refine y7 sg H ?_|(refine y9 H ?_;intro b w H)|refine z13 (zG sg rfl rfl (H.memF hF) hm rfl rfl) ?_|(refine' y30 zJf ?_ ?_;rotate_left;exact opn (H.memF hF);intro w hcl;replace H:=H.ext hcl;clear hcl)|(refine' y30 ent181 ?_ ?_;rotate_left;exact inst (H.memF hF);intro w hcl;replace H:=H.ext hcl;clear hcl)|(refine' y30 zL8 ?_ ?_;rotate_left;exact cont (H.memF hF);intro w hcl;replace H:=H.ext hcl;clear hcl)|refine yU ?_|(refine y17 ?_ ?_;all_goals intro h)|fail)
 all_goals simp only[Bool.not_eq_true',Bool.not_eq_false',decide_eq_true_eq,decide_eq_false_iff_not] at *
 all_goals exact zQ rfl H.cl (congrArg Value.bool (by simp only[*,decide_true,decide_false,Bool.true_or,Bool.or_true,Bool.false_or,Bool.or_false,Bool.not_true,Bool.not_false]))
theorem zMW {F:zH}(s:Sta)(p:SPt)(w0:World)(hF:Mem w0 F)(hs0:StaM F s p) :
  Calls Tryz.prog 128 [.agg (s.cells p).toArray].toArray w0 (Ret (.bool (zDE s)) w0):=by
 have cont:∀ {b:Nat} {w:World},Mem w (cb b (s.cells p) 28::F)→Calls Tryz.prog 184 [.slice p.auA s.aucs.length p.auC,.func (.func 179) #[] #[.pointer (some ⟨b,0,none⟩)]].toArray w (Ret (.bool (decide (idx (fun j=>zCH s (au_ s.aucs j)) s.aucs.length ≥ 0))) w):=fun hM =>
  zIi (caps:=[.pointer (some ⟨_,0,none⟩)]) (fun j=>zCH s (au_ s.aucs j)) _ hM (SlA.mono hs0.au.1 (List.subset_cons_self _ _)) ent179 (fun j hj w hw=>zK0 s p (au_ s.aucs j) w (hM.ext hw) (SlA.mono (hs0.au.2 j hj) (List.subset_cons_self _ _)) (hs0.mono (List.subset_cons_self _ _)) (zz2 _))
 have fin:zAS s.aucs=true→(!decide (idx (fun j=>zCH s (au_ s.aucs j)) s.aucs.length ≥ 0))=zDE s:=fun hR=>by
  unfold zDE;rw[hR,Bool.true_and]
 refine enter [.tmp 2] Tryz.func128 rfl Tryz.ntmps128 rfl rfl ?_
 have H:=zB w0
 repeat' (first|refine yT ?_|refine y7 sg H ?_|(refine y9 H ?_;intro b w H)|(refine' y30 zJh ?_ ?_;rotate_left;exact zF9 s.aucs p.ad _ (H.memF hF) hs0.au;intro w hcl;replace H:=H.ext hcl;clear hcl)|(refine' y30 ent184 ?_ ?_;rotate_left;exact cont (H.all hF);intro w hcl;replace H:=H.ext hcl;clear hcl)|refine yU ?_|(refine y17 ?_ ?_;all_goals intro h)|fail)
 all_goals first
  | (have h:zAS s.aucs=true:=by assumption
     exact zQ rfl H.cl (congrArg Value.bool (fin h)))
  | (have h:zAS s.aucs=false:=by assumption
     refine zQ rfl H.cl (congrArg Value.bool ?_)
     unfold zDE
     rw[h,Bool.false_and])
  | fail
def zH3:List Value:=[.string ⟨#[110,117,109,98,101,114,115]⟩,.func (.func 123) #[] #[],.string ⟨#[97,99,99,111,117,110,116,115]⟩,.func (.func 124) #[] #[],.string ⟨#[105,110,115,116,114,117,109,101,110,116,115]⟩,.func (.func 125) #[] #[],.string ⟨#[114,111,119,115]⟩,.func (.func 126) #[] #[],.string ⟨#[111,114,100,101,114,115]⟩,.func (.func 127) #[] #[],.string ⟨#[97,117,99,116,105,111,110,115]⟩,.func (.func 128) #[] #[],.string ⟨#[104,101,108,100]⟩,.func (.func 129) #[] #[]]
theorem zTd (w0:World) :
  Calls Tryz.prog 80 [].toArray w0 (zn (fun M v=>∃ b T fr,v=.slice (some ⟨b,0,none⟩) 7 7∧M=[(b,Obj.cells zH3.toArray T fr)]) w0):=by
 refine enter [.tmp 0] Tryz.func80 rfl Tryz.ntmps80 rfl rfl ?_
 have H:=zB w0
 repeat' (first|refine yT ?_|(refine z14 sg H ?_;intro b w H)|refine yU ?_|fail)
 exact zU rfl H ⟨_,_,_,rfl,rfl⟩
end Go.Proofs.YtibmaifoaajllaaGreatDoor
