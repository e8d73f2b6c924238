/- Texts of ours, joined: the steps of the proof, or the claim's theorem. -/
import Derived.Test.YtggolnppckpdlaaGreatQ30
import Derived.Test.YtggolnppckpdlaaGreatQ31
set_option linter.unusedSimpArgs false
set_option linter.unusedVariables false
namespace Go.Proofs.YtggolnppckpdlaaGreat
open Go Go.Sk Go.RowKit
attribute [local irreducible] Go.Calls
def ordStOk (s : Sta) (o : Odr) : Bool := decide (o.id < s.nextO) && (acctF s.accts o.acct).2 && (instF s.insts o.inst).2 && (o.price.tmod (instF s.insts o.inst).1.tick == 0)
def ordersSt (s : Sta) : Bool := ordersF s.orders && (List.range s.orders.length).all fun k => ordStOk s (od_ s.orders k)
theorem ordersSt_iff {s : Sta} : ordersSt s = true ↔ ordersF s.orders = true ∧ ∀ k, k < s.orders.length → ordStOk s (od_ s.orders k) = true := by
  unfold ordersSt
  rw [Bool.and_eq_true, List.all_eq_true]
  simp only [List.mem_range]
theorem tick_pos {l : List Ins} (h : instsF l = true) {a : Int} (ha : (instF l a).2 = true) : 1 ≤ (instF l a).1.tick := by
  unfold instF at ha ⊢
  split at ha
  · rename_i hh
    rw [if_pos hh]
    exact ((instsF_iff.1 h).2 _ (by omega)).2.1.1
  · cases ha
end Go.Proofs.YtggolnppckpdlaaGreat
set_option linter.unusedSimpArgs false
set_option linter.unusedVariables false
namespace Go.Proofs.YtggolnppckpdlaaGreat
open Go Go.Sk Go.RowKit
attribute [local irreducible] Go.Calls
theorem c_rows1 {b : Nat} {T : TypeId} {fr : Nat × Nat} {F : Frag} (s : Sta) (p : SPt) (r : Row4) (w0 : World) (hF : Mem w0 F) (hs0 : StaM F s p) (hm : (b, Obj.cells (s.cells p).toArray T fr) ∈ F) :
    Calls Tryz.prog 234 [.agg r.cells.toArray, .pointer (some ⟨b, 0, none⟩)].toArray w0 (Ret (.bool ((!(r.acct == 0) && !(acctF s.accts r.acct).2) || decide (r.asset > s.insts.length))) w0) := by
  obtain ⟨ac, ok, hac⟩ : ∃ ac ok, acctF s.accts r.acct = (ac, ok) := ⟨_, _, rfl⟩
  have opn : ∀ {w : World}, Mem w F → Calls Tryz.prog 235 [.agg (s.cells p).toArray, .int .i64 r.acct].toArray w (Ret (.bool ok) w) := fun hF => by
    have := c_open s p r.acct _ hF hs0
    rw [hac] at this
    exact this
  rw [hac]
  refine enter [.tmp 3] Tryz.func234 rfl Tryz.ntmps234 rfl rfl ?_
  have H := St.start w0
  repeat' (first | refine y1 sg ?_ | refine y3 ?_ | refine y5 sg ?_ | refine y7 sg H ?_ | (refine y9 H ?_; intro b w H) | ((with_reducible apply OX.val); exact rfl; exact rfl; exact Yq.loadS sg rfl rfl (H.memF hF) hm rfl rfl) | (refine' y30 ent235 ?_ ?_; rotate_left; exact opn (H.memF hF); intro w hcl; replace H := H.ext hcl; clear hcl) | refine y13 ?_ | refine y14 ?_ | (refine y17 ?_ ?_; all_goals intro h) | with_reducible apply OW.nil | with_reducible apply thn_n | with_reducible apply CW.seq | refine CW.region ?_ | with_reducible apply CW.ret | fail)
  all_goals first
    | (have h1 : (r.acct != 0) = true := by assumption
       have h1 : (!(r.acct == 0)) = true := h1
       exact ret1 rfl H.cl (congrArg Value.bool (by simp only [*, Bool.true_and, Bool.or_true, Bool.true_or, Bool.false_or, Bool.not_true, Bool.not_false])))
    | (have h1 : (r.acct != 0) = false := by assumption
       have h1 : (!(r.acct == 0)) = false := h1
       exact ret1 rfl H.cl (congrArg Value.bool (by simp only [*, Bool.false_and, Bool.or_true, Bool.false_or])))
theorem wrong_row {s : Sta} (hR : rowsF s.rows = true) {k : Nat} (hk : k < s.rows.length) :
    ((!((rw_ s.rows k).acct == 0) && !(acctF s.accts (rw_ s.rows k).acct).2) || decide ((rw_ s.rows k).asset > s.insts.length)) = !rowStOk s k := by
  have hg := ((rowsF_iff.1 hR).1 k hk).1.1
  unfold rowStOk
  generalize (acctF s.accts (rw_ s.rows k).acct).2 = ok
  by_cases h1 : (rw_ s.rows k).acct = 0
  · by_cases h2 : (rw_ s.rows k).asset ≤ s.insts.length
    · have h3 : ¬ (rw_ s.rows k).asset > s.insts.length := by omega
      simp [h1, h2]
    · have h3 : (rw_ s.rows k).asset > s.insts.length := by omega
      simp [h1, h2, h3]
  · have h4 : ¬ (rw_ s.rows k).acct ≤ 0 := by omega
    by_cases h2 : (rw_ s.rows k).asset ≤ s.insts.length
    · have h3 : ¬ (rw_ s.rows k).asset > s.insts.length := by omega
      cases ok <;> simp [h1, h2, h4]
    · have h3 : (rw_ s.rows k).asset > s.insts.length := by omega
      cases ok <;> simp [h1, h2, h3, h4]
theorem c_rows {F : Frag} (s : Sta) (p : SPt) (hw : ∀ j, j < s.rows.length → (rw_ s.rows j).wf) (w0 : World) (hF : Mem w0 F) (hs0 : StaM F s p) :
    Calls Tryz.prog 209 [.agg (s.cells p).toArray].toArray w0 (Ret (.bool (rowsSt s)) w0) := by
  let wr := fun j => (!((rw_ s.rows j).acct == 0) && !(acctF s.accts (rw_ s.rows j).acct).2) || decide ((rw_ s.rows j).asset > s.insts.length)
  have cont : ∀ {b : Nat} {w : World}, Mem w (cb b (s.cells p) 29 :: F) → Calls Tryz.prog 237 [.slice p.rwA s.rows.length p.rwC, .func (.func 234) #[] #[.pointer (some ⟨b, 0, none⟩)]].toArray w (Ret (.bool (decide (idx wr s.rows.length ≥ 0))) w) := fun hM =>
    c_ContainsRow (caps := [.pointer (some ⟨_, 0, none⟩)]) wr _ hM (SlA.mono hs0.rw (List.subset_cons_self _ _)) ent234 (fun j _ w hw => c_rows1 s p (rw_ s.rows j) w (hM.ext hw) (hs0.mono (List.subset_cons_self _ _)) (List.Mem.head _))
  have fin : rowsF s.rows = true → (!decide (idx wr s.rows.length ≥ 0)) = rowsSt s := fun hR => by
    have e : rowsSt s = (List.range s.rows.length).all fun k => rowStOk s k := by unfold rowsSt; rw [hR, Bool.true_and]
    rw [e]
    rcases idx_cases wr s.rows.length with ⟨k, hk, _, hb, hx⟩ | ⟨ha, hx⟩
    · rw [hx, decide_eq_true (by omega)]
      symm
      rw [Bool.not_true, List.all_eq_false]
      refine ⟨k, List.mem_range.2 hk, ?_⟩
      have := (wrong_row hR hk).symm.trans hb
      simpa using this
    · rw [hx, decide_eq_false (by omega)]
      symm
      rw [Bool.not_false, List.all_eq_true]
      intro k hk
      have hk := List.mem_range.1 hk
      have := (wrong_row hR hk).symm.trans (ha k hk)
      simpa using this
  refine enter [.tmp 2] Tryz.func209 rfl Tryz.ntmps209 rfl rfl ?_
  have H := St.start w0
  repeat' (first | refine y1 sg ?_ | refine y3 ?_ | refine y5 sg ?_ | refine y7 sg H ?_ | (refine y9 H ?_; intro b w H) | (refine' y30 ent236 ?_ ?_; rotate_left; exact c_LMay s.rows hw _ (H.memF hF) hs0.rw; intro w hcl; replace H := H.ext hcl; clear hcl) | (refine' y30 ent237 ?_ ?_; rotate_left; exact cont (H.all hF); intro w hcl; replace H := H.ext hcl; clear hcl) | refine y13 ?_ | refine y14 ?_ | (refine y17 ?_ ?_; all_goals intro h) | with_reducible apply OW.nil | with_reducible apply thn_n | with_reducible apply CW.seq | refine CW.region ?_ | with_reducible apply CW.ret | fail)
  all_goals first
    | (have h : rowsF s.rows = true := by assumption
       exact ret1 rfl H.cl (congrArg Value.bool (fin h)))
    | (have h : rowsF s.rows = false := by assumption
       refine ret1 rfl H.cl (congrArg Value.bool ?_)
       unfold rowsSt
       rw [h, Bool.false_and])
    | fail
end Go.Proofs.YtggolnppckpdlaaGreat
set_option linter.unusedSimpArgs false
set_option linter.unusedVariables false
namespace Go.Proofs.YtggolnppckpdlaaGreat
open Go Go.Sk Go.RowKit
attribute [local irreducible] Go.Calls
def ordBad (s : Sta) (o : Odr) : Bool := decide (o.id ≥ s.nextO) || !(acctF s.accts o.acct).2 || !(instF s.insts o.inst).2 || (o.price.tmod (instF s.insts o.inst).1.tick != 0)
theorem ordBad_eq (s : Sta) (o : Odr) : ordBad s o = !ordStOk s o := by
  unfold ordBad ordStOk
  have h : decide (o.id ≥ s.nextO) = !decide (o.id < s.nextO) := by
    by_cases h : o.id < s.nextO
    · rw [decide_eq_true h, decide_eq_false (by omega)]; rfl
    · rw [decide_eq_false h, decide_eq_true (by omega)]; rfl
  rw [h, bne]
  simp only [Bool.not_and]
theorem c_orders1 {b : Nat} {T : TypeId} {fr : Nat × Nat} {F : Frag} (s : Sta) (p : SPt) (hi : instsF s.insts = true) (o : Odr) (w0 : World) (hF : Mem w0 F) (hs0 : StaM F s p) (hm : (b, Obj.cells (s.cells p).toArray T fr) ∈ F) :
    Calls Tryz.prog 238 [.agg o.cells.toArray, .pointer (some ⟨b, 0, none⟩)].toArray w0 (Ret (.bool (ordBad s o)) w0) := by
  have htk := tick_pos hi (a := o.inst)
  obtain ⟨ac, ok, hac⟩ : ∃ ac ok, acctF s.accts o.acct = (ac, ok) := ⟨_, _, rfl⟩
  obtain ⟨ins, is, his⟩ : ∃ ac ok, instF s.insts o.inst = (ac, ok) := ⟨_, _, rfl⟩
  have opn : ∀ {w : World}, Mem w F → Calls Tryz.prog 235 [.agg (s.cells p).toArray, .int .i64 o.acct].toArray w (Ret (.bool ok) w) := fun hF => by
    have := c_open s p o.acct _ hF hs0
    rw [hac] at this
    exact this
  have inst : ∀ {w : World}, Mem w F → Calls Tryz.prog 239 [.agg (s.cells p).toArray, .int .i64 o.inst].toArray w (Ret (.tuple #[.agg ins.cells.toArray, .bool is]) w) := fun hF => by
    have := c_Inst s p o.inst _ hF hs0
    rw [his] at this
    exact this
  have hso : ordBad s o = (decide (o.id ≥ s.nextO) || !ok || !is || (o.price.tmod ins.tick != 0)) := by unfold ordBad; rw [hac, his]
  rw [his] at htk
  rw [hso]
  refine enter [.tmp 3] Tryz.func238 rfl Tryz.ntmps238 rfl rfl ?_
  have H := St.start w0
  repeat' (first | refine y1 sg ?_ | refine y3 ?_ | refine y5 sg ?_ | refine y7 sg H ?_ | (refine y9 H ?_; intro b w H) | (refine y10 sg H ?_; intro b w H) | (refine y11 sg H ?_; intro w H) | ((with_reducible apply OX.val); exact rfl; exact rfl; exact Yq.loadS sg rfl rfl (H.memF hF) hm rfl rfl) | (refine' y30 ent235 ?_ ?_; rotate_left; exact opn (H.memF hF); intro w hcl; replace H := H.ext hcl; clear hcl) | (refine' y30 ent239 ?_ ?_; rotate_left; exact inst (H.memF hF); intro w hcl; replace H := H.ext hcl; clear hcl) | (refine OX.val rfl rfl (Yq.rem rfl rfl rfl ?_) ?_; (have h9 := htk (by simpa using h); have h9 : 1 ≤ ins.tick := h9; omega)) | refine y13 ?_ | refine y14 ?_ | (refine y17 ?_ ?_; all_goals intro h) | with_reducible apply OW.nil | with_reducible apply thn_n | with_reducible apply CW.seq | refine CW.region ?_ | with_reducible apply CW.ret | fail)
  all_goals simp only [Bool.not_eq_true', Bool.not_eq_false', decide_eq_true_eq, decide_eq_false_iff_not] at *
  all_goals exact ret1 rfl H.cl (congrArg Value.bool (by simp only [*, decide_true, decide_false, Bool.true_or, Bool.or_true, Bool.false_or, Bool.or_false, Bool.not_true, Bool.not_false]))
theorem c_orders {F : Frag} (s : Sta) (p : SPt) (hi : instsF s.insts = true) (w0 : World) (hF : Mem w0 F) (hs0 : StaM F s p) :
    Calls Tryz.prog 210 [.agg (s.cells p).toArray].toArray w0 (Ret (.bool (ordersSt s)) w0) := by
  have cont : ∀ {b : Nat} {w : World}, Mem w (cb b (s.cells p) 29 :: F) → Calls Tryz.prog 241 [.slice p.odA s.orders.length p.odC, .func (.func 238) #[] #[.pointer (some ⟨b, 0, none⟩)]].toArray w (Ret (.bool (decide (idx (fun j => ordBad s (od_ s.orders j)) s.orders.length ≥ 0))) w) := fun hM =>
    c_ContainsOrd (caps := [.pointer (some ⟨_, 0, none⟩)]) (fun j => ordBad s (od_ s.orders j)) _ hM (SlA.mono hs0.od (List.subset_cons_self _ _)) ent238 (fun j _ w hw => c_orders1 s p hi (od_ s.orders j) w (hM.ext hw) (hs0.mono (List.subset_cons_self _ _)) (List.Mem.head _))
  have fin : ordersF s.orders = true → (!decide (idx (fun j => ordBad s (od_ s.orders j)) s.orders.length ≥ 0)) = ordersSt s := fun hR => by
    have e : ordersSt s = (List.range s.orders.length).all fun k => ordStOk s (od_ s.orders k) := by unfold ordersSt; rw [hR, Bool.true_and]
    rw [e]
    rcases idx_cases (fun j => ordBad s (od_ s.orders j)) s.orders.length with ⟨k, hk, _, hb, hx⟩ | ⟨ha, hx⟩
    · rw [hx, decide_eq_true (by omega)]
      symm
      rw [Bool.not_true, List.all_eq_false]
      refine ⟨k, List.mem_range.2 hk, ?_⟩
      have := (ordBad_eq s _).symm.trans hb
      simpa using this
    · rw [hx, decide_eq_false (by omega)]
      symm
      rw [Bool.not_false, List.all_eq_true]
      intro k hk
      have hk := List.mem_range.1 hk
      have := (ordBad_eq s _).symm.trans (ha k hk)
      simpa using this
  refine enter [.tmp 2] Tryz.func210 rfl Tryz.ntmps210 rfl rfl ?_
  have H := St.start w0
  repeat' (first | refine y1 sg ?_ | refine y3 ?_ | refine y5 sg ?_ | refine y7 sg H ?_ | (refine y9 H ?_; intro b w H) | (refine' y30 ent240 ?_ ?_; rotate_left; exact c_Orders s.orders _ (H.memF hF) hs0.od; intro w hcl; replace H := H.ext hcl; clear hcl) | (refine' y30 ent241 ?_ ?_; rotate_left; exact cont (H.all hF); intro w hcl; replace H := H.ext hcl; clear hcl) | refine y13 ?_ | refine y14 ?_ | (refine y17 ?_ ?_; all_goals intro h) | with_reducible apply OW.nil | with_reducible apply thn_n | with_reducible apply CW.seq | refine CW.region ?_ | with_reducible apply CW.ret | fail)
  all_goals first
    | (have h : ordersF s.orders = true := by assumption
       exact ret1 rfl H.cl (congrArg Value.bool (fin h)))
    | (have h : ordersF s.orders = false := by assumption
       refine ret1 rfl H.cl (congrArg Value.bool ?_)
       unfold ordersSt
       rw [h, Bool.false_and])
    | fail
end Go.Proofs.YtggolnppckpdlaaGreat
set_option linter.unusedSimpArgs false
set_option linter.unusedVariables false
namespace Go.Proofs.YtggolnppckpdlaaGreat
open Go Go.Sk Go.RowKit
attribute [local irreducible] Go.Calls
abbrev au_ (l : List Auc) (k : Nat) : Auc := l.getD k default
def bidBad (s : Sta) (l : List Bid) (k : Nat) : Bool := !(acctF s.accts (l.getD k default).acct).2
def bidsBad (s : Sta) (l : List Bid) : Bool := decide (idx (bidBad s l) l.length ≥ 0)
def aucBad (s : Sta) (x : Auc) : Bool := decide (x.id ≥ s.nextA) || !(acctF s.accts x.seller).2 || !(instF s.insts x.inst).2 || bidsBad s x.bids
def aucsSt (s : Sta) : Bool := mayAllF s.aucs && !decide (idx (fun j => aucBad s (au_ s.aucs j)) s.aucs.length ≥ 0)
theorem c_auctions11 {b : Nat} {T : TypeId} {fr : Nat × Nat} {F : Frag} (s : Sta) (p : SPt) (d : Bid) (w0 : World) (hF : Mem w0 F) (hs0 : StaM F s p) (hm : (b, Obj.cells (s.cells p).toArray T fr) ∈ F) :
    Calls Tryz.prog 243 [.agg d.cells.toArray, .pointer (some ⟨b, 0, none⟩)].toArray w0 (Ret (.bool (!(acctF s.accts d.acct).2)) w0) := by
  obtain ⟨ac, ok, hac⟩ : ∃ ac ok, acctF s.accts d.acct = (ac, ok) := ⟨_, _, rfl⟩
  have opn : ∀ {w : World}, Mem w F → Calls Tryz.prog 235 [.agg (s.cells p).toArray, .int .i64 d.acct].toArray w (Ret (.bool ok) w) := fun hF => by
    have := c_open s p d.acct _ hF hs0
    rw [hac] at this
    exact this
  rw [hac]
  refine enter [.tmp 3] Tryz.func243 rfl Tryz.ntmps243 rfl rfl ?_
  have H := St.start w0
  repeat' (first | refine y1 sg ?_ | refine y3 ?_ | refine y7 sg H ?_ | (refine y9 H ?_; intro b w H) | ((with_reducible apply OX.val); exact rfl; exact rfl; exact Yq.loadS sg rfl rfl (H.memF hF) hm rfl rfl) | (refine' y30 ent235 ?_ ?_; rotate_left; exact opn (H.memF hF); intro w hcl; replace H := H.ext hcl; clear hcl) | with_reducible apply OW.nil | with_reducible apply thn_n | with_reducible apply CW.seq | refine CW.region ?_ | with_reducible apply CW.ret | fail)
  all_goals exact ret1 rfl H.cl rfl
theorem c_auctions1 {b : Nat} {T : TypeId} {fr : Nat × Nat} {F : Frag} {ba : Option Addr} {bc : Nat} (s : Sta) (p : SPt) (x : Auc) (w0 : World) (hF : Mem w0 F) (hb : Bids F ba bc x.bids) (hs0 : StaM F s p) (hm : (b, Obj.cells (s.cells p).toArray T fr) ∈ F) :
    Calls Tryz.prog 242 [.agg (x.cells ba bc).toArray, .pointer (some ⟨b, 0, none⟩)].toArray w0 (Ret (.bool (aucBad s x)) w0) := by
  obtain ⟨ac, ok, hac⟩ : ∃ ac ok, acctF s.accts x.seller = (ac, ok) := ⟨_, _, rfl⟩
  obtain ⟨ins, is, his⟩ : ∃ ac ok, instF s.insts x.inst = (ac, ok) := ⟨_, _, rfl⟩
  obtain ⟨bb, hbb⟩ : ∃ bb, bidsBad s x.bids = bb := ⟨_, rfl⟩
  have opn : ∀ {w : World}, Mem w F → Calls Tryz.prog 235 [.agg (s.cells p).toArray, .int .i64 x.seller].toArray w (Ret (.bool ok) w) := fun hF => by
    have := c_open s p x.seller _ hF hs0
    rw [hac] at this
    exact this
  have inst : ∀ {w : World}, Mem w F → Calls Tryz.prog 244 [.agg (s.cells p).toArray, .int .i64 x.inst].toArray w (Ret (.bool is) w) := fun hF => by
    have := c_there s p x.inst _ hF hs0
    rw [his] at this
    exact this
  have cont : ∀ {w : World}, Mem w F → Calls Tryz.prog 245 [.slice ba x.bids.length bc, .func (.func 243) #[] #[.pointer (some ⟨b, 0, none⟩)]].toArray w (Ret (.bool bb) w) := fun hM =>
    hbb ▸ c_ContainsBid (caps := [.pointer (some ⟨_, 0, none⟩)]) (bidBad s x.bids) _ hM hb ent243 (fun j _ w hw => c_auctions11 s p (x.bids.getD j default) w (hM.ext hw) hs0 hm)
  have hso : aucBad s x = (decide (x.id ≥ s.nextA) || !ok || !is || bb) := by unfold aucBad; rw [hac, his, hbb]
  rw [hso]
  refine enter [.tmp 3] Tryz.func242 rfl Tryz.ntmps242 rfl rfl ?_
  have H := St.start w0
  repeat' (first | refine y1 sg ?_ | refine y3 ?_ | refine y5 sg ?_ | refine y7 sg H ?_ | (refine y9 H ?_; intro b w H) | ((with_reducible apply OX.val); exact rfl; exact rfl; exact Yq.loadS sg rfl rfl (H.memF hF) hm rfl rfl) | (refine' y30 ent235 ?_ ?_; rotate_left; exact opn (H.memF hF); intro w hcl; replace H := H.ext hcl; clear hcl) | (refine' y30 ent244 ?_ ?_; rotate_left; exact inst (H.memF hF); intro w hcl; replace H := H.ext hcl; clear hcl) | (refine' y30 ent245 ?_ ?_; rotate_left; exact cont (H.memF hF); intro w hcl; replace H := H.ext hcl; clear hcl) | refine y13 ?_ | refine y14 ?_ | (refine y17 ?_ ?_; all_goals intro h) | with_reducible apply OW.nil | with_reducible apply thn_n | with_reducible apply CW.seq | refine CW.region ?_ | with_reducible apply CW.ret | fail)
  all_goals simp only [Bool.not_eq_true', Bool.not_eq_false', decide_eq_true_eq, decide_eq_false_iff_not] at *
  all_goals exact ret1 rfl H.cl (congrArg Value.bool (by simp only [*, decide_true, decide_false, Bool.true_or, Bool.or_true, Bool.false_or, Bool.or_false, Bool.not_true, Bool.not_false]))
theorem c_auctions {F : Frag} (s : Sta) (p : SPt) (w0 : World) (hF : Mem w0 F) (hs0 : StaM F s p) :
    Calls Tryz.prog 211 [.agg (s.cells p).toArray].toArray w0 (Ret (.bool (aucsSt s)) w0) := by
  have cont : ∀ {b : Nat} {w : World}, Mem w (cb b (s.cells p) 29 :: F) → Calls Tryz.prog 247 [.slice p.auA s.aucs.length p.auC, .func (.func 242) #[] #[.pointer (some ⟨b, 0, none⟩)]].toArray w (Ret (.bool (decide (idx (fun j => aucBad s (au_ s.aucs j)) s.aucs.length ≥ 0))) w) := fun hM =>
    c_ContainsAuc (caps := [.pointer (some ⟨_, 0, none⟩)]) (fun j => aucBad s (au_ s.aucs j)) _ hM (SlA.mono hs0.au.1 (List.subset_cons_self _ _)) ent242 (fun j hj w hw => c_auctions1 s p (au_ s.aucs j) w (hM.ext hw) (SlA.mono (hs0.au.2 j hj) (List.subset_cons_self _ _)) (hs0.mono (List.subset_cons_self _ _)) (List.Mem.head _))
  have fin : mayAllF s.aucs = true → (!decide (idx (fun j => aucBad s (au_ s.aucs j)) s.aucs.length ≥ 0)) = aucsSt s := fun hR => by
    unfold aucsSt; rw [hR, Bool.true_and]
  refine enter [.tmp 2] Tryz.func211 rfl Tryz.ntmps211 rfl rfl ?_
  have H := St.start w0
  repeat' (first | refine y1 sg ?_ | refine y3 ?_ | refine y5 sg ?_ | refine y7 sg H ?_ | (refine y9 H ?_; intro b w H) | (refine' y30 ent246 ?_ ?_; rotate_left; exact c_MayAll s.aucs p.ad _ (H.memF hF) hs0.au; intro w hcl; replace H := H.ext hcl; clear hcl) | (refine' y30 ent247 ?_ ?_; rotate_left; exact cont (H.all hF); intro w hcl; replace H := H.ext hcl; clear hcl) | refine y13 ?_ | refine y14 ?_ | (refine y17 ?_ ?_; all_goals intro h) | with_reducible apply OW.nil | with_reducible apply thn_n | with_reducible apply CW.seq | refine CW.region ?_ | with_reducible apply CW.ret | fail)
  all_goals first
    | (have h : mayAllF s.aucs = true := by assumption
       exact ret1 rfl H.cl (congrArg Value.bool (fin h)))
    | (have h : mayAllF s.aucs = false := by assumption
       refine ret1 rfl H.cl (congrArg Value.bool ?_)
       unfold aucsSt
       rw [h, Bool.false_and])
    | fail
end Go.Proofs.YtggolnppckpdlaaGreat
set_option linter.unusedSimpArgs false
set_option linter.unusedVariables false
namespace Go.Proofs.YtggolnppckpdlaaGreat
open Go Go.Sk Go.RowKit
attribute [local irreducible] Go.Calls
def rulesC : List Value := [.string ⟨#[110, 117, 109, 98, 101, 114, 115]⟩, .func (.func 206) #[] #[], .string ⟨#[97, 99, 99, 111, 117, 110, 116, 115]⟩, .func (.func 207) #[] #[], .string ⟨#[105, 110, 115, 116, 114, 117, 109, 101, 110, 116, 115]⟩, .func (.func 208) #[] #[], .string ⟨#[114, 111, 119, 115]⟩, .func (.func 209) #[] #[], .string ⟨#[111, 114, 100, 101, 114, 115]⟩, .func (.func 210) #[] #[], .string ⟨#[97, 117, 99, 116, 105, 111, 110, 115]⟩, .func (.func 211) #[] #[], .string ⟨#[104, 101, 108, 100]⟩, .func (.func 212) #[] #[]]
theorem c_rules (w0 : World) :
    Calls Tryz.prog 168 [].toArray w0 (RetF (fun M v => ∃ b T fr, v = .slice (some ⟨b, 0, none⟩) 7 7 ∧ M = [(b, Obj.cells rulesC.toArray T fr)]) w0) := by
  refine enter [.tmp 0] Tryz.func168 rfl Tryz.ntmps168 rfl rfl ?_
  have H := St.start w0
  repeat' (first | refine y1 sg ?_ | refine y3 ?_ | ((with_reducible apply OX.buildS sg H); exact rfl; exact rfl; exact rfl; exact rfl; exact rfl; exact rfl; exact rfl; exact rfl; exact rfl; exact rfl; intro b w H _) | with_reducible apply OW.nil | with_reducible apply thn_n | with_reducible apply CW.seq | refine CW.region ?_ | with_reducible apply CW.ret | fail)
  exact ret1F rfl H ⟨_, _, _, rfl, rfl⟩
end Go.Proofs.YtggolnppckpdlaaGreat
