/- Texts of ours, joined: the steps of the proof, or the claim's theorem. -/
import Derived.Test.YtggolnppckpdlaaGreatQ37
import Derived.Test.YtggolnppckpdlaaGreatQ41
set_option linter.unusedSimpArgs false
set_option linter.unusedVariables false
namespace Go.Proofs.YtggolnppckpdlaaGreat
open Go Go.Sk Go.RowKit
theorem mem_at {α : Type} [Inhabited α] {l : List α} {x : α} (h : x ∈ l) : ∃ k, k < l.length ∧ l.getD k default = x := by
  obtain ⟨k, hk, rfl⟩ := List.mem_iff_getElem.1 h
  exact ⟨k, hk, by simp [List.getD_eq_getElem?_getD, List.getElem?_eq_getElem hk]⟩
theorem num_P {most : Nat} (hm : most < 18446744073709551616) {x : Int} (h0 : 0 ≤ x) (h1 : x ≤ most) : numP most x (short (u64n x)) := ⟨h0, h1, rfl⟩
theorem mayS_at {s : Sta} (h : mayS s = true) (k : Nat) (hk : k < 7) : stOk s k = true := by
  unfold mayS at h
  exact List.all_eq_true.1 h k (List.mem_range.2 hk)
theorem name_le {s : ByteArray} (h : mayName s = true) : s.size ≤ 24 := by
  unfold mayName at h
  simp only [Bool.and_eq_true, decide_eq_true_eq] at h
  exact h.1.2
theorem may_acc {l : List Ac} (h : acctsF l = true) : ∀ x ∈ l, accP x (accB x) := by
  intro x hx
  obtain ⟨k, hk, rfl⟩ := mem_at hx
  exact ⟨name_le ((acctsF_iff.1 h).2 k hk).1, rfl⟩
theorem may_ins {l : List Ins} (h : instsF l = true) : ∀ x ∈ l, insP x (insB x) := by
  intro x hx
  obtain ⟨k, hk, rfl⟩ := mem_at hx
  obtain ⟨h1, ⟨h2, h3⟩, _⟩ := (instsF_iff.1 h).2 k hk
  have h2 : 1 ≤ (l.getD k default).tick := h2
  have h3 : (l.getD k default).tick ≤ 1073741824 := h3
  exact ⟨name_le h1, ⟨by omega, by omega⟩, by simp [insB, numsB]⟩
theorem may_row {l : List Row4} (h : rowsF l = true) : ∀ x ∈ l, rowP x (rowB x) := by
  intro x hx
  obtain ⟨k, hk, rfl⟩ := mem_at hx
  obtain ⟨hg, _⟩ := (rowsF_iff.1 h).1 k hk
  have hz := rows_zero h hk
  obtain ⟨⟨g1, g2, g3, g4⟩, g5, g6, g7⟩ := hg
  change 0 ≤ (l.getD k default).acct at g1
  simp only [rw_] at *
  generalize l.getD k default = r at *
  refine ⟨⟨g1, g2⟩, ⟨g3, g4⟩, ?_, ?_, ?_, rfl⟩
  · unfold belowR
    by_cases h0 : r.acct = 0
    · have := hz h0
      rw [if_pos h0]; simp only; rw [w64 (by omega) (by omega)]; omega
    · have := g7 h0
      rw [if_neg h0]; omega
  · by_cases h0 : r.acct = 0
    · have := g6 h0; omega
    · have := g7 h0; omega
  · by_cases h0 : r.acct = 0
    · have := hz h0; omega
    · have := g7 h0; omega
theorem side1 {q : Int} (h : 0 ≤ q ∧ q < 256) : beK 1 q.toNat = [q.toNat] := by simp [beK, Nat.mod_eq_of_lt (show q.toNat < 256 by omega)]
theorem may_ord {l : List Odr} (h : ordersF l = true) : ∀ x ∈ l, ordP x (ordB x) := by
  intro x hx
  obtain ⟨k, hk, rfl⟩ := mem_at hx
  unfold ordersF at h
  simp only [Bool.and_eq_true, decide_eq_true_eq, List.all_eq_true, List.mem_range, Bool.not_eq_true'] at h
  obtain ⟨⟨a1, a2, a3, a4, a5, a6⟩, _⟩ := ordNo_iff.1 (h.2 k hk)
  simp only [od_] at *
  generalize l.getD k default = o at *
  have hs : 0 ≤ o.side ∧ o.side < 256 := by omega
  exact ⟨by omega, by omega, by omega, hs, by omega, by omega, by rw [side1 hs]; simp [ordB, numsB]⟩
theorem within_iff {n m : Int} : within n m = true ↔ 1 ≤ n ∧ n ≤ m := by simp [within]
theorem may_auc {l : List Auc} (h : mayAllF l = true) : ∀ x ∈ l, aucP x (aucB x) := by
  intro x hx
  obtain ⟨k, hk, rfl⟩ := mem_at hx
  have hm : mayF (l.getD k default) = true := by
    unfold mayAllF at h
    simp only [Bool.and_eq_true, decide_eq_true_eq] at h
    rcases idx_cases (badAuc l) l.length with ⟨j, h1, h2, h3, h4⟩ | ⟨h1, h2⟩
    · omega
    · have := h1 k hk
      unfold badAuc at this
      simp only [Bool.or_eq_false_iff, Bool.not_eq_false'] at this
      exact this.2
  generalize l.getD k default = x at *
  obtain ⟨a1, a2, a3, a4, a5, a6, a7, a8⟩ := may_parts hm
  rw [within_iff] at a1 a2 a3 a4 a5 a6
  have hst : 0 ≤ x.step ∧ x.step ≤ 1125899906842624 := by
    unfold mannerOk at a7
    split at a7
    · unfold smayF at a7
      simp only [Bool.and_eq_true, beq_iff_eq] at a7
      omega
    · unfold emayF at a7
      simp only [Bool.and_eq_true, within_iff] at a7
      omega
  have hb : ∀ b ∈ x.bids, bidP b (bidB b) := by
    intro b hb
    obtain ⟨j, hj, rfl⟩ := mem_at hb
    unfold bidsOk at a8
    rw [decide_eq_true_eq] at a8
    rcases idx_cases (badBid x) x.bids.length with ⟨i, h1, h2, h3, h4⟩ | ⟨h1, h2⟩
    · omega
    · have := h1 j hj
      unfold badBid at this
      simp only [Bool.or_eq_false_iff, Bool.not_eq_false', within_iff] at this
      obtain ⟨⟨⟨b1, _⟩, b2⟩, _⟩ := this
      exact ⟨by omega, by omega, by simp [bidB, numsB]⟩
  have hl := B_list (P := bidP) (B := bidB) hb
  refine ⟨_, _, ⟨_, _, ⟨_, _, ⟨_, _, ⟨_, _, ⟨_, _, ⟨_, _, ⟨_, _, ⟨[], _, rfl, num_P (by decide) ?_ ?_, rfl⟩, num_P (by decide) ?_ ?_, rfl⟩, num_P (by decide) ?_ ?_, rfl⟩, rfl, rfl⟩, num_P (by decide) ?_ ?_, rfl⟩, num_P (by decide) ?_ ?_, rfl⟩, num_P (by decide) ?_ ?_, rfl⟩, num_P (by decide) ?_ ?_, rfl⟩, hl, ?_⟩
  · simp only [aucT]; omega
  · simp only [aucT]; omega
  · simp only [aucT]; omega
  · simp only [aucT]; omega
  · simp only [aucT]; omega
  · simp only [aucT]; omega
  · simp only [aucT]; omega
  · simp only [aucT]; omega
  · simp only [aucT]; omega
  · simp only [aucT]; omega
  · simp only [aucT]; omega
  · simp only [aucT]; omega
  · simp only [aucT]; omega
  · simp only [aucT]; omega
  · simp [aucB, numsB, aucT, bidsB]
theorem may_staP {s : Sta} (h : mayS s = true) : staP s (stateB s) := by
  have h0 : numsF s = true := mayS_at h 0 (by decide)
  have h1 : acctsF s.accts = true := mayS_at h 1 (by decide)
  have h2 : instsF s.insts = true := mayS_at h 2 (by decide)
  have h3 : rowsF s.rows = true := (rowsSt_iff.1 (mayS_at h 3 (by decide))).1
  have h4 : ordersF s.orders = true := (ordersSt_iff.1 (mayS_at h 4 (by decide))).1
  have h5 : mayAllF s.aucs = true := by
    have : aucsSt s = true := mayS_at h 5 (by decide)
    unfold aucsSt at this
    rw [Bool.and_eq_true] at this
    exact this.1
  have e1 : listP accP s.accts (manyB s.accts.length (fun k => accB (ac_ s.accts k))) := B_list (may_acc h1)
  have e2 : listP insP s.insts (manyB s.insts.length (fun k => insB (in_ s.insts k))) := B_list (may_ins h2)
  have e3 : listP rowP s.rows (manyB s.rows.length (fun k => rowB (rw_ s.rows k))) := B_list (may_row h3)
  have e4 : listP ordP s.orders (manyB s.orders.length (fun k => ordB (od_ s.orders k))) := B_list (may_ord h4)
  have e5 : listP aucP s.aucs (manyB s.aucs.length (fun k => aucB (s.aucs.getD k default))) := B_list (may_auc h5)
  unfold numsF at h0
  simp only [Bool.and_eq_true, rangeF_iff] at h0
  refine ⟨_, _, ⟨_, _, ⟨_, _, ⟨_, _, ⟨_, _, ⟨_, _, ⟨_, _, ⟨_, _, ⟨[], _, rfl, num_P (by decide) ?_ ?_, rfl⟩, num_P (by decide) ?_ ?_, rfl⟩, num_P (by decide) ?_ ?_, rfl⟩, num_P (by decide) ?_ ?_, rfl⟩, e1, rfl⟩, e2, rfl⟩, e3, rfl⟩, e4, rfl⟩, e5, ?_⟩
  · simp only [staT]; omega
  · simp only [staT]; omega
  · simp only [staT]; omega
  · simp only [staT]; omega
  · simp only [staT]; omega
  · simp only [staT]; omega
  · simp only [staT]; omega
  · simp only [staT]; omega
  · simp [stateB, numsB, staT]
theorem may_opn {l : List Opn} {m : List Lt} (h : opnsF l m = true) : ∀ x ∈ l, opnP x (opnB x) := by
  intro x hx
  obtain ⟨k, hk, rfl⟩ := mem_at hx
  have := (opnsF_iff.1 h).2.2.2.2.1 k hk
  simp only [op_] at this
  generalize l.getD k default = o at *
  unfold opnMay at this
  simp only [Bool.and_eq_true, rangeF_iff, Bool.or_eq_true, beq_iff_eq] at this
  obtain ⟨a1, a2, a3, a4, a5, a6⟩ := this
  have hs : 0 ≤ o.side ∧ o.side < 256 := by omega
  exact ⟨by omega, by omega, by omega, hs, by omega, by omega, by rw [side1 hs]; simp [opnB, numsB]⟩
theorem may_lot {l : List Opn} {m : List Lt} (h : opnsF l m = true) : ∀ x ∈ m, lotP x (lotB x) := by
  intro x hx
  obtain ⟨k, hk, rfl⟩ := mem_at hx
  have := (opnsF_iff.1 h).2.2.2.2.2.2 k hk
  simp only [lt_] at this
  generalize m.getD k default = o at *
  unfold ltMay at this
  simp only [Bool.and_eq_true, rangeF_iff] at this
  obtain ⟨a1, a2, a3, a4⟩ := this
  exact ⟨by omega, by omega, by omega, by omega, by simp [lotB, numsB]⟩
theorem may_pos {l : List Psn} (h : possF l = true) : ∀ x ∈ l, posP x (posB x) := by
  intro x hx
  obtain ⟨k, hk, rfl⟩ := mem_at hx
  have := (possF_iff.1 h k hk).1
  simp only [ps_] at this
  generalize l.getD k default = o at *
  obtain ⟨a1, a2, a3, a4, a5, a6, _⟩ := (psnMay_iff o).1 this
  unfold tot at a3 a4 a5 a6
  rw [rangeF_iff] at a3 a4 a5 a6
  exact ⟨by omega, by omega, by omega, by omega, by omega, by omega, by simp [posB, numsB]⟩
theorem lin_delta {l : List Ln} (h : linsF l = true) {k : Nat} (hk : k < l.length) : (ln_ l k).delta ≠ 0 ∧ -1125899906842624 ≤ (ln_ l k).delta ∧ (ln_ l k).delta ≤ 1125899906842624 ∧ (1 ≤ (ln_ l k).acct ∧ (ln_ l k).acct ≤ 64) ∧ (0 ≤ (ln_ l k).seq ∧ (ln_ l k).seq ≤ 1048575) ∧ (0 ≤ (ln_ l k).bal ∧ (ln_ l k).bal ≤ 1125899906842624) := by
  have hall : ∀ j, j < l.length → lnOk l j = true := fun j hj => List.all_eq_true.1 h j (List.mem_range.2 hj)
  have hb : ∀ j, j < l.length → 0 ≤ (ln_ l j).bal ∧ (ln_ l j).bal ≤ 1125899906842624 := fun j hj => by
    have := hall j hj
    unfold lnOk at this
    simp only [Bool.and_eq_true, rangeF_iff] at this
    exact this.2.2.2.2.2.1
  have hl : ∀ j, j ≤ l.length → ∀ a, 0 ≤ lastTo l j a ∧ lastTo l j a ≤ 1125899906842624 := by
    intro j
    induction j with
    | zero => intro _ a; unfold lastTo; omega
    | succ j ih =>
      intro hj a
      unfold lastTo
      split
      · exact hb j (by omega)
      · exact ih (by omega) a
  have := hall k hk
  unfold lnOk at this
  simp only [Bool.and_eq_true, rangeF_iff, beq_iff_eq, Bool.not_eq_true', beq_eq_false_iff_ne] at this
  obtain ⟨a1, a2, _, _, a5, a6, a7, a8⟩ := this
  have hlk := hl k (by omega) (ln_ l k).acct
  unfold addF toldF at a7 a8
  split at a7
  · cases a7
  · rename_i hne
    rw [if_neg hne] at a8
    exact ⟨a5, by omega, by omega, a1, a2, a6⟩
theorem may_lin {l : List Ln} (h : linsF l = true) (hk : ∀ k, k < l.length → 0 ≤ (ln_ l k).kind ∧ (ln_ l k).kind < 256) : ∀ x ∈ l, linP x (linB x) := by
  intro x hx
  obtain ⟨k, hk1, rfl⟩ := mem_at hx
  have hd := lin_delta h hk1
  have hq := hk k hk1
  simp only [ln_] at hd hq
  generalize l.getD k default = o at *
  obtain ⟨a0, a1, a2, a3, a4, a5⟩ := hd
  have hz : 0 ≤ foldZ o.delta ∧ foldZ o.delta ≤ 4611686018427387904 ∧ unfoldI (foldZ o.delta) = o.delta := by
    unfold unfoldI foldZ
    by_cases h1 : o.delta > 0
    · rw [if_pos h1]; split <;> omega
    · rw [if_neg h1, if_neg a0]; split <;> omega
  exact ⟨by omega, by omega, hq, ⟨hz.1, hz.2.1⟩, by omega, hz.2.2, by rw [side1 hq, ← foldZ_I a0 (by omega) (by omega)]; simp [linB, numsB]⟩
theorem may_vwsP {v : Vws} (h : viewsF v = true) (hk : ∀ k, k < v.lins.length → 0 ≤ (ln_ v.lins k).kind ∧ (ln_ v.lins k).kind < 256) : vwsP v (viewsB v) := by
  unfold viewsF at h
  simp only [Bool.and_eq_true] at h
  obtain ⟨h1, h2, h3⟩ := h
  have e1 : listP opnP v.opn (manyB v.opn.length (fun k => opnB (op_ v.opn k))) := B_list (may_opn h1)
  have e2 : listP lotP v.lots (manyB v.lots.length (fun k => lotB (lt_ v.lots k))) := B_list (may_lot h1)
  have e3 : listP posP v.poss (manyB v.poss.length (fun k => posB (ps_ v.poss k))) := B_list (may_pos h2)
  have e4 : listP linP v.lins (manyB v.lins.length (fun k => linB (ln_ v.lins k))) := B_list (may_lin h3 hk)
  exact ⟨_, _, ⟨_, _, ⟨_, _, ⟨[], _, rfl, e1, rfl⟩, e2, rfl⟩, e3, rfl⟩, e4, by simp [viewsB]⟩
end Go.Proofs.YtggolnppckpdlaaGreat
set_option linter.unusedSimpArgs false
set_option linter.unusedVariables false
namespace Go.Proofs.YtggolnppckpdlaaGreat
open Go Go.Sk Go.RowKit
theorem uq_sta : Uniq staP := by
  refine uq_map (P := staS) staOf staT ?_ (fun z l h => ⟨rfl, h⟩)
  exact uq_seq (uq_seq (uq_seq (uq_seq (uq_seq (uq_seq (uq_seq (uq_seq (uq_seq uq_nil (uq_num (by decide))) (uq_num (by decide))) (uq_num (by decide))) (uq_num (by decide))) (uq_list uq_acc)) (uq_list uq_ins)) (uq_list uq_row)) (uq_list uq_ord)) (uq_list uq_auc)
theorem uq_vws : Uniq vwsP := by
  refine uq_map (P := vwsS) vwsOf vwsT ?_ (fun z l h => ⟨rfl, h⟩)
  exact uq_seq (uq_seq (uq_seq (uq_seq uq_nil (uq_list uq_opn)) (uq_list uq_lot)) (uq_list uq_pos)) (uq_list uq_lin)
theorem rd_uniq {B : List Nat} {x x' : Sta} {y y' : Vws} {l m l' m' : List Nat} (h1 : staP x l) (h2 : vwsP y m) (h3 : B = l ++ m) (h1' : staP x' l') (h2' : vwsP y' m') (h3' : B = l' ++ m') : x = x' ∧ y = y' := by
  obtain ⟨e1, e2⟩ := uq_sta _ _ _ _ _ _ h1 h1' (h3.symm.trans h3')
  obtain ⟨e3, _⟩ := uq_vws _ _ _ _ [] [] h2 h2' (by rw [e2])
  exact ⟨e1, e3⟩
theorem RdOk.uniq {B : List Nat} {x x' : Sta} {y y' : Vws} (h : RdOk B x y) (h' : RdOk B x' y') : x = x' ∧ y = y' := by
  obtain ⟨⟨l, m, h1, h2, h3⟩, _⟩ := h
  obtain ⟨⟨l', m', h1', h2', h3'⟩, _⟩ := h'
  exact rd_uniq h1 h2 h3 h1' h2' h3'
theorem staP_B {s : Sta} {l : List Nat} (h : staP s l) : l = stateB s := by
  obtain ⟨_, _, ⟨_, _, ⟨_, _, ⟨_, _, ⟨_, _, ⟨_, _, ⟨_, _, ⟨_, _, ⟨_, _, h0, h1, rfl⟩, h2, rfl⟩, h3, rfl⟩, h4, rfl⟩, h5, rfl⟩, h6, rfl⟩, h7, rfl⟩, h8, rfl⟩, h9, rfl⟩ := h
  have e5 := list_B (B := accB) (fun x _ l => acc_B) h5
  have e6 := list_B (B := insB) (fun x _ l => ins_B) h6
  have e7 := list_B (B := rowB) (fun x _ l => row_B) h7
  have e8 := list_B (B := ordB) (fun x _ l => ord_B) h8
  have e9 := list_B (B := aucB) (fun x _ l => auc_B) h9
  simp only [nilP] at h0
  rw [h0, h1.2.2, h2.2.2, h3.2.2, h4.2.2, e5, e6, e7, e8, e9]
  simp [stateB, numsB, staT]
  rfl
theorem vwsP_B {v : Vws} (hm : viewsF v = true) {l : List Nat} (h : vwsP v l) : l = viewsB v := by
  obtain ⟨_, _, ⟨_, _, ⟨_, _, ⟨_, _, h0, h1, rfl⟩, h2, rfl⟩, h3, rfl⟩, h4, rfl⟩ := h
  unfold viewsF at hm
  simp only [Bool.and_eq_true] at hm
  have e1 := list_B (B := opnB) (fun x _ l => opn_B) h1
  have e2 := list_B (B := lotB) (fun x _ l => lot_B) h2
  have e3 := list_B (B := posB) (fun x _ l => pos_B) h3
  have e4 := list_B (B := linB) (fun x hx l => lin_B (by
    obtain ⟨k, hk, rfl⟩ := mem_at hx
    exact (lin_delta hm.2.2 hk).1)) h4
  simp only [nilP] at h0
  rw [h0, e1, e2, e3, e4]
  simp [viewsB, vwsT]
  rfl
theorem RdOk.body {B : List Nat} {x : Sta} {y : Vws} (h : RdOk B x y) : B = bodyL x y := by
  obtain ⟨⟨l, m, h1, h2, h3⟩, _, h5⟩ := h
  rw [h3, staP_B h1, vwsP_B h5 h2]; rfl
def KindB (v : Vws) : Prop := ∀ k, k < v.lins.length → 0 ≤ (ln_ v.lins k).kind ∧ (ln_ v.lins k).kind < 256
theorem RdOk.of {s : Sta} {v : Vws} (h1 : mayS s = true) (h2 : viewsF v = true) (hk : KindB v) : RdOk (bodyL s v) s v := ⟨⟨_, _, may_staP h1, may_vwsP h2 hk, rfl⟩, h1, h2⟩
theorem many_mem {α : Type} {P : α → List Nat → Prop} : ∀ {xs : List α} {l : List Nat}, manyP P xs l → ∀ x ∈ xs, ∃ m, P x m
  | [], _, _, x, hx => by cases hx
  | y :: ys, _, ⟨a, b, p, q, _⟩, x, hx => by
    rcases List.mem_cons.1 hx with rfl | hx
    · exact ⟨a, p⟩
    · exact many_mem q x hx
theorem list_mem {α : Type} {P : α → List Nat → Prop} {xs : List α} {l : List Nat} (h : listP P xs l) : ∀ x ∈ xs, ∃ m, P x m := by
  obtain ⟨l2, h2, _⟩ := h
  exact many_mem h2
theorem list_len {α : Type} {P : α → List Nat → Prop} (hP : ∀ x l, P x l → l ≠ []) {xs : List α} {l : List Nat} (h : listP P xs l) : xs.length ≤ l.length := by
  obtain ⟨l2, h2, rfl⟩ := h
  have := manyP_len hP h2
  rw [List.length_append]; omega
theorem at_mem {α : Type} [Inhabited α] {l : List α} {k : Nat} (h : k < l.length) : l.getD k default ∈ l := by
  rw [List.getD_eq_getElem?_getD, List.getElem?_eq_getElem h]; exact List.getElem_mem h
theorem staP_wf {x : Sta} {l : List Nat} (h : staP x l) : (∀ k, k < x.accts.length → (ac_ x.accts k).name.size ≤ 24) ∧ (∀ k, k < x.insts.length → (in_ x.insts k).name.size ≤ 24) ∧ (∀ j, j < x.rows.length → (rw_ x.rows j).wf) ∧ (∀ k, k < x.orders.length → 0 ≤ (od_ x.orders k).side ∧ (od_ x.orders k).side < 256) ∧ x.accts.length ≤ l.length ∧ x.insts.length ≤ l.length ∧ x.rows.length ≤ l.length ∧ x.orders.length ≤ l.length ∧ x.aucs.length ≤ l.length ∧ (∀ k, k < x.aucs.length → (x.aucs.getD k default).bids.length ≤ l.length) := by
  obtain ⟨_, _, ⟨_, _, ⟨_, _, ⟨_, _, ⟨_, _, ⟨_, _, ⟨_, _, ⟨_, _, ⟨_, _, h0, h1, rfl⟩, h2, rfl⟩, h3, rfl⟩, h4, rfl⟩, h5, rfl⟩, h6, rfl⟩, h7, rfl⟩, h8, rfl⟩, h9, rfl⟩ := h
  have n5 := list_len (fun x l => accP_ne) h5
  have n6 := list_len (fun x l => insP_ne) h6
  have n7 := list_len (fun x l => rowP_ne) h7
  have n8 := list_len (fun x l => ordP_ne) h8
  have n9 := list_len (fun x l => aucP_ne) h9
  simp only [staT] at *
  simp only [List.length_append]
  refine ⟨fun k hk => ?_, fun k hk => ?_, fun k hk => ?_, fun k hk => ?_, by omega, by omega, by omega, by omega, by omega, fun k hk => ?_⟩
  · obtain ⟨m, hm⟩ := list_mem h5 _ (at_mem hk); exact hm.1
  · obtain ⟨m, hm⟩ := list_mem h6 _ (at_mem hk); exact hm.1
  · obtain ⟨m, hm⟩ := list_mem h7 _ (at_mem hk)
    obtain ⟨_, _, _, ⟨a, b⟩, ⟨c, d⟩, _⟩ := hm
    exact ⟨⟨Int.le_trans (by decide) c, Int.le_trans d (by decide)⟩, ⟨Int.le_trans (by decide) a, Int.le_trans b (by decide)⟩⟩
  · obtain ⟨m, hm⟩ := list_mem h8 _ (at_mem hk); exact hm.2.2.2.1
  · have : ∀ {xs : List Auc} {l : List Nat}, manyP aucP xs l → ∀ x ∈ xs, x.bids.length ≤ l.length := by
      intro xs
      induction xs with
      | nil => intro l _ x hx; cases hx
      | cons y ys ih =>
        rintro _ ⟨a, b, p, q, rfl⟩ x hx
        rw [List.length_append]
        rcases List.mem_cons.1 hx with rfl | hx
        · obtain ⟨_, c, _, hc, rfl⟩ := p
          have := list_len (fun x l => bidP_ne) hc
          simp only [aucT] at this
          rw [List.length_append]; omega
        · have := ih q x hx; omega
    obtain ⟨l2, h2', rfl⟩ := h9
    have := this h2' _ (at_mem hk)
    simp only [List.length_append]; omega
theorem vwsP_wf {y : Vws} {l : List Nat} (h : vwsP y l) : (∀ k, k < y.lins.length → (ln_ y.lins k).wf) ∧ KindB y ∧ (∀ k, k < y.opn.length → 0 ≤ (op_ y.opn k).side ∧ (op_ y.opn k).side < 256) ∧ y.opn.length ≤ l.length ∧ y.lots.length ≤ l.length ∧ y.poss.length ≤ l.length ∧ y.lins.length ≤ l.length := by
  obtain ⟨_, _, ⟨_, _, ⟨_, _, ⟨_, _, h0, h1, rfl⟩, h2, rfl⟩, h3, rfl⟩, h4, rfl⟩ := h
  have n1 := list_len (fun x l => opnP_ne) h1
  have n2 := list_len (fun x l => lotP_ne) h2
  have n3 := list_len (fun x l => posP_ne) h3
  have n4 := list_len (fun x l => linP_ne) h4
  simp only [vwsT] at *
  simp only [List.length_append]
  refine ⟨fun k hk => ?_, fun k hk => ?_, fun k hk => ?_, by omega, by omega, by omega, by omega⟩
  · obtain ⟨m, hm⟩ := list_mem h4 _ (at_mem hk)
    obtain ⟨_, _, _, ⟨a, b⟩, ⟨c, d⟩, _⟩ := hm
    refine ⟨?_, ⟨Int.le_trans (by decide) c, Int.le_trans d (by decide)⟩⟩
    simp only [ln_]
    generalize (y.lins.getD k default).delta = z at *
    unfold foldZ at a b
    by_cases h : z > 0
    · rw [if_pos h] at b; omega
    · by_cases h' : z = 0
      · omega
      · rw [if_neg h, if_neg h'] at b; omega
  · obtain ⟨m, hm⟩ := list_mem h4 _ (at_mem hk); exact hm.2.2.1
  · obtain ⟨m, hm⟩ := list_mem h1 _ (at_mem hk); exact hm.2.2.2.1
theorem staP_W {x : Sta} {l : List Nat} (h : staP x l) (hl : l.length ≤ 10000) : StaW x := by
  obtain ⟨a1, a2, a3, a4, a5, a6, a7, a8, a9, a10⟩ := staP_wf h
  exact ⟨by omega, fun k hk => Nat.le_trans (a1 k hk) (by decide), by omega, fun k hk => Nat.le_trans (a2 k hk) (by decide), a3⟩
theorem RdW.short {B : List Nat} (h : B.length ≤ 10000) : RdW B := by
  intro x y l m h1 h2 h3
  rw [h3, List.length_append] at h
  exact ⟨staP_W h1 (by omega), (vwsP_wf h2).1⟩
theorem RdW.of {s : Sta} {v : Vws} (hs : staP s (stateB s)) (hv : vwsP v (viewsB v)) (hW : StaW s) : RdW (bodyL s v) := by
  intro x y l m h1 h2 h3
  obtain ⟨rfl, rfl⟩ := rd_uniq h1 h2 h3 hs hv rfl
  exact ⟨hW, (vwsP_wf hv).1⟩
theorem RdOk.snW {B : List Nat} {x : Sta} {y : Vws} (h : RdOk B x y) (hl : B.length ≤ 10000) : SnW x y := by
  obtain ⟨⟨l, m, h1, h2, h3⟩, _, _⟩ := h
  rw [h3, List.length_append] at hl
  obtain ⟨a1, a2, a3, a4, a5, a6, a7, a8, a9, a10⟩ := staP_wf h1
  obtain ⟨b1, b2, b3, b4, b5, b6, b7⟩ := vwsP_wf h2
  refine ⟨staP_W h1 (by omega), fun _ => ⟨by omega, fun k hk => Nat.le_trans (a1 k hk) (by decide), by omega, fun k hk => Nat.le_trans (a2 k hk) (by decide), by omega, by omega, a4, by omega, fun k hk => Nat.le_trans (a10 k hk) (by omega)⟩, ⟨by omega, b3, by omega, by omega, by omega, b2⟩, b1⟩
end Go.Proofs.YtggolnppckpdlaaGreat
