/- Plain laws of a bid that is taken: for the law AuctionRises. -/
import Derived.Test.YtkcoemikglbomaaP1
import Derived.Test.YtkcoemikglbomaaA10
set_option linter.unusedSimpArgs false
set_option linter.unusedVariables false
namespace Go.Proofs.Ytkcoemikglbomaa
open Go Go.Sk Go.RowKit
theorem getD_snoc_lt {l : List Bid} {y : Bid} {i : Nat} (h : i < l.length) : (l ++ [y]).getD i default = l.getD i default := by
  simp [List.getD, List.getElem?_append_left h]
theorem getD_snoc {l : List Bid} {y : Bid} : (l ++ [y]).getD l.length default = y := by simp [List.getD]
theorem hiTo_snoc {l : List Bid} {y : Bid} : ∀ k, k ≤ l.length → hiTo (l ++ [y]) k = hiTo l k
  | 0, _ => rfl
  | k + 1, h => by
    have hb := hiTo_lt l k
    rw [hiTo, hiTo, hiTo_snoc k (by omega), getD_snoc_lt (by omega)]
    by_cases h0 : hiTo l k < 0
    · simp only [h0, true_or, if_true]
    · rw [getD_snoc_lt (by omega)]
theorem may_parts {x : Auc} (h : mayF x = true) : within x.id 1099511627776 = true ∧ within x.seller 64 = true ∧ within x.inst 16 = true ∧ within x.qty 1048576 = true ∧ within x.reserve 1125899906842624 = true ∧ within x.fin 1099511627776 = true ∧ mannerOk x = true ∧ bidsOk x = true := by
  simp only [mayF, Bool.and_eq_true] at h
  exact ⟨h.1.1.1.1.1.1.1, h.1.1.1.1.1.1.2, h.1.1.1.1.1.2, h.1.1.1.1.2, h.1.1.1.2, h.1.1.2, h.1.2, h.2⟩
theorem bidsOk_of {x : Auc} (h : ∀ j, j < x.bids.length → badBid x j = false) : bidsOk x = true := by
  unfold bidsOk
  rw [idx_miss h]
  rfl
theorem take_zero {x : Auc} {y : Bid} (h : (takeF x y).2 ≠ 0) : (takeF x y).1 = Auc.zero := by
  unfold takeF at h ⊢
  repeat' split
  all_goals first | rfl | (exfalso; simp_all; done)
structure Taken (x : Auc) (y : Bid) (c : Auc) : Prop where
  may : mayF x = true
  acct : within y.acct 64 = true
  amount : within y.amount 1125899906842624 = true
  other : y.acct ≠ x.seller
  put : c = x.put (manF x y).1
  ok : (manF x y).2 = 0
theorem taken {x : Auc} {y : Bid} {c : Auc} (h : takeF x y = (c, 0)) : Taken x y c := by
  unfold takeF at h
  split at h
  · simp at h
  rename_i h1
  split at h
  · simp at h
  rename_i h2
  split at h
  · simp at h
  rename_i h3
  split at h
  · rename_i h4; simp at h; simp [h.2] at h4
  rename_i h4
  simp only [Bool.not_eq_false, Bool.and_eq_true] at h1 h2
  simp only [Prod.mk.injEq, and_true] at h
  exact ⟨h1, h2.1, h2.2, by simpa using h3, h.symm, by simpa using h4⟩
/-- What a sealed auction is behind a bid. -/
theorem taken_sealed {x c : Auc} {y : Bid} (t : Taken x y c) (he : x.sealed = true) : c = x.put (x.bids ++ [y]) ∧ x.bids.length < 16 ∧ ∀ j, j < x.bids.length → (x.bids.getD j default).acct ≠ y.acct := by
  have h := t.ok
  have hp := t.put
  simp only [manF, he, if_true, stakeF] at h hp
  split at h
  · simp at h
  rename_i h1
  split at h
  · simp at h
  rename_i h2
  rw [if_neg h1, if_neg h2] at hp
  refine ⟨hp, by omega, fun j hj e => ?_⟩
  rcases idx_cases (fun i => (x.bids.getD i default).acct == y.acct) x.bids.length with ⟨k, _, _, _, h4⟩ | ⟨hn, _⟩
  · rw [h4] at h1; omega
  · have := hn j hj
    rw [e, beq_self_eq_true] at this; cases this
theorem taken_eng {x c : Auc} {y : Bid} (t : Taken x y c) (he : x.sealed = false) : c = x.put [y] ∧ y.amount ≥ eleastF x := by
  have h := t.ok
  have hp := t.put
  simp only [manF, he, Bool.false_eq_true, if_false, etakeF] at h hp
  split at h
  · simp at h
  rename_i h1
  rw [if_neg h1] at hp
  exact ⟨hp, by omega⟩
theorem eleast_ge {x : Auc} (h : mayF x = true) (he : x.sealed = false) : x.reserve ≤ eleastF x := by
  unfold eleastF
  split
  · exact Int.le_refl _
  · rename_i h0
    have hpos : 0 < x.bids.length := by simp at h0; exact List.length_pos_iff.2 h0
    have hb := amount_bd h 0 hpos
    have hst := step_bd h he
    have := (may_eng h he).2
    have : (x.bids.getD 0 default).amount ≥ x.reserve := by omega
    simp only [addF, toldF]
    rw [if_neg (by omega)]
    simp only; omega
theorem badBid_iff {x : Auc} {j : Nat} : badBid x j = false ↔ within (x.bids.getD j default).acct 64 = true ∧ (x.bids.getD j default).acct ≠ x.seller ∧ within (x.bids.getD j default).amount 1125899906842624 = true ∧ ∀ i, i < j → (x.bids.getD i default).acct ≠ (x.bids.getD j default).acct := by
  unfold badBid
  simp only [Bool.or_eq_false_iff, Bool.not_eq_false', decide_eq_false_iff_not, beq_eq_false_iff_ne, ne_eq, and_assoc]
  refine ⟨fun ⟨h1, h2, h3, h4⟩ => ⟨h1, h2, h3, fun i hi e => ?_⟩, fun ⟨h1, h2, h3, h4⟩ => ⟨h1, h2, h3, fun hc => ?_⟩⟩
  · rcases idx_cases (fun i => (x.bids.getD i default).acct == (x.bids.getD j default).acct) j with ⟨k, _, _, _, h5⟩ | ⟨hn, _⟩
    · rw [h5] at h4; omega
    · have := hn i hi
      rw [e, beq_self_eq_true] at this; cases this
  · rcases idx_cases (fun i => (x.bids.getD i default).acct == (x.bids.getD j default).acct) j with ⟨k, hk, _, h6, h5⟩ | ⟨_, h5⟩
    · exact h4 k hk (by simpa using h6)
    · rw [h5] at hc; omega
theorem bids_all {x : Auc} (h : mayF x = true) {j : Nat} (hj : j < x.bids.length) : badBid x j = false := bids_bd (may_parts h).2.2.2.2.2.2.2 j hj
theorem taken_may {x c : Auc} {y : Bid} (t : Taken x y c) : mayF c = true := by
  obtain ⟨h1, h2, h3, h4, h5, h6, h7, h8⟩ := may_parts t.may
  rcases Bool.eq_false_or_eq_true x.sealed with he | he
  · obtain ⟨rfl, hl, hn⟩ := taken_sealed t he
    have hm : mannerOk (x.put (x.bids ++ [y])) = true := by
      simp only [mannerOk, Auc.put, he, if_true, smayF, Bool.and_eq_true] at h7 ⊢
      refine ⟨h7.1, ?_⟩
      rw [List.length_append, List.length_singleton]
      exact decide_eq_true (by omega)
    have hb : bidsOk (x.put (x.bids ++ [y])) = true := by
      refine bidsOk_of fun j hj => ?_
      simp only [Auc.put, List.length_append, List.length_singleton] at hj
      rw [badBid_iff]
      simp only [Auc.put]
      by_cases hjn : j = x.bids.length
      · subst hjn
        rw [getD_snoc]
        exact ⟨t.acct, t.other, t.amount, fun i hi => by rw [getD_snoc_lt hi]; exact hn i hi⟩
      · have hj : j < x.bids.length := by omega
        have := badBid_iff.1 (bids_all t.may hj)
        rw [getD_snoc_lt hj]
        exact ⟨this.1, this.2.1, this.2.2.1, fun i hi => by rw [getD_snoc_lt (by omega)]; exact this.2.2.2 i hi⟩
    simp only [mayF, Bool.and_eq_true]
    exact ⟨⟨⟨⟨⟨⟨⟨h1, h2⟩, h3⟩, h4⟩, h5⟩, h6⟩, hm⟩, hb⟩
  · obtain ⟨rfl, hl⟩ := taken_eng t he
    have hge := eleast_ge t.may he
    have hm : mannerOk (x.put [y]) = true := by
      simp only [mannerOk, Auc.put, he, Bool.false_eq_true, if_false, emayF, Bool.and_eq_true] at h7 ⊢
      refine ⟨h7.1, rfl, ?_⟩
      rw [Bool.or_eq_true]
      exact .inr (decide_eq_true (by show y.amount ≥ x.reserve; omega))
    have hb : bidsOk (x.put [y]) = true := by
      refine bidsOk_of fun j hj => ?_
      obtain rfl : j = 0 := by simp only [Auc.put, List.length_singleton] at hj; omega
      rw [badBid_iff]
      exact ⟨t.acct, t.other, t.amount, fun i hi => by omega⟩
    simp only [mayF, Bool.and_eq_true]
    exact ⟨⟨⟨⟨⟨⟨⟨h1, h2⟩, h3⟩, h4⟩, h5⟩, h6⟩, hm⟩, hb⟩
theorem taken_pos {x c : Auc} {y : Bid} (t : Taken x y c) : 0 < c.bids.length := by
  rcases Bool.eq_false_or_eq_true x.sealed with he | he
  · obtain ⟨rfl, _⟩ := taken_sealed t he; simp [Auc.put]
  · obtain ⟨rfl, _⟩ := taken_eng t he; simp [Auc.put]
theorem taken_held {x c : Auc} {y : Bid} (t : Taken x y c) : heldF c y.acct = (y.amount, 0) := by
  have hm := taken_may t
  have hq : (if c.seller == y.acct then c.qty else 0) = 0 := by
    rw [if_neg]
    rw [t.put]
    simp only [Auc.put, beq_iff_eq]
    exact fun e => t.other e.symm
  unfold heldF
  rw [if_pos hm, hq]
  rcases Bool.eq_false_or_eq_true x.sealed with he | he
  · obtain ⟨rfl, _⟩ := taken_sealed t he
    simp only [Auc.put, List.length_append, List.length_singleton, amountTo, getD_snoc, beq_self_eq_true, if_true]
  · obtain ⟨rfl, _⟩ := taken_eng t he
    simp [Auc.put, amountTo, List.getD]
theorem taken_sold {x c : Auc} {y : Bid} (t : Taken x y c) : (heldF c x.seller).2 = x.qty := by
  have hm := taken_may t
  unfold heldF
  rw [if_pos hm, t.put]
  simp [Auc.put]
theorem taken_least {x c : Auc} {y : Bid} (t : Taken x y c) : leastF x ≤ y.amount := by
  unfold leastF
  rw [if_pos t.may]
  have := within_bd t.amount
  rcases Bool.eq_false_or_eq_true x.sealed with he | he
  · rw [he, if_pos rfl]; omega
  · rw [he, if_neg (by decide)]; exact (taken_eng t he).2
theorem taken_most {x c : Auc} {y : Bid} (t : Taken x y c) : y.amount ≤ (topF c).1.amount := by
  have hm := taken_may t
  have hp := taken_pos t
  obtain ⟨h1, h2, _⟩ := hiTo_max c.bids c.bids.length hp
  have ht : (topF c).1 = c.bids.getD (hi c.bids).toNat default := by unfold topF; rw [if_neg (by simp [hm]; exact h1)]
  rw [ht]
  rcases Bool.eq_false_or_eq_true x.sealed with he | he
  · obtain ⟨rfl, _⟩ := taken_sealed t he
    have := h2 x.bids.length (by simp [Auc.put])
    simp only [Auc.put, getD_snoc] at this
    exact this
  · obtain ⟨rfl, _⟩ := taken_eng t he
    have := h2 0 (by simp [Auc.put])
    exact this
theorem taken_engtop {x c : Auc} {y : Bid} (t : Taken x y c) (he : x.sealed = false) : (topF c).1 = y ∧ leastF c = y.amount + x.step := by
  have hm := taken_may t
  have hp := taken_pos t
  obtain ⟨h1, _, _⟩ := hiTo_max c.bids c.bids.length hp
  have hl := (hiTo_lt c.bids c.bids.length).2
  have ht : (topF c).1 = c.bids.getD (hi c.bids).toNat default := by unfold topF; rw [if_neg (by simp [hm]; exact h1)]
  obtain ⟨rfl, _⟩ := taken_eng t he
  have hlen : (x.put [y]).bids.length = 1 := rfl
  have hz : (hi (x.put [y]).bids).toNat = 0 := by unfold hi; omega
  refine ⟨by rw [ht, hz]; rfl, ?_⟩
  unfold leastF
  rw [if_pos hm, if_neg (by simp [Auc.put, he])]
  unfold eleastF
  rw [if_neg (by rw [hlen]; decide)]
  have hb := within_bd t.amount
  have hst := step_bd t.may he
  show (addF y.amount x.step).1 = _
  simp only [addF, toldF]
  rw [if_neg (by omega)]
theorem taken_sealedtop {x c : Auc} {y : Bid} (t : Taken x y c) (he : x.sealed = true) : leastF c = 1 ∧
    ((topF c).1 = y ∧ (x.bids.length = 0 ∨ y.amount > (topF x).1.amount) ∨ 0 < x.bids.length ∧ (topF c).1 = (topF x).1 ∧ (topF x).1.amount ≥ y.amount) := by
  have hm := taken_may t
  have hp := taken_pos t
  obtain ⟨h1, _, _⟩ := hiTo_max c.bids c.bids.length hp
  have ht : (topF c).1 = c.bids.getD (hi c.bids).toNat default := by unfold topF; rw [if_neg (by simp [hm]; exact h1)]
  obtain ⟨rfl, _⟩ := taken_sealed t he
  refine ⟨by unfold leastF; rw [if_pos hm, if_pos (by simp [Auc.put, he])], ?_⟩
  have hhi : hi (x.put (x.bids ++ [y])).bids = hiTo (x.bids ++ [y]) (x.bids.length + 1) := by simp [hi, Auc.put]
  rw [hiTo, hiTo_snoc _ (Nat.le_refl _), getD_snoc] at hhi
  have hl := hiTo_lt x.bids x.bids.length
  rcases Nat.eq_zero_or_pos x.bids.length with h0 | h0
  · left
    rw [h0] at hl hhi
    have : hiTo x.bids 0 = -1 := rfl
    rw [if_pos (.inl (by omega))] at hhi
    refine ⟨?_, .inl h0⟩
    rw [ht, hhi]
    have : x.bids = [] := List.length_eq_zero_iff.1 h0
    simp [Auc.put, this]
  · obtain ⟨k1, _, _⟩ := hiTo_max x.bids x.bids.length h0
    have hx : (topF x).1 = x.bids.getD (hi x.bids).toNat default := by unfold topF; rw [if_neg (by simp [t.may]; exact k1)]
    rw [hx]
    split at hhi
    · rename_i hc
      left
      refine ⟨by rw [ht, hhi]; simp [Auc.put], .inr ?_⟩
      rcases hc with hc | hc
      · omega
      · rw [getD_snoc_lt (by omega)] at hc; exact hc
    · rename_i hc
      right
      refine ⟨h0, by rw [ht, hhi]; show (x.bids ++ [y]).getD _ _ = _; rw [getD_snoc_lt (by omega)]; rfl, ?_⟩
      rw [getD_snoc_lt (by omega)] at hc
      simp only [not_or, Int.not_lt] at hc
      show (x.bids.getD (hiTo x.bids x.bids.length).toNat default).amount ≥ _
      omega
end Go.Proofs.Ytkcoemikglbomaa
