/- Plain laws of a sealed auction whose bids come in another row: for the law AuctionTurned. -/
import Derived.Test.YtkcoemikglbomaaP3
import Derived.Test.YtkcoemikglbomaaA12
set_option linter.unusedSimpArgs false
set_option linter.unusedVariables false
namespace Go.Proofs.Ytkcoemikglbomaa
open Go Go.Sk Go.RowKit
theorem mem_iff_at {l : List Bid} {e : Bid} : e ∈ l ↔ ∃ j, j < l.length ∧ l.getD j default = e := by
  rw [List.mem_iff_getElem]
  constructor
  · rintro ⟨j, hj, rfl⟩; exact ⟨j, hj, by simp [List.getD, hj]⟩
  · rintro ⟨j, hj, rfl⟩; exact ⟨j, hj, by simp [List.getD, hj]⟩
def goodBid (x : Auc) (e : Bid) : Prop := within e.acct 64 = true ∧ e.acct ≠ x.seller ∧ within e.amount 1125899906842624 = true
theorem bids_all_iff {x : Auc} : (∀ j, j < x.bids.length → badBid x j = false) ↔ (∀ e ∈ x.bids, goodBid x e) ∧ (x.bids.map (·.acct)).Nodup := by
  constructor
  · intro h
    refine ⟨fun e he => ?_, ?_⟩
    · obtain ⟨j, hj, rfl⟩ := mem_iff_at.1 he
      have := badBid_iff.1 (h j hj)
      exact ⟨this.1, this.2.1, this.2.2.1⟩
    · rw [List.Nodup, List.pairwise_iff_getElem]
      intro i j hi hj hij
      simp only [List.length_map] at hi hj
      have := (badBid_iff.1 (h j hj)).2.2.2 i hij
      simpa [List.getD, hi, hj] using this
  · rintro ⟨h1, h2⟩ j hj
    obtain ⟨g1, g2, g3⟩ := h1 _ (mem_iff_at.2 ⟨j, hj, rfl⟩)
    refine badBid_iff.2 ⟨g1, g2, g3, fun i hi => ?_⟩
    rw [List.Nodup, List.pairwise_iff_getElem] at h2
    have := h2 i j (by simp; omega) (by simpa using hj) hi
    have hi' : i < x.bids.length := by omega
    simpa [List.getD, hi', hj] using this
theorem may_perm {x : Auc} {l : List Bid} (hp : l.Perm x.bids) (he : x.sealed = true) : mayF (x.put l) = mayF x := by
  have key : MayP (x.put l) ↔ MayP x := by
    have hl : l.length = x.bids.length := hp.length_eq
    have e : (∀ j, j < (x.put l).bids.length → badBid (x.put l) j = false) ↔ (∀ j, j < x.bids.length → badBid x j = false) := by
      rw [bids_all_iff, bids_all_iff]
      constructor
      · rintro ⟨h1, h2⟩
        exact ⟨fun e hm => h1 e (hp.mem_iff.2 hm), (hp.map _).nodup_iff.1 h2⟩
      · rintro ⟨h1, h2⟩
        exact ⟨fun e hm => h1 e (hp.mem_iff.1 hm), (hp.map _).nodup_iff.2 h2⟩
    constructor
    · intro h
      exact ⟨h.id, h.seller, h.inst, h.qty, h.reserve, h.fin, h.step0, fun h2 => absurd (he.symm.trans h2) (by decide), by have := h.len16; simp only [Auc.put, hl] at this; exact this, fun h2 => absurd (he.symm.trans h2) (by decide), fun h2 => absurd (he.symm.trans h2) (by decide), e.1 h.ok⟩
    · intro h
      exact ⟨h.id, h.seller, h.inst, h.qty, h.reserve, h.fin, h.step0, fun h2 => absurd (he.symm.trans h2) (by decide), by have := h.len16; simp only [Auc.put, hl]; exact this, fun h2 => absurd (he.symm.trans h2) (by decide), fun h2 => absurd (he.symm.trans h2) (by decide), e.2 h.ok⟩
  rw [Bool.eq_iff_iff, mayP, mayP]
  exact key
/-- Who has the most, and what all others have at most. -/
theorem sealed_mem {x : Auc} (h : mayF x = true) (he : x.sealed = true) (h0 : 0 < x.bids.length) : ∃ (W : Bid) (P : Int), W ∈ x.bids ∧ (∀ e ∈ x.bids, e.amount ≤ W.amount) ∧ (topF x).1 = W ∧ x.reserve ≤ P ∧ (∀ e ∈ x.bids, e ≠ W → e.amount ≤ P) ∧
    (P = x.reserve ∨ ∃ e ∈ x.bids, e ≠ W ∧ e.amount = P) ∧ winF x = if W.amount < x.reserve then (Bid.zero, false) else (⟨W.acct, P⟩, true) := by
  obtain ⟨m, h1, h2, _, h4, h5⟩ := sealed_win h he h0
  obtain ⟨g1, g2, g3⟩ := prTo_ge x.bids x.reserve m x.bids.length
  have hu := may_uniq h
  have hne : ∀ j, j < x.bids.length → (x.bids.getD j default ≠ x.bids.getD m default ↔ j ≠ m) := by
    intro j hj
    constructor
    · rintro h rfl; exact h rfl
    · intro hjm e
      rcases Nat.lt_or_gt_of_ne hjm with h | h
      · exact hu j m h h1 (by rw [e])
      · exact hu m j h hj (by rw [e])
  refine ⟨_, _, mem_iff_at.2 ⟨m, h1, rfl⟩, fun e hm => ?_, h4, g1, fun e hm hW => ?_, ?_, h5⟩
  · obtain ⟨j, hj, rfl⟩ := mem_iff_at.1 hm; exact h2 j hj
  · obtain ⟨j, hj, rfl⟩ := mem_iff_at.1 hm; exact g2 j hj (by have := (hne j hj).1 hW; omega)
  · rcases g3 with g3 | ⟨j, g4, g5, g6⟩
    · exact .inl g3
    · exact .inr ⟨_, mem_iff_at.2 ⟨j, g4, rfl⟩, (hne j g4).2 (by omega), g6⟩
theorem turned {x : Auc} {l : List Bid} (hp : l.Perm x.bids) (he : x.sealed = true) (h0 : 0 < x.bids.length) :
    (winF (x.put l)).2 = (winF x).2 ∧ (winF (x.put l)).1.amount = (winF x).1.amount ∧
    ((∀ e ∈ x.bids, ∀ e' ∈ x.bids, e.amount = (topF x).1.amount → e'.amount = (topF x).1.amount → e = e') → (winF (x.put l)).1.acct = (winF x).1.acct) := by
  have hm := may_perm hp he
  rcases Bool.eq_false_or_eq_true (mayF x) with h | h
  · rw [h] at hm
    have hl : l.length = x.bids.length := hp.length_eq
    obtain ⟨W, P, a1, a2, a3, a4, a5, a6, a7⟩ := sealed_mem h he h0
    obtain ⟨W', P', b1, b2, b3, b4, b5, b6, b7⟩ := sealed_mem (x := x.put l) hm he (by show 0 < l.length; omega)
    have c1 : ∀ e, e ∈ (x.put l).bids ↔ e ∈ x.bids := fun e => hp.mem_iff
    simp only [c1] at b1 b2 b5 b6
    have hr : (x.put l).reserve = x.reserve := rfl
    rw [hr] at b4 b6 b7
    have hA : W'.amount = W.amount := by have := a2 _ b1; have := b2 _ a1; omega
    have hP : P = P' := by
      have h1 : P ≤ P' := by
        rcases a6 with a6 | ⟨e, e1, e2, e3⟩
        · omega
        · by_cases hW : e = W'
          · have := b5 W a1 (by rintro rfl; exact e2 hW)
            have := a2 e e1; omega
          · have := b5 e e1 hW; omega
      have h2 : P' ≤ P := by
        rcases b6 with b6 | ⟨e, e1, e2, e3⟩
        · omega
        · by_cases hW : e = W
          · have := a5 W' b1 (by rintro rfl; exact e2 hW)
            have := b2 e e1; omega
          · have := a5 e e1 hW; omega
      omega
    rw [a7, b7, hA, ← hP]
    split
    · exact ⟨rfl, rfl, fun _ => rfl⟩
    · refine ⟨rfl, rfl, fun hu => ?_⟩
      have := hu W' b1 W a1 (by rw [a3, hA]) (by rw [a3])
      rw [this]
  · rw [h] at hm
    have e1 : winF x = (Bid.zero, false) := by simp [winF, h]
    have e2 : winF (x.put l) = (Bid.zero, false) := by simp [winF, hm]
    rw [e1, e2]
    exact ⟨rfl, rfl, fun _ => rfl⟩
/-- How many bid an amount. -/
def cntA (l : List Bid) (n : Int) : Nat → Int
  | 0 => 0
  | k + 1 => if ((l.getD k default).amount == n) = true then cntA l n k + 1 else cntA l n k
theorem cntA_ge {l : List Bid} {n : Int} : ∀ k, 0 ≤ cntA l n k ∧ cntA l n k ≤ k ∧ (∀ j, j < k → (l.getD j default).amount = n → 1 ≤ cntA l n k) ∧ (∀ i j, i < j → j < k → (l.getD i default).amount = n → (l.getD j default).amount = n → 2 ≤ cntA l n k)
  | 0 => ⟨Int.le_refl _, Int.le_refl _, fun j h => by omega, fun i j h h' => by omega⟩
  | k + 1 => by
    obtain ⟨h1, h2, h3, h4⟩ := cntA_ge (l := l) (n := n) k
    rw [cntA]
    split
    · rename_i hc
      refine ⟨by omega, by omega, fun j _ _ => by omega, fun i j hi hj e1 e2 => ?_⟩
      by_cases hjk : j = k
      · have := h3 i (by omega) e1; omega
      · have := h4 i j hi (by omega) e1 e2; omega
    · rename_i hc
      have hne : (l.getD k default).amount ≠ n := by simpa using hc
      refine ⟨h1, by omega, fun j hj e => ?_, fun i j hi hj e1 e2 => ?_⟩
      · by_cases hjk : j = k
        · subst hjk; exact absurd e hne
        · exact h3 j (by omega) e
      · by_cases hjk : j = k
        · subst hjk; exact absurd e2 hne
        · exact h4 i j hi (by omega) e1 e2
theorem cnt_one {l : List Bid} {n : Int} (h : cntA l n l.length ≤ 1) : ∀ e ∈ l, ∀ e' ∈ l, e.amount = n → e'.amount = n → e = e' := by
  intro e he e' he' h1 h2
  obtain ⟨i, hi, rfl⟩ := mem_iff_at.1 he
  obtain ⟨j, hj, rfl⟩ := mem_iff_at.1 he'
  obtain ⟨_, _, _, h4⟩ := cntA_ge (l := l) (n := n) l.length
  rcases Nat.lt_trichotomy i j with h | h | h
  · have := h4 i j h hj h1 h2; omega
  · rw [h]
  · have := h4 j i h hi h2 h1; omega
end Go.Proofs.Ytkcoemikglbomaa
