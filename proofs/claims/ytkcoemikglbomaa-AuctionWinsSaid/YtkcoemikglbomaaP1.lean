/- Plain laws of the winner. -/
import Derived.Test.YtkcoemikglbomaaL1
set_option linter.unusedSimpArgs false
set_option linter.unusedVariables false
namespace Go.Proofs.Ytkcoemikglbomaa
open Go Go.Sk Go.RowKit
def enoughTo (l : List Bid) (res : Int) : Nat → Bool
  | 0 => false
  | k + 1 => enoughTo l res k || decide ((l.getD k default).amount ≥ res)
theorem enoughTo_iff {l : List Bid} {res : Int} : ∀ k, enoughTo l res k = true ↔ ∃ j, j < k ∧ (l.getD j default).amount ≥ res
  | 0 => by simp [enoughTo]
  | k + 1 => by
    rw [enoughTo, Bool.or_eq_true, enoughTo_iff k, decide_eq_true_eq]
    constructor
    · rintro (⟨j, h1, h2⟩ | h)
      · exact ⟨j, by omega, h2⟩
      · exact ⟨k, by omega, h⟩
    · rintro ⟨j, h1, h2⟩
      by_cases hj : j = k
      · subst hj; exact .inr h2
      · exact .inl ⟨j, by omega, h2⟩
/-- The highest one: nobody's bid is above it, and the ones before it are below. -/
theorem hiTo_max (l : List Bid) : ∀ k, 0 < k → 0 ≤ hiTo l k ∧ (∀ j, j < k → (l.getD j default).amount ≤ (l.getD (hiTo l k).toNat default).amount) ∧ ∀ j, j < (hiTo l k).toNat → (l.getD j default).amount < (l.getD (hiTo l k).toNat default).amount
  | 0, h => by omega
  | k + 1, _ => by
    rcases Nat.eq_zero_or_pos k with rfl | hk
    · rw [hiTo, if_pos (.inl (by simp [hiTo]))]
      exact ⟨by omega, fun j hj => by obtain rfl : j = 0 := by omega
                                      exact Int.le_refl _, fun j hj => by simp at hj⟩
    · obtain ⟨h0, h1, h2⟩ := hiTo_max l k hk
      have hlt := (hiTo_lt l k).2
      rw [hiTo]
      split
      · rename_i hc
        have hc := hc.resolve_left (by omega)
        refine ⟨by omega, fun j hj => ?_, fun j hj => ?_⟩
        · rw [Int.toNat_natCast]
          by_cases hj' : j = k
          · subst hj'; exact Int.le_refl _
          · have := h1 j (by omega); omega
        · rw [Int.toNat_natCast] at hj ⊢
          have := h1 j hj; omega
      · rename_i hc
        refine ⟨h0, fun j hj => ?_, h2⟩
        by_cases hj' : j = k
        · subst hj'
          rcases Int.lt_or_le (l.getD (hiTo l j).toNat default).amount (l.getD j default).amount with h | h
          · exact absurd (.inr h) hc
          · exact h
        · exact h1 j (by omega)
theorem may_eng {x : Auc} (h : mayF x = true) (he : x.sealed = false) : x.bids.length ≤ 1 ∧ (x.bids.length = 0 ∨ (x.bids.getD 0 default).amount ≥ x.reserve) := by
  simp only [mayF, Bool.and_eq_true, mannerOk, he, emayF, Bool.false_eq_true, if_false, Bool.or_eq_true, decide_eq_true_eq, beq_iff_eq] at h
  obtain ⟨h1, h2⟩ := h.1.2.2
  refine ⟨by omega, ?_⟩
  rcases h2 with h2 | h2
  · exact .inl (by omega)
  · exact .inr h2
theorem may_win {x : Auc} (h : mayF x = true) : (winF x).2 = enoughTo x.bids x.reserve x.bids.length := by
  rw [Bool.eq_iff_iff, enoughTo_iff]
  rcases Bool.eq_false_or_eq_true x.sealed with he | he
  · rcases Nat.eq_zero_or_pos x.bids.length with h0 | h0
    · have : hi x.bids = -1 := by unfold hi; rw [h0]; rfl
      simp [winF, h, he, swinF, this, h0]
    · obtain ⟨h1, h2, _⟩ := hiTo_max x.bids x.bids.length h0
      have hl := (hiTo_lt x.bids x.bids.length).2
      rw [show hiTo x.bids x.bids.length = hi x.bids from rfl] at h1 h2 hl
      simp only [winF, h, he, if_true, swinF]
      constructor
      · intro hw
        split at hw
        · simp at hw
        · rename_i hc
          simp only [Bool.or_eq_true, decide_eq_true_eq, not_or, Int.not_lt] at hc
          exact ⟨_, by omega, hc.2⟩
      · rintro ⟨j, hj, hr⟩
        have := h2 j hj
        rw [if_neg (by simp only [Bool.or_eq_true, decide_eq_true_eq, not_or, Int.not_lt]; omega)]
  · obtain ⟨h1, h2⟩ := may_eng h he
    simp only [winF, h, he, if_true, Bool.false_eq_true, if_false, ewinF]
    constructor
    · intro hw
      split at hw
      · simp at hw
      · rename_i hc
        simp only [beq_iff_eq] at hc
        exact ⟨0, by omega, h2.resolve_left (by omega)⟩
    · rintro ⟨j, hj, hr⟩
      rw [if_neg (by simp only [beq_iff_eq]; omega)]
theorem top_some {x : Auc} (h : mayF x = true) : (topF x).2 = decide ((x.bids.length : Int) > 0) := by
  unfold topF
  rcases Nat.eq_zero_or_pos x.bids.length with h0 | h0
  · have : hi x.bids = -1 := by unfold hi; rw [h0]; rfl
    simp [this, h0]
  · obtain ⟨h1, _, _⟩ := hiTo_max x.bids x.bids.length h0
    rw [show hiTo x.bids x.bids.length = hi x.bids from rfl] at h1
    rw [if_neg (by simp [h]; omega)]
    simp; omega
theorem win_zero {x : Auc} (h : (winF x).2 = false) : (winF x).1 = Bid.zero := by
  unfold winF at h ⊢
  split at h
  · rename_i hm
    rw [if_pos hm]
    split at h
    · rename_i hs
      rw [if_pos hs]
      unfold swinF at h ⊢
      split at h
      · rename_i hc; rw [if_pos hc]
      · simp at h
    · rename_i hs
      rw [if_neg hs]
      unfold ewinF at h ⊢
      split at h
      · rename_i hc; rw [if_pos hc]
      · simp at h
  · rename_i hm; rw [if_neg hm]
theorem may_uniq {x : Auc} (h : mayF x = true) : ∀ i j, i < j → j < x.bids.length → (x.bids.getD i default).acct ≠ (x.bids.getD j default).acct := by
  intro i j hij hj he
  simp only [mayF, Bool.and_eq_true] at h
  have hb := h.2
  simp only [bidsOk, decide_eq_true_eq] at hb
  rcases idx_cases (badBid x) x.bids.length with ⟨k, _, _, _, h4⟩ | ⟨hall, _⟩
  · omega
  · have := hall j hj
    simp only [badBid, Bool.or_eq_false_iff, decide_eq_false_iff_not] at this
    rcases idx_cases (fun i => (x.bids.getD i default).acct == (x.bids.getD j default).acct) j with ⟨k, _, _, _, h4⟩ | ⟨hn, _⟩
    · rw [h4] at this; exact this.2 (by omega)
    · have := hn i hij
      rw [he, beq_self_eq_true] at this
      cases this
theorem amountTo_at {l : List Bid} {j : Nat} : ∀ k, j < k → (∀ i, j < i → i < k → (l.getD j default).acct ≠ (l.getD i default).acct) → amountTo l (l.getD j default).acct k = (l.getD j default).amount
  | 0, h, _ => by omega
  | k + 1, h, hu => by
    rw [amountTo]
    by_cases hj : j = k
    · subst hj; rw [if_pos (by simp)]
    · rw [if_neg (by have := hu k (by omega) (by omega); simp; exact fun h => this h.symm)]
      exact amountTo_at k (by omega) (fun i h1 h2 => hu i h1 (by omega))
theorem prTo_ge (l : List Bid) (res i : Int) : ∀ k, res ≤ prTo l res i k ∧ (∀ j : Nat, j < k → (j : Int) ≠ i → (l.getD j default).amount ≤ prTo l res i k) ∧ (prTo l res i k = res ∨ ∃ j : Nat, j < k ∧ (j : Int) ≠ i ∧ (l.getD j default).amount = prTo l res i k)
  | 0 => ⟨Int.le_refl _, fun j h => by omega, .inl rfl⟩
  | k + 1 => by
    obtain ⟨h1, h2, h3⟩ := prTo_ge l res i k
    rw [prTo]
    split
    · rename_i hc
      have hc : (k : Int) ≠ i := by simpa using hc
      unfold mx
      split
      · rename_i hg
        refine ⟨by omega, fun j hj hji => ?_, .inr ⟨k, by omega, hc, rfl⟩⟩
        by_cases hjk : j = k
        · subst hjk; exact Int.le_refl _
        · have := h2 j (by omega) hji; omega
      · rename_i hg
        refine ⟨h1, fun j hj hji => ?_, ?_⟩
        · by_cases hjk : j = k
          · subst hjk; omega
          · exact h2 j (by omega) hji
        · rcases h3 with h3 | ⟨j, h4, h5, h6⟩
          · exact .inl h3
          · exact .inr ⟨j, by omega, h5, h6⟩
    · rename_i hc
      have hc : (k : Int) = i := by simpa using hc
      refine ⟨h1, fun j hj hji => h2 j (by omega) hji, ?_⟩
      rcases h3 with h3 | ⟨j, h4, h5, h6⟩
      · exact .inl h3
      · exact .inr ⟨j, by omega, h5, h6⟩
theorem win_facts {x : Auc} (h : mayF x = true) (hw : (winF x).2 = true) : ∃ m, m < x.bids.length ∧ (winF x).1.acct = (x.bids.getD m default).acct ∧ (topF x).1 = x.bids.getD m default ∧
    amountTo x.bids (winF x).1.acct x.bids.length = (x.bids.getD m default).amount ∧ x.reserve ≤ (winF x).1.amount ∧ (winF x).1.amount ≤ (x.bids.getD m default).amount ∧
    (x.sealed = false → (winF x).1.amount = (x.bids.getD m default).amount) ∧ (∀ j, j < x.bids.length → j ≠ m → (x.bids.getD j default).amount ≤ (x.bids.getD m default).amount ∧ (x.bids.getD j default).amount ≤ (winF x).1.amount) ∧
    ((winF x).1.amount = x.reserve ∨ x.sealed = false ∨ ∃ j, j < x.bids.length ∧ j ≠ m ∧ (x.bids.getD j default).amount = (winF x).1.amount) := by
  have hu := may_uniq h
  have h0 : 0 < x.bids.length := by
    rw [may_win h, enoughTo_iff] at hw
    obtain ⟨j, hj, _⟩ := hw; omega
  obtain ⟨h1, h2, _⟩ := hiTo_max x.bids x.bids.length h0
  have hl := (hiTo_lt x.bids x.bids.length).2
  rw [show hiTo x.bids x.bids.length = hi x.bids from rfl] at h1 h2 hl
  have ht : (topF x).1 = x.bids.getD (hi x.bids).toNat default := by unfold topF; rw [if_neg (by simp [h]; omega)]
  have hat := amountTo_at (l := x.bids) (j := (hi x.bids).toNat) x.bids.length (by omega) (fun i h3 h4 => hu _ _ h3 h4)
  rcases Bool.eq_false_or_eq_true x.sealed with he | he
  · have e : winF x = swinF x := by simp [winF, h, he]
    rw [e] at hw ⊢
    have hc : ¬ (hi x.bids < 0 || decide ((x.bids.getD (hi x.bids).toNat default).amount < x.reserve)) = true := by
      intro hc; unfold swinF at hw; rw [if_pos hc] at hw; simp at hw
    have e2 : swinF x = (⟨(x.bids.getD (hi x.bids).toNat default).acct, prTo x.bids x.reserve (hi x.bids) x.bids.length⟩, true) := by unfold swinF; rw [if_neg hc]
    rw [e2]
    simp only [Bool.or_eq_true, decide_eq_true_eq, not_or, Int.not_lt] at hc
    obtain ⟨g1, g2, g3⟩ := prTo_ge x.bids x.reserve (hi x.bids) x.bids.length
    refine ⟨(hi x.bids).toNat, by omega, rfl, ht, hat, g1, ?_, fun hf => absurd (he.symm.trans hf) (by decide), fun j hj hjm => ⟨h2 j hj, g2 j hj (by omega)⟩, ?_⟩
    · rcases g3 with g3 | ⟨j, g4, g5, g6⟩
      · show prTo _ _ _ _ ≤ _; omega
      · show prTo _ _ _ _ ≤ _; rw [← g6]; exact h2 j g4
    · rcases g3 with g3 | ⟨j, g4, g5, g6⟩
      · exact .inl g3
      · exact .inr (.inr ⟨j, g4, by omega, g6⟩)
  · obtain ⟨k1, k2⟩ := may_eng h he
    have e : winF x = (x.bids.getD 0 default, true) := by simp only [winF, h, he, if_true, Bool.false_eq_true, if_false, ewinF]; rw [if_neg (by simp only [beq_iff_eq]; omega)]
    rw [e]
    have hz : (hi x.bids).toNat = 0 := by omega
    rw [hz] at ht hat
    exact ⟨0, h0, rfl, ht, hat, by have := k2.resolve_left (by omega); exact this, Int.le_refl _, fun _ => rfl, fun j hj hjm => by omega, .inr (.inl he)⟩
end Go.Proofs.Ytkcoemikglbomaa
