/- Plain laws of a sealed auction: for the laws AuctionTruth and AuctionTurned. -/
import Derived.Test.YtkcoemikglbomaaP1
set_option linter.unusedSimpArgs false
set_option linter.unusedVariables false
namespace Go.Proofs.Ytkcoemikglbomaa
open Go Go.Sk Go.RowKit
theorem prTo_congr {l l' : List Bid} {res i : Int} : ∀ k, (∀ j : Nat, j < k → (j : Int) ≠ i → (l.getD j default).amount = (l'.getD j default).amount) → prTo l res i k = prTo l' res i k
  | 0, _ => rfl
  | k + 1, h => by
    rw [prTo, prTo, prTo_congr k (fun j hj => h j (by omega))]
    by_cases hk : (k : Int) = i
    · simp [hk]
    · rw [h k (by omega) hk]
theorem sealed_win {x : Auc} (h : mayF x = true) (he : x.sealed = true) (h0 : 0 < x.bids.length) : ∃ m, m < x.bids.length ∧ (∀ j, j < x.bids.length → (x.bids.getD j default).amount ≤ (x.bids.getD m default).amount) ∧
    (∀ j, j < m → (x.bids.getD j default).amount < (x.bids.getD m default).amount) ∧ (topF x).1 = x.bids.getD m default ∧
    winF x = if (x.bids.getD m default).amount < x.reserve then (Bid.zero, false) else (⟨(x.bids.getD m default).acct, prTo x.bids x.reserve m x.bids.length⟩, true) := by
  obtain ⟨h1, h2, h3⟩ := hiTo_max x.bids x.bids.length h0
  have hl := (hiTo_lt x.bids x.bids.length).2
  rw [show hiTo x.bids x.bids.length = hi x.bids from rfl] at h1 h2 h3 hl
  have ht : (topF x).1 = x.bids.getD (hi x.bids).toNat default := by unfold topF; rw [if_neg (by simp [h]; omega)]
  refine ⟨(hi x.bids).toNat, by omega, h2, h3, ht, ?_⟩
  have e : winF x = swinF x := by simp [winF, h, he]
  rw [e]
  unfold swinF
  have hz : ((hi x.bids).toNat : Int) = hi x.bids := by omega
  rw [hz]
  by_cases hc : (x.bids.getD (hi x.bids).toNat default).amount < x.reserve
  · rw [if_pos hc, if_pos (by rw [decide_eq_true hc, Bool.or_true])]
  · rw [if_neg hc, if_neg (by rw [decide_eq_false hc, Bool.or_false, decide_eq_true_eq]; omega)]
theorem truth {x : Auc} (h : mayF x = true) (he : x.sealed = true) {k : Nat} (hk : k < x.bids.length) :
    ((winF x).2 = true → (winF x).1.acct = (x.bids.getD k default).acct → (winF x).1.amount = prTo x.bids x.reserve k x.bids.length ∧ prTo x.bids x.reserve k x.bids.length ≤ (x.bids.getD k default).amount) ∧
    (prTo x.bids x.reserve k x.bids.length < (x.bids.getD k default).amount → (winF x).2 = true ∧ (winF x).1.acct = (x.bids.getD k default).acct) := by
  obtain ⟨m, hm, h1, h2, _, h3⟩ := sealed_win h he (by omega)
  have hu := may_uniq h
  obtain ⟨g1, g2, g3⟩ := prTo_ge x.bids x.reserve k x.bids.length
  rw [h3]
  constructor
  · intro hw ha
    split at hw
    · cases hw
    rename_i hr
    rw [if_neg hr] at ha ⊢
    simp only at ha
    have hmk : m = k := by
      rcases Nat.lt_trichotomy m k with h4 | h4 | h4
      · exact absurd ha (hu m k h4 hk)
      · exact h4
      · exact absurd ha.symm (hu k m h4 hm)
    subst hmk
    refine ⟨rfl, ?_⟩
    rcases g3 with g3 | ⟨j, g4, _, g6⟩
    · omega
    · rw [← g6]; exact h1 j g4
  · intro hp
    have hmk : m = k := by
      rcases Nat.lt_trichotomy m k with h4 | h4 | h4
      · have := g2 m hm (by omega); have := h1 k hk; omega
      · exact h4
      · have := g2 m hm (by omega); have := h1 k hk; omega
    subst hmk
    rw [if_neg (by omega)]
    exact ⟨rfl, rfl⟩
end Go.Proofs.Ytkcoemikglbomaa
