/- Texts of ours, joined: the steps of the proof, or the claim's theorem. -/
import Derived.Test.YtggolnppckpdlaaGreatT44
import Derived.Test.YtggolnppckpdlaaGreatT45
import Derived.Test.YtggolnppckpdlaaGreatT46
set_option linter.unusedSimpArgs false
set_option linter.unusedVariables false
namespace Go.Proofs.YtggolnppckpdlaaGreat
open Go Go.Sk Go.RowKit
attribute [local irreducible] Go.Calls
theorem zKW (q : Int) : zFP q = true ↔ q = 6 ∨ q = 7 ∨ q = 13 ∨ q = 18 ∨ q = 21 := by
 unfold zFP
 rw [decide_eq_true_eq]
 rcases zAC (fun j => q == (zDT.getD j 0 : Nat)) 5 with ⟨j, hj, _, hp, h2⟩ | ⟨h1, h2⟩
 ·rw [h2]
  have hq : q = ((zDT.getD j 0 : Nat) : Int) := by simpa using hp
  constructor
  ·intro _
   match j, hj with
   | 0, _ => exact .inl hq
   | 1, _ => exact .inr (.inl hq)
   | 2, _ => exact .inr (.inr (.inl hq))
   | 3, _ => exact .inr (.inr (.inr (.inl hq)))
   | 4, _ => exact .inr (.inr (.inr (.inr hq)))
  ·intro _; omega
 ·rw [h2]
  have g0 := h1 0 (by decide)
  have g1 := h1 1 (by decide)
  have g2 := h1 2 (by decide)
  have g3 := h1 3 (by decide)
  have g4 := h1 4 (by decide)
  simp [zDT] at g0 g1 g2 g3 g4
  constructor
  ·intro h; exact absurd h (by decide)
  ·intro h; omega
def LnR (l : List Ln) (k : Nat) : Prop :=
 ((1 ≤ (ln_ l k).acct ∧ (ln_ l k).acct ≤ 64) ∧ (0 ≤ (ln_ l k).seq ∧ (ln_ l k).seq < 1048576) ∧ (0 < k → (ln_ l (k - 1)).seq ≤ (ln_ l k).seq) ∧ ((ln_ l k).kind = 6 ∨ (ln_ l k).kind = 7 ∨ (ln_ l k).kind = 13 ∨ (ln_ l k).kind = 18 ∨ (ln_ l k).kind = 21) ∧ (ln_ l k).delta ≠ 0 ∧ (0 ≤ (ln_ l k).bal ∧ (ln_ l k).bal ≤ 1125899906842624)) ∧ (ln_ l k).bal - zAR l k (ln_ l k).acct = (ln_ l k).delta
theorem zFa (l : List Ln) : ∀ k a, (∀ i, i < k → 0 ≤ (ln_ l i).bal ∧ (ln_ l i).bal ≤ 1125899906842624) → 0 ≤ zAR l k a ∧ zAR l k a ≤ 1125899906842624
 | 0, _, _ => by unfold zAR; omega
 | k + 1, a, h => by
   unfold zAR
   split
   ·exact h k (by omega)
   ·exact zFa l k a fun i hi => h i (by omega)
theorem lins_R {l : List Ln} : zE6 l = true ↔ ∀ k, k < l.length → LnR l k := by
 unfold zE6
 rw [List.all_eq_true]
 simp only [List.mem_range]
 have key : ∀ k, k < l.length → (∀ i, i < k → 0 ≤ (ln_ l i).bal ∧ (ln_ l i).bal ≤ 1125899906842624) → (zH5 l k = true ↔ LnR l k) := by
  intro k hk hb
  obtain ⟨a1, a2⟩ := zFa l k (ln_ l k).acct hb
  obtain ⟨sm, er, had⟩ : ∃ sm er, zG0 (zAR l k (ln_ l k).acct) (ln_ l k).delta = (sm, er) := ⟨_, _, rfl⟩
  rw [zIr l k had, zAF, zAF, zKW]
  unfold LnR
  have hs : zHP l k ≤ (ln_ l k).seq ↔ (0 < k → (ln_ l (k - 1)).seq ≤ (ln_ l k).seq) ∧ (k = 0 → 0 ≤ (ln_ l k).seq) := by
   rcases k with _ | j
   ·simp [zHP]
   ·simp [zHP]
  rw [hs]
  unfold zG0 zBy at had
  generalize zAR l k (ln_ l k).acct = z at *
  split at had <;> simp only [Prod.mk.injEq] at had <;> obtain ⟨rfl, rfl⟩ := had <;> constructor <;> intro h <;> omega
 constructor
 ·intro h k
  induction k using Nat.strongRecOn with
  | ind k ih =>
    intro hk
    exact (key k hk fun i hi => (ih i hi (by omega)).1.2.2.2.2.2).1 (h k hk)
 ·intro h k hk
  exact (key k hk fun i hi => (h i (by omega)).1.2.2.2.2.2).2 (h k hk)
end Go.Proofs.YtggolnppckpdlaaGreat
