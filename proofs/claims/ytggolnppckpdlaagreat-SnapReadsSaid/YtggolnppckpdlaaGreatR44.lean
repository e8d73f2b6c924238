/- Texts of ours, joined: the steps of the proof, or the claim's theorem. -/
import Derived.Test.YtggolnppckpdlaaGreatR41
import Derived.Test.YtggolnppckpdlaaGreatR42
import Derived.Test.YtggolnppckpdlaaGreatR43
set_option linter.unusedSimpArgs false
set_option linter.unusedVariables false
namespace Go.Proofs.YtggolnppckpdlaaGreat
open Go Go.Sk Go.RowKit
attribute [local irreducible] Go.Calls
theorem zKR (q : Int) : zE3 q = true ↔ q = 6 ∨ q = 7 ∨ q = 13 ∨ q = 18 ∨ q = 21 := by
 unfold zE3
 rw [decide_eq_true_eq]
 rcases z7 (fun j => q == (zDH.getD j 0 : Nat)) 5 with ⟨j, hj, _, hp, h2⟩ | ⟨h1, h2⟩
 ·rw [h2]
  have hq : q = ((zDH.getD j 0 : Nat) : Int) := by simpa using hp
  constructor
  ·intro _
   match j, hj with
   | 0, _ => exact .inl hq
   | 1, _ => exact .inr (.inl hq)
   | 2, _ => exact .inr (.inr (.inl hq))
   | 3, _ => exact .inr (.inr (.inr (.inl hq)))
   | 4, _ => exact .inr (.inr (.inr (.inr hq)))
  ·intro _; omega
 ·rw [h2]
  have g0 := h1 0 (by decide)
  have g1 := h1 1 (by decide)
  have g2 := h1 2 (by decide)
  have g3 := h1 3 (by decide)
  have g4 := h1 4 (by decide)
  simp [zDH] at g0 g1 g2 g3 g4
  constructor
  ·intro h; exact absurd h (by decide)
  ·intro h; omega
def LnR (l : List Ln) (k : Nat) : Prop :=
 ((1 ≤ (ln_ l k).acct ∧ (ln_ l k).acct ≤ 64) ∧ (0 ≤ (ln_ l k).seq ∧ (ln_ l k).seq < 1048576) ∧ (0 < k → (ln_ l (k - 1)).seq ≤ (ln_ l k).seq) ∧ ((ln_ l k).kind = 6 ∨ (ln_ l k).kind = 7 ∨ (ln_ l k).kind = 13 ∨ (ln_ l k).kind = 18 ∨ (ln_ l k).kind = 21) ∧ (ln_ l k).delta ≠ 0 ∧ (0 ≤ (ln_ l k).bal ∧ (ln_ l k).bal ≤ 1125899906842624)) ∧ (ln_ l k).bal - zAO l k (ln_ l k).acct = (ln_ l k).delta
theorem zFB (l : List Ln) : ∀ k a, (∀ i, i < k → 0 ≤ (ln_ l i).bal ∧ (ln_ l i).bal ≤ 1125899906842624) → 0 ≤ zAO l k a ∧ zAO l k a ≤ 1125899906842624
 | 0, _, _ => by unfold zAO; omega
 | k + 1, a, h => by
   unfold zAO
   split
   ·exact h k (by omega)
   ·exact zFB l k a fun i hi => h i (by omega)
theorem lins_R {l : List Ln} : zEl l = true ↔ ∀ k, k < l.length → LnR l k := by
 unfold zEl
 rw [List.all_eq_true]
 simp only [List.mem_range]
 have key : ∀ k, k < l.length → (∀ i, i < k → 0 ≤ (ln_ l i).bal ∧ (ln_ l i).bal ≤ 1125899906842624) → (zHo l k = true ↔ LnR l k) := by
  intro k hk hb
  obtain ⟨a1, a2⟩ := zFB l k (ln_ l k).acct hb
  obtain ⟨sm, er, had⟩ : ∃ sm er, zGf (zAO l k (ln_ l k).acct) (ln_ l k).delta = (sm, er) := ⟨_, _, rfl⟩
  rw [zIo l k had, zAC, zAC, zKR]
  unfold LnR
  have hs : zG8 l k ≤ (ln_ l k).seq ↔ (0 < k → (ln_ l (k - 1)).seq ≤ (ln_ l k).seq) ∧ (k = 0 → 0 ≤ (ln_ l k).seq) := by
   rcases k with _ | j
   ·simp [zG8]
   ·simp [zG8]
  rw [hs]
  unfold zGf zBo at had
  generalize zAO l k (ln_ l k).acct = z at *
  split at had <;> simp only [Prod.mk.injEq] at had <;> obtain ⟨rfl, rfl⟩ := had <;> constructor <;> intro h <;> omega
 constructor
 ·intro h k
  induction k using Nat.strongRecOn with
  | ind k ih =>
    intro hk
    exact (key k hk fun i hi => (ih i hi (by omega)).1.2.2.2.2.2).1 (h k hk)
 ·intro h k hk
  exact (key k hk fun i hi => (h i (by omega)).1.2.2.2.2.2).2 (h k hk)
end Go.Proofs.YtggolnppckpdlaaGreat
