/- Texts of ours, joined: the steps of the proof, or the claim's theorem. -/
import Derived.Test.YtggolnppckpdlaaGreatQ29
set_option linter.unusedSimpArgs false
set_option linter.unusedVariables false
namespace Go.Proofs.YtggolnppckpdlaaGreat
open Go Go.Sk Go.RowKit
attribute [local irreducible] Go.Calls
def newName (l : List Ins) (k : Nat) (n : Nat) : Bool := (List.range n).all fun j => !((in_ l j).name.toList == (in_ l k).name.toList)
def instOk (l : List Ins) (k : Nat) : Bool := mayName (in_ l k).name && rangeF (in_ l k).tick 1 1073741824 && newName l k k
def instsF (l : List Ins) : Bool := decide (l.length ≤ 16) && (List.range l.length).all fun k => instOk l k
theorem newName_iff {l : List Ins} {k n : Nat} : newName l k n = true ↔ ∀ j, j < n → ((in_ l j).name.toList == (in_ l k).name.toList) = false := by
  unfold newName
  rw [List.all_eq_true]
  simp only [List.mem_range, Bool.not_eq_true']
theorem instsF_iff {l : List Ins} : instsF l = true ↔ l.length ≤ 16 ∧ ∀ k, k < l.length → mayName (in_ l k).name = true ∧ (1 ≤ (in_ l k).tick ∧ (in_ l k).tick ≤ 1073741824) ∧ ∀ j, j < k → ((in_ l j).name.toList == (in_ l k).name.toList) = false := by
  unfold instsF instOk
  rw [Bool.and_eq_true, decide_eq_true_eq, List.all_eq_true]
  simp only [List.mem_range, Bool.and_eq_true, rangeF_iff, newName_iff, and_assoc]
def rowStOk (s : Sta) (k : Nat) : Bool := (decide ((rw_ s.rows k).acct ≤ 0) || (acctF s.accts (rw_ s.rows k).acct).2) && decide ((rw_ s.rows k).asset ≤ s.insts.length)
def rowsSt (s : Sta) : Bool := rowsF s.rows && (List.range s.rows.length).all fun k => rowStOk s k
theorem rowsSt_iff {s : Sta} : rowsSt s = true ↔ rowsF s.rows = true ∧ ∀ k, k < s.rows.length → rowStOk s k = true := by
  unfold rowsSt
  rw [Bool.and_eq_true, List.all_eq_true]
  simp only [List.mem_range]
end Go.Proofs.YtggolnppckpdlaaGreat
