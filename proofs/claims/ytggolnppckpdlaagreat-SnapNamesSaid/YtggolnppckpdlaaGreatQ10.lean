/- Texts of ours, joined: the steps of the proof, or the claim's theorem. -/
import Derived.Test.YtggolnppckpdlaaGreatQ04
import Derived.Test.YtggolnppckpdlaaGreatQ09
set_option linter.unusedSimpArgs false
set_option linter.unusedVariables false
namespace Go.Proofs.YtggolnppckpdlaaGreat
open Go Go.Sk Go.RowKit
structure Ac where
  name : ByteArray
  opn : Bool
  deriving Inhabited
def Ac.cells (x : Ac) : List Value := [.string x.name, .bool x.opn]
structure Ins where
  name : ByteArray
  tick : Int
  halted : Bool
  deriving Inhabited
def Ins.cells (x : Ins) : List Value := [.string x.name, .int .i64 x.tick, .bool x.halted]
structure Row4 where
  acct : Int
  asset : Int
  free : Int
  held : Int
  deriving DecidableEq, Inhabited
def Row4.cells (x : Row4) : List Value := [.int .i64 x.acct, .int .i64 x.asset, .int .i64 x.free, .int .i64 x.held]
structure Odr where
  id : Int
  acct : Int
  inst : Int
  side : Int
  price : Int
  left : Int
  deriving DecidableEq, Inhabited
def Odr.cells (x : Odr) : List Value := [.int .i64 x.id, .int .i64 x.acct, .int .i64 x.inst, .int .u8 x.side, .int .i64 x.price, .int .i64 x.left]
def ac_ (l : List Ac) (j : Nat) : Ac := l.getD j default
def in_ (l : List Ins) (j : Nat) : Ins := l.getD j default
def rw_ (l : List Row4) (j : Nat) : Row4 := l.getD j default
def od_ (l : List Odr) (j : Nat) : Odr := l.getD j default
def acl (l : List Ac) (j : Nat) : List Value := (ac_ l j).cells
def ing (l : List Ins) (j : Nat) : List Value := (in_ l j).cells
def rwl (l : List Row4) (j : Nat) : List Value := (rw_ l j).cells
def odl (l : List Odr) (j : Nat) : List Value := (od_ l j).cells
def okB (n : Nat) : Bool := (decide (97 ≤ n) && decide (n ≤ 122)) || (decide (48 ≤ n) && decide (n ≤ 57)) || n == 45 || n == 95
def okTo (s : ByteArray) (k : Nat) : Bool := (List.range k).all fun j => okB (byteAt s j)
def mayName (s : ByteArray) : Bool := decide (1 ≤ s.size) && decide (s.size ≤ 24) && okTo s s.size
theorem okTo_succ (s : ByteArray) (k : Nat) : okTo s (k + 1) = (okTo s k && okB (byteAt s k)) := by
  unfold okTo
  rw [List.range_succ, List.all_append]
  simp
theorem okTo_bad {s : ByteArray} {k n : Nat} (h : okB (byteAt s k) = false) (hk : k < n) : okTo s n = false := by
  unfold okTo
  rw [List.all_eq_false]
  exact ⟨k, List.mem_range.2 hk, by simp [h]⟩
theorem okB_iff (n : Nat) : okB n = true ↔ ((97 ≤ n ∧ n ≤ 122) ∨ (48 ≤ n ∧ n ≤ 57) ∨ n = 45 ∨ n = 95) := by
  simp only [okB, Bool.or_eq_true, Bool.and_eq_true, decide_eq_true_eq, beq_iff_eq]
  omega
end Go.Proofs.YtggolnppckpdlaaGreat
