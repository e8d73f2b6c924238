/- Texts of ours, joined: the steps of the proof, or the claim's theorem. -/
import Derived.Test.YtggolnppckpdlaaGreatT04
import Derived.Test.YtggolnppckpdlaaGreatT06
set_option linter.unusedSimpArgs false
set_option linter.unusedVariables false
namespace Go.Proofs.YtggolnppckpdlaaGreat
open Go Go.Sk Go.RowKit
structure Ac where
 name : ByteArray
 opn : Bool
 deriving Inhabited
def Ac.cells (x : Ac) : List Value := [.string x.name, .bool x.opn]
structure Ins where
 name : ByteArray
 tick : Int
 halted : Bool
 deriving Inhabited
def Ins.cells (x : Ins) : List Value := [.string x.name, .int .i64 x.tick, .bool x.halted]
structure Row4 where
 acct : Int
 asset : Int
 free : Int
 held : Int
 deriving DecidableEq, Inhabited
def Row4.cells (x : Row4) : List Value := [.int .i64 x.acct, .int .i64 x.asset, .int .i64 x.free, .int .i64 x.held]
structure Odr where
 id : Int
 acct : Int
 inst : Int
 side : Int
 price : Int
 left : Int
 deriving DecidableEq, Inhabited
def Odr.cells (x : Odr) : List Value := [.int .i64 x.id, .int .i64 x.acct, .int .i64 x.inst, .int .u8 x.side, .int .i64 x.price, .int .i64 x.left]
def ac_ (l : List Ac) (j : Nat) : Ac := l.getD j default
def in_ (l : List Ins) (j : Nat) : Ins := l.getD j default
def rw_ (l : List Row4) (j : Nat) : Row4 := l.getD j default
def od_ (l : List Odr) (j : Nat) : Odr := l.getD j default
def acl (l : List Ac) (j : Nat) : List Value := (ac_ l j).cells
def ing (l : List Ins) (j : Nat) : List Value := (in_ l j).cells
def rwl (l : List Row4) (j : Nat) : List Value := (rw_ l j).cells
def odl (l : List Odr) (j : Nat) : List Value := (od_ l j).cells
def okB (n : Nat) : Bool := (decide (97 ≤ n) && decide (n ≤ 122)) || (decide (48 ≤ n) && decide (n ≤ 57)) || n == 45 || n == 95
def zGz (s : ByteArray) (k : Nat) : Bool := (List.range k).all fun j => okB (zAc s j)
def zAB (s : ByteArray) : Bool := decide (1 ≤ s.size) && decide (s.size ≤ 24) && zGz s s.size
theorem zG9 (s : ByteArray) (k : Nat) : zGz s (k + 1) = (zGz s k && okB (zAc s k)) := by
 unfold zGz
 rw [List.range_succ, List.all_append]
 simp
theorem zIb {s : ByteArray} {k n : Nat} (h : okB (zAc s k) = false) (hk : k < n) : zGz s n = false := by
 unfold zGz
 rw [List.all_eq_false]
 exact ⟨k, List.mem_range.2 hk, by simp [h]⟩
theorem zKu (n : Nat) : okB n = true ↔ ((97 ≤ n ∧ n ≤ 122) ∨ (48 ≤ n ∧ n ≤ 57) ∨ n = 45 ∨ n = 95) := by
 simp only [okB, Bool.or_eq_true, Bool.and_eq_true, decide_eq_true_eq, beq_iff_eq]
 omega
set_option maxHeartbeats 2000000 in
theorem zGK (s : ByteArray) (w0 : World) : Calls Tryz.prog 192 [.string s].toArray w0 (Ret (.bool (zAB s)) w0) := by
 refine enter [.tmp 2] Tryz.func192 rfl Tryz.ntmps192 rfl rfl ?_
 have H := zE w0
 repeat' (first | refine y1 sg ?_ | refine y5 sg ?_ | refine y13 ?_ | refine y14 ?_ | (refine y17 ?_ ?_; all_goals intro h) | (with_reducible first | apply zB | apply zD | apply zC | apply zF | apply zG | apply zH | apply zP) | refine zA ?_ | refine y21 ?_ | (refine y23 ?_ ?_; all_goals intro h) | fail)
 ·exact zO rfl H.cl (by have : ¬ 1 ≤ s.size := by have := of_decide_eq_true h; omega
                        simp [zAB, this])
 ·exact zO rfl H.cl (by have : ¬ s.size ≤ 24 := by have := of_decide_eq_true h; omega
                        simp [zAB, this])
 have hs1 : 1 ≤ s.size := by have := of_decide_eq_false ‹decide ((s.size : Int) < 1) = false›; omega
 have hs2 : s.size ≤ 24 := by have := of_decide_eq_false ‹decide ((s.size : Int) > 24) = false›; omega
 refine zK [(2, 4), (13, 44)] (fun k : Nat => [(3, .int .i64 (k : Int))]) (fun k w => k ≤ s.size ∧ zGz s k = true ∧ St w0 [] w) (fun k => s.size - k) 0 ⟨rfl, trivial⟩ ⟨Nat.zero_le _, rfl, H⟩ ?_
 clear H
 rintro k gh w ⟨hk, ho, H⟩
 repeat' (first | refine y1 sg ?_ | (with_reducible first | apply zB | apply zD | apply zC) | refine zA ?_ | fail)
 refine zL rfl (fun h => ?_) (fun h => ?_)
 ·have hlt : k < s.size := by have := of_decide_eq_true h; omega
  clear h
  have hb := zKu (zAc s k)
  generalize hc : zAc s k = c at hb
  have good : okB c = true → zGz s (k + 1) = true := fun h => by rw [zG9, ho, hc, h]; rfl
  have bad : okB c = false → zAB s = false := fun h => by rw [zAB, zIb (hc ▸ h) hlt, Bool.and_false]
  have nok : ∀ {p : Prop}, ¬ ((97 ≤ c ∧ c ≤ 122) ∨ (48 ≤ c ∧ c ≤ 57) ∨ c = 45 ∨ c = 95) → okB c = false := fun h => by
   cases hq : okB c with
   | false => rfl
   | true => exact absurd (hb.1 hq) h
  repeat' (first | refine y1 sg ?_ | refine y3 ?_ | refine y5 sg ?_ | (refine zf rfl rfl (hc ▸ Yq.strIx sg rfl rfl rfl rfl rfl (Int.toNat_natCast _) (by omega) (by omega)) ?_) | refine y13 ?_ | refine y14 ?_ | (refine y17 ?_ ?_; all_goals intro h) | (with_reducible first | apply zB | apply zD | apply zC | apply zF | apply zG | apply zH | apply zP | apply za) | refine zA ?_ | refine y22 ?_ | (refine y23 ?_ ?_; all_goals intro h) | fail)
  all_goals simp only [decide_eq_true_eq, decide_eq_false_iff_not, ge_iff_le, Bool.not_eq_true', Bool.not_eq_false', beq_iff_eq, beq_eq_false_iff_ne, ne_eq, Bool.not_eq_true, Bool.not_eq_false] at *
  all_goals first
   | exact zM (k + 1) rfl ⟨zV (by omega), trivial⟩ ⟨hlt, good (hb.2 (by omega)), H⟩ (by omega)
   | exact zO rfl H.cl (congrArg Value.bool (bad (nok (p := True) (by omega))).symm)
 ·obtain rfl : k = s.size := by have := of_decide_eq_false h; omega
  repeat' (first | refine y1 sg ?_ | (with_reducible first | apply zB | apply zD | apply zC | apply zG | apply zN | apply zW) | refine zA ?_ | refine y24 ?_ | fail)
  exact zO rfl H.cl (by simp [zAB, hs1, hs2, ho])
end Go.Proofs.YtggolnppckpdlaaGreat
