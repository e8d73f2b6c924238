/- Texts of ours, joined: the steps of the proof, or the claim's theorem. -/
import Derived.Test.YtggolnppckpdlaaGreatQ09
import Derived.Test.YtggolnppckpdlaaGreatQ10
set_option linter.unusedSimpArgs false
set_option linter.unusedVariables false
namespace Go.Proofs.YtggolnppckpdlaaGreat
open Go Go.Sk Go.RowKit
attribute [local irreducible] Go.Calls
def betw (n m : Int) : Bool := decide (1 ≤ n) && decide (n ≤ m)
theorem c_betw (n m : Int) (w : World) : Calls Tryz.prog 295 [.int .i64 n, .int .i64 m].toArray w (Ret (.bool (betw n m)) w) := by
  refine enter [.tmp 4] Tryz.func295 rfl Tryz.ntmps295 rfl rfl ?_
  have H := St.start w
  repeat' (first | refine y1 sg ?_ | refine y5 sg ?_ | refine y13 ?_ | refine y14 ?_ | (refine y17 ?_ ?_; all_goals intro h) | with_reducible apply OW.nil | with_reducible apply thn_n | with_reducible apply CW.seq | refine CW.region ?_ | with_reducible apply CW.ret | fail)
  all_goals simp only [decide_eq_true_eq, decide_eq_false_iff_not, ge_iff_le] at *
  all_goals exact ret1 rfl H.cl (congrArg Value.bool (by unfold betw; simp only [*, decide_true, decide_false, Bool.true_and, Bool.and_true, Bool.false_and, Bool.and_false]))
theorem c_betwI (n m : Int) (w : World) : Calls Tryz.prog 296 [.int .i64 n, .int .i64 m].toArray w (Ret (.bool (betw n m)) w) := by
  refine enter [.tmp 4] Tryz.func296 rfl Tryz.ntmps296 rfl rfl ?_
  have H := St.start w
  repeat' (first | refine y1 sg ?_ | refine y5 sg ?_ | refine y13 ?_ | refine y14 ?_ | (refine y17 ?_ ?_; all_goals intro h) | with_reducible apply OW.nil | with_reducible apply thn_n | with_reducible apply CW.seq | refine CW.region ?_ | with_reducible apply CW.ret | fail)
  all_goals simp only [decide_eq_true_eq, decide_eq_false_iff_not, ge_iff_le] at *
  all_goals exact ret1 rfl H.cl (congrArg Value.bool (by unfold betw; simp only [*, decide_true, decide_false, Bool.true_and, Bool.and_true, Bool.false_and, Bool.and_false]))
def mayOneF (o : Odr) : Bool := betw o.id 1099511627776 && betw o.acct 64 && betw o.inst 16 && (o.side == 1 || o.side == 2) && betw o.price 1073741824 && betw o.left 1048576
theorem betw_iff (n m : Int) : betw n m = true ↔ (1 ≤ n ∧ n ≤ m) := by simp [betw]
def MayOneP (o : Odr) : Prop := (1 ≤ o.id ∧ o.id ≤ 1099511627776) ∧ (1 ≤ o.acct ∧ o.acct ≤ 64) ∧ (1 ≤ o.inst ∧ o.inst ≤ 16) ∧ (o.side = 1 ∨ o.side = 2) ∧ (1 ≤ o.price ∧ o.price ≤ 1073741824) ∧ (1 ≤ o.left ∧ o.left ≤ 1048576)
theorem mayOne_iff (o : Odr) : mayOneF o = true ↔ MayOneP o := by
  unfold mayOneF MayOneP
  simp only [Bool.and_eq_true, Bool.or_eq_true, betw_iff, beq_iff_eq, and_assoc]
theorem c_MayOne (o : Odr) (w0 : World) : Calls Tryz.prog 279 [.agg o.cells.toArray].toArray w0 (Ret (.bool (mayOneF o)) w0) := by
  refine enter [.tmp 2] Tryz.func279 rfl Tryz.ntmps279 rfl rfl ?_
  have H := St.start w0
  repeat' (first | refine y1 sg ?_ | refine y3 ?_ | refine y5 sg ?_ | refine y7 sg H ?_ | (refine y9 H ?_; intro b w H) | (refine' y30 ent296 ?_ ?_; rotate_left; exact c_betwI _ _ _; intro w hcl; replace H := H.ext hcl; clear hcl) | (refine' y30 ent295 ?_ ?_; rotate_left; exact c_betw _ _ _; intro w hcl; replace H := H.ext hcl; clear hcl) | refine y13 ?_ | refine y14 ?_ | (refine y17 ?_ ?_; all_goals intro h) | with_reducible apply OW.nil | with_reducible apply thn_n | with_reducible apply CW.seq | refine CW.region ?_ | with_reducible apply CW.ret | fail)
  all_goals exact ret1 rfl H.cl (congrArg Value.bool (by unfold mayOneF; simp only [*, Bool.true_and, Bool.and_true, Bool.false_and, Bool.and_false, Bool.true_or, Bool.false_or, Bool.or_true, Bool.or_false]))
def ordNo (l : List Odr) (k : Nat) : Bool := !mayOneF (od_ l k) || (decide (0 < k) && decide ((od_ l k).id ≤ (od_ l (k - 1)).id))
def ordersF (l : List Odr) : Bool := decide (l.length ≤ 128) && (List.range l.length).all fun k => !ordNo l k
def Ords (F : Frag) (a : Option Addr) (cap : Nat) (l : List Odr) : Prop := SlA F 6 a l.length cap (odl l)
def OrdP (l : List Odr) (k : Nat) : Prop := ∀ j, j < k → MayOneP (od_ l j) ∧ (j = 0 ∨ (od_ l (j - 1)).id < (od_ l j).id)
theorem ordNo_iff {l : List Odr} {k : Nat} : ordNo l k = false ↔ MayOneP (od_ l k) ∧ (k = 0 ∨ (od_ l (k - 1)).id < (od_ l k).id) := by
  unfold ordNo
  rw [Bool.or_eq_false_iff, Bool.not_eq_false', mayOne_iff]
  simp only [Bool.and_eq_false_iff, decide_eq_false_iff_not]
  exact and_congr_right fun _ => by omega
theorem ordersF_iff {l : List Odr} : ordersF l = true ↔ l.length ≤ 128 ∧ OrdP l l.length := by
  unfold ordersF OrdP
  rw [Bool.and_eq_true, decide_eq_true_eq, List.all_eq_true]
  simp only [List.mem_range, Bool.not_eq_true', ordNo_iff]
theorem OrdP.succ {l : List Odr} {k : Nat} (h : OrdP l k) (h1 : MayOneP (od_ l k)) (h2 : k = 0 ∨ (od_ l (k - 1)).id < (od_ l k).id) : OrdP l (k + 1) := fun j hj => by
  rcases (show j < k ∨ j = k by omega) with g | rfl
  · exact h j g
  · exact ⟨h1, h2⟩
theorem no_ord {l : List Odr} (h : ordersF l = true → False) : false = ordersF l := by
  cases hq : ordersF l with
  | false => rfl
  | true => exact (h hq).elim
end Go.Proofs.YtggolnppckpdlaaGreat
