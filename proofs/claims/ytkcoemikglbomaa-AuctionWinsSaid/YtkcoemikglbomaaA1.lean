/- Small functions of the auction's layer, walked. -/
import Derived.Test.YtkcoemikglbomaaBase
set_option linter.unusedSimpArgs false
set_option linter.unusedVariables false
namespace Go.Proofs.Ytkcoemikglbomaa
open Go Go.Sk Go.RowKit
def within (n m : Int) : Bool := decide (n ≥ 1) && decide (n ≤ m)
theorem c_within64 (n m : Int) (w : World) : Calls Try.prog 45 [.int .i64 n, .int .i64 m].toArray w (Ret (.bool (within n m)) w) := by
  refine enter [.tmp 4] Try.func45 rfl Try.ntmps45 rfl rfl ?_
  have H := St.start w
  repeat' (first | refine y1 sg ?_ | refine y2 sg ?_ | refine y3 ?_ | refine y4 ?_ | refine y5 sg ?_ | refine y6 sg ?_ | refine y7 sg H ?_ | refine y8 sg H ?_ | (refine y9 H ?_; intro b w H) | (refine y10 sg H ?_; intro b w H) | (refine y11 sg H ?_; intro w H) | refine y12 ?_ | refine y13 ?_ | refine y14 ?_ | refine y15 ?_ | refine y16 ?_ | (refine y17 ?_ ?_; all_goals intro h) | (refine y18 ?_ ?_; all_goals intro h) | with_reducible apply OW.app | with_reducible apply OW.app0 | with_reducible apply QW.app | with_reducible apply QW.app0 | with_reducible apply OW.nil | (with_reducible apply QW.nil; intro w hcl; replace H := H.ext hcl; clear hcl) | refine y19 ?_ | with_reducible apply thn_n | with_reducible apply CW.seq | with_reducible apply CW.region | refine y20 mixed ?_ | with_reducible apply CW.block | with_reducible apply CW.ret | with_reducible apply CW.exit | with_reducible apply CW.skip | with_reducible apply thn_r | with_reducible apply thn_e | with_reducible apply blk_n | with_reducible apply blk_r | refine y24 ?_ | refine y25 ?_ | refine y21 ?_ | refine y22 ?_ | (refine y23 ?_ ?_; all_goals intro h) | fail)
  all_goals exact ret1 rfl H.cl (by simp [within, h])
theorem c_withinI (n m : Int) (w : World) : Calls Try.prog 44 [.int .i64 n, .int .i64 m].toArray w (Ret (.bool (within n m)) w) := by
  refine enter [.tmp 4] Try.func44 rfl Try.ntmps44 rfl rfl ?_
  have H := St.start w
  repeat' (first | refine y1 sg ?_ | refine y2 sg ?_ | refine y3 ?_ | refine y4 ?_ | refine y5 sg ?_ | refine y6 sg ?_ | refine y7 sg H ?_ | refine y8 sg H ?_ | (refine y9 H ?_; intro b w H) | (refine y10 sg H ?_; intro b w H) | (refine y11 sg H ?_; intro w H) | refine y12 ?_ | refine y13 ?_ | refine y14 ?_ | refine y15 ?_ | refine y16 ?_ | (refine y17 ?_ ?_; all_goals intro h) | (refine y18 ?_ ?_; all_goals intro h) | with_reducible apply OW.app | with_reducible apply OW.app0 | with_reducible apply QW.app | with_reducible apply QW.app0 | with_reducible apply OW.nil | (with_reducible apply QW.nil; intro w hcl; replace H := H.ext hcl; clear hcl) | refine y19 ?_ | with_reducible apply thn_n | with_reducible apply CW.seq | with_reducible apply CW.region | refine y20 mixed ?_ | with_reducible apply CW.block | with_reducible apply CW.ret | with_reducible apply CW.exit | with_reducible apply CW.skip | with_reducible apply thn_r | with_reducible apply thn_e | with_reducible apply blk_n | with_reducible apply blk_r | refine y24 ?_ | refine y25 ?_ | refine y21 ?_ | refine y22 ?_ | (refine y23 ?_ ?_; all_goals intro h) | fail)
  all_goals exact ret1 rfl H.cl (by simp [within, h])
theorem c_in (n m : Int) (w : World) : Calls Try.prog 43 [.int .i64 n, .int .i64 m].toArray w (Ret (.bool (within n m)) w) := by
  refine enter [.tmp 4] Try.func43 rfl Try.ntmps43 rfl rfl ?_
  have H := St.start w
  repeat' (first | refine y1 sg ?_ | refine y2 sg ?_ | refine y3 ?_ | refine y4 ?_ | refine y5 sg ?_ | refine y6 sg ?_ | refine y7 sg H ?_ | refine y8 sg H ?_ | (refine y9 H ?_; intro b w H) | (refine y10 sg H ?_; intro b w H) | (refine y11 sg H ?_; intro w H) | refine y12 ?_ | refine y13 ?_ | refine y14 ?_ | refine y15 ?_ | refine y16 ?_ | (refine y17 ?_ ?_; all_goals intro h) | (refine y18 ?_ ?_; all_goals intro h) | with_reducible apply OW.app | with_reducible apply OW.app0 | with_reducible apply QW.app | with_reducible apply QW.app0 | with_reducible apply OW.nil | (with_reducible apply QW.nil; intro w hcl; replace H := H.ext hcl; clear hcl) | refine y19 ?_ | with_reducible apply thn_n | with_reducible apply CW.seq | with_reducible apply CW.region | refine y20 mixed ?_ | with_reducible apply CW.block | with_reducible apply CW.ret | with_reducible apply CW.exit | with_reducible apply CW.skip | with_reducible apply thn_r | with_reducible apply thn_e | with_reducible apply blk_n | with_reducible apply blk_r | refine y24 ?_ | refine y25 ?_ | refine y21 ?_ | refine y22 ?_ | (refine y23 ?_ ?_; all_goals intro h) | fail)
  all_goals exact ret1 rfl H.cl (by simp [within, h])

/-! ### The data -/
structure Bid where
  acct : Int
  amount : Int
  deriving DecidableEq, Inhabited
def Bid.cells (b : Bid) : List Value := [.int .i64 b.acct, .int .i64 b.amount]
structure Auc where
  id : Int
  seller : Int
  inst : Int
  sealed : Bool
  qty : Int
  reserve : Int
  step : Int
  fin : Int
  bids : List Bid
  deriving DecidableEq, Inhabited
def Auc.cells (x : Auc) (a : Option Addr) (cap : Nat) : List Value :=
  [.int .i64 x.id, .int .i64 x.seller, .int .i64 x.inst, .bool x.sealed, .int .i64 x.qty, .int .i64 x.reserve, .int .i64 x.step, .int .i64 x.fin, .slice a x.bids.length cap]
def bel (l : List Bid) (j : Nat) : List Value := (l.getD j default).cells
def Bids (F : Frag) (a : Option Addr) (cap : Nat) (l : List Bid) : Prop := SlA F 2 a l.length cap (bel l)

theorem c_of (x : Auc) (a : Option Addr) (cap : Nat) (w : World) : Calls Try.prog 46 [.agg (x.cells a cap).toArray].toArray w (Ret (.iface (if x.sealed then 73 else 74) (.agg #[])) w) := by
  refine enter [.tmp 2] Try.func46 rfl Try.ntmps46 rfl rfl ?_
  have H := St.start w
  repeat' (first | refine y1 sg ?_ | refine y2 sg ?_ | refine y3 ?_ | refine y4 ?_ | refine y5 sg ?_ | refine y6 sg ?_ | refine y7 sg H ?_ | refine y8 sg H ?_ | (refine y9 H ?_; intro b w H) | (refine y10 sg H ?_; intro b w H) | (refine y11 sg H ?_; intro w H) | refine y12 ?_ | refine y13 ?_ | refine y14 ?_ | refine y15 ?_ | refine y16 ?_ | (refine y17 ?_ ?_; all_goals intro h) | (refine y18 ?_ ?_; all_goals intro h) | with_reducible apply OW.app | with_reducible apply OW.app0 | with_reducible apply QW.app | with_reducible apply QW.app0 | with_reducible apply OW.nil | (with_reducible apply QW.nil; intro w hcl; replace H := H.ext hcl; clear hcl) | refine y19 ?_ | with_reducible apply thn_n | with_reducible apply CW.seq | with_reducible apply CW.region | refine y20 mixed ?_ | with_reducible apply CW.block | with_reducible apply CW.ret | with_reducible apply CW.exit | with_reducible apply CW.skip | with_reducible apply thn_r | with_reducible apply thn_e | with_reducible apply blk_n | with_reducible apply blk_r | refine y24 ?_ | refine y25 ?_ | refine y21 ?_ | refine y22 ?_ | (refine y23 ?_ ?_; all_goals intro h) | fail)
  all_goals exact ret1 rfl H.cl (by simp [h])
theorem c_bids1 (c d : Bid) (T : TypeId) (b : Nat) (w : World) (F : Frag) (hF : Mem w F) (hm : (b, Obj.cells d.cells.toArray T (0, 0)) ∈ F) :
    Calls Try.prog 59 [.agg c.cells.toArray, .pointer (some ⟨b, 0, none⟩)].toArray w (Ret (.bool (c.acct == d.acct)) w) := by
  refine enter [.tmp 3] Try.func59 rfl Try.ntmps59 rfl rfl ?_
  have H := St.start w
  repeat' (first | refine y1 sg ?_ | refine y2 sg ?_ | refine y3 ?_ | refine y4 ?_ | refine y5 sg ?_ | refine y6 sg ?_ | refine y7 sg H ?_ | refine y8 sg H ?_ | (refine y9 H ?_; intro b w H) | (refine y10 sg H ?_; intro b w H) | (refine y11 sg H ?_; intro w H) | refine y12 ?_ | (refine OX.val rfl rfl (Yq.loadS sg rfl rfl (H.memF hF) hm rfl rfl) ?_) | refine y13 ?_ | refine y14 ?_ | refine y15 ?_ | refine y16 ?_ | (refine y17 ?_ ?_; all_goals intro h) | (refine y18 ?_ ?_; all_goals intro h) | with_reducible apply OW.app | with_reducible apply OW.app0 | with_reducible apply QW.app | with_reducible apply QW.app0 | with_reducible apply OW.nil | (with_reducible apply QW.nil; intro w hcl; replace H := H.ext hcl; clear hcl) | refine y19 ?_ | with_reducible apply thn_n | with_reducible apply CW.seq | with_reducible apply CW.region | refine y20 mixed ?_ | with_reducible apply CW.block | with_reducible apply CW.ret | with_reducible apply CW.exit | with_reducible apply CW.skip | with_reducible apply thn_r | with_reducible apply thn_e | with_reducible apply blk_n | with_reducible apply blk_r | refine y24 ?_ | refine y25 ?_ | refine y21 ?_ | refine y22 ?_ | (refine y23 ?_ ?_; all_goals intro h) | fail)
  all_goals exact ret1 rfl H.cl rfl
end Go.Proofs.Ytkcoemikglbomaa
