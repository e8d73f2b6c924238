/- Texts of ours, joined: the steps of the proof, or the claim's theorem. -/
import Derived.Test.YtggolnppckpdlaaGreatQ17
set_option linter.unusedSimpArgs false
set_option linter.unusedVariables false
namespace Go.Proofs.YtggolnppckpdlaaGreat
open Go Go.Sk Go.RowKit
def ael (l : List Auc) (ad : Nat → Option Addr × Nat) (j : Nat) : List Value := (l.getD j default).cells (ad j).1 (ad j).2
def Aucs (F : Frag) (a : Option Addr) (cap : Nat) (l : List Auc) (ad : Nat → Option Addr × Nat) : Prop :=
  SlA F 9 a l.length cap (ael l ad) ∧ ∀ j, j < l.length → Bids F (ad j).1 (ad j).2 (l.getD j default).bids
def lastOf (l : List Auc) : Nat → Int
  | 0 => 0
  | k + 1 => (l.getD k default).id
def badAuc (l : List Auc) (j : Nat) : Bool := decide ((l.getD j default).id ≤ lastOf l j) || !mayF (l.getD j default)
def mayAllF (l : List Auc) : Bool := decide (idx (badAuc l) l.length < 0) && decide ((l.length : Int) ≤ 32)
set_option maxHeartbeats 1000000 in
theorem c_MayAll {a : Option Addr} {cap : Nat} (l : List Auc) (ad : Nat → Option Addr × Nat) {F : Frag} (w0 : World) (hF : Mem w0 F) (hs : Aucs F a cap l ad) :
    Calls Tryz.prog 246 [.slice a l.length cap].toArray w0 (Ret (.bool (mayAllF l)) w0) := by
  obtain ⟨⟨hn, hc, b0, off, cs, T, fr, hs⟩, hbs⟩ := hs
  refine enter [.tmp 2] Tryz.func246 rfl Tryz.ntmps246 rfl rfl ?_
  have H := St.start w0
  repeat' (first | refine y1 sg ?_ | with_reducible apply OW.nil | with_reducible apply thn_n | with_reducible apply CW.seq | refine CW.region ?_ | with_reducible apply CW.block | fail)
  refine CW.loopI [(2, 3), (5, 5), (8, 23)] (fun k : Nat => [(8, .int .i64 (k : Int)), (3, .int .i64 (lastOf l k))]) (fun k w => k ≤ l.length ∧ (∀ j, j < k → badAuc l j = false) ∧ St w0 [] w) (fun k => l.length - k) 0 ⟨rfl, rfl, trivial⟩ ⟨Nat.zero_le _, fun j hj => by omega, H⟩ ?_
  clear H
  rintro k g w ⟨hk, hpk, H⟩
  repeat' (first | refine y1 sg ?_ | with_reducible apply OW.nil | with_reducible apply thn_n | with_reducible apply CW.seq | refine CW.region ?_ | fail)
  refine CW.cond rfl (fun h => ?_) (fun h => ?_)
  · have hlt : k < l.length := by simpa using h
    repeat' (first | refine y1 sg ?_ | refine y3 ?_ | refine y5 sg ?_ | refine y7 sg H ?_ | (refine y10 sg H ?_; intro b w H) | (refine y11 sg H ?_; intro w H) | (refine y40 sg (hs) ?_ ?_ ?_; (omega); (omega)) | (refine y42 sg (hs) ((H.memF hF)) ?_ ?_; (omega)) | (refine' y30 ent283 ?_ ?_; rotate_left; exact c_May (l.getD k default) _ (H.memF hF) (hbs k hlt); intro w hcl; replace H := H.ext hcl; clear hcl) | refine y13 ?_ | refine y14 ?_ | (refine y17 ?_ ?_; all_goals intro h) | with_reducible apply OW.nil | with_reducible apply thn_n | with_reducible apply CW.seq | refine CW.region ?_ | with_reducible apply CW.block | with_reducible apply CW.ret | with_reducible apply CW.skip | with_reducible apply thn_r | with_reducible apply blk_r | refine y21 ?_ | (refine y23 ?_ ?_; all_goals intro h) | fail)
    all_goals first
      | exact ret1 rfl H.cl (by
          have hbad : badAuc l k = true := by simp only [badAuc, *]; simp
          rw [mayAllF, idx_hit hlt hpk hbad, decide_eq_false (show ¬ ((k : Int) < 0) by omega), Bool.false_and])
      | (refine Again.mk (k + 1) rfl ⟨vsucc (by omega), rfl, trivial⟩ ⟨hlt, fun j hj => ?_, H.sub (List.nil_sublist _)⟩ (by omega)
         by_cases hj' : j = k
         · have hbad : badAuc l k = false := by simp only [badAuc, *]; simp
           rw [hj']; exact hbad
         · exact hpk j (by omega))
  · repeat' (first | refine y1 sg ?_ | with_reducible apply OW.nil | with_reducible apply thn_n | with_reducible apply CW.seq | refine CW.region ?_ | with_reducible apply CW.ret | with_reducible apply CW.exit | with_reducible apply thn_e | refine y24 ?_ | fail)
    have hkn : k = l.length := by simp at h; omega
    subst hkn
    exact ret1 rfl H.cl (by rw [mayAllF, idx_miss hpk]; simp)
def sameF (x y : Auc) : Bool := x.id == y.id && x.seller == y.seller && x.inst == y.inst && x.sealed == y.sealed && x.qty == y.qty && x.reserve == y.reserve && x.step == y.step && x.fin == y.fin && decide (x.bids = y.bids)
set_option maxHeartbeats 1000000 in
theorem c_Same {a a' : Option Addr} {cap cap' : Nat} (x y : Auc) {F : Frag} (w0 : World) (hF : Mem w0 F) (hs : Bids F a cap x.bids) (hs' : Bids F a' cap' y.bids) :
    Calls Tryz.prog 56 [.agg (x.cells a cap).toArray, .agg (y.cells a' cap').toArray].toArray w0 (Ret (.bool (sameF x y)) w0) := by
  refine enter [.tmp 4] Tryz.func56 rfl Tryz.ntmps56 rfl rfl ?_
  have H := St.start w0
  repeat' (first | refine y1 sg ?_ | refine y3 ?_ | refine y5 sg ?_ | refine y7 sg H ?_ | (refine y9 H ?_; intro b w H) | (refine' y30 ent119 ?_ ?_; rotate_left; exact c_EqualBid x.bids y.bids _ (H.memF hF) hs hs'; intro w hcl; replace H := H.ext hcl; clear hcl) | refine y13 ?_ | refine y14 ?_ | (refine y17 ?_ ?_; all_goals intro h) | with_reducible apply OW.nil | with_reducible apply thn_n | with_reducible apply CW.seq | refine CW.region ?_ | with_reducible apply CW.ret | fail)
  all_goals first | exact ret1 rfl H.cl (by simp only [sameF, *]; simp)
end Go.Proofs.YtggolnppckpdlaaGreat
