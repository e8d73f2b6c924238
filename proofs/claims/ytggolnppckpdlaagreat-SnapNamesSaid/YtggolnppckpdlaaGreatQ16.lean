/- Texts of ours, joined: the steps of the proof, or the claim's theorem. -/
import Derived.Test.YtggolnppckpdlaaGreatQ15
set_option linter.unusedSimpArgs false
set_option linter.unusedVariables false
namespace Go.Proofs.YtggolnppckpdlaaGreat
open Go Go.Sk Go.RowKit
def badBid (x : Auc) (j : Nat) : Bool :=
  !within (x.bids.getD j default).acct 64 || (x.bids.getD j default).acct == x.seller || !within (x.bids.getD j default).amount 1125899906842624 ||
    decide (idx (fun i => (x.bids.getD i default).acct == (x.bids.getD j default).acct) j ≥ 0)
def bidsOk (x : Auc) : Bool := decide (idx (badBid x) x.bids.length < 0)
theorem Bids.cut {F : Frag} {a : Option Addr} {cap n b off : Nat} {cs : List Value} {T : TypeId} {fr : Nat × Nat} {el : Nat → List Value} (h1 : n ≤ cap) (h2 : n ≤ 140737488355328) (h : SlB F 2 a n b off cs T fr el) {m : Nat} (hm : m ≤ n) : SlA F 2 a m cap el :=
  ⟨by omega, by omega, b, off, cs, T, fr, h.cut hm⟩
theorem c_bids {a : Option Addr} {cap : Nat} (x : Auc) {F : Frag} (w0 : World) (hF : Mem w0 F) (hs : Bids F a cap x.bids) :
    Calls Tryz.prog 300 [.agg (x.cells a cap).toArray].toArray w0 (Ret (.bool (bidsOk x)) w0) := by
  obtain ⟨hn, hc, b0, off, cs, T, fr, hs⟩ := hs
  refine enter [.tmp 2] Tryz.func300 rfl Tryz.ntmps300 rfl rfl ?_
  have H := St.start w0
  repeat' (first | refine y1 sg ?_ | refine y3 ?_ | refine y7 sg H ?_ | (refine y9 H ?_; intro b w H) | with_reducible apply OW.nil | with_reducible apply thn_n | with_reducible apply CW.seq | refine CW.region ?_ | with_reducible apply CW.block | fail)
  refine CW.loopI [(2, 5), (9, 40)] (fun k : Nat => [(9, .int .i64 (k : Int))]) (fun k w => k ≤ x.bids.length ∧ (∀ j, j < k → badBid x j = false) ∧ St w0 [cb b (x.cells a cap) 81] w) (fun k => x.bids.length - k) 0 ⟨rfl, trivial⟩ ⟨Nat.zero_le _, fun j hj => by omega, H⟩ ?_
  clear H
  rintro k g w ⟨hk, hpk, H⟩
  repeat' (first | refine y1 sg ?_ | with_reducible apply OW.nil | with_reducible apply thn_n | with_reducible apply CW.seq | refine CW.region ?_ | fail)
  refine CW.cond rfl (fun h => ?_) (fun h => ?_)
  · have hlt : k < x.bids.length := by simpa using h
    repeat' (first | refine y1 sg ?_ | refine y3 ?_ | refine y5 sg ?_ | refine y7 sg H ?_ | (refine y10 sg H ?_; intro b w H) | (refine y11 sg H ?_; intro w H) | (refine y40 sg (hs) ?_ ?_ ?_; (omega); (omega)) | (refine y42 sg (hs) ((H.memF hF)) ?_ ?_; (omega)) | (refine' y30 ent298 ?_ ?_; rotate_left; exact c_withinI _ _ _; intro w hcl; replace H := H.ext hcl; clear hcl) | (refine' y30 ent297 ?_ ?_; rotate_left; exact c_within64 _ _ _; intro w hcl; replace H := H.ext hcl; clear hcl) | (refine OX.val rfl rfl (Yq.sliceHi sg rfl rfl rfl rfl rfl rfl (Int.toNat_natCast _) (by omega) (by omega)) ?_) | (refine OX.call rfl rfl (En.fn ent245 rfl rfl) (c_ContainsBid (caps := [.pointer (some ⟨_, 0, none⟩)]) (fun i => (x.bids.getD i default).acct == (x.bids.getD k default).acct) _ (H.all hF) (Bids.cut hn hc (hs.mono (List.subset_append_right _ _)) (Nat.le_of_lt hlt)) ent311 (fun j hj w hw => c_bids1 (x.bids.getD j default) (x.bids.getD k default) 78 _ _ _ (H.ext hw).mem (List.Mem.head _))) ?_; intro w hcl; replace H := H.ext hcl; clear hcl) | refine y13 ?_ | refine y14 ?_ | (refine y17 ?_ ?_; all_goals intro h) | with_reducible apply OW.nil | with_reducible apply thn_n | with_reducible apply CW.seq | refine CW.region ?_ | with_reducible apply CW.block | with_reducible apply CW.ret | with_reducible apply CW.skip | with_reducible apply thn_r | with_reducible apply blk_r | refine y21 ?_ | (refine y23 ?_ ?_; all_goals intro h) | fail)
    all_goals first
      | exact ret1 rfl H.cl (by
          have hbad : badBid x k = true := by simp only [badBid, *]; simp
          rw [bidsOk, idx_hit hlt hpk hbad]; simp)
      | (refine Again.mk (k + 1) rfl ⟨vsucc (by omega), trivial⟩ ⟨hlt, fun j hj => ?_, H.sub (List.sublist_cons_self _ _)⟩ (by omega)
         by_cases hj' : j = k
         · have hbad : badBid x k = false := by simp only [badBid, *]; simp
           rw [hj']; exact hbad
         · exact hpk j (by omega))
  · repeat' (first | refine y1 sg ?_ | with_reducible apply OW.nil | with_reducible apply thn_n | with_reducible apply CW.seq | refine CW.region ?_ | with_reducible apply CW.ret | with_reducible apply CW.exit | with_reducible apply thn_e | refine y24 ?_ | fail)
    have hkn : k = x.bids.length := by simp at h; omega
    subst hkn
    exact ret1 rfl H.cl (by rw [bidsOk, idx_miss hpk]; rfl)
end Go.Proofs.YtggolnppckpdlaaGreat
